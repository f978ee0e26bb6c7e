/- Joined by programs (wip/shake.py, wip/mini.py). -/
import Derived.ArgAppend
import Derived.Below
import Derived.BigQuiet
import Derived.Deep.AppendLies
import Derived.Deep.CutBlock
import Derived.Deep.DeepCutAuto
import Derived.Deep.Draws
import Derived.Deep.LoopGhost
import Derived.Deep.OwnRows
import Derived.Deep.QuietTactic
import Derived.Deep.RegionHeld3
import Derived.KernelRfl
import Derived.Laws.BitsLemmas
import Derived.Laws.BytesArg
import Derived.Laws.IdiomCopy
import Derived.Laws.MakeOwn
import Derived.Laws.OwnMore
import Derived.Laws.Rows
import Derived.Laws.Slices
import Derived.Laws.StructEq
import Derived.Lib.AppendStr
import Derived.Lib.ConvBytes
import Derived.Maps.AppendAt
import Derived.OrdersHeld
import Derived.OwnWalk
import Derived.RowKit
import Derived.RowKit3
import Derived.Tactics
import Derived.Test.YtlhlpfnljglhoaaDoorRows
import Derived.WalkKit
import Derived.WalkLawsBesides
import Derived.WalkSpells
import Derived.WideLaws
section
set_option linter.unusedVariables false
set_option linter.unusedSimpArgs false
namespace Go.Proofs.YtlhlpfnljglhoaaDoorW.PrintWords
open Go.RowKit
structure Ae (p:Prop):Prop where mk::(o:p)
structure AA (w w':World):Prop where mk::(o:∃n,w'=w.drewN n)
theorem AA.refl(w:World):AA w w:=⟨⟨0,rfl⟩⟩
theorem AA.step{w w':World}(h:AA w w')(n:Nat):AA w (w'.drewN n):=by obtain⟨m,rfl⟩:=h;exact⟨⟨m+n,World.drewN_drewN ..⟩⟩
theorem AA.below{w w':World}(h:AA w w'):Below w.heap.size w w':=by
 obtain⟨n,rfl⟩:=h;induction n with
 | zero=>exact Below.refl _ _
 | succ n a=>rw[<-World.drew_drewN];exact a.drew
def rd(xs:List Int)(i:Int):Int:=xs.getD i.toNat 0
def bt(s:ByteArray)(i:Int):Int:=if h:i.toNat<s.size then((s[i.toNat]'h).toNat:Int)else 0
theorem Iq(s:ByteArray)(i:Int):∀h:i.toNat<s.size,((s[i.toNat]'h).toNat:Int)=bt s i:=λh=>by simp[bt,h]
theorem FL{w W:World}(h:Below w.heap.size w W)(o:Obj):Below w.heap.size w (W.alloc o):=h.alloc h.size o
theorem EN{B:Nat}{w W:World}(h:Below B w W):Below B w W.drew:=⟨h.os,h.tape,h.output,h.size,h.block⟩
theorem At{B:Nat}{w W:World}(h:Below B w W)(n:Nat):Below B w (W.drewN n):=⟨h.os,h.tape,h.output,h.size,h.block⟩
theorem Kw{B:Nat}{w w1 a:World}(h:Below B w w1)(hB:B≤w1.heap.size)(k:Below w1.heap.size w1 a):Below B w a :=
  h.trans ⟨k.os,k.tape,k.output,k.size,λi hi=>k.block i (Nat.lt_of_lt_of_le hi hB)⟩
theorem Ir{w w1:World}(h:Below w.heap.size w w1)(row:Option Nat):w.grownBy w1 row:=⟨h.os,h.tape,h.output,h.size,λi hi _=>h.block i hi⟩
theorem Ee{w w1:World}(h:Below w.heap.size w w1){a:Addr}{v:Value}(b:w.cell? a=some v):w1.cell? a=some v:=(h.cell (World.block_lt_of_cell? w a b)).trans b
theorem add_plain(g j:Nat):(⟨g,0,none⟩:Addr).add j=⟨g,j,none⟩:=by unfold Addr.add;split <;> simp_all
def EH(w:World)(k:IntKind)(A:Option Addr)(n:Nat)(xs:List Int):Prop :=
  xs.length=n∧n≤9223372036854775807∧(0<n->∃ad,A=some ad∧∀j,j<n->w.cell? (ad.add j)=some (.int k (xs.getD j 0)))
theorem NX(W:World)(base:Nat)(e:TypeId)(size:Nat):W.ownsRow base e size (.slice none 0 0) 0 []:=⟨by simp,.inl ⟨rfl,rfl⟩⟩
theorem Fu{w:World}{base:Nat}{e:TypeId}{size n:Nat}{v:Value}{xs:List Value}(h:w.ownsRow base e size v n xs)(k:Nat)(a:v.ownBlock=some k):base≤k:=by
 rcases h.2 with⟨rfl,_⟩|⟨g,cap,cur,rfl,b,_⟩
 ·simp[Value.ownBlock]at a
 have:g=k:=by simpa[Value.ownBlock]using a
 omega
theorem M5{w:World}{base:Nat}{e:TypeId}{size n:Nat}{v:Value}{xs:List Value}(h:w.ownsRow base e size v n xs)(k:Nat)(a:v.ownBlock=some k):k<w.heap.size:=by
 rcases h.2 with⟨rfl,_⟩|⟨g,cap,cur,rfl,c,b,_⟩
 ·simp[Value.ownBlock]at a
 have:g=k:=by simpa[Value.ownBlock]using a
 subst this;exact(Array.getElem?_eq_some_iff.1 b).1
theorem L2{w:World}{base n:Nat}{e:TypeId}{size:Nat}{v:Value}{xs:List Value}(h:w.ownsRow base e size v n xs):∃A c,v=.slice A n c:=by
 rcases h.2 with⟨rfl,rfl⟩|⟨g,cap,cur,rfl,_⟩
 ·exact⟨none,0,rfl⟩
 exact⟨_,cap,rfl⟩
section
variable {P:Program} {ops:Array Oper} {rest:List Oper} {o:Oper} {a:Act} {Q:Exit->Act->World->Prop}
end
section
variable {P:Program}
end
section
variable {P:Program} {ops:Array Oper} {rest:List Oper} {o:Oper} {a:Act} {Q:Exit->Act->World->Prop}
end
def GF{α:Type}(a b:Option α):Prop:=∀r,a=some r->b=some r
theorem GF.refl{α:Type}(a:Option α):GF a a:=λ_ h=>h
theorem GF.none{α:Type}(b:Option α):GF Option.none b:=λ_ h=>by cases h
theorem GF.trans{α:Type}{a b c:Option α}(h:GF a b)(k:GF b c):GF a c:=λr d=>k r (h r d)
theorem GF.ite{α:Type}{c:Prop}[Decidable c]{a a' b b':Option α}(h:GF a a')(k:GF b b'):GF (if c then a else b) (if c then a' else b'):=by
 split
 ·exact h
 exact k
theorem GF.bind{α β:Type}{a a':Option α}{f b:α->Option β}(h:GF a a')(k:∀x,GF (f x) (b x)):GF (a.bind f) (a'.bind b):=by intro r d;obtain⟨x,e,c⟩:=Option.bind_eq_some_iff.1 d;exact Option.bind_eq_some_iff.2 ⟨x,h x e,k x r c⟩
theorem H5{α:Type}{g:Nat->Option α}(h:∀k,GF (g k) (g (k+1)))(k:Nat):∀j,GF (g k) (g (k+j))
  | 0=>GF.refl _
  | j+1=>(H5 h k j).trans (h (k+j))
theorem LA{α:Type}{g:Nat->Option α}(h:∀k,GF (g k) (g (k+1))){k a:Nat}(b:k≤a){r:α}(c:g k=some r):g a=some r:=by have:=H5 h k (a-k) r c;rwa[Nat.add_sub_cancel' b]at this
def Bi{α:Type}(R:α->List Value->Prop)(size:Nat)(ps:List α)(cs:List Value):Prop :=
  cs.length=ps.length*size∧∀j p,ps[j]?=some p->R p ((cs.drop (j*size)).take size)
theorem Bi.none{α:Type}(R:α->List Value->Prop)(size:Nat):Bi R size [] []:=⟨by simp,λj p h=>by simp at h⟩
theorem Bi.snoc{α:Type}{R:α->List Value->Prop}{size:Nat}{ps:List α}{cs c:List Value}{p:α}(h:Bi R size ps cs)(k:R p c)(g:c.length=size):Bi R size (ps++[p]) (cs++c):=by
 refine⟨by rw[List.length_append,h.1,g,List.length_append,List.length_singleton,Nat.add_mul,Nat.one_mul],λj q a=>?_⟩;rcases Nat.lt_or_ge j ps.length with b|b
 ·rw[List.getElem?_append_left b]at a;have h1:j*size+size≤cs.length:=by rw[h.1,<-Nat.succ_mul];exact Nat.mul_le_mul_right _ b
  have i:=h.2 j q a;rw[List.drop_append_of_le_length (by omega),List.take_append_of_le_length (by rw[List.length_drop];omega)];exact i
 have d:j=ps.length:=by have:=(List.getElem?_eq_some_iff.1 a).1;rw[List.length_append,List.length_singleton]at this;omega
 subst d;have e:p=q:=by simpa using a
 subst e;rw[<-h.1,List.drop_left,<-g,List.take_length];exact k
theorem Bi.FV{α:Type}{R R':α->List Value->Prop}{size:Nat}{ps:List α}{cs:List Value}(h:Bi R size ps cs)(hR:∀p c,R p c->R' p c):Bi R' size ps cs:=⟨h.1,λj p a=>hR _ _ (h.2 j p a)⟩
def CH{α:Type}(R:α->List Value->Prop)(size:Nat)(w:World)(A:Option Addr)(n:Nat)(ps:List α):Prop :=
  ps.length=n∧n≤9223372036854775807∧(0<n->∃ad,A=some ad∧∀j p,ps[j]?=some p->∃c,c.length=size∧R p c∧∀i u,c[i]?=some u->w.cell? (ad.add (j*size+i))=some u)
theorem CH.Qy{α:Type}{R:α->List Value->Prop}{size:Nat}{w:World}{A:Option Addr}{n:Nat}{ps:List α}(h:CH R size w A n ps)(d:α)(i:Int)(h0:0≤i)(h1:i<n) :
    ∃ad c,A=some ad∧c.length=size∧R (ps.getD i.toNat d) c∧∀j u,c[j]?=some u->w.cell? (ad.add (i.toNat*size+j))=some u:=by
 obtain⟨ad,e,b⟩:=h.2.2 (by omega);have hl:i.toNat<ps.length:=by have:=h.1;omega
 obtain⟨c,hs,g,a⟩:=b i.toNat _ (List.getElem?_eq_getElem hl);refine⟨ad,c,e,hs,?_,a⟩;rw[List.getD_eq_getElem?_getD,List.getElem?_eq_getElem hl];exact g
theorem CH.FV{α:Type}{R R':α->List Value->Prop}{size:Nat}{w w1:World}{A:Option Addr}{n:Nat}{ps:List α}(h:CH R size w A n ps)(b:Below w.heap.size w w1)(hR:∀p c,R p c->R' p c):CH R' size w1 A n ps :=
  ⟨h.1,h.2.1,λk=>by
    obtain⟨ad,e,d⟩:=h.2.2 k
    refine⟨ad,e,λj p g=>?_⟩
    obtain⟨c,hs,l,a⟩:=d j p g
    exact⟨c,hs,hR _ _ l,λi u hu=>Ee b (a i u hu)⟩⟩
theorem IP{α:Type}{R:α->List Value->Prop}{w:World}{base n size:Nat}{e:TypeId}{v:Value}{ps:List α}{cs:List Value}(h:w.ownsRow base e size v n cs)(hR:Bi R size ps cs)(b:ps.length=n) :
    ∃A c,v=.slice A n c∧CH R size w A n ps:=by
 rcases Nat.eq_zero_or_pos n with h0|h0
 ·rcases h.2 with⟨rfl,rfl⟩|⟨g,cap,cur,rfl,_⟩
  ·exact⟨none,0,rfl,b,by omega,λd=>absurd d (by omega)⟩
  exact⟨_,cap,rfl,b,by omega,λd=>absurd d (by omega)⟩
 obtain⟨g,cap,rfl,_,_⟩:=h.form h0
 have hm:n≤9223372036854775807:=by
  rcases h.2 with⟨_,h1⟩|⟨g',k,cur,he,_,_,h1,m,_⟩
  ·omega
  simp only[maxLen]at m;omega
 refine⟨_,cap,rfl,b,hm,λ_=>⟨_,rfl,λj p l=>⟨(cs.drop (j*size)).take size,?_,hR.2 j p l,λi u hu=>?_⟩⟩⟩
 ·have a:=(List.getElem?_eq_some_iff.1 l).1;have h1:j*size+size≤cs.length:=by rw[hR.1,<-Nat.succ_mul];exact Nat.mul_le_mul_right _ a
  rw[List.length_take,List.length_drop];omega
 refine h.cells (g:=g) rfl _ u ?_;rw[List.getElem?_take]at hu;split at hu
 ·rw[List.getElem?_drop]at hu;exact hu
 cases hu
theorem Cq(ad:Addr)(m j:Nat)(a:0<j):ad.add (m+j)=⟨(ad.add m).block,(ad.add m).off+j,none⟩:=by
 unfold Addr.add;by_cases hm:m=0
 ·subst hm;simp[Nat.ne_of_gt a]
 simp[hm,Nat.add_assoc]
section
variable {P:Program} {ops:Array Oper} {rest:List Oper} {o:Oper} {a:Act} {Q:Exit->Act->World->Prop}
theorem GP{w0 W:World}(base:Nat)(m:o.guard=none)(s x:Operand)(t e:TypeId)(z:Value)(size bytes:Nat)
    (B:o.op=.call { callee:=.builtin .append,args:=#[s,x],argTypes:=#[t,t] })
    (D:P.underlying t=some (.slice e))(g:(P.info? e).map (λi=>(i.zero,i.size,i.bytes))=some (some z,size,bytes))(hz:z.cells.size=size)(p:0<size)(l:0<bytes)
    (v:Value)(n:Nat)(xs ys:List Value)(hs:a.eval s=v)(E:a.eval x=.slice (some ⟨W.heap.size,0,none⟩) 1 1)(q:ys.length=size)(h1:∀u∈ys,u.oneCell'=true)
    (A:W.ownsRow base e size v n xs)(HB:Below base w0 W)(d:base≤W.heap.size)(hl:(n+1)*bytes≤140737488355328)
    (h:∀v1 w1,w1.ownsRow base e size v1 (n+1) (xs++ys)->Below base w0 w1->W.grownBy w1 v.ownBlock->(v1.ownBlock=v.ownBlock∨∃b,v1.ownBlock=some b∧W.heap.size≤b)->wpList P ops Q rest (a.put o.dst v1) w1) :
    wpList P ops Q (o::rest) a (W.alloc (.cells ys.toArray e)):=by
 obtain⟨i0,hi,k⟩:=Option.map_eq_some_iff.1 g;simp only[Prod.mk.injEq]at k;obtain⟨r,w,y⟩:=k;have hlen:n+1≤140737488355328:=Nat.le_trans (Nat.le_mul_of_pos_right _ l) hl
 refine wpList_append_own_at (W.alloc (.cells ys.toArray e)) m s x t B base e i0 z size bytes D hi r w y hz p v n xs hs (A.alloc _) ⟨W.heap.size,0,none⟩ 1 1 ys E (by rw[q];simp)
   (by simpa using World.news_of_block (cs:=ys.toArray) (t:=e) (fr:=(0,0)) (heap_alloc_new W (.cells ys.toArray e))) h1 (by simp only[maxLen];omega) hl (by simp;omega) ?_
 intro v1 w1 j hg _ c;refine h v1 w1 j ((HB.alloc d _).grown hg (by simp;omega) (Fu A)) (World.grownBy.trans (World.grownBy_alloc W _ _) hg) ?_;rcases c with c|c
 ·exact .inl c
 exact .inr ⟨_,c,by simp⟩
end
theorem FX{w:World}{base:Nat}{e t:TypeId}{size n g:Nat}{v:Value}{xs:List Value}{cs:Array Value}(h:w.ownsRow base e size v n xs)(hg:w.heap[g]?=some (.cells cs t (0,0)))(b:e≠t):some g≠v.ownBlock:=by
 rcases h.2 with⟨rfl,_⟩|⟨g',cap,cur,rfl,_,a,_⟩
 ·simp[Value.ownBlock]
 intro he;have:g=g':=by simpa[Value.ownBlock]using he
 subst this;rw[hg]at a;injection a with a;injection a with _ c;exact b c.symm
theorem E8{w:World}{g:Nat}{t:TypeId}{cs:Array Value}(h:w.heap[g]?=some (.cells cs t (0,0)))(i:Nat)(u:Value):(w.setCell ⟨g,i,none⟩ u).heap[g]?=some (.cells (cs.setIfInBounds i u) t (0,0)):=by simp[World.setCell,Array.getElem?_modify,h]
theorem Fm{w:World}{g:Nat}{t:TypeId}{cs:Array Value}(h:w.heap[g]?=some (.cells cs t (0,0))){p:Addr}(a:g≠p.block)(u:Value):(w.setCell p u).heap[g]?=some (.cells cs t (0,0)):=(Below.heap_setCell w p u g a).trans h
theorem AU{w:World}{g:Nat}{o:Obj}(h:w.heap[g]?=some o):g<w.heap.size:=(Array.getElem?_eq_some_iff.1 h).1
theorem AO{w:World}{g:Nat}{t:TypeId}{cs:Array Value}(h:w.heap[g]?=some (.cells cs t (0,0)))(i:Nat):w.cell? ⟨g,i,none⟩=cs[i]?:=cell_of_row w g i cs t (0,0) h
theorem DT{w:World}{g:Nat}{t:TypeId}{cs:Array Value}(h:w.heap[g]?=some (.cells cs t (0,0)))(i:Nat):w.frozen? ⟨g,i,none⟩=false:=by simp[World.frozen?,h]
theorem AJ{w w1:World}{g:Nat}{o:Obj}{row:Option Nat}(h:w.heap[g]?=some o)(hg:w.grownBy w1 row)(a:some g≠row):w1.heap[g]?=some o:=(hg.block g (AU h) a).trans h
def Ai(w w':World)(g:Nat)(row:Option Nat):Prop:=w.heap.size≤w'.heap.size∧∀i,i<w.heap.size->i≠g->some i≠row->w'.heap[i]?=w.heap[i]?
theorem Ai.refl(w:World)(g:Nat)(row:Option Nat):Ai w w g row:=⟨Nat.le_refl _,λ_ _ _ _=>rfl⟩
theorem Ai.Dy{w w1:World}{row:Option Nat}(h:w.grownBy w1 row)(g:Nat):Ai w w1 g row:=⟨h.size,λi hi _ a=>h.block i hi a⟩
theorem Ai.C4{w w1:World}(h:Below w.heap.size w w1)(g:Nat)(row:Option Nat):Ai w w1 g row:=⟨h.size,λi hi _ _=>h.block i hi⟩
theorem Ai.Qi{w w1:World}{g:Nat}{row:Option Nat}(h:Ai w w1 g row)(j:Nat)(u:Value):Ai w (w1.setCell ⟨g,j,none⟩ u) g row :=
  ⟨by simpa[World.setCell]using h.1,λi hi hg a=>(Below.heap_setCell w1 ⟨g,j,none⟩ u i hg).trans (h.2 i hi hg a)⟩
theorem Ai.trans{w w1 d:World}{g:Nat}{row a:Option Nat}(h:Ai w w1 g row)(k:Ai w1 d g a)(j:a=row∨∃b,a=some b∧w.heap.size≤b):Ai w d g row :=
  ⟨Nat.le_trans h.1 k.1,λi hi hg c=>by
    refine(k.2 i (Nat.lt_of_lt_of_le hi h.1) hg ?_).trans (h.2 i hi hg c)
    rcases j with rfl|⟨b,rfl,l⟩
    · exact c
    · intro e
      injection e with e
      omega⟩
theorem Ai.EJ{w w1:World}{g g':Nat}{row:Option Nat}{o:Obj}(h:Ai w w1 g row)(a:w.heap[g']?=some o)(hg:g'≠g)(b:some g'≠row):w1.heap[g']?=some o:=(h.2 g' (AU a) hg b).trans a
def Ev{α:Type}(g:Nat->Option α)(r:α):Prop:=∃K,∀k,K≤k->g k=some r
theorem Ev.of{α:Type}{g:Nat->Option α}{r:α}(hg:∀k,GF (g k) (g (k+1))){k:Nat}(h:g k=some r):Ev g r:=⟨k,λ_ a=>LA hg a h⟩
theorem Ev.bind{α β:Type}{g:Nat->Option α}{f:Nat->α->Option β}{a:α}{r:β}(h:Ev g a)(k:Ev (λn=>f n a) r):Ev (λn=>(g n).bind (f n)) r:=by obtain⟨K,h⟩:=h;obtain⟨b,k⟩:=k;refine⟨max K b,λn d=>?_⟩;have h1:=h n (by omega);have c:=k n (by omega);simp only[h1,Option.bind_some];exact c
theorem Ev.step{α:Type}{g f:Nat->Option α}{r:α}(h:∀k,g (k+1)=f k)(k:Ev f r):Ev g r:=by
 obtain⟨K,k⟩:=k;refine⟨K+1,λn a=>?_⟩;obtain⟨m,rfl⟩:∃m,n=m+1:=⟨n-1,by omega⟩
 rw[h];exact k m (by omega)
theorem Ev.congr{α:Type}{g f:Nat->Option α}{r:α}(h:∀k,g k=f k)(k:Ev f r):Ev g r:=by obtain⟨K,k⟩:=k;exact⟨K,λn a=>(h n).trans (k n a)⟩
section
variable {P:Program} {ops:Array Oper} {o:Oper} {a:Act} {Q:Exit->Act->World->Prop} {K:Act->World->Prop}
theorem Hl{w0 W:World}(base:Nat)(hw:Region.wanted o (yielded ops a.tmps)=true)(s x:Operand)(t e:TypeId)(z:Value)(size bytes:Nat)
    (A:o.op=.call { callee:=.builtin .append,args:=#[s,x],argTypes:=#[t,t] })
    (D:P.underlying t=some (.slice e))(g:(P.info? e).map (λi=>(i.zero,i.size,i.bytes))=some (some z,size,bytes))(hz:z.cells.size=size)(m:0<size)(l:0<bytes)
    (v:Value)(n:Nat)(xs ys:List Value)(hs:a.eval s=v)(E:a.eval x=.slice (some ⟨W.heap.size,0,none⟩) 1 1)(p:ys.length=size)(h1:∀u∈ys,u.oneCell'=true)
    (y:W.ownsRow base e size v n xs)(HB:Below base w0 W)(d:base≤W.heap.size)(hl:(n+1)*bytes≤140737488355328)
    (h:∀v1 w1,w1.ownsRow base e size v1 (n+1) (xs++ys)->Below base w0 w1->W.grownBy w1 v.ownBlock->(v1.ownBlock=v.ownBlock∨∃b,v1.ownBlock=some b∧W.heap.size≤b)->K (a.put o.dst v1) w1) :
    if Region.wanted o (yielded ops a.tmps)=true then Oper.wp P o a (W.alloc (.cells ys.toArray e)) K Q else K (a.put o.dst undef) (W.alloc (.cells ys.toArray e)):=by
 obtain⟨i0,hi,k⟩:=Option.map_eq_some_iff.1 g;simp only[Prod.mk.injEq]at k;obtain⟨q,r,w⟩:=k;have hlen:n+1≤140737488355328:=Nat.le_trans (Nat.le_mul_of_pos_right _ l) hl;rw[if_pos hw]
 obtain⟨v1,w1,B,j,hg,_,c⟩:=run_append_own_at (P:=P) (W.alloc (.cells ys.toArray e)) base t o.type e i0 z size bytes D hi q r w hz m v n xs (y.alloc _) ⟨W.heap.size,0,none⟩ 1 1 ys (by rw[p];simp)
   (by simpa using World.news_of_block (cs:=ys.toArray) (t:=e) (fr:=(0,0)) (heap_alloc_new W (.cells ys.toArray e))) h1 (by simp only[maxLen];omega) hl (by simp;omega)
 unfold Oper.wp execOp;simp only[A,resolve,invoke,builtin,Sem.run_bind,Sem.run_pure,Result.andThen_ok,List.map_toArray,List.map_cons,List.map_nil,hs,E,B];refine h v1 w1 j ((HB.alloc d _).grown hg (by simp;omega) (Fu y)) (World.grownBy.trans (World.grownBy_alloc W _ _) hg) ?_;rcases c with c|c
 ·exact .inl c
 exact .inr ⟨_,c,by simp⟩
end
theorem KI{w:World}{base Em:Nat}{e:TypeId}{size n:Nat}{v:Value}{xs:List Value}(h:w.ownsRow base e size v n xs)(b:Em≤base):w.ownsRow Em e size v n xs:=by
 obtain⟨h1,a⟩:=h;refine⟨h1,?_⟩;rcases a with a|⟨g,cap,cur,rfl,hg,r⟩
 ·exact .inl a
 exact .inr ⟨g,cap,cur,rfl,Nat.le_trans b hg,r⟩
section
variable {α:Type} {enc:α->Value} {d:α}
def FO(enc:α->Value)(xs:List α):List Value:=xs.map enc
def Kb(d:α)(xs:List α)(i:Int):α:=xs.getD i.toNat d
theorem H4(xs:List α):(FO enc xs).length=xs.length:=by simp[FO]
theorem ME(xs:List α)(j:Nat)(h:j<xs.length):(FO enc xs)[j]?=some (enc (xs.getD j d)):=by simp[FO,List.getElem?_eq_getElem h,List.getD_eq_getElem?_getD]
def EW(enc:α->Value)(d:α)(w:World)(A:Option Addr)(n:Nat)(xs:List α):Prop :=
  xs.length=n∧n≤9223372036854775807∧(0<n->∃ad,A=some ad∧∀j,j<n->w.cell? (ad.add j)=some (enc (xs.getD j d)))
theorem EW.at_{w:World}{A:Option Addr}{n:Nat}{xs:List α}(h:EW enc d w A n xs)(i:Int)(h0:0≤i)(h1:i<n):∃ad,A=some ad∧w.cell? (ad.add i.toNat)=some (enc (Kb d xs i)):=by obtain⟨ad,e,a⟩:=h.2.2 (by omega);exact⟨ad,e,a _ (by omega)⟩
theorem EW.Fk{w:World}{A:Option Addr}{n:Nat}{xs:List α}(h:EW enc d w A n xs)(i:Nat)(hi:i≤n):EW enc d w A i (xs.take i):=by refine⟨by rw[List.length_take,h.1];omega,by have:=h.2.1;omega,λc=>?_⟩;obtain⟨ad,e,a⟩:=h.2.2 (by omega);refine⟨ad,e,λj b=>?_⟩;rw[a j (by omega)];simp[List.getD_eq_getElem?_getD,b]
theorem LZ{W:World}{base g n cap:Nat}{e:TypeId}{xs:List α}(h:W.ownsRow base e 1 (.slice (some ⟨g,0,none⟩) n cap) n (FO enc xs))(i:Int)(h0:0≤i)(h1:i<n) :
    W.cell? ⟨g,i.toNat,none⟩=some (enc (Kb d xs i))∧W.frozen? ⟨g,i.toNat,none⟩=false:=by
 have hl:xs.length=n:=by have:=h.1;simp[FO]at this;exact this
 constructor
 ·have c:=h.cells (g:=g) rfl i.toNat _ (ME (d:=d) xs i.toNat (by omega));rwa[add_plain]at c
 rcases h.2 with⟨a,_⟩|⟨g',b,cur,a,_,j,_⟩
 ·cases a
 have:g=g':=by injection a with a;injection a with a;injection a with a
 subst this;simp[World.frozen?,j]
theorem JI{W:World}{base g n cap:Nat}{e:TypeId}{xs:List α}(h:W.ownsRow base e 1 (.slice (some ⟨g,0,none⟩) n cap) n (FO enc xs))(i:Int)(x:α) :
    (W.setCell ⟨g,i.toNat,none⟩ (enc x)).ownsRow base e 1 (.slice (some ⟨g,0,none⟩) n cap) n (FO enc (xs.set i.toNat x))∧W.grownBy (W.setCell ⟨g,i.toNat,none⟩ (enc x)) (some g):=by
 have hs:=h.stored i.toNat (enc x);have he:(FO enc xs).set i.toNat (enc x)=FO enc (xs.set i.toNat x):=by simp[FO,List.map_set]
 rwa[he]at hs
end
section
variable {α:Type} {P:Program} {ops:Array Oper} {rest:List Oper} {o:Oper} {a:Act} {Q:Exit->Act->World->Prop}
end
theorem Eb{w:World}{g:Nat}{o:Obj}(h:w.heap[g]?=some o)(a:Obj):(w.alloc a).heap[g]?=some o:=(Below.heap_alloc w a g (AU h)).trans h
theorem DA{w:World}{g:Nat}{o:Obj}(h:w.heap[g]?=some o):w.drew.heap[g]?=some o:=h
theorem E6{w:World}{g:Nat}{o:Obj}(h:w.heap[g]?=some o)(n:Nat):(w.drewN n).heap[g]?=some o:=h
theorem Az{w w1:World}{g:Nat}{o:Obj}(h:w.heap[g]?=some o)(a:Below w.heap.size w w1):w1.heap[g]?=some o:=(a.block g (AU h)).trans h
theorem EL(w:World)(o:Obj):(w.alloc o).heap[w.heap.size]?=some o:=heap_alloc_new w o
section
variable {P:Program}
theorem Dh{fn:Func}{p u:Tmp}{ty:TypeId}(h:fn.results=#[.cell p ty,.tmp u])(tmps:Array Value)(w:World)(g:Nat)(t:TypeId)(cs:Array Value)(fr:Nat×Nat)(d:TypeDesc)
    (c:tmps.getD p undef=.pointer (some ⟨g,0,none⟩))(hg:w.heap[g]?=some (.cells cs t fr))
    (hu:P.underlying ty=some d)(b:(match d with|.struct _|.array _ _=>true|_=>false)=true)(hi:(P.info? ty).map (·.size)=some cs.size) :
    (results fn tmps).run P w=.ok (.tuple #[.agg cs,tmps.getD u undef]) w:=by
 have a:tmps[p]?.getD undef=.pointer (some ⟨g,0,none⟩):=by simpa using c
 simp[results,h,a,asAddr,run_loadVar_row w g t ty cs fr d hg hu b hi]
end
theorem Pl{w:World}{base n m c size:Nat}{e:TypeId}{A:Option Addr}{xs:List Value}(h:w.ownsRow base e size (.slice A m c) n xs):m≤c:=by
 rcases h.2 with⟨he,_⟩|⟨g,cap,cur,he,_,_,b,_⟩
 ·injection he with _ a h3;omega
 injection he with _ a h3;omega
def E5{α:Type}(R:α->List Value->Prop)(e:TypeId)(size:Nat)(w:World)(base:Nat)(v:Value)(ps:List α):Prop :=
  ∃inner,w.ownsRow base e size v ps.length inner∧Bi R size ps inner
section
variable {α:Type} {R R':α->List Value->Prop} {e:TypeId} {size:Nat} {w w1:World} {base:Nat} {v:Value} {ps:List α}
theorem E5.none_(R:α->List Value->Prop)(e:TypeId)(size:Nat)(w:World)(base:Nat):E5 R e size w base (.slice none 0 0) []:=⟨[],NX _ _ _ _,Bi.none _ _⟩
theorem E5.FV(h:E5 R e size w base v ps)(hR:∀p c,R p c->R' p c):E5 R' e size w base v ps:=by obtain⟨inner,a,b⟩:=h;exact⟨inner,a,b.FV hR⟩
theorem E5.reads(h:E5 R e size w base v ps):∃A c,v=.slice A ps.length c∧ps.length≤c∧CH R size w A ps.length ps:=by obtain⟨inner,b,d⟩:=h;obtain⟨A,c,rfl,a⟩:=IP b d rfl;exact⟨A,c,rfl,Pl b,a⟩
theorem E5.MZ(h:E5 R e size w base v ps){g:Nat}{t:TypeId}{cells:Array Value}(a:w.heap[g]?=some (.cells cells t (0,0)))(c:e≠t):some g≠v.ownBlock:=by obtain⟨inner,b,d⟩:=h;exact FX b a c
end
section
variable {P:Program} {ops:Array Oper} {rest:List Oper} {o:Oper} {a:Act} {Q:Exit->Act->World->Prop} {α:Type} {R:α->List Value->Prop}
end
section
variable {P:Program} {ops:Array Oper} {o:Oper} {a:Act} {Q:Exit->Act->World->Prop} {K:Act->World->Prop} {α:Type} {R:α->List Value->Prop}
end
theorem CH.KC{α:Type}{R:α->List Value->Prop}{size:Nat}{w:World}{ad:Addr}{n:Nat}{ps:List α}(h:CH R size w (some ad) n ps) :
    ∃inner,Bi R size ps inner∧∀j u,inner[j]?=some u->w.cell? (ad.add j)=some u:=by
 have key:∀m,m≤ps.length->∃inner,Bi R size (ps.take m) inner∧∀j u,inner[j]?=some u->w.cell? (ad.add j)=some u:=by
  intro m;induction m with
  | zero=>exact λ_=>⟨[],Bi.none _ _,λj u hu=>by simp at hu⟩
  | succ m p =>
    intro hm
    obtain⟨inner,b,d⟩:=p (by omega)
    obtain⟨l,he,a⟩:=h.2.2 (by have:=h.1;omega)
    injection he with he
    subst he
    obtain⟨c,g,o,e⟩:=a m _ (List.getElem?_eq_getElem (show m<ps.length by omega))
    refine⟨inner++c,?_,λj u hu=>?_⟩
    · rw[List.take_succ_eq_append_getElem (show m<ps.length by omega)]
      exact b.snoc o g
    · have i:inner.length=m*size:=by rw[b.1,List.length_take,Nat.min_eq_left (by omega)]
      rcases Nat.lt_or_ge j inner.length with k|k
      · rw[List.getElem?_append_left k]at hu
        exact d j u hu
      · rw[List.getElem?_append_right k]at hu
        have:=e (j-inner.length) u hu
        rwa[i,Nat.add_sub_cancel' (by omega)]at this
 obtain⟨inner,b,d⟩:=key ps.length (Nat.le_refl _);rw[List.take_length]at b;exact⟨inner,b,d⟩
section
variable {α:Type} {P:Program}
theorem IQ(enc:α->Value)(d:α)(t e:TypeId)(k:IntKind){i:TypeInfo}(g:P.underlying t=some (.slice e))(hi:P.info? e=some i)(b:i.size=1)(A:Option Addr)(c:Nat)(xs:List α)(j:Int)(h0:0≤j)(hm:j≤xs.length)(m:xs.length≤c) :
    (∀W:World,(Instr.slice t (.slice A xs.length c) none (some (.int k j)) none).run P W=.ok (.slice A (xs.take j.toNat).length c) W) ∧
      (∀w:World,EW enc d w A xs.length xs->EW enc d w A (xs.take j.toNat).length (xs.take j.toNat))∧(xs.take j.toNat).length≤c:=by
 have hl:(xs.take j.toNat).length=j.toNat:=by rw[List.length_take];omega
 refine⟨λW=>?_,λw h=>by rw[hl];exact h.Fk j.toNat (by omega),by rw[hl];omega⟩;have a:P.elem t=e:=by simp[Program.elem,g]
 have hu:P.underlying t=some (.slice (P.elem t)):=by rw[a];exact g
 have l:(A.map λx=>x.add 0)=A:=by cases A <;> simp[Addr.add]
 rw[run_slice_h W t A xs.length c hu k j h0 (by omega),a,hl];simp[sizeOf,typeInfo,hi,b,sliced,Result.andThen,l]
end
section
variable {P:Program} {ops:Array Oper} {rest:List Oper} {o:Oper} {a:Act} {Q:Exit->Act->World->Prop}
end
structure Kd (α:Type) where
  sz:Nat
  E:List Nat
  K:World->α->List Value->Prop
  M:World->Nat->(Nat->Prop)->α->List Value->Prop
  D_:∀{w x cs},K w x cs->cs.length=sz
  DV:∀{w x cs},K w x cs->∀u∈cs,u.oneCell'=true
  DR:∀{w w1:World} {x cs},Below w.heap.size w w1->K w x cs->K w1 x cs
  CV:∀{w base ok x cs},M w base ok x cs->K w x cs
  Ce:∀{w base ok Fc x cs},(∀k,ok k->Fc k)->M w base ok x cs->M w base Fc x cs
  CX:∀{w:World} {base ok x cs},M w base ok x cs->M w base (λk=>ok k∧base≤k∧k<w.heap.size∧∃q,q∈E∧∃cells,w.heap[k]?=some (.cells cells q (0,0))) x cs
  Dw:∀{w w1:World} {base ok x cs},(∀k,ok k->w1.heap[k]?=w.heap[k]?)->M w base ok x cs->M w1 base ok x cs
  DS:∀{w base Em ok x cs},Em≤base->M w base ok x cs->M w Em ok x cs
theorem M6{w w1:World}{base:Nat}{e:TypeId}{size n:Nat}{v:Value}{xs:List Value}(h:w.ownsRow base e size v n xs)(hm:∀k,v.ownBlock=some k->w1.heap[k]?=w.heap[k]?):w1.ownsRow base e size v n xs:=by
 obtain⟨h1,a⟩:=h;refine⟨h1,?_⟩;rcases a with a|⟨g,cap,cur,rfl,hg,b,r⟩
 ·exact .inl a
 exact .inr ⟨g,cap,cur,rfl,hg,(hm g (by simp[Value.ownBlock])).trans b,r⟩
theorem Gp{w:World}{base:Nat}{e:TypeId}{size n:Nat}{v:Value}{xs:List Value}(h:w.ownsRow base e size v n xs)(k:Nat)(a:v.ownBlock=some k):∃cells,w.heap[k]?=some (.cells cells e (0,0)):=by
 rcases h.2 with⟨rfl,_⟩|⟨g,cap,cur,rfl,hg,b,r⟩
 ·simp[Value.ownBlock]at a
 have:g=k:=by simpa[Value.ownBlock]using a
 subst this;exact⟨cur,b⟩
namespace Kd
def C{α:Type}(d:Kd α)(w:World)(A:Option Addr)(n:Nat)(xs:List α):Prop:=CH (d.K w) d.sz w A n xs
def R{α:Type}(d:Kd α)(e:Nat)(w:World)(base:Nat)(ok:Nat->Prop)(v:Value)(xs:List α):Prop :=
  (∀k,v.ownBlock=some k->ok k)∧E5 (d.M w base (λk=>ok k∧some k≠v.ownBlock)) e d.sz w base v xs
section
variable {α:Type} {d:Kd α} {e:Nat} {w w1:World} {base:Nat} {ok Fc:Nat->Prop} {v:Value} {xs:List α}
theorem Ct{A:Option Addr}{n:Nat}(h:d.C w A n xs)(a:Below w.heap.size w w1):d.C w1 A n xs:=CH.FV h a (λ_ _ b=>d.DR a b)
theorem JT(d:Kd α)(e:Nat)(w:World)(base:Nat)(ok:Nat->Prop):d.R e w base ok (.slice none 0 0) []:=⟨λk a=>by simp[Value.ownBlock]at a,E5.none_ _ _ _ _ _⟩
theorem Aj(h:d.R e w base ok v xs)(a:∀k,ok k->Fc k):d.R e w base Fc v xs:=⟨λk b=>a k (h.1 k b),h.2.FV (λ_ _ c=>d.Ce (λk b=>⟨a k b.1,b.2⟩) c)⟩
theorem CO(h:d.R e w base ok v xs):d.R e w base (λk=>ok k∧base≤k∧k<w.heap.size∧∃q,q∈e::d.E∧∃cells,w.heap[k]?=some (.cells cells q (0,0))) v xs:=by
 obtain⟨h0,inner,b,l⟩:=h;refine⟨λk a=>?_,inner,b,l.FV (λ_ _ i=>d.Ce (λk a=>?_) (d.CX i))⟩
 ·obtain⟨cells,c⟩:=Gp b k a;exact⟨h0 k a,Fu b k a,M5 b k a,e,List.mem_cons_self,cells,c⟩
 obtain⟨⟨h1,g⟩,h3,h4,q,j,c⟩:=a;exact⟨⟨h1,h3,h4,q,List.mem_cons_of_mem _ j,c⟩,g⟩
theorem Hr(h:d.R e w base ok v xs)(hm:∀k,ok k->w1.heap[k]?=w.heap[k]?):d.R e w1 base ok v xs:=by obtain⟨h0,inner,b,g⟩:=h;exact⟨h0,inner,M6 b (λk a=>hm k (h0 k a)),g.FV (λ_ _ c=>d.Dw (λk a=>hm k a.1) c)⟩
theorem AN{Em:Nat}(h:d.R e w base ok v xs)(a:Em≤base):d.R e w Em ok v xs:=by obtain⟨h0,inner,b,g⟩:=h;exact⟨h0,inner,KI b a,g.FV (λ_ _ c=>d.DS a c)⟩
theorem Eg(h:d.R e w base ok v xs)(hm:∀k,ok k->k<w.heap.size->w1.heap[k]?=w.heap[k]?):d.R e w1 base ok v xs :=
  Aj (Hr (CO h) (λk a=>hm k a.1 a.2.2.1)) (λ_ a=>a.1)
theorem Kq{x:α}{cs:List Value}(h:d.M w base ok x cs)(hm:∀k,ok k->k<w.heap.size->w1.heap[k]?=w.heap[k]?):d.M w1 base ok x cs :=
  d.Ce (λ_ a=>a.1) (d.Dw (λk a=>hm k a.1 a.2.2.1) (d.CX h))
theorem AZ(h:d.R e w base ok v xs)(a:Below w.heap.size w w1):d.R e w1 base ok v xs:=Eg h (λk _ b=>a.block k b)
theorem KV{x:α}{cs:List Value}(h:d.M w base ok x cs)(a:Below w.heap.size w w1):d.M w1 base ok x cs:=Kq h (λk _ b=>a.block k b)
theorem CQ(h:d.R e w base ok v xs){p:Addr}(a:∀k,ok k->k≠p.block)(u:Value):d.R e (w.setCell p u) base ok v xs:=Eg h (λk b _=>Below.heap_setCell w p u k (a k b))
theorem Bq(h:d.R e w base ok v xs){g:Nat}(c:Ai w w1 g none)(b:∀k,ok k->k≠g):d.R e w1 base ok v xs:=Eg h (λk i a=>c.2 k a (b k i) (by simp))
theorem AF(h:d.R e w base ok v xs){g t:Nat}{cells:Array Value}(a:w.heap[g]?=some (.cells cells t (0,0)))(l:∀q,q∈e::d.E->q≠t):d.R e w base (λk=>ok k∧k≠g) v xs :=
  Aj (CO h) (λk c=>⟨c.1,by
    obtain⟨_,_,_,q,j,b,i⟩:=c
    rintro rfl
    rw[i]at a
    injection a with a
    injection a with _ a
    exact l q j a⟩)
theorem Jo(h:d.R e w base ok v xs):∃A c,v=.slice A xs.length c∧xs.length≤c∧d.C w A xs.length xs:=by obtain⟨A,c,he,hl,b⟩:=E5.reads h.2;exact⟨A,c,he,hl,b.FV (Below.refl _ _) (λ_ _ a=>d.CV a)⟩
theorem Bg(h:d.R e w base ok v xs):∃A c,v=.slice A xs.length c:=by obtain⟨A,c,he,_⟩:=Jo h;exact⟨A,c,he⟩
theorem JU(h:d.R e w base ok v xs):∃inner,w.ownsRow base e d.sz v xs.length inner:=by obtain⟨_,inner,a,_⟩:=h;exact⟨inner,a⟩
theorem Ez(h:d.R e w base ok v xs){g t:Nat}{cells:Array Value}(a:w.heap[g]?=some (.cells cells t (0,0)))(b:e≠t):some g≠v.ownBlock:=E5.MZ h.2 a b
end
def scalar{α:Type}(enc:α->Value)(h1:∀x,(enc x).oneCell'=true):Kd α where
  sz:=1
  E:=[]
  K:=λ_ x cs=>cs=[enc x]
  M:=λ_ _ _ x cs=>cs=[enc x]
  D_:=λh=>by rw[h];rfl
  DV:=λh u hu=>by
    rw[h]at hu
    rw[List.mem_singleton.1 hu]
    exact h1 _
  DR:=λ_ h=>h
  CV:=λh=>h
  Ce:=λ_ h=>h
  CX:=λh=>h
  Dw:=λ_ h=>h
  DS:=λ_ h=>h
def int(k:IntKind):Kd Int:=scalar (Value.int k) (λ_=>rfl)
def string:Kd ByteArray:=scalar Value.string (λ_=>rfl)
def slice{α:Type}(e:Nat)(d:Kd α):Kd (List α) where
  sz:=1
  E:=e::d.E
  K:=λw xs cs=>∃A c,cs=[.slice A xs.length c]∧xs.length≤c∧d.C w A xs.length xs
  M:=λw base ok xs cs=>∃v,cs=[v]∧d.R e w base ok v xs
  D_:=by
    rintro w x cs ⟨A,c,rfl,_⟩
    rfl
  DV:=by
    rintro w x cs ⟨A,c,rfl,_⟩ u hu
    rw[List.mem_singleton.1 hu]
    rfl
  DR:=by
    rintro w w1 x cs a ⟨A,c,rfl,hl,g⟩
    exact⟨A,c,rfl,hl,Ct g a⟩
  CV:=by
    rintro w base ok x cs ⟨v,rfl,h⟩
    obtain⟨A,c,rfl,hl,g⟩:=Jo h
    exact⟨A,c,rfl,hl,g⟩
  Ce:=by
    rintro w base ok Fc x cs b ⟨v,rfl,h⟩
    exact⟨v,rfl,Aj h b⟩
  CX:=by
    rintro w base ok x cs ⟨v,rfl,h⟩
    exact⟨v,rfl,CO h⟩
  Dw:=by
    rintro w w1 base ok x cs hm ⟨v,rfl,h⟩
    exact⟨v,rfl,Hr h hm⟩
  DS:=by
    rintro w base Em ok x cs a ⟨v,rfl,h⟩
    exact⟨v,rfl,AN h a⟩
def pair{α β:Type}(a:Kd α)(b:Kd β):Kd (α×β) where
  sz:=a.sz+b.sz
  E:=a.E++b.E
  K:=λw x cs=>∃c d,cs=c++d∧a.K w x.1 c∧b.K w x.2 d
  M:=λw base ok x cs=>∃c d,cs=c++d∧a.M w base ok x.1 c∧b.M w base ok x.2 d
  D_:=by
    rintro w x cs ⟨c,d,rfl,h0,h1⟩
    rw[List.length_append,a.D_ h0,b.D_ h1]
  DV:=by
    rintro w x cs ⟨c,d,rfl,h0,h1⟩ u hu
    rcases List.mem_append.1 hu with hu|hu
    · exact a.DV h0 u hu
    · exact b.DV h1 u hu
  DR:=by
    rintro w w1 x cs e ⟨c,d,rfl,h0,h1⟩
    exact⟨c,d,rfl,a.DR e h0,b.DR e h1⟩
  CV:=by
    rintro w base ok x cs ⟨c,d,rfl,h0,h1⟩
    exact⟨c,d,rfl,a.CV h0,b.CV h1⟩
  Ce:=by
    rintro w base ok Fc x cs g ⟨c,d,rfl,h0,h1⟩
    exact⟨c,d,rfl,a.Ce g h0,b.Ce g h1⟩
  CX:=by
    rintro w base ok x cs ⟨c,d,rfl,h0,h1⟩
    refine⟨c,d,rfl,a.Ce ?_ (a.CX h0),b.Ce ?_ (b.CX h1)⟩
    · rintro k ⟨i,h3,h4,q,l,j⟩
      exact⟨i,h3,h4,q,List.mem_append_left _ l,j⟩
    · rintro k ⟨i,h3,h4,q,l,j⟩
      exact⟨i,h3,h4,q,List.mem_append_right _ l,j⟩
  Dw:=by
    rintro w w1 base ok x cs hm ⟨c,d,rfl,h0,h1⟩
    exact⟨c,d,rfl,a.Dw hm h0,b.Dw hm h1⟩
  DS:=by
    rintro w base Em ok x cs e ⟨c,d,rfl,h0,h1⟩
    exact⟨c,d,rfl,a.DS e h0,b.DS e h1⟩
def Qa{α β:Type}(d:Kd α)(f:β->α):Kd β where
  sz:=d.sz
  E:=d.E
  K:=λw x cs=>d.K w (f x) cs
  M:=λw base ok x cs=>d.M w base ok (f x) cs
  D_:=d.D_
  DV:=d.DV
  DR:=d.DR
  CV:=d.CV
  Ce:=d.Ce
  CX:=d.CX
  Dw:=d.Dw
  DS:=d.DS
def bot{α:Type}(sz:Nat)(E:List Nat):Kd α where
  sz:=sz
  E:=E
  K:=λ_ _ _=>False
  M:=λ_ _ _ _ _=>False
  D_:=λh=>h.elim
  DV:=λh=>h.elim
  DR:=λ_ h=>h
  CV:=λh=>h
  Ce:=λ_ h=>h
  CX:=λh=>h
  Dw:=λ_ h=>h
  DS:=λ_ h=>h
def upto{α:Type}(F:Kd α->Kd α)(sz:Nat)(E:List Nat):Nat->Kd α
  | 0=>bot sz E
  | n+1=>F (upto F sz E n)
theorem Ii{α:Type}{d:Kd α}{w:World}{A:Option Addr}{n:Nat}{xs:List α}(h:d.C w A n xs)(z:α)(i:Int)(h0:0≤i)(h1:i<n) :
    ∃ad c,A=some ad∧c.length=d.sz∧d.K w (xs.getD i.toNat z) c∧∀j u,c[j]?=some u->w.cell? (ad.add (i.toNat*d.sz+j))=some u:=CH.Qy h z i h0 h1
theorem Il{α:Type}{d:Kd α}{e base:Nat}{ok okp:Nat->Prop}{W w1:World}{v v1:Value}{xs:List α}{p:α}{inner cs:List Value}(h0:∀k,v.ownBlock=some k->ok k)(x:Bi (d.M W base (λk=>ok k∧some k≠v.ownBlock)) d.sz xs inner)(u:d.M W base okp p cs)(j:∀k,okp k->ok k∧some k≠v.ownBlock)(i:∀k,W.heap.size≤k->ok k)
    (l:w1.ownsRow base e d.sz v1 (xs.length+1) (inner++cs))(hg:W.grownBy w1 v.ownBlock)(g:v1.ownBlock=v.ownBlock∨∃b,v1.ownBlock=some b∧W.heap.size≤b):d.R e w1 base ok v1 (xs++[p]):=by
 have n:∀k,some k≠v.ownBlock->k<W.heap.size->some k≠v1.ownBlock:=by
  intro k a w;rcases g with g|⟨b,m,hle⟩
  ·rw[g];exact a
  rw[m];intro he;injection he with he;omega
 have step:∀{q:α} {c:List Value} {o:Nat->Prop},d.M W base o q c->(∀k,o k->ok k∧some k≠v.ownBlock)->d.M w1 base (λk=>ok k∧some k≠v1.ownBlock) q c:=by intro q c o t r;have h1:=d.Dw (w1:=w1) (λk a=>hg.block k a.2.2.1 (r k a.1).2) (d.CX t);exact d.Ce (λk a=>⟨(r k a.1).1,n k (r k a.1).2 a.2.2.1⟩) h1
 refine⟨λk a=>?_,inner++cs,by rw[List.length_append,List.length_singleton];exact l,?_⟩
 ·rcases g with g|⟨b,m,hle⟩
  ·exact h0 k (g ▸ a)
  rw[m]at a;injection a with a;exact i k (by omega)
 exact(x.FV (λ_ _ t=>step t (λ_ a=>a))).snoc (step u j) (d.D_ (d.CV u))
section
variable {P:Program} {ops:Array Oper} {rest:List Oper} {o:Oper} {a:Act} {Q:Exit->Act->World->Prop} {α:Type}
theorem E_(d:Kd α){w0 W:World}(base:Nat)(y:o.guard=none)(s x:Operand)(t e:TypeId)(z:Value)(bytes:Nat)
    (E:o.op=.call { callee:=.builtin .append,args:=#[s,x],argTypes:=#[t,t] })
    (I:P.underlying t=some (.slice e))(l:(P.info? e).map (λi=>(i.zero,i.size,i.bytes))=some (some z,d.sz,bytes))(hz:z.cells.size=d.sz)(B:0<d.sz)(u:0<bytes)
    (v:Value)(xs:List α)(p:α)(cs:List Value)(ok okp:Nat->Prop)(hs:a.eval s=v)(J:a.eval x=.slice (some ⟨W.heap.size,0,none⟩) 1 1)(A:d.M W base okp p cs)(q:∀k,okp k->ok k∧some k≠v.ownBlock)(c:∀k,W.heap.size≤k->ok k)
    (D:d.R e W base ok v xs)(HB:Below base w0 W)(j:base≤W.heap.size)(hl:(xs.length+1)*bytes≤140737488355328)
    (h:∀v1 w1,d.R e w1 base ok v1 (xs++[p])->Below base w0 w1->W.grownBy w1 v.ownBlock->(v1.ownBlock=v.ownBlock∨∃b,v1.ownBlock=some b∧W.heap.size≤b)->wpList P ops Q rest (a.put o.dst v1) w1) :
    wpList P ops Q (o::rest) a (W.alloc (.cells cs.toArray e)):=by obtain⟨h0,inner,r,G⟩:=D;refine GP base y s x t e z d.sz bytes E I l hz B u v xs.length inner cs hs J (d.D_ (d.CV A)) (d.DV (d.CV A)) r HB j hl ?_;intro v1 w1 m w n g;exact h v1 w1 (Il h0 G A q c m n g) w n g
end
section
variable {P:Program} {ops:Array Oper} {o:Oper} {a:Act} {Q:Exit->Act->World->Prop} {Kc:Act->World->Prop} {α:Type}
theorem E7(d:Kd α){w0 W:World}(base:Nat)(hw:Region.wanted o (yielded ops a.tmps)=true)(s x:Operand)(t e:TypeId)(z:Value)(bytes:Nat)
    (D:o.op=.call { callee:=.builtin .append,args:=#[s,x],argTypes:=#[t,t] })
    (G:P.underlying t=some (.slice e))(l:(P.info? e).map (λi=>(i.zero,i.size,i.bytes))=some (some z,d.sz,bytes))(hz:z.cells.size=d.sz)(A:0<d.sz)(u:0<bytes)
    (v:Value)(xs:List α)(p:α)(cs:List Value)(ok okp:Nat->Prop)(hs:a.eval s=v)(I:a.eval x=.slice (some ⟨W.heap.size,0,none⟩) 1 1)(y:d.M W base okp p cs)(q:∀k,okp k->ok k∧some k≠v.ownBlock)(c:∀k,W.heap.size≤k->ok k)
    (B:d.R e W base ok v xs)(HB:Below base w0 W)(j:base≤W.heap.size)(hl:(xs.length+1)*bytes≤140737488355328)
    (h:∀v1 w1,d.R e w1 base ok v1 (xs++[p])->Below base w0 w1->W.grownBy w1 v.ownBlock->(v1.ownBlock=v.ownBlock∨∃b,v1.ownBlock=some b∧W.heap.size≤b)->Kc (a.put o.dst v1) w1) :
    if Region.wanted o (yielded ops a.tmps)=true then Oper.wp P o a (W.alloc (.cells cs.toArray e)) Kc Q else Kc (a.put o.dst undef) (W.alloc (.cells cs.toArray e)):=by obtain⟨h0,inner,r,E⟩:=B;refine Hl base hw s x t e z d.sz bytes D G l hz A u v xs.length inner cs hs I (d.D_ (d.CV y)) (d.DV (d.CV y)) r HB j hl ?_;intro v1 w1 m w n g;exact h v1 w1 (Il h0 E y q c m n g) w n g
end
theorem Kg{α:Type}{enc:α->Value}(xs:List α):Bi (λ(x:α) (cs:List Value)=>cs=[enc x]) 1 xs (FO enc xs):=by
 refine⟨by simp[FO],λj p b=>?_⟩;obtain⟨hl,c⟩:=List.getElem?_eq_some_iff.1 b;have a:j<(FO enc xs).length:=by rw[H4];exact hl
 rw[Nat.mul_one,List.drop_eq_getElem_cons a];simp[FO,c]
theorem Mj{α:Type}{enc:α->Value}{h1:∀x,(enc x).oneCell'=true}{e:Nat}{w:World}{base:Nat}{ok:Nat->Prop}{v:Value}{xs:List α}(b:w.ownsRow base e 1 v xs.length (FO enc xs))(a:∀k,v.ownBlock=some k->ok k):(scalar enc h1).R e w base ok v xs:=⟨a,FO enc xs,b,Kg xs⟩
theorem Ka{α:Type}{enc:α->Value}{h1:∀x,(enc x).oneCell'=true}{e:Nat}{w:World}{base:Nat}{ok:Nat->Prop}{v:Value}{xs:List α}(h:(scalar enc h1).R e w base ok v xs):w.ownsRow base e 1 v xs.length (FO enc xs):=by
 obtain⟨_,inner,g,b⟩:=h
 have:inner=FO enc xs:=by
  apply List.ext_getElem?
  intro j;rcases Nat.lt_or_ge j xs.length with a|a
  ·have d:=b.2 j _ (List.getElem?_eq_getElem a);have hl:j<inner.length:=by have:=b.1;simp[scalar]at this;omega
   have h3:(inner.drop (j*1)).take 1=[enc xs[j]]:=d;rw[Nat.mul_one,List.drop_eq_getElem_cons hl]at h3;have h4:inner[j]=enc xs[j]:=by have c:=congrArg List.head? h3;rw[List.take_succ_cons]at c;exact Option.some.inj c
   rw[List.getElem?_eq_getElem hl,h4];simp[FO,List.getElem?_eq_getElem a]
  have h3:inner.length=xs.length:=by have:=b.1;simp[scalar]at this;omega
  rw[List.getElem?_eq_none (by omega),List.getElem?_eq_none (by rw[H4];omega)]
 rw[<-this];exact g
theorem GA{α:Type}{enc:α->Value}{d:α}{h1:∀x,(enc x).oneCell'=true}{w:World}{A:Option Addr}{n:Nat}{xs:List α}(h:EW enc d w A n xs):(scalar enc h1).C w A n xs:=by
 refine⟨h.1,h.2.1,λg=>?_⟩;obtain⟨ad,e,c⟩:=h.2.2 g;refine⟨ad,e,λj p b=>⟨[enc p],rfl,rfl,λi u hu=>?_⟩⟩;obtain⟨hl,k⟩:=List.getElem?_eq_some_iff.1 b;have a:=c j (by have:=h.1;omega);rw[List.getD_eq_getElem?_getD,b]at a;cases i with
 | zero =>
   have:enc p=u:=by simpa using hu
   subst this
   simpa[scalar]using a
 | succ i=>simp at hu
theorem GQ{α:Type}{enc:α->Value}{d:α}{h1:∀x,(enc x).oneCell'=true}{w:World}{A:Option Addr}{n:Nat}{xs:List α}(h:(scalar enc h1).C w A n xs):EW enc d w A n xs:=by
 refine⟨h.1,h.2.1,λi=>?_⟩;obtain⟨ad,e,g⟩:=h.2.2 i;refine⟨ad,e,λj k=>?_⟩;have hl:j<xs.length:=by have:=h.1;omega
 obtain⟨c,_,hK,a⟩:=g j _ (List.getElem?_eq_getElem hl);have b:c=[enc xs[j]]:=hK;subst b;have:=a 0 _ rfl;simpa[scalar,List.getD_eq_getElem?_getD,List.getElem?_eq_getElem hl]using this
end Kd
namespace Kd
section
variable {α:Type} {F:Kd α->Kd α} {sz:Nat} {E:List Nat} {hs:∀ n,(upto F sz E n).sz=sz} {hE:∀ n q,q∈(upto F sz E n).E->q∈E}
end
end Kd
namespace Kd
theorem Ei{α:Type}{d:Kd α}{e base:Nat}{ok:Nat->Prop}{W w1:World}{u v v1:Value}{xs:List α}(h:d.R e W base (λk=>ok k∧some k≠v.ownBlock) u xs)(hg:W.grownBy w1 v.ownBlock)(a:v1.ownBlock=v.ownBlock∨∃b,v1.ownBlock=some b∧W.heap.size≤b):d.R e w1 base (λk=>ok k∧some k≠v1.ownBlock) u xs:=by
 refine Aj (Hr (CO h) (λk c=>hg.block k c.2.2.1 c.1.2)) (λk c=>⟨c.1.1,?_⟩);rcases a with a|⟨b,g,hle⟩
 ·rw[a];exact c.1.2
 rw[g];intro he;injection he with he;have:=c.2.2.1;omega
end Kd
namespace Kd
section
variable {α β:Type} {d:Kd α} {d':Kd β} {e e':Nat} {w w1 W:World} {base b b':Nat} {ok Fc okv oku:Nat->Prop} {v u:Value} {xs:List α} {ys:List β}
theorem As(h:d.R e w base ok v xs):d.R e w.drew base ok v xs:=AZ h (EN (Below.refl _ _))
theorem An(h:d.R e w base ok v xs)(m:Nat):d.R e (w.drewN m) base ok v xs:=AZ h (At (Below.refl _ _) m)
theorem Cz{A:Option Addr}{n:Nat}(h:d.C w A n xs)(m:Nat):d.C (w.drewN m) A n xs:=Ct h (At (Below.refl _ _) m)
theorem AD{A:Option Addr}{n c:Nat}(h:d.R e w base ok (.slice A n c) xs):n=xs.length∧n≤c∧d.C w A xs.length xs:=by obtain⟨A',g,he,hl,b⟩:=Jo h;injection he with h1 a h3;subst h1;exact⟨a,by omega,b⟩
theorem DQ(h:d.R e w base ok v xs):∀k,v.ownBlock=some k->k<w.heap.size:=by obtain⟨inner,a⟩:=JU h;exact M5 a
theorem BO(h:d.R e w base ok v xs):∀k,v.ownBlock=some k->base≤k:=by obtain⟨inner,a⟩:=JU h;exact Fu a
theorem Hq(h:d.R e w base ok v xs){g:Nat}(a:∀k,ok k->k≠g):some g≠v.ownBlock:=λe=>a g (h.1 g e.symm) rfl
theorem Im(h:d.R e w base ok v xs)(i:0<xs.length):∃g cap,v=.slice (some ⟨g,0,none⟩) xs.length cap∧base≤g∧g<w.heap.size∧∃cells,w.heap[g]?=some (.cells cells e (0,0)):=by obtain⟨inner,a⟩:=JU h;obtain⟨g,cap,he,b,hl⟩:=a.form i;obtain⟨cells,c⟩:=Gp a g (by rw[he];simp[Value.ownBlock]);exact⟨g,cap,he,b,hl,cells,c⟩
end
section
variable {w W:World} {A:Option Addr} {n:Nat}
theorem Fe{k:IntKind}{xs:List Int}(h:(Kd.int k).C w A n xs)(i:Int)(h0:0≤i)(h1:i<n):∃ad,A=some ad∧w.cell? (ad.add i.toNat)=some (.int k (rd xs i)) :=
  EW.at_ (GQ (enc:=Value.int k) (d:=(0:Int)) (h1:=λ_=>rfl) h) i h0 h1
theorem LD{xs:List ByteArray}(h:Kd.string.C w A n xs)(i:Int)(h0:0≤i)(h1:i<n):∃ad,A=some ad∧w.cell? (ad.add i.toNat)=some (.string (Kb ByteArray.empty xs i)) :=
  EW.at_ (GQ (enc:=Value.string) (d:=ByteArray.empty) (h1:=λ_=>rfl) h) i h0 h1
variable {α:Type} {enc:α->Value} {h1:∀ x,(enc x).oneCell'=true} {e base g cap:Nat} {ok:Nat->Prop} {xs:List α}
theorem OU(d:α)(h:(scalar enc h1).R e W base ok (.slice (some ⟨g,0,none⟩) xs.length cap) xs)(i:Int)(h0:0≤i)(hi:i<xs.length):W.cell? ⟨g,i.toNat,none⟩=some (enc (Kb d xs i))∧W.frozen? ⟨g,i.toNat,none⟩=false:=LZ (Ka h) i h0 hi
theorem PN(h:(scalar enc h1).R e W base ok (.slice (some ⟨g,0,none⟩) xs.length cap) xs)(i:Int)(x:α):(scalar enc h1).R e (W.setCell ⟨g,i.toNat,none⟩ (enc x)) base ok (.slice (some ⟨g,0,none⟩) xs.length cap) (xs.set i.toNat x)∧W.grownBy (W.setCell ⟨g,i.toNat,none⟩ (enc x)) (some g):=by obtain⟨a,hg⟩:=JI (Ka h) i x;exact⟨Mj (by rw[List.length_set];exact a) h.1,hg⟩
end
section
variable {P:Program} {ops:Array Oper} {rest:List Oper} {o:Oper} {a:Act} {Q:Exit->Act->World->Prop}
theorem I2{W w1:World}{v:Value}(c:o.guard=none)(b:(execOp a.eval o).run P W=.ok (.value v) w1)(h:wpList P ops Q rest (a.put o.dst v) w1):wpList P ops Q (o::rest) a W:=by
 refine wpList_plain c λK hK=>?_
 unfold Oper.wp;rw[b];exact hK _ _ h
variable {α:Type}
theorem DD(d:Kd α){w0 W:World}(base e:Nat)(n:o.guard=none){N:Tmp}(_hd:o.dst=some N){xs:List α}{inner:List Value}{ok okp:Nat->Prop}
    (l:(execOp a.eval o).run P W=.ok (.value (.slice (some ⟨W.heap.size,0,none⟩) xs.length xs.length)) (W.alloc (.cells inner.toArray e)))
    (j:Bi (d.M W base okp) d.sz xs inner)(q:∀k,okp k->ok k)(i:ok W.heap.size)(HB:Below base w0 W)(g:base≤W.heap.size)(hm:xs.length≤9223372036854775807)
    (h:∀v1 w1,d.R e w1 base ok v1 xs->Below base w0 w1->W.grownBy w1 none->(∃b,v1.ownBlock=some b∧W.heap.size≤b)->wpList P ops Q rest (a.put o.dst v1) w1):wpList P ops Q (o::rest) a W:=by
 refine I2 n l (h _ _ ⟨λk m=>?_,inner,?_,?_⟩ (HB.alloc g _) (World.grownBy_alloc W _ none) ⟨W.heap.size,by simp[Value.ownBlock],Nat.le_refl _⟩)
 ·have:W.heap.size=k:=by simpa[Value.ownBlock]using m
  subst this;exact i
 ·have r:=World.ownsRow_lit (base:=base) (e:=e) (size:=d.sz) W inner.toArray xs.length g (by simpa[maxLen]using hm) (by simpa using j.1);simpa using r
 refine j.FV (λp c t=>d.Ce (λk m=>⟨q k m.1,λhe=>?_⟩) (KV (d.CX t) (FL (Below.refl _ _) _)));have h3:k=W.heap.size:=by simpa[Value.ownBlock]using he
 have:=m.2.2.1;omega
end
end Kd
theorem M7{w:World}{base n m c size:Nat}{e:TypeId}{A:Option Addr}{xs:List Value}(h:w.ownsRow base e size (.slice A n c) n xs)(hm:m≤n):w.ownsRow base e size (.slice A m c) m (xs.take (m*size)):=by
 obtain⟨h1,j⟩:=h;refine⟨by rw[List.length_take,h1];exact Nat.min_eq_left (Nat.mul_le_mul_right _ hm),?_⟩;rcases j with⟨he,h0⟩|⟨g,cap,cur,he,k,l,o,d,i,p⟩
 ·injection he with a _ b;subst a;subst b;exact .inl ⟨by rw[show m=0 by omega],by omega⟩
 injection he with a _ b;subst a;subst b;refine .inr ⟨g,c,cur,rfl,k,l,by omega,d,i,?_⟩;rw[<-p,List.take_take,Nat.min_eq_left (Nat.mul_le_mul_right _ hm)]
section
variable {P:Program}
theorem GJ(t e:TypeId)(d:IntKind){i:TypeInfo}(b:P.underlying t=some (.slice e))(hi:P.info? e=some i)(A:Option Addr)(n c:Nat)(j:Int)(h0:0≤j)(hm:j≤n)(k:n≤c) :
    ∀W:World,(Instr.slice t (.slice A n c) none (some (.int d j)) none).run P W=.ok (.slice A j.toNat c) W:=by
 intro W;have a:P.elem t=e:=by simp[Program.elem,b]
 have hu:P.underlying t=some (.slice (P.elem t)):=by rw[a];exact b
 have g:(A.map λx=>x.add 0)=A:=by cases A <;> simp[Addr.add]
 rw[run_slice_h W t A n c hu d j h0 (by omega),a];simp[sizeOf,typeInfo,hi,sliced,Result.andThen,g]
theorem F_(t e:TypeId)(g:IntKind){i:TypeInfo}(d:P.underlying t=some (.slice e))(hi:P.info? e=some i)(size:Nat)(b:i.size=size)(A:Option Addr)(n c:Nat)(j:Int)(h0:0≤j)(hm:j≤n) :
    ∀W:World,(Instr.slice t (.slice A n c) (some (.int g j)) none none).run P W=.ok (.slice (if c=j.toNat then A else A.map (·.add (j.toNat*size))) (n-j.toNat) (c-j.toNat)) W:=by
 intro W;have a:P.elem t=e:=by simp[Program.elem,d]
 have hu:P.underlying t=some (.slice (P.elem t)):=by rw[a];exact d
 rw[run_slice_l W t A n c hu g j h0 hm,a];simp[sizeOf,typeInfo,hi,b,sliced,Result.andThen]
end
def Qu(w:World)(base:Nat)(e:TypeId)(size:Nat)(v:Value)(n:Nat)(xs:List Value):Prop :=
  xs.length=n*size ∧
  ((n=0∧∃A,v=.slice A 0 0∧∀a,A=some a->base≤a.block∧∃cur,w.heap[a.block]?=some (.cells cur e (0,0))) ∨
   ∃g off cap cur,v=.slice (some ⟨g,off*size,none⟩) n cap∧base≤g∧w.heap[g]?=some (.cells cur e (0,0))∧n≤cap∧off+cap≤maxLen∧cur.size=(off+cap)*size∧(cur.toList.drop (off*size)).take (n*size)=xs)
section
variable {w w1:World} {base n size:Nat} {e:TypeId} {v:Value} {xs:List Value}
theorem O8(g o j:Nat):(⟨g,o,none⟩:Addr).add j=⟨g,o+j,none⟩:=by unfold Addr.add;split <;> simp_all
theorem Hj{g:Nat}:∀(b:List Value) (o:Nat) {w:World} (k:Nat),k≠g->(w.setCells g o b).heap[k]?=w.heap[k]?
  | [],_,_,_,_=>rfl
  | v::r,o,w,k,a=>by
    rw[World.setCells,Hj r (o+1) k a]
    exact Below.heap_setCell w ⟨g,o,none⟩ v k a
theorem Gw(g:Nat):∀(a:List Value) (o:Nat) (w:World),(w.setCells g o a).os=w.os∧(w.setCells g o a).tape=w.tape∧(w.setCells g o a).output=w.output∧(w.setCells g o a).heap.size=w.heap.size
  | [],_,_=>⟨rfl,rfl,rfl,rfl⟩
  | v::r,o,w=>by
    obtain⟨h1,b,h3,h4⟩:=Gw g r (o+1) (w.setCell ⟨g,o,none⟩ v)
    rw[World.setCells]
    exact⟨h1,b,h3,by rw[h4];simp[World.setCell]⟩
theorem Hk{g:Nat}{e:TypeId}:∀(b:List Value) (o:Nat) (w:World) (cur:Array Value),w.heap[g]?=some (.cells cur e (0,0))->o+b.length≤cur.size ->
    ∃a,(w.setCells g o b).heap[g]?=some (.cells a e (0,0))∧a.size=cur.size∧a.toList=cur.toList.take o++b++cur.toList.drop (o+b.length)
  | [],o,w,cur,h,_=>⟨cur,h,rfl,by simp⟩
  | v::r,o,w,cur,h,hl=>by
    have d:=E8 h o v
    simp only[List.length_cons]at hl
    obtain⟨a,h3,h4,i⟩:=Hk r (o+1) (w.setCell ⟨g,o,none⟩ v) _ d (by simp;omega)
    refine⟨a,h3,by rw[h4];simp,?_⟩
    rw[i,Array.toList_setIfInBounds]
    have j:o<cur.toList.length:=by rw[Array.length_toList];omega
    rw[List.take_set,List.drop_set_of_lt (by omega)]
    simp only[List.length_cons]
    rw[show o+1+r.length=o+(r.length+1) by omega]
    congr 1
    rw[List.take_succ_eq_append_getElem j,List.set_append_right _ _ (by rw[List.length_take];omega)]
    have c:o<cur.size:=by omega
    simp[Nat.min_eq_left (Nat.le_of_lt c)]
end
section
variable {P:Program}
end
namespace Kd
theorem L5{α:Type}{R:α->List Value->Prop}{size m:Nat}{ps:List α}{cs:List Value}(h:Bi R size ps cs)(hm:m≤ps.length):Bi R size (ps.take m) (cs.take (m*size)):=by
 refine⟨by rw[List.length_take,List.length_take,h.1,Nat.min_eq_left hm,Nat.min_eq_left (Nat.mul_le_mul_right _ hm)],λj p a=>?_⟩;rw[List.getElem?_take]at a;split at a
 ·rename_i b;have:=h.2 j p a;have hle:j*size+size≤m*size:=by rw[<-Nat.succ_mul];exact Nat.mul_le_mul_right _ b
  rw[List.drop_take,List.take_take,Nat.min_eq_left (by omega)];exact this
 cases a
theorem O0{α:Type}{d:Kd α}{e m n c:Nat}{w:World}{base:Nat}{ok:Nat->Prop}{A:Option Addr}{xs:List α}(h:d.R e w base ok (.slice A n c) xs)(hm:m≤xs.length):d.R e w base ok (.slice A m c) (xs.take m):=by
 obtain⟨h0,inner,b,j⟩:=h;have i:n=xs.length:=by obtain⟨A',l,he⟩:=L2 b;injection he
 subst i;have a:∀x y:Nat,(Value.slice A x c).ownBlock=(Value.slice A y c).ownBlock:=by intro x y;cases A <;> rfl
 refine⟨λk g=>h0 k (by rw[a _ m];exact g),inner.take (m*d.sz),?_,?_⟩
 ·rw[List.length_take,Nat.min_eq_left hm];exact M7 b hm
 rw[a m xs.length];exact L5 j hm
def Q{α:Type}(d:Kd α)(e:Nat)(w:World)(base:Nat)(ok:Nat->Prop)(v:Value)(xs:List α):Prop :=
  (∀k,v.ownBlock=some k->ok k)∧∃inner,Qu w base e d.sz v xs.length inner∧Bi (d.M w base (λk=>ok k∧some k≠v.ownBlock)) d.sz xs inner
section
variable {α:Type} {d:Kd α} {e:Nat} {w w1 W:World} {base:Nat} {ok Fc:Nat->Prop} {v:Value} {xs:List α}
end
section
variable {P:Program} {ops:Array Oper} {rest:List Oper} {o:Oper} {a:Act} {Q':Exit->Act->World->Prop} {Kc:Act->World->Prop} {α:Type}
end
end Kd
namespace Kd
section
variable {α:Type} {d:Kd α} {e e':Nat} {w w1 W:World} {base:Nat} {ok:Nat->Prop} {u v:Value} {xs:List α}
theorem C9(h:d.R e w base ok v xs):∀k,v.ownBlock=some k->∃cells,w.heap[k]?=some (.cells cells e (0,0)):=by obtain⟨inner,b⟩:=JU h;exact λk a=>Gp b k a
theorem Df(h:d.R e W base ok u xs)(g:∀k,v.ownBlock=some k->∃cells,W.heap[k]?=some (.cells cells e' (0,0)))(l:∀q,q∈e::d.E->q≠e')(hg:W.grownBy w1 v.ownBlock):d.R e w1 base ok u xs:=by refine Aj (Hr (CO h) (λk c=>hg.block k c.2.2.1 (λhe=>?_))) (λ_ c=>c.1);obtain⟨_,_,_,q,j,cells,i⟩:=c;obtain⟨b,a⟩:=g k he.symm;rw[i]at a;injection a with a;injection a with _ a;exact l q j a
theorem Dd(h:d.R e W base ok u xs)(c:∀k,v.ownBlock=some k->∃cells,W.heap[k]?=some (.cells cells e' (0,0)))(l:∀q,q∈e::d.E->q≠e'):d.R e W base (λk=>ok k∧some k≠v.ownBlock) u xs:=by refine Aj (CO h) (λk g=>⟨g.1,λhe=>?_⟩);obtain⟨_,_,_,q,j,cells,i⟩:=g;obtain⟨b,a⟩:=c k he.symm;rw[i]at a;injection a with a;injection a with _ a;exact l q j a
theorem CB(hu:d.R e W base ok u xs)(a:∀k,v.ownBlock=some k->W.heap.size≤k)(c:Below W.heap.size W w1):d.R e w1 base (λk=>ok k∧some k≠v.ownBlock) u xs :=
  Aj (Hr (CO hu) (λk b=>c.block k b.2.2.1)) (λk b=>⟨b.1,λhe=>by have:=a k he.symm;have:=b.2.2.1;omega⟩)
theorem DC(h:d.R e w1 W.heap.size ok v xs)(a:∀k,u.ownBlock=some k->k<W.heap.size):d.R e w1 W.heap.size (λk=>ok k∧some k≠u.ownBlock) v xs :=
  Aj (CO h) (λk b=>⟨b.1,λhe=>by have:=a k he.symm;have:=b.2.1;omega⟩)
theorem EA(a:∀k,u.ownBlock=some k->k<W.heap.size):∀k,W.heap.size≤k->some k≠u.ownBlock:=λk b he=>by have:=a k he.symm;omega
end
end Kd
theorem I3{n c g:Nat}{A:Option Addr}(a:some g≠(Value.slice A n c).ownBlock):∀ad,A=some ad->0<n->ad.block≠g:=by rintro ad rfl _ rfl;exact a (by simp[Value.ownBlock])
theorem Hi{α:Type}(a seg:List α)(o:Nat)(h:o+seg.length≤a.length)(q:Nat) :
    (a.take o++seg++a.drop (o+seg.length))[q]?=if q<o then a[q]? else if q<o+seg.length then seg[q-o]? else a[q]?:=by
 have hl:(a.take o).length=o:=by rw[List.length_take];omega
 rw[List.append_assoc];by_cases h1:q<o
 ·rw[if_pos h1,List.getElem?_append_left (by omega),List.getElem?_take,if_pos h1]
 rw[if_neg h1,List.getElem?_append_right (by omega),hl];by_cases b:q<o+seg.length
 ·rw[if_pos b,List.getElem?_append_left (by omega)]
 rw[if_neg b,List.getElem?_append_right (by omega),List.getElem?_drop];congr 1;omega
namespace Kd
section
variable {α:Type} {d:Kd α} {e base g n cap:Nat} {ok okp:Nat->Prop} {W:World} {xs:List α}
theorem GG(h:d.R e W base ok (.slice (some ⟨g,0,none⟩) n cap) xs)(z:α)(i:Int)(h0:0≤i)(h1:i<n) :
    ∃c,c.length=d.sz∧d.M W base (λk=>ok k∧k≠g) (xs.getD i.toNat z) c∧(∀j u,c[j]?=some u->W.cell? ⟨g,i.toNat*d.sz+j,none⟩=some u)∧∀j,W.frozen? ⟨g,i.toNat*d.sz+j,none⟩=false:=by
 obtain⟨v,r,t⟩:=AD h;obtain⟨_,inner,l,m⟩:=h;have a:i.toNat<xs.length:=by omega
 have o:i.toNat*d.sz+d.sz≤inner.length:=by rw[m.1,<-Nat.succ_mul];exact Nat.mul_le_mul_right _ a
 have p:=m.2 i.toNat _ (List.getElem?_eq_getElem a);refine⟨(inner.drop (i.toNat*d.sz)).take d.sz,by rw[List.length_take,List.length_drop];omega,?_,λj u hu=>?_,λj=>?_⟩
 ·rw[List.getD_eq_getElem?_getD,List.getElem?_eq_getElem a];exact d.Ce (λk b=>⟨b.1,λhe=>b.2 (by rw[he];simp[Value.ownBlock])⟩) p
 ·rw[List.getElem?_take]at hu;split at hu
  ·rw[List.getElem?_drop]at hu;have:=l.cells (g:=g) (by simp[Value.ownBlock]) _ u hu;rwa[add_plain]at this
  cases hu
 obtain⟨cells,q⟩:=Gp l g (by simp[Value.ownBlock]);exact DT q _
theorem KY(h:d.R e W base ok (.slice (some ⟨g,0,none⟩) n cap) xs)(i:Int)(h0:0≤i)(h1:i<n){c seg:List Value}{j:Nat}(af:c.length=d.sz)(L:∀j u,c[j]?=some u->W.cell? ⟨g,i.toNat*d.sz+j,none⟩=some u)
    (hj:j+seg.length≤d.sz){x':α}(hM:d.M W base okp x' (c.take j++seg++c.drop (j+seg.length)))(o:∀k,okp k->ok k∧k≠g) :
    d.R e (W.setCells g (i.toNat*d.sz+j) seg) base ok (.slice (some ⟨g,0,none⟩) n cap) (xs.set i.toNat x')∧W.grownBy (W.setCells g (i.toNat*d.sz+j) seg) (some g):=by
 obtain⟨v,E,_⟩:=AD h;obtain⟨aa,inner,ho,w⟩:=h;have T:i.toNat<xs.length:=by omega
 have t:i.toNat*d.sz+d.sz≤inner.length:=by rw[w.1,<-Nat.succ_mul];exact Nat.mul_le_mul_right _ T
 have ag:inner.length=n*d.sz:=by rw[w.1,v]
 obtain⟨ah,Z⟩:=ho;rcases Z with⟨hv,_⟩|⟨g',ab,cur,hv,hb,hh,ae,M,O,ht⟩
 ·cases hv
 injection hv with K _ hc;injection K with K;injection K with hg;subst hg;subst hc;have A:i.toNat*d.sz+j+seg.length≤cur.size:=by have:n*d.sz≤cap*d.sz:=Nat.mul_le_mul_right _ E;omega
 obtain⟨x,h3,h4,h5⟩:=Hk seg (i.toNat*d.sz+j) W cur hh A;obtain⟨s1,s2,s3,s4⟩:=Gw g seg (i.toNat*d.sz+j) W;have l:∀k,k≠g->(W.setCells g (i.toNat*d.sz+j) seg).heap[k]?=W.heap[k]?:=λk r=>Hj seg _ k r
 -- the element's cells before are what was read
 have y:∀q,q<d.sz->c[q]?=inner[i.toNat*d.sz+q]?:=by
  intro q b;have G:q<c.length:=by omega
  have h6:=L q _ (List.getElem?_eq_getElem G);rw[cell_of_row W g _ cur e (0,0) hh]at h6;rw[List.getElem?_eq_getElem G,<-h6,<-ht,List.getElem?_take,if_pos (by rw[<-v];omega),Array.getElem?_toList]
 refine⟨⟨aa,inner.take (i.toNat*d.sz+j)++seg++inner.drop (i.toNat*d.sz+j+seg.length),⟨?_,.inr ⟨g,cap,x,by rw[List.length_set,v],hb,h3,by rw[List.length_set,<-v];exact E,M,by rw[h4,O],?_⟩⟩,?_⟩,
   ⟨s1,s2,s3,by rw[s4];exact Nat.le_refl _,λk _ r=>l k (λhe=>r (by rw[he]))⟩⟩
 ·rw[List.length_set];simp only[List.length_append,List.length_take,List.length_drop];rw[w.1]at t⊢;omega
 ·rw[List.length_set,<-v];apply List.ext_getElem?
  intro q;rw[List.getElem?_take,h5];rw[Hi cur.toList seg (i.toNat*d.sz+j) (by rw[Array.length_toList];omega) q,Hi inner seg (i.toNat*d.sz+j) (by omega) q];have z:∀q,q<n*d.sz->cur.toList[q]?=inner[q]?:=by intro q b;rw[<-ht,List.getElem?_take,if_pos (by rw[<-v];exact b)]
  by_cases b:q<n*d.sz
  ·rw[if_pos b,z q b]
  rw[if_neg b,if_neg (by omega),if_neg (by omega),List.getElem?_eq_none (by omega)]
 refine⟨?_,λm p hm=>?_⟩
 ·rw[List.length_set];simp only[List.length_append,List.length_take,List.length_drop];rw[w.1]at t⊢;omega
 have Y:m<xs.length:=by have:=(List.getElem?_eq_some_iff.1 hm).1;rwa[List.length_set]at this
 have X:m*d.sz+d.sz≤inner.length:=by rw[w.1,<-Nat.succ_mul];exact Nat.mul_le_mul_right _ Y
 have B:some g=(Value.slice (some ⟨g,0,none⟩) n cap).ownBlock:=by simp[Value.ownBlock]
 by_cases D:m=i.toNat
 ·subst D;rw[List.getElem?_set_self (by omega)]at hm;injection hm with hm;subst hm
  have a:((inner.take (i.toNat*d.sz+j)++seg++inner.drop (i.toNat*d.sz+j+seg.length)).drop (i.toNat*d.sz)).take d.sz=c.take j++seg++c.drop (j+seg.length):=by
   apply List.ext_getElem?
   intro q;rw[List.getElem?_take,List.getElem?_drop,Hi inner seg _ (by omega),Hi c seg j (by omega) q];by_cases b:q<d.sz
   ·rw[if_pos b,y q b];by_cases I:q<j
    ·rw[if_pos (by omega),if_pos I]
    rw[if_neg (by omega),if_neg I];by_cases J:q<j+seg.length
    ·rw[if_pos (by omega),if_pos J];congr 1;omega
    rw[if_neg (by omega),if_neg J]
   rw[if_neg b,if_neg (by omega),if_neg (by omega),List.getElem?_eq_none (by omega)]
  rw[a];refine d.Ce (λk r=>?_) (d.Dw (w1:=W.setCells g (i.toNat*d.sz+j) seg) (λk r=>l k (o k r).2) hM);exact⟨(o k r).1,λhe=>(o k r).2 (by rw[<-B]at he;injection he)⟩
 rw[List.getElem?_set_ne (by omega)]at hm;have hold:=w.2 m p hm
 have a:((inner.take (i.toNat*d.sz+j)++seg++inner.drop (i.toNat*d.sz+j+seg.length)).drop (m*d.sz)).take d.sz=(inner.drop (m*d.sz)).take d.sz:=by
  apply List.ext_getElem?
  intro q;rw[List.getElem?_take,List.getElem?_take,List.getElem?_drop,List.getElem?_drop,Hi inner seg _ (by omega)];by_cases b:q<d.sz
  ·rw[if_pos b,if_pos b];rcases Nat.lt_or_gt_of_ne D with U|P
   ·have:m*d.sz+d.sz≤i.toNat*d.sz:=by rw[<-Nat.succ_mul];exact Nat.mul_le_mul_right _ U
    rw[if_pos (by omega)]
   have:i.toNat*d.sz+d.sz≤m*d.sz:=by rw[<-Nat.succ_mul];exact Nat.mul_le_mul_right _ P
   rw[if_neg (by omega),if_neg (by omega)]
  rw[if_neg b,if_neg b]
 rw[a];refine d.Dw (λk r=>l k (λhe=>r.2 (by rw[he];exact B))) hold
end
end Kd
namespace Kd
section
variable {α:Type} {F:Kd α->Kd α} {sz:Nat} {E:List Nat} {hs:∀ n,(upto F sz E n).sz=sz} {hE:∀ n q,q∈(upto F sz E n).E->q∈E}
end
end Kd
namespace Kd
theorem H8{α:Type}{R:α->List Value->Prop}{size:Nat}{ps e:List α}{cs ds:List Value}(h:Bi R size ps cs)(d:Bi R size e ds):Bi R size (ps++e) (cs++ds):=by
 refine⟨by rw[List.length_append,List.length_append,h.1,d.1,Nat.add_mul],λj p c=>?_⟩;rcases Nat.lt_or_ge j ps.length with b|a
 ·rw[List.getElem?_append_left b]at c;have hle:j*size+size≤cs.length:=by rw[h.1,<-Nat.succ_mul];exact Nat.mul_le_mul_right _ b
  rw[List.drop_append_of_le_length (by omega),List.take_append_of_le_length (by rw[List.length_drop];omega)];exact h.2 j p c
 rw[List.getElem?_append_right a]at c;have g:=d.2 (j-ps.length) p c;have hle:ps.length*size≤j*size:=Nat.mul_le_mul_right _ a;rw[List.drop_append,List.drop_eq_nil_of_le (by rw[h.1];exact hle),List.nil_append,h.1,<-Nat.sub_mul];exact g
section
variable {P:Program} {ops:Array Oper} {rest:List Oper} {o:Oper} {a:Act} {Q:Exit->Act->World->Prop} {α:Type}
theorem Co(d:Kd α){Rr:α->List Value->Prop}{w0 W:World}(base:Nat)(ab:o.guard=none)(s x:Operand)(t e:TypeId)(z:Value)(bytes:Nat)
    (L:o.op=.call { callee:=.builtin .append,args:=#[s,x],argTypes:=#[t,t] })
    (ht:P.underlying t=some (.slice e))(G:(P.info? e).map (λi=>(i.zero,i.size,i.bytes))=some (some z,d.sz,bytes))(hz:z.cells.size=d.sz)(J:0<d.sz)(aa:0<bytes)
    (v:Value)(xs ys:List α)(A:Option Addr)(m c:Nat)(ok okp:Nat->Prop)(hs:a.eval s=v)(hx:a.eval x=.slice A m c)
    (HO:d.R e W base ok v xs)(X:CH Rr d.sz W A m ys)(Y:∀x cs,Rr x cs->d.M W base okp x cs)(O:∀k,okp k->ok k∧some k≠v.ownBlock)(B:∀k,W.heap.size≤k->ok k)
    (HB:Below base w0 W)(w:base≤W.heap.size)(hl:(xs.length+m)*bytes≤140737488355328)
    (h:∀v1 w1,d.R e w1 base ok v1 (xs++ys)->Below base w0 w1->W.grownBy w1 v.ownBlock->(v1.ownBlock=v.ownBlock∨∃b,v1.ownBlock=some b∧W.heap.size≤b)->wpList P ops Q rest (a.put o.dst v1) w1) :
    wpList P ops Q (o::rest) a W:=by
 obtain⟨i0,hi,U⟩:=Option.map_eq_some_iff.1 G;simp only[Prod.mk.injEq]at U;obtain⟨ai,aj,ak⟩:=U;have hm:ys.length=m:=X.1;have hlen:xs.length+m≤140737488355328:=Nat.le_trans (Nat.le_mul_of_pos_right _ aa) hl;obtain⟨M,inner,n,hr⟩:=HO
 have y:∃v1 w1,(Builtin.append_ #[t,t] o.type #[v,.slice A m c]).run P W=.ok v1 w1∧d.R e w1 base ok v1 (xs++ys)∧W.grownBy w1 v.ownBlock∧(v1.ownBlock=v.ownBlock∨∃b,v1.ownBlock=some b∧W.heap.size≤b):=by
  rcases A with _|ad
  ·have h0:m=0:=by
    rcases Nat.eq_zero_or_pos m with h0|h0
    ·exact h0
    obtain⟨ad,h,_⟩:=X.2.2 h0;cases h
   subst h0;obtain rfl:ys=[]:=List.eq_nil_of_length_eq_zero hm;refine⟨v,W,?_,by rw[List.append_nil];exact⟨M,inner,n,hr⟩,World.grownBy.refl W _,.inl rfl⟩;rcases n.2 with⟨rfl,hn⟩|⟨g,cap,cur,rfl,_,_,I,_⟩
   ·simp[Builtin.append_,run_underlying ht,sizeOf,typeInfo,hi,Builtin.lenOf,Builtin.firstCells]
   simp[Builtin.append_,run_underlying ht,sizeOf,typeInfo,hi,Builtin.lenOf,Builtin.firstCells,I,storeCells]
  obtain⟨news,af,I⟩:=CH.KC X;have D:Bi (d.M W base okp) d.sz ys news:=af.FV (λp c hp=>Y p c hp)
  have T:∀u∈news,u.oneCell'=true:=by
   intro u hu;obtain⟨q,E,rfl⟩:=List.mem_iff_getElem.1 hu;have ag:q / d.sz<ys.length:=by rw[Nat.div_lt_iff_lt_mul J];rw[<-D.1];exact E
   have hc:=D.2 (q / d.sz) _ (List.getElem?_eq_getElem ag);refine d.DV (d.CV hc) _ ?_;rw[List.mem_iff_getElem?];refine⟨q % d.sz,?_⟩;rw[List.getElem?_take,if_pos (Nat.mod_lt _ J),List.getElem?_drop,Nat.mul_comm,Nat.div_add_mod,List.getElem?_eq_getElem E]
  obtain⟨v1,w1,y,h2,hg,_,j⟩:=run_append_own_at (P:=P) W base t o.type e i0 z d.sz bytes ht hi ai aj ak hz J v xs.length inner n ad m c news (by rw[D.1,hm]) I T (by simp only[maxLen];omega) hl w
  have r:v1.ownBlock=v.ownBlock∨∃b,v1.ownBlock=some b∧W.heap.size≤b:=by
   rcases j with j|j
   ·exact .inl j
   exact .inr ⟨_,j,Nat.le_refl _⟩
  have ae:∀k,some k≠v.ownBlock->k<W.heap.size->some k≠v1.ownBlock:=by
   intro k l al;rcases r with j|⟨b,Z,hle⟩
   ·rw[j];exact l
   rw[Z];intro he;injection he with he;omega
  have step:∀{q:α} {c:List Value} {o:Nat->Prop},d.M W base o q c->(∀k,o k->ok k∧some k≠v.ownBlock)->d.M w1 base (λk=>ok k∧some k≠v1.ownBlock) q c:=by intro q c o E L;have h1:=d.Dw (w1:=w1) (λk l=>hg.block k l.2.2.1 (L k l.1).2) (d.CX E);exact d.Ce (λk l=>⟨(L k l.1).1,ae k (L k l.1).2 l.2.2.1⟩) h1
  refine⟨v1,w1,y,⟨λk l=>?_,inner++news,by rw[List.length_append,hm];exact h2,H8 (hr.FV (λ_ _ E=>step E (λ_ l=>l))) (D.FV (λ_ _ E=>step E O))⟩,hg,r⟩;rcases r with j|⟨b,Z,hle⟩
  ·exact M k (j ▸ l)
  rw[Z]at l;injection l with l;exact B k (by omega)
 obtain⟨v1,w1,ah,h1,hg,j⟩:=y;refine wpList_plain ab λK hK=>?_
 unfold Oper.wp execOp;simp only[L,resolve,invoke,builtin,Sem.run_bind,Sem.run_pure,Result.andThen_ok,List.map_toArray,List.map_cons,List.map_nil,hs,hx,ah];exact hK _ _ (h v1 w1 h1 (HB.grown hg w (Fu n)) hg j)
end
end Kd
namespace Kd
section
variable {P:Program} {ops:Array Oper} {rest:List Oper} {o:Oper} {a:Act} {Q:Exit->Act->World->Prop} {α:Type}
end
end Kd
theorem add_add(a:Addr)(i j:Nat):(a.add i).add j=a.add (i+j):=by unfold Addr.add;by_cases h1:i=0 <;> by_cases b:j=0 <;> simp[h1,b,Nat.add_assoc]
namespace Kd
section
variable {α:Type} {k:Kd α} {w:World} {A:Option Addr} {xs:List α} {m c:Nat}
theorem GB(h:k.C w A xs.length xs)(hm:m≤xs.length):k.C w A (xs.take m).length (xs.take m):=by
 have hl:(xs.take m).length=m:=by rw[List.length_take];omega
 refine⟨rfl,by rw[hl];have:=h.2.1;omega,λc=>?_⟩;obtain⟨ad,e,b⟩:=h.2.2 (by omega);refine⟨ad,e,λj p a=>b j p ?_⟩;rw[List.getElem?_take]at a;split at a
 ·exact a
 cases a
theorem Ji(h:k.C w A xs.length xs)(hm:m≤xs.length)(g:xs.length≤c):k.C w (if c=m then A else A.map (·.add (m*k.sz))) (xs.drop m).length (xs.drop m):=by have hl:(xs.drop m).length=xs.length-m:=List.length_drop;refine⟨rfl,by rw[hl];have:=h.2.1;omega,λe=>?_⟩;rw[hl]at e;obtain⟨ad,rfl,a⟩:=h.2.2 (by omega);rw[if_neg (by omega)];refine⟨ad.add (m*k.sz),rfl,λj p b=>?_⟩;rw[List.getElem?_drop]at b;obtain⟨cs,h1,d,h3⟩:=a (m+j) p b;refine⟨cs,h1,d,λi u hu=>?_⟩;rw[add_add,show m*k.sz+(j*k.sz+i)=(m+j)*k.sz+i by rw[Nat.add_mul];omega];exact h3 i u hu
theorem Ob{lo hi:Nat}(h:k.C w A xs.length xs)(h1:lo≤hi)(a:hi≤xs.length)(b:xs.length≤c):k.C w (if c=lo then A else A.map (·.add (lo*k.sz))) ((xs.take hi).drop lo).length ((xs.take hi).drop lo):=by
 have hl:(xs.take hi).length=hi:=by rw[List.length_take];omega
 exact Ji (GB h a) (by omega) (by omega)
end
end Kd
section
variable {P:Program}
theorem Lc(t e:TypeId)(k j:IntKind){i:TypeInfo}(g:P.underlying t=some (.slice e))(hi:P.info? e=some i)(size:Nat)(d:i.size=size)(A:Option Addr)(n c:Nat)(lo a:Int)(h0:0≤lo)(h1:lo≤a)(l:a≤n)(m:n≤c) :
    ∀W:World,(Instr.slice t (.slice A n c) (some (.int k lo)) (some (.int j a)) none).run P W=.ok (.slice (if c=lo.toNat then A else A.map (·.add (lo.toNat*size))) (a.toNat-lo.toNat) (c-lo.toNat)) W:=by
 intro W;have b:P.elem t=e:=by simp[Program.elem,g]
 have hu:P.underlying t=some (.slice (P.elem t)):=by rw[b];exact g
 rw[run_slice_lh W t A n c hu k j lo a h0 h1 (by omega),b];simp[sizeOf,typeInfo,hi,d,sliced,Result.andThen]
end
theorem Ab{w W:World}(h:Below w.heap.size w W):w.heap.size≤W.heap.size:=h.size
theorem BA{w W a:World}(h:Below w.heap.size w W)(k:Below W.heap.size W a):Below w.heap.size w a:=Kw h h.size k
theorem EH.nil(W:World)(k:IntKind):EH W k none ([]:List Int).length []:=⟨rfl,by simp,λh=>absurd h (Nat.lt_irrefl 0)⟩
theorem EH.ofRow{k:IntKind}{w:World}{a:Option Addr}{len cap:Nat}{zs:List Int}(h:(a=none∧len=0∧cap=0∧zs=[])∨∃x,a=some x∧len≤cap∧cap≤maxLen∧zs.length=cap∧(∀i,i<zs.length->w.cell? (x.add i)=some (.int k (zs.getD i 0)))∧∀n∈zs,(Lit.int k n).wf=true) :
    ∃l:List Int,len=l.length∧EH w k a l.length l∧l.length≤maxLen∧∀x∈l,(Lit.int k x).wf=true:=by
 rcases h with⟨rfl,rfl,rfl,rfl⟩|⟨x,rfl,hl,hm,hz,d,hw⟩
 ·exact⟨[],rfl,EH.nil _ _,Nat.zero_le _,λx g=>by simp at g⟩
 have e:(zs.take len).length=len:=by simp;omega
 have b:len≤maxLen:=Nat.le_trans hl hm;refine⟨zs.take len,e.symm,⟨rfl,by rw[e];simpa[maxLen]using b,λ_=>⟨x,rfl,λj c=>?_⟩⟩,by rw[e];exact b,λy m=>hw y (List.mem_of_mem_take m)⟩;rw[e]at c;rw[d j (by omega)];simp[List.getD,List.getElem?_take,c]
theorem EK{w W:World}{g j:Nat}{v:Value}(h:Below w.heap.size w W)(hg:w.heap.size≤g):Below w.heap.size w (W.setCell ⟨g,j,none⟩ v):=h.setCell hg _
theorem Is{w W:World}{g:Nat}{row:Option Nat}(h:Ai w W g row)(m:Nat):Ai w (W.drewN m) g row:=h
theorem LS{w W:World}{g:Nat}(h:Ai w W g none){a:Addr}{v:Value}(c:w.cell? a=some v)(b:a.block≠g):W.cell? a=some v:=by have:=h.2 a.block (World.block_lt_of_cell? w a c) b (by simp);simpa[World.cell?,this]using c
theorem Fo(a:Addr)(i:Nat):(a.add i).block=a.block:=by unfold Addr.add;split <;> rfl
theorem FU{w0 w w1:World}{B:Nat}(h:Below w0.heap.size w0 w)(hB:w0.heap.size≤B)(k:Below B w w1):Below w0.heap.size w0 w1 :=
  h.trans ⟨k.os,k.tape,k.output,k.size,λi hi=>k.block i (Nat.lt_of_lt_of_le hi hB)⟩
theorem L1{w:World}{base:Nat}{e:TypeId}{size n:Nat}{v:Value}{xs:List Value}(h:w.ownsRow base e size v n xs):v.ownBlock=none∨∃b,v.ownBlock=some b∧base≤b:=by
 cases a:v.ownBlock with
 | none=>exact .inl rfl
 | some b=>exact .inr ⟨b,rfl,Fu h b a⟩
theorem Cf{w W:World}{g:Nat}{row:Option Nat}(h:Ai w W g row):w.heap.size≤W.heap.size:=h.1
theorem PB{W:World}{p a:Addr}(h:a.block≠p.block)(u:Value):(W.setCell p u).cell? a=W.cell? a:=by have:=Below.heap_setCell W p u a.block h;simp[World.cell?,this]
theorem Bw{w:World}{g:Nat}{t:TypeId}{cs a:Array Value}(h:w.heap[g]?=some (.cells cs t (0,0)))(i:Nat)(u:Value)(e:cs.setIfInBounds i u=a):(w.setCell ⟨g,i,none⟩ u).heap[g]?=some (.cells a t (0,0)):=e ▸ E8 h i u
theorem MV{w W:World}{g:Nat}{row:Option Nat}(h:Ai w W g row){p:Addr}(b:w.heap.size≤p.block)(u:Value):Ai w (W.setCell p u) g row :=
  ⟨by simpa[World.setCell]using h.1,λi hi hg a=>(Below.heap_setCell W p u i (by omega)).trans (h.2 i hi hg a)⟩
theorem EH.M0{k:IntKind}{w:World}{a:Option Addr}{len cap:Nat}{zs:List Int}(h:(a=none∧len=0∧cap=0∧zs=[])∨∃x,a=some x∧len≤cap∧cap≤maxLen∧zs.length=cap∧(∀i,i<zs.length->w.cell? (x.add i)=some (.int k (zs.getD i 0)))∧∀n∈zs,(Lit.int k n).wf=true) :
    ∃l:List Int,len=l.length∧EH w k a l.length l∧l.length≤maxLen∧(∀x∈l,(Lit.int k x).wf=true)∧l.length≤cap:=by
 have hl:len≤cap:=by
  rcases h with⟨_,rfl,rfl,_⟩|⟨_,_,h,_⟩
  ·exact Nat.le_refl _
  exact h
 obtain⟨l,e,h1,b,h3⟩:=EH.ofRow h;exact⟨l,e,h1,b,h3,e ▸ hl⟩
theorem Ay{base:Nat}{w W:World}(h:Below base w W):Below base w W.drew:=h.drew
theorem Gm{w W:World}{g:Nat}{row:Option Nat}(h:Ai w W g row):Ai w W.drew g row:=h
namespace Kd
section
variable {α β:Type} {d:Kd α} {d':Kd β} {e e' base Em n:Nat} {ok Fc:Nat->Prop} {w W w1 W1:World} {v u:Value} {xs:List α} {ys:List β} {A:Option Addr} {c:Nat}
theorem GZ(h:d.R e w base ok v xs):v.ownBlock=none∨∃k,v.ownBlock=some k∧base≤k:=by obtain⟨inner,a⟩:=JU h;exact L1 a
end
section
variable {α:Type} {enc:α->Value} {h1:∀ x,(enc x).oneCell'=true} {w W:World} {A:Option Addr} {n g:Nat} {xs:List α}
end
end Kd
namespace Kd
section
variable {α:Type} {d:Kd α} {e base g:Nat} {ok:Nat->Prop} {w w1:World} {v:Value} {xs:List α} {o:Obj}
theorem Mi(h:d.R e w base ok v xs)(a:Nat)(c:w.heap.size≤a):d.R e w base (λk=>ok k∧k≠a) v xs:=Aj (CO h) (λk b=>⟨b.1,by have:=b.2.2.1;omega⟩)
theorem Io(h:d.R e w1 w.heap.size ok v xs)(b:w.heap[g]?=some o):d.R e w1 w.heap.size (λk=>ok k∧k≠g) v xs:=Aj (CO h) (λk a=>⟨a.1,by have:=AU b;have:=a.2.1;omega⟩)
theorem EB(a:w.heap[g]?=some o):∀k,w.heap.size≤k->k≠g:=λk b=>by have:=AU a;omega
end
end Kd
section
variable {P:Program} {ops:Array Oper} {rest:List Oper} {o:Oper} {a:Act} {Q:Exit->Act->World->Prop}
theorem FN{W:World}(c:o.guard=none){N:Tmp}(_hd:o.dst=some N){cs:Array Value}{t:TypeId}
    (b:(execOp a.eval o).run P W=.ok (.value (.pointer (some ⟨W.heap.size,0,none⟩))) (W.alloc (.cells cs t (0,0))))
    (h:∀g,g=W.heap.size->∀w1,w1.heap[g]?=some (.cells cs t (0,0))->Below W.heap.size W w1->wpList P ops Q rest (a.put o.dst (.pointer (some ⟨g,0,none⟩))) w1):wpList P ops Q (o::rest) a W :=
  Kd.I2 c b (h _ rfl _ (EL W _) (FL (Below.refl _ _) _))
end
namespace Kd
section
variable {α:Type} {enc:α->Value} {h1:∀ x,(enc x).oneCell'=true} {e base g n cap:Nat} {ok:Nat->Prop} {W:World} {xs:List α}
theorem KX(d:α)(h:(scalar enc h1).R e W base ok (.slice (some ⟨g,0,none⟩) n cap) xs)(i:Int)(h0:0≤i)(hi:i<n):W.cell? ⟨g,i.toNat,none⟩=some (enc (Kb d xs i))∧W.frozen? ⟨g,i.toNat,none⟩=false:=by obtain⟨rfl,_⟩:=AD h;exact OU d h i h0 hi
end
end Kd
section
variable {P:Program} {ops:Array Oper} {rest:List Oper} {o:Oper} {a:Act} {Q:Exit->Act->World->Prop}
theorem Cx{W w1:World}(c:o.guard=none){t:TypeId}{p:Tmp}{v:Operand}(_ho:o.op=.store t (.tmp p) v)(hN:o.dst=none)
    (b:(execOp a.eval o).run P W=.ok .skip w1)(h:∀w',w'=w1->wpList P ops Q rest a w'):wpList P ops Q (o::rest) a W:=by
 refine wpList_plain c λK hK=>?_
 unfold Oper.wp;rw[b];show K (a.put o.dst undef) w1;rw[hN];exact hK _ _ (h _ rfl)
end
namespace Kd
section
variable {α:Type} {enc:α->Value} {h1:∀ x,(enc x).oneCell'=true} {e base g n cap:Nat} {ok:Nat->Prop} {W:World} {xs:List α}
theorem OZ(h:(scalar enc h1).R e W base ok (.slice (some ⟨g,0,none⟩) n cap) xs)(i:Int)(x:α):(scalar enc h1).R e (W.setCell ⟨g,i.toNat,none⟩ (enc x)) base ok (.slice (some ⟨g,0,none⟩) n cap) (xs.set i.toNat x)∧W.grownBy (W.setCell ⟨g,i.toNat,none⟩ (enc x)) (some g):=by obtain⟨rfl,_⟩:=AD h;exact PN h i x
end
end Kd
section
variable {P:Program} {ops:Array Oper} {rest:List Oper} {o:Oper} {a:Act} {Q:Exit->Act->World->Prop} {W:World}
theorem Cd{N:Tmp}(_hN:o.dst=some N)(h:wpList P ops Q (o::rest) a W):wpList P ops Q (o::rest) a W:=h
theorem CS{t:TypeId}{p:Tmp}{v:Operand}(_ho:o.op=.store t (.tmp p) v)(h:wpList P ops Q (o::rest) a W):wpList P ops Q (o::rest) a W:=h
end
section
variable {P:Program} {ops:Array Oper} {o:Oper} {a:Act} {Q:Exit->Act->World->Prop} {Kc:Act->World->Prop}
theorem Ky{W w1:World}{v:Value}(hw:Region.wanted o (yielded ops a.tmps)=true)(b:(execOp a.eval o).run P W=.ok (.value v) w1)(h:Kc (a.put o.dst v) w1):if Region.wanted o (yielded ops a.tmps)=true then Oper.wp P o a W Kc Q else Kc (a.put o.dst undef) W:=by rw[if_pos hw];unfold Oper.wp;rw[b];exact h
namespace Kd
variable {α:Type}
theorem CR(d:Kd α){w0 W:World}(base e:Nat)(hw:Region.wanted o (yielded ops a.tmps)=true){N:Tmp}(_hd:o.dst=some N){xs:List α}{inner:List Value}{ok okp:Nat->Prop}
    (l:(execOp a.eval o).run P W=.ok (.value (.slice (some ⟨W.heap.size,0,none⟩) xs.length xs.length)) (W.alloc (.cells inner.toArray e)))
    (j:Bi (d.M W base okp) d.sz xs inner)(n:∀k,okp k->ok k)(i:ok W.heap.size)(HB:Below base w0 W)(g:base≤W.heap.size)(hm:xs.length≤9223372036854775807)
    (h:∀v1 w1,d.R e w1 base ok v1 xs->Below base w0 w1->W.grownBy w1 none->(∃b,v1.ownBlock=some b∧W.heap.size≤b)->Kc (a.put o.dst v1) w1):if Region.wanted o (yielded ops a.tmps)=true then Oper.wp P o a W Kc Q else Kc (a.put o.dst undef) W:=by
 refine Ky hw l (h _ _ ⟨λk m=>?_,inner,?_,?_⟩ (HB.alloc g _) (World.grownBy_alloc W _ none) ⟨W.heap.size,by simp[Value.ownBlock],Nat.le_refl _⟩)
 ·have:W.heap.size=k:=by simpa[Value.ownBlock]using m
  subst this;exact i
 ·have q:=World.ownsRow_lit (base:=base) (e:=e) (size:=d.sz) W inner.toArray xs.length g (by simpa[maxLen]using hm) (by simpa using j.1);simpa using q
 refine j.FV (λp c r=>d.Ce (λk m=>⟨n k m.1,λhe=>?_⟩) (KV (d.CX r) (FL (Below.refl _ _) _)));have h3:k=W.heap.size:=by simpa[Value.ownBlock]using he
 have:=m.2.2.1;omega
theorem Bo(d:Kd α){Rr:α->List Value->Prop}{w0 W:World}(base:Nat)(hw:Region.wanted o (yielded ops a.tmps)=true)(s x:Operand)(t e:TypeId)(z:Value)(bytes:Nat)
    (K:o.op=.call { callee:=.builtin .append,args:=#[s,x],argTypes:=#[t,t] })
    (ht:P.underlying t=some (.slice e))(G:(P.info? e).map (λi=>(i.zero,i.size,i.bytes))=some (some z,d.sz,bytes))(hz:z.cells.size=d.sz)(J:0<d.sz)(Z:0<bytes)
    (v:Value)(xs ys:List α)(A:Option Addr)(m c:Nat)(ok okp:Nat->Prop)(hs:a.eval s=v)(hx:a.eval x=.slice A m c)
    (HO:d.R e W base ok v xs)(U:CH Rr d.sz W A m ys)(X:∀x cs,Rr x cs->d.M W base okp x cs)(M:∀k,okp k->ok k∧some k≠v.ownBlock)(B:∀k,W.heap.size≤k->ok k)
    (HB:Below base w0 W)(w:base≤W.heap.size)(hl:(xs.length+m)*bytes≤140737488355328)
    (h:∀v1 w1,d.R e w1 base ok v1 (xs++ys)->Below base w0 w1->W.grownBy w1 v.ownBlock->(v1.ownBlock=v.ownBlock∨∃b,v1.ownBlock=some b∧W.heap.size≤b)->Kc (a.put o.dst v1) w1) :
    if Region.wanted o (yielded ops a.tmps)=true then Oper.wp P o a W Kc Q else Kc (a.put o.dst undef) W:=by
 obtain⟨i0,hi,T⟩:=Option.map_eq_some_iff.1 G;simp only[Prod.mk.injEq]at T;obtain⟨ag,ah,ai⟩:=T;have hm:ys.length=m:=U.1;have hlen:xs.length+m≤140737488355328:=Nat.le_trans (Nat.le_mul_of_pos_right _ Z) hl;obtain⟨L,inner,n,hr⟩:=HO
 have y:∃v1 w1,(Builtin.append_ #[t,t] o.type #[v,.slice A m c]).run P W=.ok v1 w1∧d.R e w1 base ok v1 (xs++ys)∧W.grownBy w1 v.ownBlock∧(v1.ownBlock=v.ownBlock∨∃b,v1.ownBlock=some b∧W.heap.size≤b):=by
  rcases A with _|ad
  ·have h0:m=0:=by
    rcases Nat.eq_zero_or_pos m with h0|h0
    ·exact h0
    obtain⟨ad,h,_⟩:=U.2.2 h0;cases h
   subst h0;obtain rfl:ys=[]:=List.eq_nil_of_length_eq_zero hm;refine⟨v,W,?_,by rw[List.append_nil];exact⟨L,inner,n,hr⟩,World.grownBy.refl W _,.inl rfl⟩;rcases n.2 with⟨rfl,hn⟩|⟨g,cap,cur,rfl,_,_,I,_⟩
   ·simp[Builtin.append_,run_underlying ht,sizeOf,typeInfo,hi,Builtin.lenOf,Builtin.firstCells]
   simp[Builtin.append_,run_underlying ht,sizeOf,typeInfo,hi,Builtin.lenOf,Builtin.firstCells,I,storeCells]
  obtain⟨news,ab,I⟩:=CH.KC U;have D:Bi (d.M W base okp) d.sz ys news:=ab.FV (λp c hp=>X p c hp)
  have O:∀u∈news,u.oneCell'=true:=by
   intro u hu;obtain⟨q,E,rfl⟩:=List.mem_iff_getElem.1 hu;have ae:q / d.sz<ys.length:=by rw[Nat.div_lt_iff_lt_mul J];rw[<-D.1];exact E
   have hc:=D.2 (q / d.sz) _ (List.getElem?_eq_getElem ae);refine d.DV (d.CV hc) _ ?_;rw[List.mem_iff_getElem?];refine⟨q % d.sz,?_⟩;rw[List.getElem?_take,if_pos (Nat.mod_lt _ J),List.getElem?_drop,Nat.mul_comm,Nat.div_add_mod,List.getElem?_eq_getElem E]
  obtain⟨v1,w1,y,h2,hg,_,j⟩:=run_append_own_at (P:=P) W base t o.type e i0 z d.sz bytes ht hi ag ah ai hz J v xs.length inner n ad m c news (by rw[D.1,hm]) I O (by simp only[maxLen];omega) hl w
  have r:v1.ownBlock=v.ownBlock∨∃b,v1.ownBlock=some b∧W.heap.size≤b:=by
   rcases j with j|j
   ·exact .inl j
   exact .inr ⟨_,j,Nat.le_refl _⟩
  have aa:∀k,some k≠v.ownBlock->k<W.heap.size->some k≠v1.ownBlock:=by
   intro k l aj;rcases r with j|⟨b,Y,hle⟩
   ·rw[j];exact l
   rw[Y];intro he;injection he with he;omega
  have step:∀{q:α} {c:List Value} {o:Nat->Prop},d.M W base o q c->(∀k,o k->ok k∧some k≠v.ownBlock)->d.M w1 base (λk=>ok k∧some k≠v1.ownBlock) q c:=by intro q c o E K;have h1:=d.Dw (w1:=w1) (λk l=>hg.block k l.2.2.1 (K k l.1).2) (d.CX E);exact d.Ce (λk l=>⟨(K k l.1).1,aa k (K k l.1).2 l.2.2.1⟩) h1
  refine⟨v1,w1,y,⟨λk l=>?_,inner++news,by rw[List.length_append,hm];exact h2,H8 (hr.FV (λ_ _ E=>step E (λ_ l=>l))) (D.FV (λ_ _ E=>step E M))⟩,hg,r⟩;rcases r with j|⟨b,Y,hle⟩
  ·exact L k (j ▸ l)
  rw[Y]at l;injection l with l;exact B k (by omega)
 obtain⟨v1,w1,af,h1,hg,j⟩:=y;rw[if_pos hw];unfold Oper.wp execOp;simp only[K,resolve,invoke,builtin,Sem.run_bind,Sem.run_pure,Result.andThen_ok,List.map_toArray,List.map_cons,List.map_nil,hs,hx,af];exact h v1 w1 h1 (HB.grown hg w (Fu n)) hg j
end Kd
end
section
variable {P:Program} {tmps:Array Value} {w:World}
end
namespace Kd
section
variable {P:Program} {α:Type}
end
section
variable {P:Program} {ops:Array Oper} {rest:List Oper} {o:Oper} {a:Act} {Q:Exit->Act->World->Prop} {Kc:Act->World->Prop} {α:Type}
end
end Kd
end Go.Proofs.YtlhlpfnljglhoaaDoorW.PrintWords
end
section
namespace Go.Proofs.YtlhlpfnljglhoaaDoorW.Bc
section
variable {P:Program} {ops:Array Oper} {Q:Exit->Act->World->Prop} {md:Region.Mode} {S:World->Prop} {ds:List Nat}
def Region.Fh(md:Region.Mode)(ops:Array Oper)(i:Nat):Nat->Nat->Bool
  | 0,_=>false
  | fuel+1,d=>match ops[d]? with
    | some o=>o.after.any λe=>Region.binds md e&&(e.on==i || Region.Fh md ops i fuel e.on)
    | none=>false
def Region.G5(md:Region.Mode)(ops:Array Oper)(listed:Array Bool):Bool :=
  (List.range ops.size).all λj=>!listed.getD j false || match ops[j]? with
    | some o=>o.after.all λe=>!Region.binds md e || listed.getD e.on false
    | none=>true
def Region.Lm(md:Region.Mode)(ops:Array Oper)(listed:Array Bool)(ds:List Nat)(i:Nat):Bool :=
  ds.all λd=>listed.getD d true || Region.Fh md ops i ops.size d
def DW(md:Region.Mode)(ops:Array Oper)(listed:Array Bool):Prop :=
  ∀j a,ops[j]?=some a->listed.getD j false=true->∀e∈a.after,Region.binds md e=true->listed.getD e.on false=true
theorem Region.Jx{listed:Array Bool}(h:Region.G5 md ops listed=true):DW md ops listed:=by intro j g b hl e he d;have a:j<ops.size:=(Array.getElem?_eq_some_iff.1 b).1;have h1:=List.all_eq_true.1 h j (List.mem_range.2 a);simp only[hl,b,Bool.not_true,Bool.false_or]at h1;have c:=Array.all_eq_true_iff_forall_mem.1 h1 e he;simpa[d]using c
theorem DW.set{listed:Array Bool}{i:Nat}(h:DW md ops listed)(hi:i∈Region.ready md ops listed):DW md ops (listed.setIfInBounds i true):=by
 obtain⟨_,l,c,a⟩:=mem_ready.1 hi;intro j k g hl e he d;by_cases b:i=j
 ·subst b;have:k=l:=Option.some.inj (g.symm.trans c);subst this;exact getD_set_true (a e he d)
 rw[getD_set_ne false b]at hl;exact getD_set_true (h j k g hl e he d)
theorem Region.Hf{listed:Array Bool}{i:Nat}(c:DW md ops listed):∀(fuel d:Nat),Region.Fh md ops i fuel d=true->listed.getD d false=true->listed.getD i false=true
  | 0,_,h,_=>by simp[Region.Fh]at h
  | fuel+1,d,h,hl=>by
    unfold Region.Fh at h
    cases b:ops[d]? with
    | none=>rw[b]at h;simp at h
    | some o =>
      rw[b]at h
      obtain⟨e,he,h1⟩:=Array.any_eq_true'.1 h
      simp only[Bool.and_eq_true,Bool.or_eq_true,beq_iff_eq]at h1
      have hle:=c d o b hl e he h1.1
      rcases h1.2 with a|a
      · rw[<-a];exact hle
      · exact Region.Hf c fuel e.on a hle
theorem Region.Ia{listed:Array Bool}{i d fuel:Nat}(k:DW md ops listed)(c:Region.Fh md ops i fuel d=true)(a:listed.getD i true=false):d∉Region.ready md ops listed:=by
 intro l;obtain⟨_,o,m,b⟩:=mem_ready.1 l
 have hi:listed.getD i false=true:=by
  cases fuel with
  | zero=>simp[Region.Fh]at c
  | succ n =>
    unfold Region.Fh at c
    rw[m]at c
    obtain⟨e,he,h1⟩:=Array.any_eq_true'.1 c
    simp only[Bool.and_eq_true,Bool.or_eq_true,beq_iff_eq]at h1
    have hle:=b e he h1.1
    rcases h1.2 with j|j
    · rw[<-j];exact hle
    · exact Region.Hf k n e.on j hle
 rcases Nat.lt_or_ge i listed.size with g|g
 ·simp[g]at a hi;rw[a]at hi;cases hi
 simp[Array.getElem?_eq_none g]at a
def Ax(P:Program)(md:Region.Mode)(ops:Array Oper)(Q:Exit->Act->World->Prop)(S:World->Prop)(ds:List Nat):Nat->Array Bool->Act->World->Prop
  | 0,listed,a,w=>Region.ready md ops listed=[]∧Q .normal a w
  | fuel+1,listed,a,w =>
    (Region.ready md ops listed=[]->Q .normal a w) ∧
    ∀i∈Region.ready md ops listed,wpOp P ops Q i (λa' w'=>(i∉ds->S w->S w')∧Ax P md ops Q S ds fuel (listed.setIfInBounds i true) a' w') a w
theorem Gy:∀(fuel:Nat) (listed:Array Bool) (a:Act) (w:World),Ax P md ops Q S ds fuel listed a w->wpAny P md ops Q fuel listed a w
  | 0,_,_,_,h=>h
  | fuel+1,_,_,_,h=>⟨h.1,λi hi=>wpOp_mono (λa' w' b=>Gy fuel _ a' w' b.2) (h.2 i hi)⟩
theorem Ic{i:Nat}{z:Oper}{v:Value}(hi:ops[i]?=some z)(u:∀(j:Nat) (o:Oper) cs b,ops[j]?=some o->o.op≠.select cs b)
    (X:∀c a w,Q (.panic c) (a.put z.dst v) w->Q (.panic c) a w)(n:Nat) :
    ∀(fuel:Nat) (listed:Array Bool) (a:Act) (w:World),
      (∀j A,ops[j]?=some A->j≠i->listed.getD j true=false->(∀e∈A.after,Region.binds md e=true->e.on≠i)->z.apart ops A=true) ->
      DW md ops listed->(∀d∈ds,listed.getD d true=false->Region.Fh md ops i n d=true) ->
      i∈Region.ready md ops listed->YieldsIf P ops S z v a->S w ->
      Ax P md ops Q S ds fuel (listed.setIfInBounds i true) (a.put z.dst v) w->Ax P md ops Q S ds (fuel+1) listed a w:=by
 intro fuel;induction fuel with
 | zero =>
   intro listed a w _ _ _ y I G H
   refine⟨λh=>(by rw[h]at y;cases y),λj B=>?_⟩
   by_cases g:j=i
   · subst g;exact I.wpOp hi G ⟨λ_ h=>h,H⟩
   · have:=ready_mono B g
     rw[H.1]at this
     cases this
 | succ fuel ih =>
   intro listed a w m T U y I G H
   refine⟨λh=>(by rw[h]at y;cases y),λj B=>?_⟩
   by_cases g:j=i
   · subst g;exact I.wpOp hi G ⟨λ_ h=>h,H⟩
   · have h1:=H.2 j (ready_mono B g)
     obtain⟨l,A,x,D⟩:=mem_ready.1 B
     have p:=(mem_ready.1 y).1
     have E:∀e∈A.after,Region.binds md e=true->e.on≠i:=λe he Y heq=>by
       have h1:=D e he Y
       rw[heq]at h1
       rcases Nat.lt_or_ge i listed.size with J|J
       · simp[J]at p h1;rw[p]at h1;cases h1
       · simp[Array.getElem?_eq_none J]at h1
     have L:j∉ds:=λhm=>Region.Ia T (U j hm l) p B
     have W:=wpOp_putIf x (m j A x g l E) (λcs b=>u i z cs b hi) (λcs b=>u j A cs b x) X I h1
     have t:∀k ok,ops[k]?=some ok->k≠i->(listed.setIfInBounds j true).getD k true=false ->
         (∀e∈ok.after,Region.binds md e=true->e.on≠i)->z.apart ops ok=true:=λk ok Z M r O=>by
       refine m k ok Z M ?_ O
       by_cases q:j=k
       · subst q;exact l
       · rw[getD_set_ne true q]at r;exact r
     have K:∀d∈ds,(listed.setIfInBounds j true).getD d true=false->Region.Fh md ops i n d=true:=λd hm r=>by
       refine U d hm ?_
       by_cases q:j=d
       · subst q;exact l
       · rw[getD_set_ne true q]at r;exact r
     refine wpOp_mono (λa' w' h3=>⟨h3.2.1,ih (listed.setIfInBounds j true) a' w' t (T.set B) K (ready_mono y (Ne.symm g)) h3.1 (h3.2.1 L G) ?_⟩) W
     rw[Array.setIfInBounds_comm _ _ g]
     exact h3.2.2
theorem IX{i:Nat}{t:Oper}{v:Value}(hi:ops[i]?=some t)(p:∀(j:Nat) (o:Oper) cs b,ops[j]?=some o->o.op≠.select cs b)
    (K:∀c a w,Q (.panic c) (a.put t.dst v) w->Q (.panic c) a w) :
    ∀(fuel:Nat) (listed:Array Bool) (a:Act) (w:World),
      (∀j u,ops[j]?=some u->j≠i->listed.getD j true=false->(∀e∈u.after,Region.binds md e=true->e.on≠i)->t.apart ops u=true) ->
      i∈Region.ready md ops listed->Yields P ops t v a ->
      Ax P md ops Q S ds fuel (listed.setIfInBounds i true) (a.put t.dst v) w->Ax P md ops Q S ds (fuel+1) listed a w:=by
 intro fuel;induction fuel with
 | zero =>
   intro listed a w _ r D H
   refine⟨λh=>(by rw[h]at r;cases r),λj B=>?_⟩
   by_cases d:j=i
   · subst d;exact(D.yieldsIf (S:=λ_=>True)).wpOp hi trivial ⟨λ_ h=>h,H⟩
   · have:=ready_mono B d
     rw[H.1]at this
     cases this
 | succ fuel O =>
   intro listed a w g r D H
   refine⟨λh=>(by rw[h]at r;cases r),λj B=>?_⟩
   by_cases d:j=i
   · subst d;exact(D.yieldsIf (S:=λ_=>True)).wpOp hi trivial ⟨λ_ h=>h,H⟩
   · have h1:=H.2 j (ready_mono B d)
     obtain⟨n,u,q,x⟩:=mem_ready.1 B
     have m:=(mem_ready.1 r).1
     have z:∀e∈u.after,Region.binds md e=true->e.on≠i:=λe he L heq=>by
       have h1:=x e he L
       rw[heq]at h1
       rcases Nat.lt_or_ge i listed.size with E|E
       · simp[E]at m h1;rw[m]at h1;cases h1
       · simp[Array.getElem?_eq_none E]at h1
     have J:=wpOp_put q (g j u q d n z) (λcs b=>p i t cs b hi) (λcs b=>p j u cs b q) K D h1
     have l:∀k ok,ops[k]?=some ok->k≠i->(listed.setIfInBounds j true).getD k true=false ->
         (∀e∈ok.after,Region.binds md e=true->e.on≠i)->t.apart ops ok=true:=λk ok M G A I=>by
       refine g k ok M G ?_ I
       by_cases y:j=k
       · subst y;exact n
       · rw[getD_set_ne true y]at A;exact A
     refine wpOp_mono (λa' w' h3=>⟨h3.2.1,O (listed.setIfInBounds j true) a' w' l (ready_mono r (Ne.symm d)) h3.1 ?_⟩) J
     rw[Array.setIfInBounds_comm _ _ d]
     exact h3.2.2
theorem ID{i:Nat}{b:Oper}{v:Value}{fuel:Nat}{listed:Array Bool}{a:Act}{w:World}(hi:ops[i]?=some b)
    (hs:Region.noSelect ops=true)(l:Region.free md ops listed i=true)(m:(Region.ready md ops listed).contains i=true)
    (k:Region.G5 md ops listed=true)(hl:Region.Lm md ops listed ds i=true)
    (g:∀c a w,Q (.panic c) (a.put b.dst v) w->Q (.panic c) a w)(n:YieldsIf P ops S b v a)(j:S w)
    (h:Ax P md ops Q S ds fuel (listed.setIfInBounds i true) (a.put b.dst v) w):Ax P md ops Q S ds (fuel+1) listed a w :=
  Ic hi (Region.noSelect_spec hs) g ops.size fuel listed a w (Region.free_spec hi l) (Region.Jx k)
    (λd hm e=>by have:=List.all_eq_true.1 hl d hm;rw[e]at this;simpa using this) (by simpa using m) n j h
theorem IW{c:List Nat}{fuel:Nat}{listed:Array Bool}{a:Act}{w:World}(d:Region.ready md ops listed=c)(b:c≠[])
    (h:∀i∈c,wpOp P ops Q i (λa' w'=>(i∉ds->S w->S w')∧Ax P md ops Q S ds fuel (listed.setIfInBounds i true) a' w') a w):Ax P md ops Q S ds (fuel+1) listed a w :=
  ⟨λh0=>absurd (d ▸ h0) b,d ▸ h⟩
theorem IC{listed:Array Bool}{a:Act}{w:World}(b:Region.ready md ops listed=[])(h:Q .normal a w) :
    ∀fuel,Ax P md ops Q S ds fuel listed a w
  | 0=>⟨b,h⟩
  | _+1=>⟨λ_=>h,by rw[b];simp⟩
theorem IE{id:Nat}{a:Act}{w:World}(hm:P.follows .mixedOrders=true)
    (h:Ax P .any ops Q S ds ops.size (Array.replicate ops.size false) a { w with drawn:=w.drawn+1 }):(Code.region id ops true).wp P Q a w :=
  wp_region_any hm (Gy _ _ _ _ h)
end
section
variable {P:Program} {ops:Array Oper} {Q:Exit->Act->World->Prop} {md:Region.Mode} {S:World->Prop} {ds:List Nat}
def C0(P:Program)(md:Region.Mode)(ops:Array Oper)(Q:Exit->Act->World->Prop)(S:World->Prop)(ds:List Nat)(fuel:Nat)(listed:Array Bool)(a:Act)(w:World)(b:List Nat):Prop :=
  ∀i∈b,wpOp P ops Q i (λa' w'=>(i∉ds->S w->S w')∧Ax P md ops Q S ds fuel (listed.setIfInBounds i true) a' w') a w
theorem C0.nil{fuel:Nat}{listed:Array Bool}{a:Act}{w:World}:C0 P md ops Q S ds fuel listed a w []:=λ_ h=>by cases h
theorem C0.cons{fuel:Nat}{listed:Array Bool}{a:Act}{w:World}{i:Nat}{o:Oper}{e:List Nat}(k:ops[i]?=some o)(l:i∉ds)
    (h:∀b:Act->World->Prop,Shut (∀a w,S w->(S w->Ax P md ops Q S ds fuel (listed.setIfInBounds i true) a w)->b a w)->if Region.wanted o (yielded ops a.tmps)=true then Oper.wp P o a w b Q else b (a.put o.dst undef) w)
    (hs:C0 P md ops Q S ds fuel listed a w e):C0 P md ops Q S ds fuel listed a w (i::e):=λj c=>by
  rcases List.mem_cons.1 c with rfl|c
  · exact wpOp_step k (λb hK=>h b (λa w d g=>hK a w ⟨λ_ _=>d,g d⟩))
  · exact hs j c
theorem C0.LL{fuel:Nat}{listed:Array Bool}{a:Act}{w:World}{i:Nat}{o:Oper}{d:List Nat}(l:ops[i]?=some o)(g:i∈ds)
    (h:∀b:Act->World->Prop,Shut (∀a w,Ax P md ops Q S ds fuel (listed.setIfInBounds i true) a w->b a w)->if Region.wanted o (yielded ops a.tmps)=true then Oper.wp P o a w b Q else b (a.put o.dst undef) w)
    (hs:C0 P md ops Q S ds fuel listed a w d):C0 P md ops Q S ds fuel listed a w (i::d):=λj c=>by
  rcases List.mem_cons.1 c with rfl|c
  · exact wpOp_step l (λb hK=>h b (λa w e=>hK a w ⟨λk=>absurd g k,e⟩))
  · exact hs j c
theorem Fi{c:List Nat}{fuel:Nat}{listed:Array Bool}{a:Act}{w:World}(d:Region.ready md ops listed=c)(b:c≠[])
    (h:C0 P md ops Q S ds fuel listed a w c):Ax P md ops Q S ds (fuel+1) listed a w:=IW d b h
theorem Ch{id n:Nat}{a:Act}{w:World}(l:Array Bool)(hm:P.follows .mixedOrders=true)(c:ops.size=n)(hl:Array.replicate n false=l)(b:S w.drew)
    (h:S w.drew->Ax P .any ops Q S ds n l a w.drew):(Code.region id ops true).wp P Q a w:=by subst c;subst hl;exact IE hm (h b)
def E1(md:Region.Mode)(ops:Array Oper)(ds:List Nat)(l l':Array Bool)(i:Nat):Bool :=
  Region.noSelect ops&&Region.free md ops l i&&(Region.ready md ops l).contains i&&Region.G5 md ops l&&Region.Lm md ops l ds i&&(l.setIfInBounds i true==l')
theorem Fk{i:Nat}{N:Option Tmp}{b:Oper}{v:Value}{fuel:Nat}{l:Array Bool}{a:Act}{w:World}(l':Array Bool)(hi:ops[i]?=some b)(hN:b.dst=N)(d:E1 md ops ds l l' i=true)
    (k:∀c a w,Q (.panic c) (a.put b.dst v) w->Q (.panic c) a w)(o:YieldsIf P ops S b v a)(m:S w){a':Act}(n:a.put N v=a')
    (h:Ax P md ops Q S ds fuel l' a' w):Ax P md ops Q S ds (fuel+1) l a w:=by subst n;subst hN;simp only[E1,Bool.and_eq_true,beq_iff_eq]at d;obtain⟨⟨⟨⟨⟨h1,e⟩,h3⟩,h4⟩,g⟩,j⟩:=d;subst j;exact ID hi h1 e h3 h4 g k o m h
def Ly(md:Region.Mode)(ops:Array Oper)(l l':Array Bool)(i:Nat):Bool :=
  Region.noSelect ops&&Region.free md ops l i&&(Region.ready md ops l).contains i&&(l.setIfInBounds i true==l')
theorem Ox{i:Nat}{N:Option Tmp}{b:Oper}{v:Value}{fuel:Nat}{l:Array Bool}{a:Act}{w:World}(l':Array Bool)(hi:ops[i]?=some b)(hN:b.dst=N)(d:Ly md ops l l' i=true)
    (j:∀c a w,Q (.panic c) (a.put b.dst v) w->Q (.panic c) a w)(m:Yields P ops b v a){a':Act}(k:a.put N v=a')
    (h:Ax P md ops Q S ds fuel l' a' w):Ax P md ops Q S ds (fuel+1) l a w:=by subst k;subst hN;simp only[Ly,Bool.and_eq_true,beq_iff_eq]at d;obtain⟨⟨⟨h1,e⟩,h3⟩,g⟩:=d;subst g;exact IX hi (Region.noSelect_spec h1) j fuel l a w (Region.free_spec hi e) (by simpa using h3) m h
def GR(md:Region.Mode)(ops:Array Oper)(l l':Array Bool)(i:Nat):Bool:=(Region.ready md ops l==[i])&&(l.setIfInBounds i true==l')
theorem Qe{i:Nat}{N:Option Tmp}{b:Oper}{fuel:Nat}{l:Array Bool}{a:Act}{w:World}(l':Array Bool)(hi:ops[i]?=some b)(hN:b.dst=N)(c:GR md ops l l' i=true)(e:i∉ds)
    (h:∀K:Act->World->Prop,Shut (∀a' w',S w'->(S w'->Ax P md ops Q S ds fuel l' a' w')->K a' w')->if Region.wanted b (yielded ops a.tmps)=true then Oper.wp P b a w K Q else K (a.put N undef) w) :
    Ax P md ops Q S ds (fuel+1) l a w:=by subst hN;simp only[GR,Bool.and_eq_true,beq_iff_eq]at c;obtain⟨h1,d⟩:=c;subst d;exact Fi h1 (by simp) (C0.cons hi e (λK hK=>h K hK) C0.nil)
theorem EX{i:Nat}{N:Option Tmp}{b:Oper}{fuel:Nat}{l:Array Bool}{a:Act}{w:World}(l':Array Bool)(hi:ops[i]?=some b)(hN:b.dst=N)(c:GR md ops l l' i=true)(e:i∈ds)
    (h:∀K:Act->World->Prop,Shut (∀a' w',Ax P md ops Q S ds fuel l' a' w'->K a' w')->if Region.wanted b (yielded ops a.tmps)=true then Oper.wp P b a w K Q else K (a.put N undef) w) :
    Ax P md ops Q S ds (fuel+1) l a w:=by subst hN;simp only[GR,Bool.and_eq_true,beq_iff_eq]at c;obtain⟨h1,d⟩:=c;subst d;exact Fi h1 (by simp) (C0.LL hi e (λK hK=>h K hK) C0.nil)
theorem CT{l:Array Bool}{a:Act}{w:World}{n:Nat}(b:(Region.ready md ops l==[])=true)(h:Q .normal a w):Ax P md ops Q S ds n l a w:=IC (by simpa using b) h n
theorem KT{i j:Nat}{Ni Nj:Option Tmp}{b c:Oper}{fuel:Nat}{l:Array Bool}{a:Act}{w:World}(li lj:Array Bool)(hi:ops[i]?=some b)(p:ops[j]?=some c)(d:b.dst=Ni)(e:c.dst=Nj)
    (m:(Region.ready md ops l==[i,j]&&l.setIfInBounds i true==li&&l.setIfInBounds j true==lj)=true)(g:i∉ds)(k:j∉ds)
    (h1:∀K:Act->World->Prop,Shut (∀a' w',S w'->(S w'->Ax P md ops Q S ds fuel li a' w')->K a' w')->if Region.wanted b (yielded ops a.tmps)=true then Oper.wp P b a w K Q else K (a.put Ni undef) w)
    (n:∀K:Act->World->Prop,Shut (∀a' w',S w'->(S w'->Ax P md ops Q S ds fuel lj a' w')->K a' w')->if Region.wanted c (yielded ops a.tmps)=true then Oper.wp P c a w K Q else K (a.put Nj undef) w) :
    Ax P md ops Q S ds (fuel+1) l a w:=by subst d;subst e;simp only[Bool.and_eq_true,beq_iff_eq]at m;obtain⟨⟨h3,h4⟩,o⟩:=m;subst h4;subst o;exact Fi h3 (by simp) (C0.cons hi g (λK hK=>h1 K hK) (C0.cons p k (λK hK=>n K hK) C0.nil))
def Eh:Act->List (Tmp×Value)->Act
  | a,[]=>a
  | a,(n,v)::r=>Eh (a.put (some n) v) r
theorem Lk{σ:Type}{fuel:Nat}{l:Array Bool}{a:Act}{w:World}(b:Nat)(l':Array Bool)(d:σ->List (Tmp×Value))(F:σ->World->Prop)
    (c:∀s w',F s w'->Ax P md ops Q S ds b l' (Eh a (d s)) w')
    (h:(∀s w',F s w'->Ax P md ops Q S ds b l' (Eh a (d s)) w')->Ax P md ops Q S ds fuel l a w):Ax P md ops Q S ds fuel l a w:=h c
theorem Fj{fuel:Nat}{l:Array Bool}{a a':Act}{w:World}(b:a=a')(h:Ax P md ops Q S ds fuel l a' w):Ax P md ops Q S ds fuel l a w:=by subst b;exact h
theorem P1{c:Oper}{N:Option Tmp}{a:Act}{w:World}{K:Act->World->Prop}(f:FuncId)(args:Array Value)(hw:Region.wanted c (yielded ops a.tmps)=true)(hN:c.dst=N)(b:(execOp a.eval c).run P w=.ok (.enter f args) w)
    (h:Calls P f args w λe w'=>∃v,e=.returned v∧K (a.put N v) w'):if Region.wanted c (yielded ops a.tmps)=true then Oper.wp P c a w K Q else K (a.put N undef) w:=by
 rw[if_pos hw];subst hN;unfold Oper.wp;rw[b,Oper.upon_enter];refine h.mono λe i d=>?_
 obtain⟨v,rfl,g⟩:=d;exact g
theorem Le{f:FuncId}{fn:Func}(e:P.funcs[f]?=some fn)(a:(fn.name == "runtime.NumGoroutine")=false)(b:fn.body.isSome=true)(args:Array Value)(w:World):(callFunc f args).run P w=.ok (.enter f args) w:=by
 have h1:fn.name ≠ "runtime.NumGoroutine" := by simpa using a
 obtain⟨c,d⟩:=Option.isSome_iff_exists.1 b;simp[callFunc,e,h1,d]
theorem Dp{g:Oper}{N:Option Tmp}{a:Act}{w:World}{K:Act->World->Prop}{f:FuncId}{fn:Func}{d:Array Operand}{l:Array TypeId}(k:P.funcs[f]?=some fn)(c:(fn.name == "runtime.NumGoroutine")=false)(j:fn.body.isSome=true)(args:Array Value)
    (hw:Region.wanted g (yielded ops a.tmps)=true)(hN:g.dst=N)(i:g.op=.call { callee:=.value (.func f),args:=d,argTypes:=l })(b:d.map a.eval=args)
    (h:Calls P f args w λe w'=>∃v,e=.returned v∧K (a.put N v) w'):if Region.wanted g (yielded ops a.tmps)=true then Oper.wp P g a w K Q else K (a.put N undef) w:=by refine P1 f args hw hN ?_ h;have he:=Le k c j args w;unfold execOp;simp[i,resolve,Deferred.ofValue,invoke,Act.eval,b,he]
theorem FH{rest:List Oper}{i:Oper}{a:Act}{w:World}(N:Option Tmp)(l:i.dst=N)(hg:i.guard=none){f:FuncId}{fn:Func}{d:Array Operand}{p:Array TypeId}(m:P.funcs[f]?=some fn)(c:(fn.name == "runtime.NumGoroutine")=false)(k:fn.body.isSome=true)(args:Array Value)
    (j:i.op=.call { callee:=.value (.func f),args:=d,argTypes:=p })(b:d.map a.eval=args)
    (h:Calls P f args w λe w'=>∃v,e=.returned v∧wpList P ops Q rest (a.put N v) w'):wpList P ops Q (i::rest) a w:=by
 refine wpList_plain hg λK hK=>?_
 have he:=Le m c k args w;have g:(execOp a.eval i).run P w=.ok (.enter f args) w:=by unfold execOp;simp[j,resolve,Deferred.ofValue,invoke,Act.eval,b,he]
 unfold Oper.wp;rw[g,Oper.upon_enter];refine h.mono λe q n=>?_
 obtain⟨v,rfl,o⟩:=n;subst l;exact hK _ _ o
theorem F4{c:Oper}{N:Option Tmp}{a:Act}{w w1:World}{v:Value}{K:Act->World->Prop}(hw:Region.wanted c (yielded ops a.tmps)=true)(hN:c.dst=N)(b:(execOp a.eval c).run P w=.ok (.value v) w1)
    (h:K (a.put N v) w1):if Region.wanted c (yielded ops a.tmps)=true then Oper.wp P c a w K Q else K (a.put N undef) w:=by rw[if_pos hw];subst hN;unfold Oper.wp;rw[b];exact h
theorem E4{b:Oper}{a:Act}{w w1:World}{K:Act->World->Prop}(hw:Region.wanted b (yielded ops a.tmps)=true)(hN:b.dst=none)(c:(execOp a.eval b).run P w=.ok .skip w1)
    (h:K a w1):if Region.wanted b (yielded ops a.tmps)=true then Oper.wp P b a w K Q else K (a.put none undef) w:=by rw[if_pos hw];unfold Oper.wp;rw[c];show K (a.put b.dst undef) w1;rw[hN];exact h
theorem Cp(n:Int):IntKind.i64.wrap n=Go.RowKit.wrap64 n:=by unfold Go.RowKit.wrap64;exact IntKind.wrap_i64 n
theorem Cv(n:Int):IntKind.i32.wrap n=Go.RowKit.wrap32 n:=by unfold Go.RowKit.wrap32;exact IntKind.wrap_i32 n
end
end Go.Proofs.YtlhlpfnljglhoaaDoorW.Bc
end
section
namespace Go.Proofs.YtlhlpfnljglhoaaDoorW.PrintWords
open Go.RowKit
namespace Kd
def tag{α:Type}(f:Nat->Nat)(d:Kd α):Kd (α×Nat) where
  sz:=d.sz
  E:=d.E
  K:=λw x cs=>d.K w x.1 cs
  M:=λw base ok x cs=>d.M w base (λk=>ok k∧f k=x.2) x.1 cs
  D_:=λh=>d.D_ h
  DV:=λh=>d.DV h
  DR:=λb h=>d.DR b h
  CV:=λh=>d.CV h
  Ce:=λc h=>d.Ce (λk a=>⟨c k a.1,a.2⟩) h
  CX:=λh=>d.Ce (λ_ a=>⟨⟨a.1.1,a.2⟩,a.1.2⟩) (d.CX h)
  Dw:=λhm h=>d.Dw (λk a=>hm k a.1) h
  DS:=λb h=>d.DS b h
def bare{α:Type}(d:Kd α):Kd α where
  sz:=d.sz
  E:=d.E
  K:=d.K
  M:=λw base _ x cs=>d.M w base (λ_=>False) x cs
  D_:=λh=>d.D_ h
  DV:=λh=>d.DV h
  DR:=λa h=>d.DR a h
  CV:=λh=>d.CV h
  Ce:=λ_ h=>h
  CX:=λh=>h
  Dw:=λ_ h=>d.Dw (λ_ b=>b.elim) h
  DS:=λa h=>d.DS a h
def raw(sz:Nat):Kd (List Value) where
  sz:=sz
  E:=[]
  K:=λ_ x cs=>cs=x∧cs.length=sz∧∀u∈cs,u.oneCell'=true
  M:=λ_ _ _ x cs=>cs=x∧cs.length=sz∧∀u∈cs,u.oneCell'=true
  D_:=λh=>h.2.1
  DV:=λh=>h.2.2
  DR:=λ_ h=>h
  CV:=λh=>h
  Ce:=λ_ h=>h
  CX:=λh=>h
  Dw:=λ_ h=>h
  DS:=λ_ h=>h
def S{α:Type}(d:Kd α)(e:Nat)(w:World)(base:Nat)(ok:Nat->Prop)(v:Value)(xs:List α):Prop:=∃f,(tag f d).R e w base ok v xs.zipIdx
section
variable {α β:Type} {d:Kd α} {d':Kd β} {e e':Nat} {w w1 W:World} {base b:Nat} {ok Fc okv oku:Nat->Prop} {u v:Value} {xs:List α} {ys:List β}
theorem Gf{xs:List α}{j:Nat}{p:α}(h:xs[j]?=some p):xs.zipIdx[j]?=some (p,j):=by rw[List.getElem?_zipIdx,h,Nat.zero_add];rfl
theorem Lx(h:S d e w base ok v xs):d.R e w base ok v xs:=by obtain⟨f,h0,inner,a,b⟩:=h;rw[List.length_zipIdx]at a;exact⟨h0,inner,a,by have:=b.1;rw[List.length_zipIdx]at this;exact this,λj p c=>d.Ce (λ_ g=>g.1) (b.2 j (p,j) (Gf c))⟩
theorem OW{ad:Addr}{n cap:Nat}(h:d.R e w base ok (.slice (some ad) n cap) xs):∃g,ad=⟨g,0,none⟩:=by
 obtain⟨_,inner,i,j⟩:=h;rcases i.2 with⟨b,_⟩|⟨g,c,cur,b,_⟩
 ·cases b
 injection b with a _ _;injection a with a;exact⟨g,a⟩
theorem OV{ad:Addr}{n cap:Nat}(h:d.R e W base ok (.slice (some ad) n cap) xs)(z:α)(i:Int)(h0:0≤i)(h1:i<n) :
    ∃c,c.length=d.sz∧d.M W base (λk=>ok k∧some k≠(Value.slice (some ad) n cap).ownBlock) (xs.getD i.toNat z) c∧∀j u,c[j]?=some u->W.cell? (ad.add (i.toNat*d.sz+j))=some u:=by obtain⟨g,rfl⟩:=OW h;obtain⟨c,b,m,a,_⟩:=GG h z i h0 h1;refine⟨c,b,d.Ce (λk l=>⟨l.1,λhe=>l.2 (by simpa[Value.ownBlock]using he)⟩) m,λj u hu=>?_⟩;rw[O8,Nat.zero_add];exact a j u hu
theorem Fx(hE:d.E=[])(h:d.R e w base ok v xs):d.R e w base (λk=>some k=v.ownBlock) v xs:=by obtain⟨h0,inner,g,j⟩:=h;refine⟨λk a=>a.symm,inner,g,j.FV (λp c i=>d.Ce (λk a=>?_) (d.CX i))⟩;obtain⟨_,_,_,q,b,_⟩:=a;rw[hE]at b;cases b
theorem K2(d:Kd α)(e:Nat)(w:World)(base:Nat)(ok:Nat->Prop):S d e w base ok (.slice none 0 0) []:=⟨λ_=>0,JT _ _ _ _ _⟩
theorem Cu(h:S d e w base ok v xs)(a:∀k,ok k->Fc k):S d e w base Fc v xs:=by obtain⟨f,h⟩:=h;exact⟨f,Aj h a⟩
theorem FR(h:S d e w base ok v xs):S d e w base (λk=>ok k∧base≤k∧k<w.heap.size∧∃q,q∈e::d.E∧∃cells,w.heap[k]?=some (.cells cells q (0,0))) v xs:=by obtain⟨f,h⟩:=h;exact⟨f,CO h⟩
theorem O5(h:S d e w base ok v xs)(hm:∀k,ok k->w1.heap[k]?=w.heap[k]?):S d e w1 base ok v xs:=by obtain⟨f,h⟩:=h;exact⟨f,Hr h hm⟩
theorem DX{Em:Nat}(h:S d e w base ok v xs)(a:Em≤base):S d e w Em ok v xs:=by obtain⟨f,h⟩:=h;exact⟨f,AN h a⟩
theorem Ku(h:S d e w base ok v xs)(hm:∀k,ok k->k<w.heap.size->w1.heap[k]?=w.heap[k]?):S d e w1 base ok v xs :=
  Cu (O5 (FR h) (λk a=>hm k a.1 a.2.2.1)) (λ_ a=>a.1)
theorem Fy(h:S d e w base ok v xs)(a:Below w.heap.size w w1):S d e w1 base ok v xs:=Ku h (λk _ b=>a.block k b)
theorem De(h:S d e w base ok v xs):S d e w.drew base ok v xs:=Fy h (EN (Below.refl _ _))
theorem BS(h:S d e w base ok v xs){p:Addr}(a:∀k,ok k->k≠p.block)(u:Value):S d e (w.setCell p u) base ok v xs:=Ku h (λk b _=>Below.heap_setCell w p u k (a k b))
theorem DY(h:S d e w base ok v xs){g t:Nat}{cells:Array Value}(a:w.heap[g]?=some (.cells cells t (0,0)))(b:∀q,q∈e::d.E->q≠t):S d e w base (λk=>ok k∧k≠g) v xs:=by obtain⟨f,h⟩:=h;exact⟨f,AF h a b⟩
theorem Dg(h:S d e w base ok v xs):∀k,v.ownBlock=some k->∃cells,w.heap[k]?=some (.cells cells e (0,0)):=C9 (Lx h)
theorem Ml(h:S d e w base ok v xs):∀k,v.ownBlock=some k->base≤k:=BO (Lx h)
theorem Jp(h:S d e W base ok u xs)(a:∀k,v.ownBlock=some k->∃cells,W.heap[k]?=some (.cells cells e' (0,0)))(b:∀q,q∈e::d.E->q≠e')(hg:W.grownBy w1 v.ownBlock):S d e w1 base ok u xs:=by obtain⟨f,h⟩:=h;exact⟨f,Df h a b hg⟩
theorem JV(h:S d e W base ok u xs)(a:∀k,v.ownBlock=some k->∃cells,W.heap[k]?=some (.cells cells e' (0,0)))(b:∀q,q∈e::d.E->q≠e'):S d e W base (λk=>ok k∧some k≠v.ownBlock) u xs:=by obtain⟨f,h⟩:=h;exact⟨f,Dd h a b⟩
theorem G0(h:S d e W base ok u xs)(a:∀k,v.ownBlock=some k->W.heap.size≤k)(b:Below W.heap.size W w1):S d e w1 base (λk=>ok k∧some k≠v.ownBlock) u xs:=by obtain⟨f,h⟩:=h;exact⟨f,CB h a b⟩
theorem Mn(h:S d e w1 W.heap.size ok v xs)(a:∀k,u.ownBlock=some k->k<W.heap.size):S d e w1 W.heap.size (λk=>ok k∧some k≠u.ownBlock) v xs:=by obtain⟨f,h⟩:=h;exact⟨f,DC h a⟩
theorem KZ{v1:Value}(h:S d e W base (λk=>ok k∧some k≠v.ownBlock) u xs)(hg:W.grownBy w1 v.ownBlock)(a:v1.ownBlock=v.ownBlock∨∃b,v1.ownBlock=some b∧W.heap.size≤b):S d e w1 base (λk=>ok k∧some k≠v1.ownBlock) u xs:=by obtain⟨f,h⟩:=h;exact⟨f,Ei h hg a⟩
theorem Oj(h:S d e W base ok u xs)(b:Below W.heap.size W w1):S d e w1 base (λk=>ok k∧k<W.heap.size) u xs :=
  Cu (Fy (FR h) b) (λ_ a=>⟨a.1,a.2.2.1⟩)
theorem O1(h:(bare d).R e w base ok v xs):S d e w base ok v xs:=by obtain⟨h0,inner,g,b⟩:=h;refine⟨λ_=>0,h0,inner,by rw[List.length_zipIdx];exact g,by rw[List.length_zipIdx];exact b.1,λj p a=>?_⟩;rw[List.getElem?_zipIdx,Nat.zero_add]at a;obtain⟨x,i,rfl⟩:=Option.map_eq_some_iff.1 a;exact d.Ce (λ_ c=>c.elim) (b.2 j x i)
theorem PO{f b:Nat->Nat}{zs:List (α×Nat)}(h:(tag f d).R e w base ok v zs)(g:∀k,ok k->k<w.heap.size->b k=f k):(tag b d).R e w base ok v zs:=by obtain⟨h0,inner,l,c⟩:=CO h;exact⟨λk a=>(h0 k a).1,inner,l,c.1,λj p i=>d.Ce (λk a=>⟨⟨a.1.1.1,a.1.2⟩,(g k a.1.1.1 a.1.1.2.2.1).trans a.2⟩) (c.2 j p i)⟩
end
section
variable {α β:Type} {d:Kd α} {d':Kd β} {e e' g:Nat} {w w1 W:World} {base b:Nat} {ok Fc okv oku:Nat->Prop} {u v:Value} {xs:List α} {ys:List β}
theorem JY(h:S d e w base ok v xs){t:Nat}{cells:Array Value}(a:w.heap[g]?=some (.cells cells t (0,0)))(b:e≠t):some g≠v.ownBlock:=Ez (Lx h) a b
theorem Mk(h:S d e w base ok v xs)(a:∀k,ok k->k≠g):some g≠v.ownBlock:=Hq (Lx h) a
theorem Kt(h:S d e w base ok v xs)(a:0<xs.length):∃g cap,v=.slice (some ⟨g,0,none⟩) xs.length cap∧base≤g∧g<w.heap.size∧∃cells,w.heap[g]?=some (.cells cells e (0,0)):=Im (Lx h) a
theorem Ej(h:S d e w base ok v xs):∃A c,v=.slice A xs.length c:=Bg (Lx h)
theorem Mo{A:Option Addr}{n c:Nat}(h:S d e w base ok (.slice A n c) xs):n=xs.length∧n≤c∧d.C w A xs.length xs:=AD (Lx h)
theorem JX(h:S d e w base ok v xs)(a:Nat)(c:w.heap.size≤a):S d e w base (λk=>ok k∧k≠a) v xs:=Cu (FR h) (λk b=>⟨b.1,by have:=b.2.2.1;omega⟩)
theorem Jq{N:Nat}(h:S d e w1 base (λk=>ok k∧k<N) u xs)(a:∀k,v.ownBlock=some k->N≤k):S d e w1 base (λk=>(ok k∧some k≠v.ownBlock)∧k<N) u xs :=
  Cu h (λk b=>⟨⟨b.1,λe=>Nat.lt_irrefl _ (Nat.lt_of_lt_of_le b.2 (a k e.symm))⟩,b.2⟩)
theorem Ko(xs:List α)(p:α):(xs++[p]).zipIdx=xs.zipIdx++[(p,xs.length)]:=by rw[List.zipIdx_append];simp
end
section
open Classical in
/-- The next element's blocks are okp: none is one of v's (okv). -/
theorem Ok{α:Type}{d:Kd α}{e base:Nat}{okv:Nat->Prop}{w:World}{v:Value}{xs:List α}(h:S d e w base okv v xs)(m:Nat)(okp:Nat->Prop)(a:∀k,okp k->¬ okv k):∃f,(∀k,okp k->f k=m)∧(tag f d).R e w base okv v xs.zipIdx:=by obtain⟨f,h⟩:=h;exact⟨λk=>if okp k then m else f k,λk b=>if_pos b,PO h (λk b _=>if_neg (λc=>a k c b))⟩
variable {P:Program} {ops:Array Oper} {rest:List Oper} {o:Oper} {a:Act} {Q:Exit->Act->World->Prop} {Kc:Act->World->Prop} {α:Type}
theorem JW(d:Kd α){w0 W:World}(base:Nat)(q:o.guard=none)(s x:Operand)(t e:TypeId)(z:Value)(bytes:Nat)
    (B:o.op=.call { callee:=.builtin .append,args:=#[s,x],argTypes:=#[t,t] })
    (E:P.underlying t=some (.slice e))(j:(P.info? e).map (λi=>(i.zero,i.size,i.bytes))=some (some z,d.sz,bytes))(hz:z.cells.size=d.sz)(r:0<d.sz)(n:0<bytes)
    (v:Value)(xs:List α)(p:α)(cs:List Value)(ok okp:Nat->Prop)(hs:a.eval s=v)(G:a.eval x=.slice (some ⟨W.heap.size,0,none⟩) 1 1)(D:d.M W base okp p cs)(m:∀k,okp k->ok k∧some k≠v.ownBlock)(c:∀k,W.heap.size≤k->ok k)
    (w:S d e W base (λk=>ok k∧¬ okp k) v xs)(HB:Below base w0 W)(g:base≤W.heap.size)(hl:(xs.length+1)*bytes≤140737488355328)
    (h:∀v1 w1,S d e w1 base ok v1 (xs++[p])->Below base w0 w1->W.grownBy w1 v.ownBlock->(v1.ownBlock=v.ownBlock∨∃b,v1.ownBlock=some b∧W.heap.size≤b)->wpList P ops Q rest (a.put o.dst v1) w1) :
    wpList P ops Q (o::rest) a (W.alloc (.cells cs.toArray e)):=by obtain⟨f,A,hR⟩:=Ok w xs.length okp (λ_ l y=>y.2 l);refine E_ (tag f d) base q s x t e z bytes B E j hz r n v xs.zipIdx (p,xs.length) cs ok okp hs G (d.Ce (λk l=>⟨l,A k l⟩) D) m c (Aj hR (λ_ l=>l.1)) HB g (by rw[List.length_zipIdx];exact hl) ?_;intro v1 w1 u;rw[<-Ko]at u;exact h v1 w1 ⟨f,u⟩
theorem IF(d:Kd α){w0 W:World}(base:Nat)(hw:Region.wanted o (yielded ops a.tmps)=true)(s x:Operand)(t e:TypeId)(z:Value)(bytes:Nat)
    (A:o.op=.call { callee:=.builtin .append,args:=#[s,x],argTypes:=#[t,t] })
    (D:P.underlying t=some (.slice e))(j:(P.info? e).map (λi=>(i.zero,i.size,i.bytes))=some (some z,d.sz,bytes))(hz:z.cells.size=d.sz)(q:0<d.sz)(n:0<bytes)
    (v:Value)(xs:List α)(p:α)(cs:List Value)(ok okp:Nat->Prop)(hs:a.eval s=v)(E:a.eval x=.slice (some ⟨W.heap.size,0,none⟩) 1 1)(B:d.M W base okp p cs)(m:∀k,okp k->ok k∧some k≠v.ownBlock)(c:∀k,W.heap.size≤k->ok k)
    (u:S d e W base (λk=>ok k∧¬ okp k) v xs)(HB:Below base w0 W)(g:base≤W.heap.size)(hl:(xs.length+1)*bytes≤140737488355328)
    (h:∀v1 w1,S d e w1 base ok v1 (xs++[p])->Below base w0 w1->W.grownBy w1 v.ownBlock->(v1.ownBlock=v.ownBlock∨∃b,v1.ownBlock=some b∧W.heap.size≤b)->Kc (a.put o.dst v1) w1) :
    if Region.wanted o (yielded ops a.tmps)=true then Oper.wp P o a (W.alloc (.cells cs.toArray e)) Kc Q else Kc (a.put o.dst undef) (W.alloc (.cells cs.toArray e)):=by obtain⟨f,y,hR⟩:=Ok u xs.length okp (λ_ l w=>w.2 l);refine E7 (tag f d) base hw s x t e z bytes A D j hz q n v xs.zipIdx (p,xs.length) cs ok okp hs E (d.Ce (λk l=>⟨l,y k l⟩) B) m c (Aj hR (λ_ l=>l.1)) HB g (by rw[List.length_zipIdx];exact hl) ?_;intro v1 w1 r;rw[<-Ko]at r;exact h v1 w1 ⟨f,r⟩
theorem Oi(d:Kd α){w0 W:World}(base e:Nat)(l:o.guard=none){N:Tmp}(_hd:o.dst=some N){xs:List α}{inner:List Value}{ok okp:Nat->Prop}
    (j:(execOp a.eval o).run P W=.ok (.value (.slice (some ⟨W.heap.size,0,none⟩) xs.length xs.length)) (W.alloc (.cells inner.toArray e)))
    (i:Bi (d.M W base (λ_=>False)) d.sz xs inner)(_hok:∀k,okp k->ok k)(c:ok W.heap.size)(HB:Below base w0 W)(g:base≤W.heap.size)(hm:xs.length≤9223372036854775807)
    (h:∀v1 w1,S d e w1 base ok v1 xs->Below base w0 w1->W.grownBy w1 none->(∃b,v1.ownBlock=some b∧W.heap.size≤b)->wpList P ops Q rest (a.put o.dst v1) w1):wpList P ops Q (o::rest) a W :=
  DD (bare d) base e l _hd (ok:=ok) (okp:=ok) j i (λ_ m=>m) c HB g hm (λv1 w1 n=>h v1 w1 (O1 n))
end
def Qo{α:Type}(f:Nat->Nat)(d:Kd α)(i:Nat)(c:List Value):Kd (α×Nat) where
  sz:=d.sz
  E:=d.E
  K:=λw x cs=>(x.2=i->cs=c∧cs.length=d.sz∧∀u∈cs,u.oneCell'=true)∧(x.2≠i->d.K w x.1 cs)
  M:=λw base ok x cs=>(x.2=i->cs=c∧cs.length=d.sz∧∀u∈cs,u.oneCell'=true)∧(x.2≠i->d.M w base (λk=>ok k∧f k=x.2) x.1 cs)
  D_:=λ{w x cs} h=>by
    by_cases a:x.2=i
    · exact(h.1 a).2.1
    · exact d.D_ (h.2 a)
  DV:=λ{w x cs} h=>by
    by_cases a:x.2=i
    · exact(h.1 a).2.2
    · exact d.DV (h.2 a)
  DR:=λe h=>⟨h.1,λa=>d.DR e (h.2 a)⟩
  CV:=λh=>⟨h.1,λa=>d.CV (h.2 a)⟩
  Ce:=λg h=>⟨h.1,λa=>d.Ce (λk b=>⟨g k b.1,b.2⟩) (h.2 a)⟩
  CX:=λh=>⟨h.1,λa=>d.Ce (λ_ b=>⟨⟨b.1.1,b.2⟩,b.1.2⟩) (d.CX (h.2 a))⟩
  Dw:=λhm h=>⟨h.1,λa=>d.Dw (λk b=>hm k b.1) (h.2 a)⟩
  DS:=λe h=>⟨h.1,λa=>d.DS e (h.2 a)⟩
def H{α:Type}(d:Kd α)(e:Nat)(w:World)(base:Nat)(ok:Nat->Prop)(v:Value)(xs:List α)(i:Int)(oki:Nat->Prop)(c:List Value):Prop :=
  (∀k,oki k->ok k)∧∃f,(Qo f d i.toNat c).R e w base (λk=>ok k∧¬ oki k) v xs.zipIdx
section
variable {α β:Type} {d:Kd α} {e e' g n cap:Nat} {w w1 W:World} {base:Nat} {ok Fc oki okp:Nat->Prop} {u v:Value} {xs:List α} {i:Int} {c:List Value}
theorem O2(h:S d e W base ok (.slice (some ⟨g,0,none⟩) n cap) xs)(z:α)(i:Int)(h0:0≤i)(h1:i<n) :
    ∃(oki:Nat->Prop) (c:List Value),c.length=d.sz∧d.M W base oki (xs.getD i.toNat z) c∧(∀j u,c[j]?=some u->W.cell? ⟨g,i.toNat*d.sz+j,none⟩=some u)∧(∀k,oki k->ok k∧k≠g)∧H d e W base ok (.slice (some ⟨g,0,none⟩) n cap) xs i oki c:=by
 obtain⟨f,hR⟩:=h;have D:=(AD hR).1;rw[List.length_zipIdx]at D;have b:some g=(Value.slice (some ⟨g,0,none⟩) n cap).ownBlock:=by simp[Value.ownBlock]
 obtain⟨o,inner,y,r⟩:=hR;have l:i.toNat<xs.length:=by omega
 have hlen:inner.length=xs.length*d.sz:=by have:=r.1;rw[List.length_zipIdx]at this;exact this
 have A:i.toNat*d.sz+d.sz≤inner.length:=by rw[hlen,<-Nat.succ_mul];exact Nat.mul_le_mul_right _ l
 have v:=r.2 i.toNat _ (Gf (List.getElem?_eq_getElem l));have w:∀k,some k≠(Value.slice (some ⟨g,0,none⟩) n cap).ownBlock->k≠g:=λk a he=>a (by rw[he];exact b)
 refine⟨λk=>(ok k∧k≠g)∧f k=i.toNat,(inner.drop (i.toNat*d.sz)).take d.sz,by rw[List.length_take,List.length_drop];omega,?_,λj u hu=>?_,λk a=>a.1,λk a=>a.1.1,f,λk a=>⟨o k a,λt=>t.1.2 ?_⟩,inner,y,r.1,λm p hm=>?_⟩
 ·rw[List.getD_eq_getElem?_getD,List.getElem?_eq_getElem l];exact d.Ce (λk a=>⟨⟨a.1.1,w k a.1.2⟩,a.2⟩) v
 ·rw[List.getElem?_take]at hu;split at hu
  ·rw[List.getElem?_drop]at hu;have:=y.cells (g:=g) b.symm _ u hu;rwa[add_plain]at this
  cases hu
 ·rw[<-b]at a;injection a with a;exact a.symm
 have hold:=r.2 m p hm;have E:p.2=m:=by rw[List.getElem?_zipIdx,Nat.zero_add]at hm;obtain⟨q,_,rfl⟩:=Option.map_eq_some_iff.1 hm;rfl
 refine⟨λB=>?_,λB=>d.Ce (λk a=>⟨⟨⟨a.1.1,λt=>B ?_⟩,a.1.2⟩,a.2⟩) hold⟩
 ·have x:m=i.toNat:=by omega
  subst x;exact⟨rfl,d.D_ (d.CV v),d.DV (d.CV v)⟩
 rw[<-a.2];exact t.2
open Classical in
/-- The element put back: its blocks are among those that were lent. -/
theorem ON(h:H d e w base ok v xs i oki c){x':α}(r:d.M w base okp x' c)(j:∀k,okp k->oki k):S d e w base ok v (xs.set i.toNat x'):=by
 obtain⟨u,f,h0,inner,b,o⟩:=h;refine⟨λk=>if oki k then i.toNat else f k,λk a=>(h0 k a).1,inner,by rw[List.length_zipIdx,List.length_set];rw[List.length_zipIdx]at b;exact b,by have:=o.1;rw[List.length_zipIdx]at this;rw[List.length_zipIdx,List.length_set];exact this,λm p hm=>?_⟩;rw[List.getElem?_zipIdx,Nat.zero_add]at hm;obtain⟨q,l,rfl⟩:=Option.map_eq_some_iff.1 hm;have n:m<xs.length:=by have:=(List.getElem?_eq_some_iff.1 l).1;rwa[List.length_set]at this
 by_cases g:m=i.toNat
 ·subst g;rw[List.getElem?_set_self n]at l;injection l with l;subst l;have t:=((o.2 i.toNat _ (Gf (List.getElem?_eq_getElem n))).1 rfl).1;show d.M w base _ x' ((inner.drop (i.toNat*d.sz)).take d.sz);rw[show(inner.drop (i.toNat*d.sz)).take d.sz=c from t];exact d.Ce (λk a=>⟨⟨u k (j k a),λhe=>(h0 k he.symm).2 (j k a)⟩,if_pos (j k a)⟩) r
 rw[List.getElem?_set_ne (Ne.symm g)]at l;exact d.Ce (λk a=>⟨⟨a.1.1.1,a.1.2⟩,(if_neg a.1.1.2).trans a.2⟩) ((o.2 m (q,m) (Gf l)).2 g)
theorem OP(h:H d e w base ok v xs i oki c)(a:∀k,ok k->Fc k):H d e w base Fc v xs i oki c:=by obtain⟨g,f,h⟩:=h;exact⟨λk b=>a k (g k b),f,Aj h (λk b=>⟨a k b.1,b.2⟩)⟩
theorem OQ{okg:Nat->Prop}(h:H d e w base (λk=>ok k∧¬ okg k) v xs i oki c)(hg:∀k,okg k->ok k):H d e w base ok v xs i (λk=>oki k∨okg k) c:=by obtain⟨g,f,h⟩:=h;exact⟨λk a=>a.elim (λb=>(g k b).1) (hg k),f,Aj h (λk a=>⟨a.1.1,λb=>b.elim a.2 a.1.2⟩)⟩
theorem Mm(h:S d e W base ok (.slice (some ⟨g,0,none⟩) n cap) xs)(z:α)(i:Int)(h0:0≤i)(h1:i<n) :
    ∃(oki:Nat->Prop) (c:List Value),c.length=d.sz∧d.M W base oki (xs.getD i.toNat z) c∧(∀j u,c[j]?=some u->W.cell? ⟨g,i.toNat*d.sz+j,none⟩=some u)∧(∀j,W.frozen? ⟨g,i.toNat*d.sz+j,none⟩=false)∧(∀k,oki k->ok k∧k≠g)∧H d e W base ok (.slice (some ⟨g,0,none⟩) n cap) xs i oki c:=by obtain⟨_,_,_,_,m⟩:=GG (Lx h) z i h0 h1;obtain⟨oki,c,l,p,b,a,o⟩:=O2 h z i h0 h1;exact⟨oki,c,l,p,b,m,a,o⟩
theorem PJ(h:H d e W base ok (.slice (some ⟨g,0,none⟩) n cap) xs i oki c)(h0:0≤i)(h1:i<n) :
    ∃rows:List (List Value),rows.length=xs.length∧(raw d.sz).R e W base (λ_=>True) (.slice (some ⟨g,0,none⟩) n cap) rows∧c.length=d.sz∧(∀u∈c,u.oneCell'=true)∧(∀j u,c[j]?=some u->W.cell? ⟨g,i.toNat*d.sz+j,none⟩=some u) ∧
      ∀w1 B,W.grownBy w1 (some g)->(raw d.sz).R e w1 base (λ_=>True) (.slice (some ⟨g,0,none⟩) n cap) (rows.set i.toNat B)->H d e w1 base ok (.slice (some ⟨g,0,none⟩) n cap) xs i oki B:=by
 obtain⟨L,f,hR⟩:=h;have T:=(AD hR).1;rw[List.length_zipIdx]at T;have t:some g=(Value.slice (some ⟨g,0,none⟩) n cap).ownBlock:=by simp[Value.ownBlock]
 obtain⟨y,inner,K,z⟩:=hR;have v:i.toNat<xs.length:=by omega
 have hlen:inner.length=xs.length*d.sz:=by have:=z.1;rw[List.length_zipIdx]at this;exact this
 have I:∀k,some k≠(Value.slice (some ⟨g,0,none⟩) n cap).ownBlock->k≠g:=λk r he=>r (by rw[he];exact t)
 have b:=(z.2 i.toNat _ (Gf (List.getElem?_eq_getElem v))).1 rfl;rw[b.1]at b;have P:=((z.2 i.toNat _ (Gf (List.getElem?_eq_getElem v))).1 rfl).1;refine⟨(List.range xs.length).map λj=>(inner.drop (j*d.sz)).take d.sz,by rw[List.length_map,List.length_range],⟨λ_ _=>trivial,inner,?_,?_,λj p M=>?_⟩,b.2.1,b.2.2,λj u hu=>?_,λw1 B hg A=>?_⟩
 ·rw[List.length_map,List.length_range];rw[List.length_zipIdx]at K;exact K
 ·rw[List.length_map,List.length_range];exact hlen
 ·rw[List.getElem?_map]at M;obtain⟨U,G,rfl⟩:=Option.map_eq_some_iff.1 M;obtain⟨hl,he⟩:=List.getElem?_eq_some_iff.1 G;rw[List.getElem_range]at he;subst he;rw[List.length_range]at hl;have hm:=(Qo f d i.toNat c).CV (z.2 j _ (Gf (List.getElem?_eq_getElem hl)));exact⟨rfl,(Qo f d i.toNat c).D_ hm,(Qo f d i.toNat c).DV hm⟩
 ·rw[<-P,List.getElem?_take]at hu;split at hu
  ·rw[List.getElem?_drop]at hu;have:=K.cells (g:=g) t.symm _ u hu;rwa[add_plain]at this
  cases hu
 obtain⟨_,a,x,l⟩:=A;have J:a.length=xs.length*d.sz:=by have:=l.1;rw[List.length_set,List.length_map,List.length_range]at this;exact this
 rw[List.length_set,List.length_map,List.length_range]at x;refine⟨L,f,y,a,by rw[List.length_zipIdx];exact x,by rw[List.length_zipIdx];exact J,λm p hm=>?_⟩;rw[List.getElem?_zipIdx,Nat.zero_add]at hm;obtain⟨q,O,rfl⟩:=Option.map_eq_some_iff.1 hm;have w:m<xs.length:=(List.getElem?_eq_some_iff.1 O).1;have hold:=z.2 m (q,m) (Gf O);refine⟨λD=>?_,λD=>?_⟩
 ·have o:m=i.toNat:=D;subst o;exact l.2 i.toNat B (List.getElem?_set_self (by rw[List.length_map,List.length_range];exact w))
 have o:m≠i.toNat:=D;have E:=(l.2 m ((inner.drop (m*d.sz)).take d.sz) (by rw[List.getElem?_set_ne (Ne.symm o),List.getElem?_map,List.getElem?_eq_getElem (by rw[List.length_range];exact w),List.getElem_range];rfl)).1;show d.M w1 base _ q ((a.drop (m*d.sz)).take d.sz);rw[show(a.drop (m*d.sz)).take d.sz=_ from E];exact d.Ce (λk r=>r.1) (d.Dw (w1:=w1) (λk r=>hg.block k r.2.2.1 (λhe=>I k r.1.1.2 (by injection he))) (d.CX (hold.2 D)))
theorem PK(h:H d e W base ok (.slice (some ⟨g,0,none⟩) n cap) xs i oki c)(h0:0≤i)(h1:i<n){seg:List Value}{j:Nat}(r:j+seg.length≤d.sz)(k:∀q∈seg,q.oneCell'=true) :
    H d e (W.setCells g (i.toNat*d.sz+j) seg) base ok (.slice (some ⟨g,0,none⟩) n cap) xs i oki (c.take j++seg++c.drop (j+seg.length))∧W.grownBy (W.setCells g (i.toNat*d.sz+j) seg) (some g):=by
 obtain⟨rows,_,l,o,b,m,a⟩:=PJ h h0 h1
 obtain⟨p,h3⟩:=KY l i h0 h1 (c:=c) (seg:=seg) (j:=j) (x':=c.take j++seg++c.drop (j+seg.length)) (okp:=λ_=>False) o m r
   ⟨rfl,by
     show(c.take j++seg++c.drop (j+seg.length)).length=d.sz
     simp only[List.length_append,List.length_take,List.length_drop];omega,λu hu=>by
     rcases List.mem_append.1 hu with hu|hu
     · rcases List.mem_append.1 hu with hu|hu
       · exact b u (List.mem_of_mem_take hu)
       · exact k u hu
     · exact b u (List.mem_of_mem_drop hu)⟩ (λ_ t=>t.elim)
 exact⟨a _ _ h3 p,h3⟩
theorem PQ{okg:Nat->Prop}(o:H d e W base (λk=>ok k∧¬ okg k) (.slice (some ⟨g,0,none⟩) n cap) xs i oki c)(h0:0≤i)(h1:i<n){seg:List Value}{j:Nat}(t:j+seg.length≤d.sz)
    {x':α}(p:d.M W base okp x' (c.take j++seg++c.drop (j+seg.length)))(b:∀k,okp k->oki k∨okg k)(hg:∀k,okg k->ok k∧k≠g) :
    S d e (W.setCells g (i.toNat*d.sz+j) seg) base ok (.slice (some ⟨g,0,none⟩) n cap) (xs.set i.toNat x')∧W.grownBy (W.setCells g (i.toNat*d.sz+j) seg) (some g):=by
 have m:∀k,oki k∨okg k->k≠g:=by
  intro k a he;subst he;rcases a with a|a
  ·obtain⟨_,f,hR⟩:=o;exact(hR.1 k (by simp[Value.ownBlock])).2 a
  exact(hg k a).2 rfl
 obtain⟨r,h3⟩:=PK (OQ o (λk a=>(hg k a).1)) h0 h1 t (λq u=>d.DV (d.CV p) q (List.mem_append_left _ (List.mem_append_right _ u)));exact⟨ON r (Kq p (λk a l=>h3.block k l (λhe=>m k (b k a) (by injection he)))) b,h3⟩
end
section
variable {P:Program} {ops:Array Oper} {rest:List Oper} {o:Oper} {a:Act} {Q:Exit->Act->World->Prop} {α:Type}
end
end Kd
end Go.Proofs.YtlhlpfnljglhoaaDoorW.PrintWords
end
section
namespace Go.Proofs.YtlhlpfnljglhoaaDoorW.PrintWords
open Go.RowKit
namespace Kd
section
variable {α:Type} {n:Nat} {d:Kd α} {hs:0 < d.sz} {w:World} {base:Nat} {ok:Nat->Prop} {xs:List α} {cs:List Value}
end
section
variable {α:Type} {n:Nat} {enc:α->Value} {h1:∀ x,(enc x).oneCell'=true} {hs:0 < (scalar enc h1).sz} {w:World} {base:Nat} {ok:Nat->Prop} {xs:List α} {cs:List Value}
end
end Kd
end Go.Proofs.YtlhlpfnljglhoaaDoorW.PrintWords
end
section
namespace Go.Proofs.YtlhlpfnljglhoaaDoorW.PrintWords
open Go.RowKit
namespace Kd
section
variable {α:Type} {d:Kd α} {e base g n c:Nat} {ok:Nat->Prop} {w w0 W:World} {A:Option Addr} {xs:List α}
theorem Ih(h:d.R e W base ok (.slice A n c) xs)(b:∀k,ok k->k≠g):∀a,Ai W a g none->d.C a A n xs:=λa j=>by
  have i:=AD (Bq h j b)
  rw[i.1]
  exact i.2.2
theorem Gz(h:∀a,Ai w a g none->d.C a A n xs)(b:Ai w W g none):d.C W A n xs:=h W b
end
end Kd
end Go.Proofs.YtlhlpfnljglhoaaDoorW.PrintWords
end
section
namespace Go.Proofs.YtlhlpfnljglhoaaDoorW.PrintWords
open Go.RowKit
def Kept(w W:World)(S:Nat->Prop):Prop:=w.heap.size≤W.heap.size∧∀i,i<w.heap.size->¬ S i->W.heap[i]?=w.heap[i]?
section
variable {w W W2:World} {S S2 S':Nat->Prop}
theorem Kept.refl(w:World)(S:Nat->Prop):Kept w w S:=⟨Nat.le_refl _,λ_ _ _=>rfl⟩
theorem Kept.C4(h:Below w.heap.size w W)(S:Nat->Prop):Kept w W S:=⟨h.size,λi hi _=>h.block i hi⟩
theorem Kept.Km(h:Kept w W S)(k:Kept W W2 S2)(hs:∀k,S2 k->S k∨w.heap.size≤k):Kept w W2 S :=
  ⟨Nat.le_trans h.1 k.1,λi hi a=>(k.2 i (Nat.lt_of_lt_of_le hi h.1) (λb=>(hs i b).elim a (λh3=>by omega))).trans (h.2 i hi a)⟩
theorem Kept.Dy{row:Option Nat}(hg:W.grownBy W2 row)(h:Kept w W S)(b:∀k,row=some k->S k∨w.heap.size≤k):Kept w W2 S :=
  h.Km (S2:=λk=>row=some k) ⟨hg.size,λi hi a=>hg.block i hi (λhe=>a he.symm)⟩ b
theorem Kept.below(h:Kept w W S)(a:Below W.heap.size W W2):Kept w W2 S:=h.Km (Kept.C4 a (λ_=>False)) (λ_ b=>b.elim)
theorem Kept.drew(h:Kept w W S):Kept w W.drew S:=h
theorem Kept.setCell(h:Kept w W S){p:Addr}(c:S p.block∨w.heap.size≤p.block)(u:Value):Kept w (W.setCell p u) S :=
  h.Km (S2:=λk=>k=p.block) ⟨by simp[World.setCell],λi _ b=>Below.heap_setCell W p u i b⟩ (λk a=>by rw[a];exact c)
theorem Kept.NV{g:Nat}(h:Kept w W S)(k:Ai W W2 g none)(hg:S g∨w.heap.size≤g):Kept w W2 S :=
  h.Km (S2:=λk=>k=g) ⟨k.1,λi hi b=>k.2 i hi b (by simp)⟩ (λk a=>by rw[a];exact hg)
theorem J1{g:Nat}{o:Obj}(b:W.heap[g]?=some o)(c:Kept W W2 S)(a:¬ S g):W2.heap[g]?=some o:=(c.2 g (AU b) a).trans b
end
namespace Kd
section
variable {α:Type} {d:Kd α} {e base n c:Nat} {ok oki S S2:Nat->Prop} {w w0 W W1 W2:World} {v:Value} {A:Option Addr} {xs:List α} {i:Int} {cs:List Value}
theorem OY(h:d.R e W base ok v xs)(c:Kept W W2 S)(b:∀k,ok k->¬ S k):d.R e W2 base ok v xs:=Eg h (λk g a=>c.2 k a (b k g))
end
end Kd
end Go.Proofs.YtlhlpfnljglhoaaDoorW.PrintWords
end
section
namespace Go.Proofs.YtlhlpfnljglhoaaDoorW.PrintWords
open Go.RowKit
def Ci(P:World->Prop)(W:World)(ok:Nat->Prop):Prop:=∀a:World,(∀k,ok k->k<W.heap.size->a.heap[k]?=W.heap[k]?)->P a
theorem NJ{W W1:World}{k:Nat}(h:W1.heap[k]?=W.heap[k]?)(a:k<W.heap.size):k<W1.heap.size:=by rw[Array.getElem?_eq_getElem a]at h;exact(Array.getElem?_eq_some_iff.1 h).1
namespace Ci
variable {P Q:World->Prop} {W W1:World} {ok Fc:Nat->Prop}
theorem now(h:Ci P W ok):P W:=h W (λ_ _ _=>rfl)
theorem mono(h:Ci P W ok)(b:∀k,ok k->Fc k):Ci P W Fc:=λc d=>h c (λk e a=>d k (b k e) a)
theorem bound(h:Ci P W ok):Ci P W (λk=>ok k∧k<W.heap.size):=λb c=>h b (λk d a=>c k ⟨d,a⟩ a)
theorem step(h:Ci P W ok)(hm:∀k,ok k->k<W.heap.size->W1.heap[k]?=W.heap[k]?):Ci P W1 ok:=λc d=>h c (λk b a=>(d k b (NJ (hm k b a) a)).trans (hm k b a))
theorem imp(h:Ci P W ok)(hi:∀a,P a->Q a):Ci Q W ok:=λa b=>hi a (h a b)
theorem QP(h:Ci P W ok)(b:Below W.heap.size W W1):Ci P W1 (λk=>ok k∧k<W.heap.size):=(h.bound).step (λk _ a=>b.block k a)
end Ci
namespace Kd
def F{α:Type}(d:Kd α)(W:World)(ok:Nat->Prop)(A:Option Addr)(n:Nat)(xs:List α):Prop:=Ci (λW=>d.C W A n xs) W ok
def FK{α:Type}(d:Kd α)(W:World)(ok:Nat->Prop)(x:α)(c:List Value):Prop:=Ci (λW=>d.K W x c) W ok
section
variable {α β:Type} {d:Kd α} {e base n n' cc g N:Nat} {ok Fc okp S:Nat->Prop} {w w0 w1 W W1:World} {A A':Option Addr} {u v v1:Value} {xs:List α} {xs':List β} {d':Kd β} {x:α} {c:List Value}
theorem Mf(h:F d W ok A n xs):d.C W A n xs:=Ci.now h
theorem GD(h:F d W ok A n xs)(a:∀k,ok k->Fc k):F d W Fc A n xs:=Ci.mono h a
theorem Jk(h:F d W ok A n xs):F d W (λk=>ok k∧k<W.heap.size) A n xs:=Ci.bound h
theorem Hn(h:F d W ok A n xs)(hm:∀k,ok k->k<W.heap.size->W1.heap[k]?=W.heap[k]?):F d W1 ok A n xs:=Ci.step h hm
theorem Od(h:F d W ok A n xs)(hi:∀a,d.C a A n xs->d'.C a A' n' xs'):F d' W ok A' n' xs':=Ci.imp h hi
theorem Jj(h:F d W ok A n xs)(b:Below W.heap.size W W1):F d W1 ok A n xs:=Hn h (λk _ a=>b.block k a)
theorem OI(h:F d W ok A n xs):F d W.drew ok A n xs:=Jj h (EN (Below.refl _ _))
theorem Nt(h:F d W ok A n xs)(m:Nat):F d (W.drewN m) ok A n xs:=Jj h (At (Below.refl _ _) m)
theorem Nu(h:F d W ok A n xs){row:Option Nat}(hg:W.grownBy W1 row)(b:∀k,ok k->some k≠row):F d W1 ok A n xs:=Hn h (λk c a=>hg.block k a (b k c))
theorem PH(h:F d W ok A n xs){p:Addr}(a:∀k,ok k->k≠p.block)(u:Value):F d (W.setCell p u) ok A n xs:=Hn h (λk b _=>Below.heap_setCell W p u k (a k b))
theorem OJ(h:F d W ok A n xs)(c:Ai W W1 g none)(b:∀k,ok k->k≠g):F d W1 ok A n xs:=Hn h (λk e a=>c.2 k a (b k e) (by simp))
theorem OK(h:F d W ok A n xs)(c:Kept W W1 S)(b:∀k,ok k->¬ S k):F d W1 ok A n xs:=Hn h (λk e a=>c.2 k a (b k e))
theorem Mc(h:F d W ok A n xs)(a:∀k,v.ownBlock=some k->W.heap.size≤k)(c:Below W.heap.size W W1):F d W1 (λk=>ok k∧some k≠v.ownBlock) A n xs :=
  GD (Ci.QP h c) (λk b=>⟨b.1,λhe=>by have:=a k he.symm;have:=b.2;omega⟩)
theorem Me(h:F d W ok A n xs)(a:Nat)(c:W.heap.size≤a):F d W (λk=>ok k∧k≠a) A n xs:=GD (Jk h) (λk b=>⟨b.1,by have:=b.2;omega⟩)
theorem Ns(h:F d W (λk=>ok k∧some k≠v.ownBlock) A n xs)(hg:W.grownBy W1 v.ownBlock)(a:v1.ownBlock=v.ownBlock∨∃b,v1.ownBlock=some b∧W.heap.size≤b):F d W1 (λk=>ok k∧some k≠v1.ownBlock) A n xs:=by
 refine GD (Ci.step (Jk h) (λk c e=>hg.block k e c.1.2)) (λk c=>⟨c.1.1,?_⟩);rcases a with a|⟨b,g,hle⟩
 ·rw[a];exact c.1.2
 rw[g];intro he;injection he with he;have:=c.2;omega
theorem QK(h:d.R e W base ok (.slice A n cc) xs):F d W ok A n xs:=λc b=>by
  have a:=AD (Eg h b)
  rw[a.1]
  exact a.2.2
theorem Fp(h:FK d W ok x c):d.K W x c:=Ci.now h
theorem Gg(h:FK d W ok x c)(a:∀k,ok k->Fc k):FK d W Fc x c:=Ci.mono h a
theorem Ij(h:FK d W ok x c):FK d W (λk=>ok k∧k<W.heap.size) x c:=Ci.bound h
theorem GX(h:FK d W ok x c)(hm:∀k,ok k->k<W.heap.size->W1.heap[k]?=W.heap[k]?):FK d W1 ok x c:=Ci.step h hm
theorem Nr(h:d.M W base ok x c):FK d W ok x c:=λ_ a=>d.CV (Kq h a)
theorem NG(W:World)(g:Nat):∃c:World,(∀k,k≠g->c.heap[k]?=W.heap[k]?)∧∀a:Addr,a.block=g->c.cell? a=none:=by
 refine⟨{ W with heap:=W.heap.setIfInBounds g (.cells #[] 0) },λk e=>by simp[Ne.symm e],λa d=>?_⟩;subst d;by_cases b:a.block<W.heap.size
 ·simp[World.cell?,b]
 simp[World.cell?,b]
end
end Kd
end Go.Proofs.YtlhlpfnljglhoaaDoorW.PrintWords
end
section
namespace Go.Proofs.YtlhlpfnljglhoaaDoorW.PrintWords
open Go.RowKit
section
variable {P:Program}
end
namespace Kd
section
variable {P:Program} {ops:Array Oper} {rest:List Oper} {o:Oper} {a:Act} {Q:Exit->Act->World->Prop} {Kc:Act->World->Prop} {α:Type}
end
section
variable {α:Type} {d:Kd α} {e:Nat} {w:World} {base:Nat} {ok:Nat->Prop} {v:Value} {xs:List α}
end
section
variable {P:Program} {ops:Array Oper} {rest:List Oper} {o:Oper} {a:Act} {Q:Exit->Act->World->Prop} {Kc:Act->World->Prop} {α:Type}
end
end Kd
end Go.Proofs.YtlhlpfnljglhoaaDoorW.PrintWords
end
section
namespace Go.Proofs.YtlhlpfnljglhoaaDoorW.PrintWords
open Go.RowKit
namespace Kd
def chunks(sz:Nat)(n:Nat)(inner:List Value):List (List Value):=(List.range n).map λj=>(inner.drop (j*sz)).take sz
theorem CI(sz n:Nat)(inner:List Value):(chunks sz n inner).length=n:=by simp[chunks]
theorem LF{sz n:Nat}{inner:List Value}{j:Nat}(a:j<n):(chunks sz n inner)[j]?=some ((inner.drop (j*sz)).take sz):=by simp[chunks,a]
theorem Fs{sz n:Nat}{inner:List Value}{j:Nat}{c:List Value}(h:(chunks sz n inner)[j]?=some c):c=(inner.drop (j*sz)).take sz:=by
 have a:j<n:=by have:=(List.getElem?_eq_some_iff.1 h).1;rwa[CI]at this
 rw[LF a]at h;injection h with h;exact h.symm
theorem Kf{α:Type}{b:α->List Value->Prop}{sz:Nat}{xs:List α}{inner:List Value}(h:Bi b sz xs inner)(hR:∀x c,b x c->c.length=sz∧∀u∈c,u.oneCell'=true):Bi (λx cs=>cs=x∧cs.length=sz∧∀u∈cs,u.oneCell'=true) sz (chunks sz xs.length inner) inner:=by
 refine⟨by rw[CI];exact h.1,λj p d=>?_⟩;have a:j<xs.length:=by have:=(List.getElem?_eq_some_iff.1 d).1;rwa[CI]at this
 have e:=Fs d;exact⟨e.symm,hR _ _ (h.2 j _ (List.getElem?_eq_getElem a))⟩
section
variable {α:Type} {d:Kd α} {e base n cc g:Nat} {ok Fc okp S:Nat->Prop} {w w1 W W1:World} {A:Option Addr} {u v v1:Value} {xs:List α} {x:α} {c:List Value}
theorem PI(h:F d W ok A n xs)(z:α)(i:Int)(h0:0≤i)(h1:i<n) :
    ∃ad c,A=some ad∧c.length=d.sz∧FK d W ok (xs.getD i.toNat z) c∧(∀j u,c[j]?=some u->W.cell? (ad.add (i.toNat*d.sz+j))=some u)∧(0<d.sz->ok ad.block):=by
 obtain⟨ad,c,rfl,t,hK,b⟩:=Ii (Mf h) z i h0 h1
 have o:0<d.sz->ok ad.block:=by
  intro hs;by_cases y:ok ad.block
  ·exact y
  obtain⟨g,B,h3⟩:=NG W ad.block;obtain⟨p,w,he,m,_,a⟩:=Ii (h g (λk v _=>B k (λe=>y (e ▸ v)))) z i h0 h1;injection he with he;subst he;have h4:=a 0 _ (List.getElem?_eq_getElem (by omega));rw[h3 _ (Fo _ _)]at h4;cases h4
 refine⟨ad,c,rfl,t,λg x=>?_,b,o⟩;obtain⟨p,w,he,m,r,a⟩:=Ii (h g x) z i h0 h1;injection he with he;subst he
 have G:c=w:=by
  apply List.ext_getElem?
  intro j;by_cases I:j<d.sz
  ·have E:g.heap[ad.block]?=W.heap[ad.block]?:=by have q:=b j _ (List.getElem?_eq_getElem (by omega));have l:=World.block_lt_of_cell? W _ q;rw[Fo]at l;exact x _ (o (by omega)) l
   have q:=b j _ (List.getElem?_eq_getElem (by omega));have l:=a j _ (List.getElem?_eq_getElem (by omega));have D:g.cell? (ad.add (i.toNat*d.sz+j))=W.cell? (ad.add (i.toNat*d.sz+j)):=by simp[World.cell?,Fo,E]
   rw[D,q]at l;rw[List.getElem?_eq_getElem (by omega),List.getElem?_eq_getElem (by omega)];exact l
  rw[List.getElem?_eq_none (by omega),List.getElem?_eq_none (by omega)]
 rw[G];exact r
theorem OL(h:F d W ok A n xs):CH (λx c=>FK d W ok x c) d.sz W A n xs:=by obtain⟨hl,hm,l⟩:=Mf h;refine⟨hl,hm,λm=>?_⟩;obtain⟨ad,rfl,_⟩:=l m;refine⟨ad,rfl,λj p e=>?_⟩;obtain⟨i,k⟩:=List.getElem?_eq_some_iff.1 e;obtain⟨g,c,he,b,hK,a,_⟩:=PI h p (j:Int) (by omega) (by omega);injection he with he;subst he;simp only[Int.toNat_natCast]at hK a;rw[List.getD_eq_getElem?_getD,e]at hK;exact⟨c,b,hK,a⟩
def N{α:Type}(d:Kd α)(e:Nat)(w:World)(base:Nat)(ok:Nat->Prop)(v:Value)(xs:List α):Prop :=
  (∀k,v.ownBlock=some k->ok k)∧∃rows:List (List Value),rows.length=xs.length∧(raw d.sz).R e w base (λk=>some k=v.ownBlock) v rows∧∀(j:Nat) (x:α) (c:List Value),xs[j]?=some x->rows[j]?=some c->FK d w (λk=>ok k∧some k≠v.ownBlock) x c
theorem HU{sz:Nat}{rows:List (List Value)}(h:(raw sz).R e w base ok v rows):(raw sz).R e w base (λk=>some k=v.ownBlock) v rows:=Fx rfl h
theorem JK{sz:Nat}{rows:List (List Value)}(h:(raw sz).R e w base ok v rows):(raw sz).R e w base (λ_=>True) v rows:=Aj h (λ_ _=>trivial)
theorem QL(h:d.R e w base ok v xs):N d e w base ok v xs:=by obtain⟨h0,inner,l,b⟩:=h;refine⟨h0,chunks d.sz xs.length inner,CI _ _ _,⟨λk i=>i.symm,inner,by rw[CI];exact l,Kf b (λx c a=>⟨d.D_ (d.CV a),d.DV (d.CV a)⟩)⟩,λj x c m g=>?_⟩;rw[Fs g];exact Nr (b.2 j x m)
theorem QE(h:Kd.S d e w base ok v xs):N d e w base ok v xs:=QL (Lx h)
theorem F7(h:N d e w base ok v xs)(a:∀k,ok k->Fc k):N d e w base Fc v xs:=by obtain⟨h0,rows,hl,hR,i⟩:=h;exact⟨λk b=>a k (h0 k b),rows,hl,hR,λj x c l g=>Gg (i j x c l g) (λk b=>⟨a k b.1,b.2⟩)⟩
theorem JS(h:N d e w base ok v xs):∀k,v.ownBlock=some k->k<w.heap.size:=by obtain⟨_,rows,_,hR,_⟩:=h;exact DQ hR
theorem OR(h:N d e w base ok v xs):∀k,v.ownBlock=some k->base≤k:=by obtain⟨_,rows,_,hR,_⟩:=h;exact BO hR
theorem GY(h:N d e w base ok v xs):N d e w base (λk=>ok k∧k<w.heap.size) v xs:=by have b:=JS h;obtain⟨h0,rows,hl,hR,i⟩:=h;exact⟨λk a=>⟨h0 k a,b k a⟩,rows,hl,hR,λj x c l g=>Gg (Ij (i j x c l g)) (λk a=>⟨⟨a.1.1,a.2⟩,a.1.2⟩)⟩
theorem KW{Em:Nat}(h:N d e w base ok v xs)(a:Em≤base):N d e w Em ok v xs:=by obtain⟨h0,rows,hl,hR,b⟩:=h;exact⟨h0,rows,hl,AN hR a,b⟩
theorem Ho(h:N d e w base ok v xs)(hm:∀k,ok k->k<w.heap.size->w1.heap[k]?=w.heap[k]?):N d e w1 base ok v xs:=by obtain⟨h0,rows,hl,hR,i⟩:=h;exact⟨h0,rows,hl,Eg hR (λk b a=>hm k (h0 k b.symm) a),λj x c l g=>GX (i j x c l g) (λk b a=>hm k b.1 a)⟩
theorem Jl(h:N d e w base ok v xs)(a:Below w.heap.size w w1):N d e w1 base ok v xs:=Ho h (λk _ b=>a.block k b)
theorem Mh(h:N d e w base ok v xs):N d e w.drew base ok v xs:=Jl h (EN (Below.refl _ _))
theorem Jn(h:N d e w base ok v xs){row:Option Nat}(hg:w.grownBy w1 row)(a:∀k,ok k->some k≠row):N d e w1 base ok v xs:=Ho h (λk c b=>hg.block k b (a k c))
theorem Nw(h:N d e W base (λk=>ok k∧some k≠u.ownBlock) v xs){u1:Value}(hg:W.grownBy w1 u.ownBlock)(a:u1.ownBlock=u.ownBlock∨∃b,u1.ownBlock=some b∧W.heap.size≤b):N d e w1 base (λk=>ok k∧some k≠u1.ownBlock) v xs:=by
 refine F7 (Ho (GY h) (λk c g=>hg.block k g c.1.2)) (λk c=>⟨c.1.1,?_⟩);rcases a with a|⟨b,i,hle⟩
 ·rw[a];exact c.1.2
 rw[i];intro he;injection he with he;have:=c.2;omega
theorem CM(h:N d e w base ok v xs):∃A c,v=.slice A xs.length c:=by obtain⟨_,rows,hl,hR,_⟩:=h;obtain⟨A,c,he⟩:=Bg hR;exact⟨A,c,by rw[he,hl]⟩
theorem Jm(h:N d e w base ok v xs)(a:0<xs.length):∃g cap,v=.slice (some ⟨g,0,none⟩) xs.length cap∧base≤g∧g<w.heap.size∧∃cells,w.heap[g]?=some (.cells cells e (0,0)):=by obtain⟨_,rows,hl,hR,_⟩:=h;rw[<-hl]at a⊢;exact Im hR a
theorem E9{n c:Nat}(h:N d e w base ok (.slice A n c) xs):n=xs.length∧n≤c∧d.C w A xs.length xs:=by
 obtain⟨_,rows,hl,hR,q⟩:=h;obtain⟨u,o,g⟩:=AD hR;refine⟨by omega,o,?_⟩;rw[hl]at g;refine⟨rfl,g.2.1,λt=>?_⟩;obtain⟨ad,he,a⟩:=g.2.2 t;refine⟨ad,he,λj p m=>?_⟩;have b:j<rows.length:=by have:=(List.getElem?_eq_some_iff.1 m).1;omega
 obtain⟨l,k,hK,i⟩:=a j _ (List.getElem?_eq_getElem b);have r:=Fp (q j p _ m (List.getElem?_eq_getElem b));refine⟨l,k,?_,i⟩;rw[show l=rows[j]from hK.1];exact r
theorem QD{n:Nat}(h:N d e w base ok (.slice A n cc) xs):F d w ok A n xs:=λc b=>by
  have a:=E9 (Ho h b)
  rw[a.1]
  exact a.2.2
theorem Kr{n cap:Nat}(h:N d e W base ok (.slice (some ⟨g,0,none⟩) n cap) xs)(z:α)(i:Int)(h0:0≤i)(h1:i<n) :
    ∃c,c.length=d.sz∧FK d W (λk=>ok k∧k≠g) (xs.getD i.toNat z) c∧(∀j u,c[j]?=some u->W.cell? ⟨g,i.toNat*d.sz+j,none⟩=some u)∧∀j,W.frozen? ⟨g,i.toNat*d.sz+j,none⟩=false:=by
 obtain⟨_,rows,hl,hR,v⟩:=h;have w:=(AD hR).1;obtain⟨c,m,r,l,o⟩:=GG hR [] i h0 h1;have b:i.toNat<rows.length:=by omega
 have a:i.toNat<xs.length:=by omega
 have t:c=rows[i.toNat]:=by have q:=r.1;rwa[List.getD_eq_getElem?_getD,List.getElem?_eq_getElem b]at q
 refine⟨c,m,?_,l,o⟩;rw[List.getD_eq_getElem?_getD,List.getElem?_eq_getElem a];exact Gg (v _ _ _ (List.getElem?_eq_getElem a) (by rw[t];exact List.getElem?_eq_getElem b)) (λk p=>⟨p.1,λhe=>p.2 (by rw[he];simp[Value.ownBlock])⟩)
end
end Kd
end Go.Proofs.YtlhlpfnljglhoaaDoorW.PrintWords
end
section
namespace Go.Proofs.YtlhlpfnljglhoaaDoorW.PrintWords
open Go.RowKit
namespace Kd
section
variable {α:Type} {d:Kd α} {W:World} {g n:Nat} {S ok:Nat->Prop} {A:Option Addr} {ad:Addr} {xs:List α}
end
end Kd
end Go.Proofs.YtlhlpfnljglhoaaDoorW.PrintWords
end
section
namespace Go.Proofs.YtlhlpfnljglhoaaDoorW.PrintWords
open Go.RowKit
section
variable {w w' u:World} {m B g:Nat} {o:Obj} {row:Option Nat} {S:Nat->Prop} {a:Addr} {v:Value}
end
namespace Kd
section
variable {α:Type} {d:Kd α} {e base n m:Nat} {ok:Nat->Prop} {w w':World} {v:Value} {A:Option Addr} {xs:List α}
end
end Kd
end Go.Proofs.YtlhlpfnljglhoaaDoorW.PrintWords
end
section
namespace Go.Proofs.YtlhlpfnljglhoaaDoorW.PrintWords
open Go.RowKit
section
variable {P:Program} {d:Nat} {xs ys:Array Value} {f:Field} {fs:List Field} {a b:Value} {r s:Bool} {w:World}
theorem J3(i:(f.name == "_")=false)(e:(part f.type xs f.offset).run P w=.ok a w)(g:(part f.type ys f.offset).run P w=.ok b w)(he:(Op.equalIn d f.type a b).run P w=.ok r w):(Op.eqFields d xs ys [f]).run P w=.ok r w:=by
 have c:f.name ≠ "_" := by simpa using i
 simp only[Op.eqFields,if_pos c,Sem.run_bind,e,g,he,Result.andThen_ok];cases r <;> simp
theorem FP(i:(f.name == "_")=false)(e:(part f.type xs f.offset).run P w=.ok a w)(g:(part f.type ys f.offset).run P w=.ok b w)(he:(Op.equalIn d f.type a b).run P w=.ok r w)(j:(Op.eqFields d xs ys fs).run P w=.ok s w):(Op.eqFields d xs ys (f::fs)).run P w=.ok (r&&s) w:=by
 have c:f.name ≠ "_" := by simpa using i
 rw[Op.eqFields];simp only[if_pos c,Sem.run_bind,e,g,he,Result.andThen_ok];cases r
 ·simp
 simpa using j
theorem MI{t:TypeId}{fs:Array Field}(hu:P.underlying t=some (.struct fs))(b:P.stoodInHeld t=false)(h:(Op.eqFields d xs ys fs.toList).run P w=.ok r w):(Op.equalIn (d+1) t (.agg xs) (.agg ys)).run P w=.ok r w:=by
 have a:P.fieldsOf t=fs:=by simp[Program.fieldsOf,hu]
 rw[run_equalIn_struct (P:=P) w d t xs ys (by rw[a];exact hu) b,a];exact h
end
end Go.Proofs.YtlhlpfnljglhoaaDoorW.PrintWords
end
section
namespace Go.Proofs.YtlhlpfnljglhoaaDoorW.Bc
open Go.Proofs.YtlhlpfnljglhoaaDoorW.PrintWords (Ae)
def Gn(md:Region.Mode)(o:Oper):List Nat:=(o.after.toList.filter (λe=>Region.binds md e)).map (λe=>e.on)
def Ju(md:Region.Mode)(ops:Array Oper)(i:Nat)(b:Oper):List Nat:=(List.range ops.size).filter λj=>!(j==i)&&match ops[j]? with
  | some a=>!(a.after.any (λe=>Region.binds md e&&e.on==i) || b.apart ops a)
  | none=>false
def ED(md:Region.Mode)(ops:Array Oper):Bool×List (List Nat×List Nat):=(Region.noSelect ops,(List.range ops.size).map λi=>match ops[i]? with
  | some o=>(Gn md o,Ju md ops i o)
  | none=>([],[]))
def FA(T:List (List Nat×List Nat))(l:List Bool)(i:Nat):Bool:=!l.getD i true&&match T[i]? with
  | some r=>r.1.all (λj=>l.getD j false)
  | none=>false
def HY(T:List (List Nat×List Nat))(l:List Bool):List Nat:=(List.range T.length).filter (FA T l)
def J4(T:List (List Nat×List Nat))(l:List Bool)(i:Nat):Bool:=match T[i]? with
  | some r=>r.2.all (λj=>l.getD j true)
  | none=>false
def Ie(T:List (List Nat×List Nat))(l:List Bool):Bool:=(List.range T.length).all λj=>!l.getD j false || match T[j]? with
  | some r=>r.1.all (λk=>l.getD k false)
  | none=>true
def HX(T:List (List Nat×List Nat))(i:Nat):Nat->Nat->Bool
  | 0,_=>false
  | fuel+1,d=>match T[d]? with
    | some r=>r.1.any λj=>j==i || HX T i fuel j
    | none=>false
def Ln(T:List (List Nat×List Nat))(l:List Bool)(ds:List Nat)(i:Nat):Bool:=ds.all λd=>l.getD d true || HX T i T.length d
section
variable {md:Region.Mode} {ops:Array Oper} {T:Bool×List (List Nat×List Nat)} {l l' li lj lk:Array Bool} {ds:List Nat} {i j k:Nat}
theorem gd(l:Array Bool)(j:Nat)(b:Bool):l.getD j b=l.toList.getD j b:=by simp[Array.getD_eq_getD_getElem?,List.getD_eq_getElem?_getD]
theorem I6(o:Oper)(p:Nat->Bool):o.after.all (λe=>!Region.binds md e || p e.on)=(Gn md o).all p:=by
 unfold Gn;rw[<-Array.all_toList];induction o.after.toList with
 | nil=>rfl
 | cons e r a =>
   rw[List.all_cons,a,List.filter_cons]
   cases h:Region.binds md e <;> simp
theorem LV(o:Oper)(p:Nat->Bool):o.after.any (λe=>Region.binds md e&&p e.on)=(Gn md o).any p:=by
 unfold Gn;rw[<-Array.any_toList];induction o.after.toList with
 | nil=>rfl
 | cons e r a =>
   rw[List.any_cons,a,List.filter_cons]
   cases h:Region.binds md e <;> simp
theorem FB:(ED md ops).2.length=ops.size:=by simp[ED]
theorem Gs{o:Oper}(h:ops[i]?=some o):(ED md ops).2[i]?=some (Gn md o,Ju md ops i o):=by have hi:=(Array.getElem?_eq_some_iff.1 h).1;unfold ED;rw[List.getElem?_map,List.getElem?_range hi,Option.map_some,h]
theorem Gr(h:ops[i]?=none):(ED md ops).2[i]?=none:=by have hi:ops.size≤i:=Array.getElem?_eq_none_iff.1 h;exact List.getElem?_eq_none (by rw[FB];exact hi)
theorem KJ:FA (ED md ops).2 l.toList i=(!l.getD i true&&((ops[i]?).map (·.after.all λe=>!Region.binds md e || l.getD e.on false)).getD false):=by
 unfold FA;rw[gd];cases h:ops[i]? with
 | none=>rw[Gr h];rfl
 | some o =>
   rw[Gs h]
   simp only[Option.map_some,Option.getD_some]
   rw[<-I6]
   simp only[gd]
theorem Hg:Region.ready md ops l=HY (ED md ops).2 l.toList:=by unfold Region.ready HY;rw[FB];refine List.filter_congr (λi _=>?_);rw[KJ]
theorem Lg:Region.free md ops l i=J4 (ED md ops).2 l.toList i:=by
 unfold Region.free J4;cases h:ops[i]? with
 | none=>rw[Gr h]
 | some b =>
   rw[Gs h]
   simp only[Ju]
   rw[List.all_filter]
   congr 1
   funext j
   rw[gd]
   cases hj:ops[j]? with
   | none=>cases (j==i) <;> cases (l.toList.getD j true) <;> simp
   | some a =>
     cases (j==i) <;> cases (l.toList.getD j true) <;> cases (a.after.any (λe=>Region.binds md e&&e.on==i) || b.apart ops a) <;> simp_all
theorem LK:Region.G5 md ops l=Ie (ED md ops).2 l.toList:=by
 unfold Region.G5 Ie;rw[FB];congr 1;funext j;rw[gd];cases h:ops[j]? with
 | none=>rw[Gr h]
 | some o =>
   rw[Gs h]
   simp only
   rw[<-I6]
   simp only[gd]
theorem Ke:∀(fuel d:Nat),Region.Fh md ops i fuel d=HX (ED md ops).2 i fuel d
  | 0,_=>rfl
  | fuel+1,d=>by
    unfold Region.Fh HX
    cases h:ops[d]? with
    | none=>rw[Gr h]
    | some o =>
      rw[Gs h]
      simp only
      rw[<-LV]
      congr 1
      funext e
      rw[Ke fuel]
theorem NQ:Region.Lm md ops l ds i=Ln (ED md ops).2 l.toList ds i:=by unfold Region.Lm Ln;rw[FB];congr 1;funext d;rw[gd,Ke]
theorem H7(h:FA T.2 l.toList i=true)(b:ED md ops=T):(Region.ready md ops l).contains i=true:=by
 subst b;rw[Hg];unfold HY;rw[List.contains_iff_mem,List.mem_filter,List.mem_range];refine⟨?_,h⟩;unfold FA at h;rw[Bool.and_eq_true]at h;cases a:(ED md ops).2[i]? with
 | none=>rw[a]at h;simp at h
 | some r=>exact(List.getElem?_eq_some_iff.1 a).1
theorem Iw(h:(l.toList.set i true==l'.toList)=true):(l.setIfInBounds i true==l')=true:=by rw[beq_iff_eq]at h⊢;apply Array.ext';rw[Array.toList_setIfInBounds];exact h
def PV(T:Bool×List (List Nat×List Nat))(l l':List Bool)(i:Nat):Bool:=T.1&&J4 T.2 l i&&FA T.2 l i&&(l.set i true==l')
theorem Mv(a:ED md ops=T)(h:PV T l.toList l'.toList i=true):Ly md ops l l' i=true:=by simp only[PV,Bool.and_eq_true]at h;obtain⟨⟨⟨h1,b⟩,h3⟩,h4⟩:=h;have c:=H7 h3 a;have d:=Iw h4;subst a;simp only[Ly,Bool.and_eq_true];exact⟨⟨⟨h1,by rw[Lg];exact b⟩,c⟩,d⟩
def Nk(T:Bool×List (List Nat×List Nat))(ds:List Nat)(l l':List Bool)(i:Nat):Bool:=T.1&&J4 T.2 l i&&FA T.2 l i&&Ie T.2 l&&Ln T.2 l ds i&&(l.set i true==l')
theorem N6(a:ED md ops=T)(h:Nk T ds l.toList l'.toList i=true):E1 md ops ds l l' i=true:=by simp only[Nk,Bool.and_eq_true]at h;obtain⟨⟨⟨⟨⟨h1,b⟩,h3⟩,h4⟩,c⟩,d⟩:=h;have e:=H7 h3 a;have g:=Iw d;subst a;simp only[E1,Bool.and_eq_true];exact⟨⟨⟨⟨⟨h1,by rw[Lg];exact b⟩,e⟩,by rw[LK];exact h4⟩,by rw[NQ];exact c⟩,g⟩
theorem It(b:ED md ops=T)(h:(HY T.2 l.toList==[i]&&l.toList.set i true==l'.toList)=true):GR md ops l l' i=true:=by simp only[Bool.and_eq_true]at h;obtain⟨h1,a⟩:=h;subst b;simp only[GR,Bool.and_eq_true];exact⟨by rw[Hg];exact h1,Iw a⟩
theorem JP(b:ED md ops=T)(h:(HY T.2 l.toList==[i,j]&&l.toList.set i true==li.toList&&l.toList.set j true==lj.toList)=true):(Region.ready md ops l==[i,j]&&l.setIfInBounds i true==li&&l.setIfInBounds j true==lj)=true:=by simp only[Bool.and_eq_true]at h⊢;obtain⟨⟨h1,a⟩,h3⟩:=h;subst b;exact⟨⟨by rw[Hg];exact h1,Iw a⟩,Iw h3⟩
theorem CU(a:ED md ops=T)(h:(HY T.2 l.toList==[])=true):(Region.ready md ops l==[])=true:=by subst a;rw[Hg];exact h
def Pu(B:List Nat)(d:Nat):List Nat->Nat
  | []=>0
  | n::r=>(2 ^ n ||| (if n<d then B.getD n 0 else 0)) ||| Pu B d r
def DU(T:List (List Nat×List Nat))(B:List Nat):Bool:=(List.range T.length).all λd=>match T[d]? with
  | some r=>(B.getD d 0 ||| Pu B d r.1)==Pu B d r.1
  | none=>false
theorem Lu{B:List Nat}{d i:Nat}:∀{b:List Nat},(Pu B d b).testBit i=true->∃n∈b,n=i∨(n<d∧(B.getD n 0).testBit i=true)
  | [],h=>by simp[Pu]at h
  | n::r,h=>by
    unfold Pu at h
    rw[Nat.testBit_or,Nat.testBit_or,Bool.or_eq_true,Bool.or_eq_true]at h
    rcases h with(h|h)|h
    · rw[Nat.testBit_two_pow]at h
      exact⟨n,List.mem_cons_self,.inl (by simpa using h)⟩
    · by_cases a:n<d
      · rw[if_pos a]at h
        exact⟨n,List.mem_cons_self,.inr ⟨a,h⟩⟩
      · rw[if_neg a]at h
        simp at h
    · obtain⟨m,hm,c⟩:=Lu h
      exact⟨m,List.mem_cons_of_mem _ hm,c⟩
theorem I9{T:List (List Nat×List Nat)}{B:List Nat}(hB:DU T B=true):∀(fuel d:Nat),d<fuel->d<T.length->(B.getD d 0).testBit i=true->HX T i fuel d=true
  | 0,d,h,_,_=>by omega
  | fuel+1,d,h,g,e=>by
    have h1:=List.all_eq_true.1 hB d (List.mem_range.2 g)
    cases a:T[d]? with
    | none=>rw[a]at h1;simp at h1
    | some r =>
      rw[a]at h1
      simp only[beq_iff_eq]at h1
      have b:(Pu B d r.1).testBit i=true:=by rw[<-h1,Nat.testBit_or,e,Bool.true_or]
      obtain⟨n,j,h3⟩:=Lu b
      unfold HX
      rw[a]
      simp only
      rw[List.any_eq_true]
      refine⟨n,j,?_⟩
      rcases h3 with rfl|⟨h4,c⟩
      · simp
      · rw[I9 hB fuel n (by omega) (by omega) c,Bool.or_true]
def Oo(T:List (List Nat×List Nat))(B:List Nat)(l:List Bool)(ds:List Nat)(i:Nat):Bool:=ds.all λd=>l.getD d true || (decide (d<T.length)&&(B.getD d 0).testBit i)
def OD(T:Bool×List (List Nat×List Nat))(B:List Nat)(ds:List Nat)(l l':List Bool)(i:Nat):Bool:=T.1&&J4 T.2 l i&&FA T.2 l i&&Ie T.2 l&&Oo T.2 B l ds i&&(l.set i true==l')
theorem DJ{B:List Nat}(k:ED md ops=T)(hB:DU T.2 B=true)(h:OD T B ds l.toList l'.toList i=true):E1 md ops ds l l' i=true:=by
 refine N6 k ?_;simp only[OD,Nk,Bool.and_eq_true]at h⊢;obtain⟨⟨⟨⟨⟨h1,e⟩,h3⟩,h4⟩,b⟩,g⟩:=h;refine⟨⟨⟨⟨⟨h1,e⟩,h3⟩,h4⟩,?_⟩,g⟩;unfold Oo at b;unfold Ln;rw[List.all_eq_true]at b⊢;intro d m;have a:=b d m;rw[Bool.or_eq_true,Bool.and_eq_true,decide_eq_true_eq]at a;rcases a with a|⟨c,j⟩
 ·rw[a,Bool.true_or]
 rw[I9 hB _ d c c j,Bool.or_true]
theorem BZ{P:Program}{Q:Exit->Act->World->Prop}{S:World->Prop}{n:Nat}{a:Act}{w:World}{B:List Nat}(b:ED md ops=T)(hB:DU T.2 B=true)(h:Ae (ED md ops=T)->Ae (DU T.2 B=true)->Ax P md ops Q S ds n l a w):Ax P md ops Q S ds n l a w:=h ⟨b⟩ ⟨hB⟩
end
def Gv:Code->Nat->Option (Array Oper)
  | .region id ops _,k=>if id==k then some ops else none
  | .seq a b,k=>match Gv a k with
    | some o=>some o
    | none=>Gv b k
  | .cond _ a b,k=>match Gv a k with
    | some o=>some o
    | none=>Gv b k
  | .block _ c,k=>Gv c k
  | .loop c,k=>Gv c k
  | .scope c,k=>Gv c k
  | .rangeFunc _ _ a b,k=>match Gv a k with
    | some o=>some o
    | none=>Gv b k
  | _,_=>none
def opsOf(f:Func)(k:Nat):Array Oper:=((f.body.bind λc=>Gv c k)).getD #[]
end Go.Proofs.YtlhlpfnljglhoaaDoorW.Bc
end
section
namespace Go.Proofs.YtlhlpfnljglhoaaDoorW.Bc
section
variable {P:Program} {ops:Array Oper} {Q:Exit->Act->World->Prop} {md:Region.Mode} {S:World->Prop} {ds:List Nat} {T:Bool×List (List Nat×List Nat)}
end
end Go.Proofs.YtlhlpfnljglhoaaDoorW.Bc
end
section
namespace Go.Proofs.YtlhlpfnljglhoaaDoorW.PrintWords
open Go.RowKit
section
variable {P:Program} {ops:Array Oper} {rest:List Oper} {o:Oper} {a:Act} {Q:Exit->Act->World->Prop} {W:World}
end
end Go.Proofs.YtlhlpfnljglhoaaDoorW.PrintWords
end
section
namespace Go.Proofs.YtlhlpfnljglhoaaDoorW.Bc
section
variable {P:Program} {ops:Array Oper} {Q:Exit->Act->World->Prop} {md:Region.Mode} {T:Bool×List (List Nat×List Nat)} {B:List Nat} {O:List Nat} {b:Nat->Bool} {i j n:Nat}
end
end Go.Proofs.YtlhlpfnljglhoaaDoorW.Bc
end
section
namespace Go.Proofs.YtlhlpfnljglhoaaDoorW.PrintWords
open Go.RowKit
end Go.Proofs.YtlhlpfnljglhoaaDoorW.PrintWords
namespace Go.Proofs.YtlhlpfnljglhoaaDoorW.Bc
section
variable {ops:Array Oper} {a:Act} {o og:Oper} {g:Nat} {t:Tmp} {u:Bool}
end
end Go.Proofs.YtlhlpfnljglhoaaDoorW.Bc
end
section
namespace Go.Proofs.YtlhlpfnljglhoaaDoorW.PrintWords
open Go.RowKit
namespace Kd
section
variable {α:Type} {d:Kd α} {e base g o n cap:Nat} {ok okp:Nat->Prop} {w W:World} {v:Value} {xs:List α}
end
section
variable {α:Type} {enc:α->Value} {h1:∀ x,(enc x).oneCell'=true} {e base g o n cap:Nat} {ok:Nat->Prop} {W:World} {xs:List α}
end
end Kd
end Go.Proofs.YtlhlpfnljglhoaaDoorW.PrintWords
end
section
namespace Go.Proofs.YtlhlpfnljglhoaaDoorW.PrintWords
open Go.RowKit
namespace Kd
section
variable {α:Type} {d:Kd α} {e base n cap g:Nat} {ok Fc okp:Nat->Prop} {w w1 W:World} {v v1:Value} {xs ys:List α}
theorem Ik{rows news:List (List Value)}(h0:∀k,v.ownBlock=some k->ok k)(hl:rows.length=xs.length)(z:∀(j:Nat) (x:α) (c:List Value),xs[j]?=some x->rows[j]?=some c->FK d W (λk=>ok k∧some k≠v.ownBlock) x c)
    (u:news.length=ys.length)(r:∀(j:Nat) (x:α) (c:List Value),ys[j]?=some x->news[j]?=some c->FK d W okp x c)(m:∀k,okp k->ok k∧some k≠v.ownBlock)(i:∀k,W.heap.size≤k->ok k)
    (hR:(raw d.sz).R e w1 base (λ_=>True) v1 (rows++news))(hg:W.grownBy w1 v.ownBlock)(g:v1.ownBlock=v.ownBlock∨∃b,v1.ownBlock=some b∧W.heap.size≤b):N d e w1 base ok v1 (xs++ys):=by
 have w:∀k,some k≠v.ownBlock->k<W.heap.size->some k≠v1.ownBlock:=by
  intro k a l;rcases g with g|⟨b,q,hle⟩
  ·rw[g];exact a
  rw[q];intro he;injection he with he;omega
 have step:∀{x:α} {c:List Value} {o:Nat->Prop},FK d W o x c->(∀k,o k->ok k∧some k≠v.ownBlock)->FK d w1 (λk=>ok k∧some k≠v1.ownBlock) x c:=by intro x c o A y;exact Gg (GX (Ij A) (λk a l=>hg.block k l (y k a.1).2)) (λk a=>⟨(y k a.1).1,w k (y k a.1).2 a.2⟩)
 refine⟨λk a=>?_,rows++news,by rw[List.length_append,List.length_append,hl,u],HU hR,λj x c p n=>?_⟩
 ·rcases g with g|⟨b,q,hle⟩
  ·exact h0 k (g ▸ a)
  rw[q]at a;injection a with a;exact i k (by omega)
 rcases Nat.lt_or_ge j xs.length with l|t
 ·rw[List.getElem?_append_left l]at p;rw[List.getElem?_append_left (by omega)]at n;exact step (z j x c p n) (λ_ a=>a)
 rw[List.getElem?_append_right t]at p;rw[List.getElem?_append_right (by omega),hl]at n;exact step (r _ x c p n) m
theorem OH{x:α}{c:List Value}(h:FK d W ok x c):c=c∧c.length=d.sz∧∀u∈c,u.oneCell'=true:=⟨rfl,d.D_ (Fp h),d.DV (Fp h)⟩
theorem OS{rows:List (List Value)}(hR:(raw d.sz).R e w1 base (λk=>k=W.heap.size) v1 rows)(hg:W.grownBy w1 none)(i:∃b,v1.ownBlock=some b∧W.heap.size≤b)(hl:rows.length=xs.length)(p:∀(j:Nat) (x:α) (c:List Value),xs[j]?=some x->rows[j]?=some c->FK d W okp x c)
    (m:∀k,okp k->ok k)(a:ok W.heap.size):N d e w1 base ok v1 xs:=by obtain⟨b,n,hle⟩:=i;refine⟨λk g=>by rw[hR.1 k g];exact a,rows,hl,HU hR,λj x c q o=>?_⟩;refine Gg (GX (Ij (p j x c q o)) (λk g l=>hg.block k l (by simp))) (λk g=>⟨m k g.1,λhe=>?_⟩);rw[n]at he;injection he with he;have:=g.2;omega
theorem Lw{rows:List (List Value)}{i:Int}{x':α}{r:List Value}(h0:∀k,(Value.slice (some ⟨g,0,none⟩) n cap).ownBlock=some k->ok k)(hl:rows.length=xs.length)(v:∀(j:Nat) (x:α) (c:List Value),xs[j]?=some x->rows[j]?=some c->FK d W (λk=>ok k∧some k≠(Value.slice (some ⟨g,0,none⟩) n cap).ownBlock) x c)
    (hR:(raw d.sz).R e w1 base (λ_=>True) (.slice (some ⟨g,0,none⟩) n cap) (rows.set i.toNat r))(hg:W.grownBy w1 (some g))(u:FK d W okp x' r)(a:∀k,okp k->ok k∧k≠g):N d e w1 base ok (.slice (some ⟨g,0,none⟩) n cap) (xs.set i.toNat x'):=by
 have p:some g=(Value.slice (some ⟨g,0,none⟩) n cap).ownBlock:=by simp[Value.ownBlock]
 refine⟨h0,rows.set i.toNat r,by rw[List.length_set,List.length_set,hl],HU hR,λj x c l m=>?_⟩;have t:j<xs.length:=by have:=(List.getElem?_eq_some_iff.1 l).1;rwa[List.length_set]at this
 by_cases q:j=i.toNat
 ·subst q;rw[List.getElem?_set_self t]at l;rw[List.getElem?_set_self (by omega)]at m;injection l with l;injection m with m;rw[<-l,<-m];exact Gg (GX u (λk o b=>hg.block k b (λhe=>(a k o).2 (by injection he)))) (λk o=>⟨(a k o).1,λhe=>(a k o).2 (by rw[<-p]at he;injection he)⟩)
 rw[List.getElem?_set_ne (Ne.symm q)]at l m;exact GX (v j x c l m) (λk o b=>hg.block k b (by rw[p];exact o.2))
theorem PM(h:N d e W base ok (.slice (some ⟨g,0,none⟩) n cap) xs)(i:Int)(h0:0≤i)(h1:i<n){c seg:List Value}{j:Nat}(o:c.length=d.sz)(m:∀j u,c[j]?=some u->W.cell? ⟨g,i.toNat*d.sz+j,none⟩=some u)
    (r:j+seg.length≤d.sz){x':α}(l:FK d W okp x' (c.take j++seg++c.drop (j+seg.length)))(a:∀k,okp k->ok k∧k≠g) :
    N d e (W.setCells g (i.toNat*d.sz+j) seg) base ok (.slice (some ⟨g,0,none⟩) n cap) (xs.set i.toNat x')∧W.grownBy (W.setCells g (i.toNat*d.sz+j) seg) (some g):=by obtain⟨b,rows,hl,hR,q⟩:=h;obtain⟨p,h3⟩:=KY (JK hR) i h0 h1 (c:=c) (seg:=seg) (j:=j) (x':=c.take j++seg++c.drop (j+seg.length)) (okp:=λ_=>False) o m r ⟨rfl,d.D_ (Fp l),d.DV (Fp l)⟩ (λ_ t=>t.elim);exact⟨Lw b hl q p h3 l a,h3⟩
theorem L4{b:α->List Value->Prop}{sz m:Nat}{A:Option Addr}(h:CH b sz W A m ys)(hR:∀x c,b x c->c.length=sz∧∀u∈c,u.oneCell'=true) :
    ∃news:List (List Value),news.length=ys.length∧CH (λx cs=>cs=x∧cs.length=sz∧∀u∈cs,u.oneCell'=true) sz W A m news∧∀(j:Nat) (x:α) (c:List Value),ys[j]?=some x->news[j]?=some c->b x c:=by
 rcases Nat.eq_zero_or_pos m with h0|o
 ·have t:ys=[]:=List.eq_nil_of_length_eq_zero (h.1.trans h0);subst t;exact⟨[],rfl,⟨h0 ▸ rfl,h.2.1,λo=>by omega⟩,λj x c l=>by simp at l⟩
 obtain⟨ad,rfl,_⟩:=h.2.2 o;obtain⟨inner,q,r⟩:=CH.KC h;refine⟨chunks sz ys.length inner,CI _ _ _,⟨by rw[CI];exact h.1,h.2.1,λ_=>⟨ad,rfl,λj p n=>?_⟩⟩,λj x c l d=>?_⟩
 ·have e:j<ys.length:=by have:=(List.getElem?_eq_some_iff.1 n).1;rwa[CI]at this
  have a:=Fs n;have g:=hR _ _ (q.2 j _ (List.getElem?_eq_getElem e));rw[<-a]at g;refine⟨p,g.1,⟨rfl,g⟩,λi u hu=>?_⟩
  have k:inner[j*sz+i]?=some u:=by
   rw[a,List.getElem?_take]at hu;split at hu
   ·rw[List.getElem?_drop]at hu;exact hu
   cases hu
  exact r _ u k
 rw[Fs d];exact q.2 j x l
end
section
variable {P:Program} {ops:Array Oper} {rest:List Oper} {o:Oper} {a:Act} {Q:Exit->Act->World->Prop} {Kc:Act->World->Prop} {α:Type}
theorem Mg(d:Kd α){w0 W:World}(base:Nat)(w:o.guard=none)(s x:Operand)(t e:TypeId)(z:Value)(bytes:Nat)
    (L:o.op=.call { callee:=.builtin .append,args:=#[s,x],argTypes:=#[t,t] })
    (O:P.underlying t=some (.slice e))(m:(P.info? e).map (λi=>(i.zero,i.size,i.bytes))=some (some z,d.sz,bytes))(hz:z.cells.size=d.sz)(A:0<d.sz)(u:0<bytes)
    (v:Value)(xs:List α)(p:α)(cs:List Value)(ok okp:Nat->Prop)(hs:a.eval s=v)(T:a.eval x=.slice (some ⟨W.heap.size,0,none⟩) 1 1)(E:FK d W okp p cs)(r:∀k,okp k->ok k∧some k≠v.ownBlock)(g:∀k,W.heap.size≤k->ok k)
    (G:N d e W base ok v xs)(HB:Below base w0 W)(l:base≤W.heap.size)(hl:(xs.length+1)*bytes≤140737488355328)
    (h:∀v1 w1,N d e w1 base ok v1 (xs++[p])->Below base w0 w1->W.grownBy w1 v.ownBlock->(v1.ownBlock=v.ownBlock∨∃b,v1.ownBlock=some b∧W.heap.size≤b)->wpList P ops Q rest (a.put o.dst v1) w1) :
    wpList P ops Q (o::rest) a (W.alloc (.cells cs.toArray e)):=by
 obtain⟨h0,rows,q,hR,J⟩:=G;refine E_ (raw d.sz) base w s x t e z bytes L O m hz A u v rows cs cs (λ_=>True) (λ_=>False) hs T (OH E) (λ_ K=>K.elim) (λ_ _=>trivial) (JK hR) HB l (by rw[q];exact hl) ?_;intro v1 w1 M I hg n
 exact h v1 w1 (Ik h0 q J (ys:=[p]) (news:=[cs]) rfl (λj y c B D=>by
   rcases j with _|j
   · simp only[List.getElem?_cons_zero,Option.some.injEq]at B D
     rw[<-B,<-D];exact E
   · simp at B) r g M hg n) I hg n
theorem Fq(d:Kd α){w0 W:World}(base:Nat)(hw:Region.wanted o (yielded ops a.tmps)=true)(s x:Operand)(t e:TypeId)(z:Value)(bytes:Nat)
    (L:o.op=.call { callee:=.builtin .append,args:=#[s,x],argTypes:=#[t,t] })
    (O:P.underlying t=some (.slice e))(l:(P.info? e).map (λi=>(i.zero,i.size,i.bytes))=some (some z,d.sz,bytes))(hz:z.cells.size=d.sz)(E:0<d.sz)(u:0<bytes)
    (v:Value)(xs ys:List α)(A:Option Addr)(m c:Nat)(ok okp:Nat->Prop)(hs:a.eval s=v)(T:a.eval x=.slice A m c)
    (G:N d e W base ok v xs)(I:F d W okp A m ys)(r:∀k,okp k->ok k∧some k≠v.ownBlock)(g:∀k,W.heap.size≤k->ok k)
    (HB:Below base w0 W)(j:base≤W.heap.size)(hl:(xs.length+m)*bytes≤140737488355328)
    (h:∀v1 w1,N d e w1 base ok v1 (xs++ys)->Below base w0 w1->W.grownBy w1 v.ownBlock->(v1.ownBlock=v.ownBlock∨∃b,v1.ownBlock=some b∧W.heap.size≤b)->Kc (a.put o.dst v1) w1) :
    if Region.wanted o (yielded ops a.tmps)=true then Oper.wp P o a W Kc Q else Kc (a.put o.dst undef) W:=by obtain⟨h0,rows,q,hR,K⟩:=G;obtain⟨news,B,D,w⟩:=L4 (OL I) (λy c n=>⟨d.D_ (Fp n),d.DV (Fp n)⟩);refine Bo (raw d.sz) base hw s x t e z bytes L O l hz E u v rows news A m c (λ_=>True) (λ_=>False) hs T (JK hR) D (λ_ _ n=>n) (λ_ n=>n.elim) (λ_ _=>trivial) HB j (by rw[q];exact hl) ?_;intro v1 w1 M J hg p;exact h v1 w1 (Ik h0 q K B w r g M hg p) J hg p
theorem Ks(d:Kd α){w0 W:World}(base e:Nat)(hw:Region.wanted o (yielded ops a.tmps)=true){N':Tmp}(_hd:o.dst=some N'){xs:List α}{inner:List Value}{ok okp:Nat->Prop}
    (n:(execOp a.eval o).run P W=.ok (.value (.slice (some ⟨W.heap.size,0,none⟩) xs.length xs.length)) (W.alloc (.cells inner.toArray e)))
    (i:Bi (FK d W okp) d.sz xs inner)(q:∀k,okp k->ok k)(g:ok W.heap.size)(HB:Below base w0 W)(l:base≤W.heap.size)(hm:xs.length≤9223372036854775807)
    (h:∀v1 w1,N d e w1 base ok v1 xs->Below base w0 w1->W.grownBy w1 none->(∃b,v1.ownBlock=some b∧W.heap.size≤b)->Kc (a.put o.dst v1) w1) :
    if Region.wanted o (yielded ops a.tmps)=true then Oper.wp P o a W Kc Q else Kc (a.put o.dst undef) W:=by refine CR (raw d.sz) base e hw _hd (xs:=chunks d.sz xs.length inner) (inner:=inner) (ok:=λk=>k=W.heap.size) (okp:=λ_=>False) (by rw[CI];exact n) (Kf i (λy c p=>⟨d.D_ (Fp p),d.DV (Fp p)⟩)) (λ_ p=>p.elim) rfl HB l (by rw[CI];exact hm) ?_;intro v1 w1 u r hg m;exact h v1 w1 (OS u hg m (CI _ _ _) (λj y c v t=>by rw[Fs t];exact i.2 j y v) q g) r hg m
end
end Kd
end Go.Proofs.YtlhlpfnljglhoaaDoorW.PrintWords
end
section
namespace Go.Proofs.YtlhlpfnljglhoaaDoorW.C6
open Go.RowKit Go.Proofs.YtlhlpfnljglhoaaDoorW.PrintWords
namespace Kd
open Go.Proofs.YtlhlpfnljglhoaaDoorW.PrintWords.Kd
end Kd
namespace Kd
open Go.Proofs.YtlhlpfnljglhoaaDoorW.PrintWords.Kd
section
variable {α:Type} {d:Kd α} {e base g N:Nat} {ok:Nat->Prop} {W w1:World} {u v:Value} {xs:List α}
end
end Kd
end Go.Proofs.YtlhlpfnljglhoaaDoorW.C6
namespace Go.Proofs.YtlhlpfnljglhoaaDoorW.PrintWords
open Go.RowKit
section
variable {P:Program} {ops:Array Oper} {rest:List Oper} {o:Oper} {a:Act} {Q:Exit->Act->World->Prop} {W:World}
theorem BN{f:FuncId}{b:Array Operand}{c:Array TypeId}(_ho:o.op=.call { callee:=.value (.func f),args:=b,argTypes:=c })(h:wpList P ops Q (o::rest) a W):wpList P ops Q (o::rest) a W:=h
theorem Bt{b:Builtin}{xs:Array Operand}{c:Array TypeId}(_ho:o.op=.call { callee:=.builtin b,args:=xs,argTypes:=c })(h:wpList P ops Q (o::rest) a W):wpList P ops Q (o::rest) a W:=h
end
def mx(a b:Int):Int:=if a<b then b else a
def mn(a b:Int):Int:=if b<a then b else a
theorem En(w:World)(n:Nat):w.drewN n=w.drewN n:=rfl
namespace Kd
section
variable {α:Type} {d:Kd α} {e base:Nat} {ok:Nat->Prop} {W w1:World} {v:Value} {xs:List α}
end
section
variable {α:Type} {d:Kd α} {e base g n cap:Nat} {ok oki okp:Nat->Prop} {W:World} {xs:List α} {i:Int} {c:List Value}
theorem Mp(l:H d e W base ok (.slice (some ⟨g,0,none⟩) n cap) xs i oki c)(h0:0≤i)(h1:i<n){seg:List Value}{j:Nat}(o:j+seg.length≤d.sz)
    {x':α}(m:d.M W base okp x' (c.take j++seg++c.drop (j+seg.length)))(b:∀k,okp k->oki k) :
    S d e (W.setCells g (i.toNat*d.sz+j) seg) base ok (.slice (some ⟨g,0,none⟩) n cap) (xs.set i.toNat x')∧W.grownBy (W.setCells g (i.toNat*d.sz+j) seg) (some g) :=
  PQ (okg:=λ_=>False) (OP l (λ_ a=>⟨a,λh=>h⟩)) h0 h1 o m (λk a=>.inl (b k a)) (λ_ a=>a.elim)
end
section
variable {α:Type} {d:Kd α} {e base b b' g N:Nat} {ok ok1:Nat->Prop} {W W2 w1:World} {u v:Value} {xs ys:List α} {S:Nat->Prop}
end
end Kd
end Go.Proofs.YtlhlpfnljglhoaaDoorW.PrintWords
namespace Go.Proofs.YtlhlpfnljglhoaaDoorW.PrintWords
open Go.RowKit
namespace Kd
def V{α:Type}(d:Kd α)(_e:Nat)(W:World)(_base:Nat)(ok:Nat->Prop)(v:Value)(xs:List α):Prop:=∃A c,v=.slice A xs.length c∧xs.length≤c∧F d W ok A xs.length xs
section
variable {α β:Type} {d:Kd α} {e base Em n m c g N' lo hi:Nat} {ok Fc S:Nat->Prop} {w W w1:World} {A:Option Addr} {ad:Addr} {u v v1:Value} {xs:List α}
theorem FM(h:V d e W base ok v xs)(hF:∀A,F d W ok A xs.length xs->F d w1 Fc A xs.length xs):V d e w1 Em Fc v xs:=by obtain⟨A,c,b,hl,a⟩:=h;exact⟨A,c,b,hl,hF A a⟩
theorem Ny(hl:xs.length≤c)(a:F d W ok A xs.length xs):V d e W base ok (.slice A xs.length c) xs:=⟨A,c,rfl,hl,a⟩
theorem Ca(h:V d e W base ok v xs):∃A c,v=.slice A xs.length c:=by obtain⟨A,c,a,_⟩:=h;exact⟨A,c,a⟩
theorem JZ(h:V d e W base ok (.slice A n c) xs):n=xs.length∧n≤c∧F d W ok A xs.length xs:=by obtain⟨A',k,j,hl,i⟩:=h;injection j with b a g;subst b;subst g;exact⟨a,by rw[a];exact hl,i⟩
theorem Bk(h:V d e W base ok (.slice A n c) xs):n=xs.length∧n≤c∧d.C W A xs.length xs:=⟨(JZ h).1,(JZ h).2.1,Mf (JZ h).2.2⟩
theorem Qv(h:V d e W base ok (.slice A n c) xs):F d W ok A n xs:=by obtain⟨b,_,a⟩:=JZ h;rw[b];exact a
theorem Oh(h:d.R e W base ok v xs):V d e W Em ok v xs:=by obtain⟨A,c,rfl⟩:=Bg h;exact⟨A,c,rfl,(AD h).2.1,QK h⟩
theorem AH(h:V d e W base ok v xs)(a:∀k,ok k->Fc k):V d e W base Fc v xs:=FM h (λ_ b=>GD b a)
theorem Fz(h:V d e W base ok v xs):V d e W base (λk=>ok k∧k<W.heap.size) v xs:=FM h (λ_ a=>Jk a)
theorem Js(h:V d e W base ok v xs)(_:Em≤base):V d e W Em ok v xs:=h
theorem O7(h:V d e W base ok v xs)(hm:∀k,ok k->k<W.heap.size->w1.heap[k]?=W.heap[k]?):V d e w1 base ok v xs:=FM h (λ_ a=>Hn a hm)
theorem BE(h:V d e W base ok v xs)(a:Below W.heap.size W w1):V d e w1 base ok v xs:=FM h (λ_ b=>Jj b a)
theorem AR(h:V d e W base ok v xs):V d e W.drew base ok v xs:=FM h (λ_ a=>OI a)
theorem BF(h:V d e W base ok v xs)(m:Nat):V d e (W.drewN m) base ok v xs:=FM h (λ_ a=>Nt a m)
theorem Jr(h:V d e W base ok v xs){row:Option Nat}(hg:W.grownBy w1 row)(a:∀k,ok k->some k≠row):V d e w1 base ok v xs:=FM h (λ_ b=>Nu b hg a)
theorem Bb(h:V d e W base ok v xs){p:Addr}(a:∀k,ok k->k≠p.block)(u:Value):V d e (W.setCell p u) base ok v xs:=FM h (λ_ b=>PH b a u)
theorem Mr(h:V d e W base ok v xs)(c:Ai W w1 g none)(a:∀k,ok k->k≠g):V d e w1 base ok v xs:=FM h (λ_ b=>OJ b c a)
theorem O6(h:V d e W base ok v xs)(c:Kept W w1 S)(a:∀k,ok k->¬ S k):V d e w1 base ok v xs:=FM h (λ_ b=>OK b c a)
theorem K5(h:V d e W base (λk=>ok k∧some k≠u.ownBlock) v xs)(hg:W.grownBy w1 u.ownBlock)(a:v1.ownBlock=u.ownBlock∨∃b,v1.ownBlock=some b∧W.heap.size≤b):V d e w1 base (λk=>ok k∧some k≠v1.ownBlock) v xs:=FM h (λ_ c=>Ns c hg a)
theorem F8(h:V d e W base (λk=>ok k∧some k≠v.ownBlock) u xs)(hg:W.grownBy w1 v.ownBlock)(a:v1.ownBlock=v.ownBlock∨∃b,v1.ownBlock=some b∧W.heap.size≤b):V d e w1 base (λk=>ok k∧some k≠v1.ownBlock) u xs:=K5 h hg a
theorem Dn(h:V d e W base ok v xs)(a:∀k,u.ownBlock=some k->W.heap.size≤k)(b:Below W.heap.size W w1):V d e w1 base (λk=>ok k∧some k≠u.ownBlock) v xs:=FM h (λ_ c=>Mc c a b)
theorem CY(h:V d e W base ok v xs)(a:Nat)(b:W.heap.size≤a):V d e W base (λk=>ok k∧k≠a) v xs:=FM h (λ_ c=>Me c a b)
theorem OM(h:F d W ok A xs.length xs)(hm:m≤xs.length):F d W ok A (xs.take m).length (xs.take m):=Od h (λ_ a=>GB a hm)
theorem Oc(h:F d W ok A xs.length xs)(hm:m≤xs.length)(b:xs.length≤c):F d W ok (if c=m then A else A.map (·.add (m*d.sz))) (xs.drop m).length (xs.drop m):=Od h (λ_ a=>Ji a hm b)
theorem JR(h:V d e W base ok (.slice A n c) xs)(b:∀k,ok k->k≠g):∀a,Ai W a g none->d.C a A n xs:=λa j=>by
  have i:=Bk (Mr h j b)
  rw[i.1]
  exact i.2.2
theorem FQ{M:Nat->Prop}(h:d.R e w1 W.heap.size ok v xs)(hle:w.heap.size≤W.heap.size)(b:∀k,w.heap.size≤k->M k):d.R e w1 W.heap.size (λk=>M k∧ok k) v xs:=Aj (CO h) (λk a=>⟨b k (Nat.le_trans hle a.2.1),a.1⟩)
end
end Kd
end Go.Proofs.YtlhlpfnljglhoaaDoorW.PrintWords
end
section
namespace Go.Proofs.YtlhlpfnljglhoaaDoorW.PrintWords
theorem Bi.one{α:Type}{R:α->List Value->Prop}{ps:List α}{cs:List Value}{p:α}{v:Value}(b:R p [v])(h:Bi R 1 ps cs):Bi R 1 (p::ps) (v::cs):=by
 refine⟨by simp[h.1],λj q a=>?_⟩;cases j with
 | zero =>
   simp only[List.getElem?_cons_zero,Option.some.injEq]at a
   subst a
   simpa using b
 | succ j =>
   simp only[List.getElem?_cons_succ]at a
   have h1:=h.2 j q a
   simpa[Nat.mul_one]using h1
theorem Bi.front{α:Type}{R:α->List Value->Prop}{size:Nat}{ps:List α}{cs c all:List Value}{p:α}(e:R p c)(b:c.length=size)(h:Bi R size ps cs)(d:c++cs=all):Bi R size (p::ps) all:=by
 subst d;refine⟨by rw[List.length_append,b,h.1,List.length_cons,Nat.succ_mul,Nat.add_comm],λj q a=>?_⟩;cases j with
 | zero =>
   simp only[List.getElem?_cons_zero,Option.some.injEq]at a
   subst a
   rw[Nat.zero_mul,List.drop_zero,List.take_append_of_le_length (by omega),List.take_of_length_le (by omega)]
   exact e
 | succ j =>
   simp only[List.getElem?_cons_succ]at a
   have h1:=h.2 j q a
   rw[Nat.succ_mul,List.drop_append,List.drop_of_length_le (by rw[b];exact Nat.le_add_left _ _),List.nil_append,b,Nat.add_sub_cancel]
   exact h1
theorem Bi.c2{α:Type}{R:α->List Value->Prop}{ps:List α}{cs:List Value}{p:α}{a b:Value}(c:R p [a,b])(h:Bi R 2 ps cs):Bi R 2 (p::ps) (a::b::cs):=Bi.front c rfl h rfl
theorem Bi.c3{α:Type}{R:α->List Value->Prop}{ps:List α}{cs:List Value}{p:α}{a b c:Value}(d:R p [a,b,c])(h:Bi R 3 ps cs):Bi R 3 (p::ps) (a::b::c::cs):=Bi.front d rfl h rfl
theorem Bi.c4{α:Type}{R:α->List Value->Prop}{ps:List α}{cs:List Value}{p:α}{a b c d:Value}(e:R p [a,b,c,d])(h:Bi R 4 ps cs):Bi R 4 (p::ps) (a::b::c::d::cs):=Bi.front e rfl h rfl
theorem Bi.c5{α:Type}{R:α->List Value->Prop}{ps:List α}{cs:List Value}{p:α}{a b c d e:Value}(g:R p [a,b,c,d,e])(h:Bi R 5 ps cs):Bi R 5 (p::ps) (a::b::c::d::e::cs):=Bi.front g rfl h rfl
theorem Bi.c6{α:Type}{R:α->List Value->Prop}{ps:List α}{cs:List Value}{p:α}{a b c d e g:Value}(i:R p [a,b,c,d,e,g])(h:Bi R 6 ps cs):Bi R 6 (p::ps) (a::b::c::d::e::g::cs):=Bi.front i rfl h rfl
theorem Bi.c7{α:Type}{R:α->List Value->Prop}{ps:List α}{cs:List Value}{p:α}{a b c d e g i:Value}(j:R p [a,b,c,d,e,g,i])(h:Bi R 7 ps cs):Bi R 7 (p::ps) (a::b::c::d::e::g::i::cs):=Bi.front j rfl h rfl
theorem Bi.c8{α:Type}{R:α->List Value->Prop}{ps:List α}{cs:List Value}{p:α}{a b c d e g i j:Value}(k:R p [a,b,c,d,e,g,i,j])(h:Bi R 8 ps cs):Bi R 8 (p::ps) (a::b::c::d::e::g::i::j::cs):=Bi.front k rfl h rfl
theorem Bi.c9{α:Type}{R:α->List Value->Prop}{ps:List α}{cs:List Value}{p:α}{a b c d e g i j k:Value}(l:R p [a,b,c,d,e,g,i,j,k])(h:Bi R 9 ps cs):Bi R 9 (p::ps) (a::b::c::d::e::g::i::j::k::cs):=Bi.front l rfl h rfl
theorem Bi.Dr{α:Type}{R:α->List Value->Prop}{ps:List α}{cs:List Value}{p:α}{a b c d e g i j k l:Value}(m:R p [a,b,c,d,e,g,i,j,k,l])(h:Bi R 10 ps cs):Bi R 10 (p::ps) (a::b::c::d::e::g::i::j::k::l::cs):=Bi.front m rfl h rfl
end Go.Proofs.YtlhlpfnljglhoaaDoorW.PrintWords
end
section
namespace Go.Proofs.YtlhlpfnljglhoaaDoor
open Go.RowKit
end Go.Proofs.YtlhlpfnljglhoaaDoor
end
