/- The tied card of the statement FnClientForm (what waits are the next ones of its own) is proved: fnClientFormCard_holds : Rows.FnClientFormCardSaid. Conditions: none. Joined by programs (wip/shake.py, wip/mini.py). -/
import Derived.Test.YtlhlpfnljglhoaaDoorZCp8
set_option linter.unusedVariables false
set_option linter.unusedSimpArgs false
set_option linter.unusedSectionVars false
set_option maxHeartbeats 8000000
set_option maxRecDepth 100000
namespace Go.Proofs.YtlhlpfnljglhoaaDoor.PL
open Go.RowKit Go.Proofs.YtlhlpfnljglhoaaDoor.P Go.Proofs.YtlhlpfnljglhoaaDoorW.PrintWords Go.Proofs.YtlhlpfnljglhoaaDoorW.Bc
def NH(a b:AM):Bool:=a.f0==b.f0&&(a.f1==b.f1&&(a.f2.f0==b.f2.f0&&(a.f2.f1==b.f2.f1&&(a.f2.f2==b.f2.f2&&(a.f2.f3==b.f2.f3&&(a.f2.f4.toList==b.f2.f4.toList))))))
def J6(l:List AM)(e:AM):Bool:=l.any λx=>NH x e
theorem LO(x:AM)(l:List AM)(e:AM):J6 (x::l) e=(NH x e || J6 l e):=rfl
theorem MK(l:List AM)(e:AM)(hl:l.length≤1099511627776):∀n i:Nat,i+n=l.length->Ev (λk=>BQ.l0 k l i e.f0 e.f1 e.f2.f0 e.f2.f1 e.f2.f2 e.f2.f3 e.f2.f4) (J6 (l.drop i) e)
 | 0,i,h=>by
  rw[List.drop_eq_nil_of_le (by omega)]
  refine Ev.step (f:=λ_=>some false) (λk=>?_) (AW _)
  simp only[BQ.l0];rw[if_neg (by omega)]
 | n+1,i,h=>by
  have hi:i<l.length:=by omega
  rw[List.drop_eq_getElem_cons hi,LO]
  refine Ev.step (f:=λk=>if NH l[i] e=true then some true else BQ.l0 k l ((i+1:Nat):Int) e.f0 e.f1 e.f2.f0 e.f2.f1 e.f2.f2 e.f2.f3 e.f2.f4) (λk=>?_) ?_
  ·simp only[BQ.l0]
   rw[if_pos (by omega),if_pos (by omega),EY l i hi,ET i (by omega) (by omega)]
   rfl
  ·cases hq:NH l[i] e with
   | true=>exact Ao rfl (AW _)
   | false=>exact AE (by decide) (MK l e hl n (i+1) (by omega))
theorem P7(l:List AM)(e:AM)(hl:l.length≤1099511627776):Ev (λk=>BQ.f k l e.f0 e.f1 e.f2.f0 e.f2.f1 e.f2.f2 e.f2.f3 e.f2.f4) (J6 l e):=by unfold BQ.f;exact MK l e hl l.length 0 (by omega)
def Mt(l:List AM)(e:AM):List AM×Int:=if J6 l e=true then(l,0)else if e.f1=Fg l e.f0+1 then(if(l.length:Int)≥40 then(l,-1)else(l++[e],1))else(l,-1)
theorem PU(l:List AM)(e:AM)(hl:l.length≤1099511627776):Ev (λk=>B_.f k l e.f0 e.f1 e.f2.f0 e.f2.f1 e.f2.f2 e.f2.f3 e.f2.f4) (Mt l e):=by
 have b:=K_ l e.f0;have w1:wrap64 (Fg l e.f0+1)=Fg l e.f0+1:=ET _ b.1 (by omega);unfold B_.f Mt;refine Ev.bind (M_ l e.f0 (by omega)) (Ev.bind (P7 l e hl) ?_);rw[w1];cases J6 l e with
 | true=>exact Ao rfl (AW _)
 | false =>
  refine AE (by decide) ?_
  rw[if_neg (show¬ (false=true) by decide)]
  by_cases h1:e.f1=Fg l e.f0+1
  ·refine Ao h1 ?_
   rw[if_pos h1]
   by_cases a:(l.length:Int)≥40
   ·refine Ao a ?_
    rw[if_pos a]
    exact AW _
   ·refine AE a ?_
    rw[if_neg a]
    simp only[Option.bind_some,List.nil_append,List.length_nil,List.length_cons]
    exact Ao (by omega) (Ao (by omega) (AW _))
  ·refine AE h1 ?_
   rw[if_neg h1]
   exact AW _
theorem Mu{l:List AM}{e:AM}(h:(Mt l e).2=1):(Mt l e).1=l++[e]∧J6 l e=false∧e.f1=Fg l e.f0+1∧l.length<40:=by
 unfold Mt at h⊢;cases b:J6 l e with
 | true=>rw[b,if_pos rfl]at h;exact absurd h (show¬ ((0:Int)=1) by decide)
 | false =>
  rw[b,if_neg (show¬ (false=true) by decide)]at h
  rw[if_neg (show¬ (false=true) by decide)]
  by_cases h1:e.f1=Fg l e.f0+1
  ·rw[if_pos h1]at h⊢
   by_cases a:(l.length:Int)≥40
   ·rw[if_pos a]at h;exact absurd h (show¬ ((-1:Int)=1) by decide)
   ·rw[if_neg a];exact⟨rfl,rfl,h1,by omega⟩
  ·rw[if_neg h1]at h;exact absurd h (show¬ ((-1:Int)=1) by decide)
def L9(l:List AM)(s:Int):Bool:=LU l&&(decide (0≤s)&&decide (s≤(l.length:Int)))
theorem Pp(l:List AM)(s:Int)(u:Bool)(h:Kn l)(hl:l.length≤281474976710656):Ev (λk=>CW.f k l s u) (L9 l s):=by
 unfold CW.f L9;refine Ev.bind (Po l h hl) ?_;cases LU l with
 | false=>simp only[Bool.false_eq_true,if_false,Bool.false_and];exact AW _
 | true =>
  simp only[if_true,Bool.true_and,Hw,Option.bind_some]
  exact AW _
theorem Jb{l:List AM}{s:Int}(h:L9 l s=true):l.length≤40∧0≤s∧s≤l.length:=by unfold L9 at h;simp only[Bool.and_eq_true,decide_eq_true_eq]at h;exact⟨MX h.1,h.2.1,h.2.2⟩
def I7(l:List AM)(s:Int)(u:Bool)(a:Int):List AM:=if L9 l s=true∧u=true∧0≤a∧a≤s then(l.take s.toNat).drop a.toNat else[]
theorem N3(l:List AM)(s:Int)(u:Bool)(a:Int)(h:Kn l)(hl:l.length≤281474976710656):Ev (λk=>Di.f k l s u a) (I7 l s u a):=by
 unfold Di.f I7;refine Ev.bind (Pp l s u h hl) ?_;cases hs:L9 l s with
 | false=>simp only[Bool.false_eq_true,if_false,false_and];exact AW _
 | true =>
  obtain⟨hl,h0,h1⟩:=Jb hs
  simp only[if_true,true_and]
  cases u with
  | false=>simp only[Bool.false_eq_true,if_false,false_and];exact AW _
  | true =>
   simp only[if_true,true_and,Hw,Option.bind_some]
   by_cases b:0≤a∧a≤s
   ·have:(decide (0≤a)&&decide (a≤s))=true:=by simp[b.1,b.2]
    rw[this,if_pos rfl,if_pos b,if_pos b.1,if_pos b.2,if_pos h1,if_pos (by rw[List.length_drop,List.length_take];simp;omega)]
    exact AW _
   ·have:(decide (0≤a)&&decide (a≤s))=false:=by
     cases c:(decide (0≤a)&&decide (a≤s))with
     | false=>rfl
     | true=>simp only[Bool.and_eq_true,decide_eq_true_eq]at c;exact absurd c b
    rw[this,if_neg (by decide),if_neg b]
    exact AW _
theorem LW(l:List AM)(s:Int)(u:Bool)(a:Int):(I7 l s u a).length≤40:=by
 unfold I7;split
 ·rename_i h;obtain⟨hl,_,_⟩:=Jb h.1;rw[List.length_drop,List.length_take];omega
 simp
theorem Ey(b:List Int)(p n:Int)(m:Nat)(d:Bytes b)(e:Rd p (m+1)):Bj (λk=>Ac.f k b p n) (λq=>0≤q.1∧(1≤n->q.1<n)∧(n<1->q.1=0)∧Rd q.2 m):=by obtain⟨r,h1,a,h3,h4,c⟩:=C8 b p n m d e;exact⟨_,h1,h3,h4,c,a⟩
def Eo(l:List AM):Prop:=∀e∈l,GK e=true∧N8 e
theorem Eo.wf{l:List AM}(h:Eo l):Kn l:=λe he=>(h e he).2
theorem Eo.sub{l l':List AM}(h:Eo l)(hs:∀e∈l',e∈l):Eo l':=λe he=>h e (hs e he)
theorem Eo.snoc{l:List AM}(h:Eo l){e:AM}(he:GK e=true∧N8 e):Eo (l++[e]):=λx a=>(List.mem_append.1 a).elim (h x) (λa=>by rw[List.mem_singleton.1 a];exact he)
theorem MG{e:AM}(h:GK e=true):Kp e.f2.f0 e.f2.f1 e.f2.f2 e.f2.f3 e.f2.f4=true:=by unfold GK at h;simp only[Bool.and_eq_true]at h;exact h.1.2
theorem Eo.op{l:List AM}(h:Eo l):∀e∈l,Kp e.f2.f0 e.f2.f1 e.f2.f2 e.f2.f3 e.f2.f4=true:=λe he=>MG (h e he).1
structure H9 (c:EI):Prop where
 CL:1≤c.f0∧c.f0≤3
 seen:0≤c.f1∧c.f1≤40
 base:JQ c.f2 (3+c.f1.toNat)
 wait:Eo c.f3
 done:0≤c.f4∧c.f4+c.f3.length≤40
structure Nv (m:Dm):Prop where
 dest:0≤m.f0∧m.f0≤3
 one:m.f0=0->0<m.f2.length
 QN:0≤m.f1∧m.f1≤40
 P4:Eo m.f2
 len:m.f2.length≤40
structure WG (x:Wd):Prop where
 log:Eo x.l0
 JE:x.l0.length≤40
 safe:0≤x.s∧x.s≤(x.l0.length:Int)
 three:x.l3.length=3
 Kx:∀c∈x.l3,H9 c
 J_:x.l4.length≤12
 lets:∀m∈x.l4,Nv m
theorem He(l:List EI)(i:Int)(h0:0≤i)(h1:i<(l.length:Int)):Aw l i∈l:=by unfold Aw;rw[List.getD_eq_getElem?_getD,List.getElem?_eq_getElem (show i.toNat<l.length by omega)];exact List.getElem_mem _
theorem N0(l:List Dm)(i:Int)(h0:0≤i)(h1:i<(l.length:Int)):AB l i∈l:=by unfold AB;rw[List.getD_eq_getElem?_getD,List.getElem?_eq_getElem (show i.toNat<l.length by omega)];exact List.getElem_mem _
theorem GO{α:Type}{l:List α}{i:Nat}{v x:α}(h:x∈l.set i v):x∈l∨x=v:=by
 rcases List.mem_or_eq_of_mem_set h with h|h
 ·exact Or.inl h
 exact Or.inr h
def Fw(q:Int×Int×List Ba×List AM×Int×Int×Bool):Prop:=H9 ⟨q.1,q.2.1,q.2.2.1,q.2.2.2.1,q.2.2.2.2.1,q.2.2.2.2.2.1⟩
theorem JA(l:List AM)(hl:Eo l)(m:l.length≤40)(b:EI)(h0:H9 b):∀(n i:Nat) (c:EI),i+n=l.length->H9 c->c.f1+n≤40 ->
  Bj (λk=>Ap.l0 k l i b.f0 b.f1 b.f2 b.f3 b.f4 b.f5 c.f0 c.f1 c.f2 c.f3 c.f4 c.f5) Fw
 | 0,i,c,h,a,hs=>by
  refine Bj.step (λk=>by simp only[Ap.l0];rfl) ?_
  exact Bj.neg (by omega) (Bj.now (P:=Fw) a)
 | n+1,i,c,h,a,hs=>by
  have hi:i<l.length:=by omega
  have he:=hl _ (List.getElem_mem hi)
  have j:=a.base.do (by have:=a.seen;omega) (MG he.1)
  have g:3+(c.f1+1).toNat=3+c.f1.toNat+1:=by have:=a.seen;omega
  have w1:wrap64 (c.f1+1)=c.f1+1:=AP _ (by have:=a.seen;omega) (by have:=a.seen;omega)
  have o:wrap64 (c.f4+1)=c.f4+1:=AP _ (by have:=a.done;omega) (by have:=a.done;omega)
  have p:wrap64 ((i:Int)+1)=((i+1:Nat):Int):=AP _ (by omega) (by omega)
  refine Bj.step (λk=>by simp only[Ap.l0];rfl) ?_
  rw[EY l i hi,w1,o,p]
  refine Bj.pos (by omega) (Bj.pos (by omega) (Bj.ite (λ_=>Bj.ite (λ_=>Bj.now (P:=Fw) h0) (λz=>?_)) (λ_=>?_)))
  ·refine Bj.pos (by omega) (Bj.ite (λ_=>Bj.now (P:=Fw) h0) (λ_=>Bj.pos (by omega) ?_))
   refine Bj.bind j (λr d=>?_)
   rw[<-g]at d
   exact JA l hl m b h0 n (i+1) ⟨c.f0,c.f1+1,r,c.f3.drop 1,c.f4+1,c.f5⟩ (by omega) ⟨a.CL,by have:=a.seen;exact⟨by simp only;omega,by simp only;omega⟩,d,a.wait.sub (λe h=>List.mem_of_mem_drop h),by have:=a.done;refine⟨by simp only;omega,?_⟩;simp only[List.length_drop];omega⟩ (by simp only;omega)
  ·refine Bj.bind j (λr d=>?_)
   rw[<-g]at d
   exact JA l hl m b h0 n (i+1) ⟨c.f0,c.f1+1,r,c.f3,c.f4,c.f5⟩ (by omega) ⟨a.CL,by have:=a.seen;exact⟨by simp only;omega,by simp only;omega⟩,d,a.wait,a.done⟩ (by simp only;omega)
theorem ML(c:EI)(h:H9 c)(a:Int)(l:List AM)(i:0≤a∧a≤40)(hl:Eo l)(e:l.length≤40):Bj (λk=>Ap.f k c.f0 c.f1 c.f2 c.f3 c.f4 c.f5 a l) Fw:=by
 have hs:=h.seen;have out:Bj (λk=>Ap.j0 k a l true c.f0 c.f1 c.f2 c.f3 c.f4 c.f5) Fw:=by refine Bj.step (λk=>by simp only[Ap.j0];rfl) ?_;exact Bj.pos (by simp) (Bj.now (P:=Fw) h)
 unfold Ap.f;refine Bj.ite (λ_=>out) (λh1=>?_);have w1:wrap64 (a+(l.length:Int))=a+l.length:=AP _ (by omega) (by omega);have g:wrap64 (c.f1-a)=c.f1-a:=AP _ (by omega) (by omega);rw[w1];by_cases b:a+(l.length:Int)>40
 ·rw[BJ b];exact out
 rw[C1 b];refine Bj.step (λk=>by simp only[Ap.j0];rfl) ?_;refine Bj.neg (by decide) ?_;have d:mx (wrap64 (c.f1-a)) 0=(((c.f1-a).toNat:Nat):Int):=by rw[g];unfold mx;split <;> omega
 rw[d];by_cases h3:(c.f1-a).toNat≤l.length
 ·exact JA l hl e c h (l.length-(c.f1-a).toNat) _ c (by omega) h (by omega)
 refine Bj.step (λk=>by simp only[Ap.l0];rfl) ?_;exact Bj.neg (by omega) (Bj.now (P:=Fw) h)
theorem Pb(c:EI)(h:H9 c)(k i u a:Int)(s:ByteArray)(x:EG k)(hi:EG i)(hu:EG u)(v:EG a)(hs:s.size≤9223372036854775807):Bj (λn=>Cg.f n c.f0 c.f1 c.f2 c.f3 c.f4 c.f5 k i u a s) Fw:=by
 have w:=h.done;have hw:=h.CL;have w1:wrap64 (wrap64 (c.f4+(c.f3.length:Int))+1)=c.f4+c.f3.length+1:=by rw[AP (c.f4+c.f3.length) (by omega) (by omega),AP _ (by omega) (by omega)]
 have wf:N8 ⟨c.f0,c.f4+c.f3.length+1,⟨k,i,u,a,s⟩⟩:=⟨Bl (by simp only;omega) (by simp only;omega),Bl (by simp only;omega) (by simp only;omega),x,hi,hu,v,hs⟩
 have out:∀j l m o p q t,Bj (λn=>Cg.j0 n true c.f0 c.f1 c.f2 c.f3 c.f4 c.f5 k i u a s j l m o p q t) Fw:=λj l m o p q t=>by
  refine Bj.step (λk=>by simp only[Cg.j0];rfl) ?_
  exact Bj.pos (by simp) (Bj.now (P:=Fw) h)
 unfold Cg.f;rw[w1];refine Bj.bind (Bj.of (KM _ wf) rfl) (λr e=>?_);subst e;refine Bj.ite (λhe=>?_) (λ_=>out _ _ _ _ _ _ _)
 have g:∀d:Int,H9 ⟨c.f0,c.f1,c.f2,c.f3++[⟨c.f0,c.f4+c.f3.length+1,⟨k,i,u,a,s⟩⟩],c.f4,d⟩:=λd=>⟨h.CL,h.seen,h.base,h.wait.snoc ⟨he,wf⟩,by
  have b:=he
  unfold GK at b
  simp only[Bool.and_eq_true,decide_eq_true_eq]at b
  refine⟨w.1,?_⟩
  simp only[List.length_append,List.length_singleton]
  omega⟩
 have put:Bj (λn=>Cg.j0 n false c.f0 c.f1 c.f2 c.f3 c.f4 c.f5 k i u a s c.f0 (c.f4+c.f3.length+1) k i u a s) Fw:=by refine Bj.step (λk=>by simp only[Cg.j0];rfl) ?_;refine Bj.neg (by decide) ?_;simp only[Option.bind_some,List.nil_append,List.length_nil,List.length_singleton];refine Bj.ite (λ_=>Bj.pos (by omega) (Bj.pos (by omega) (Bj.now (P:=Fw) (g _)))) (λ_=>Bj.pos (by omega) (Bj.pos (by omega) (Bj.now (P:=Fw) (g _))))
 refine Bj.ite (λ_=>?_) (λ_=>put);obtain⟨r,e,_⟩:=Ja c.f0 (wrap64 (c.f5+1));rw[e];simp only[Option.bind_some];cases (i != r)with
 | true=>exact out _ _ _ _ _ _ _
 | false=>exact put
theorem WG.put{l0:Dk}{s:Int}{u:Bool}{l3:Ef}{l4:Dl}(h:WG ⟨l0,s,u,l3,l4⟩){m:Dm}(hm:Nv m):WG ⟨l0,s,u,l3,BI.f l4 m⟩:=by
 refine⟨h.log,h.JE,h.safe,h.three,h.Kx,?_,?_⟩
 ·show(BI.f l4 m).length≤12;unfold BI.f;split
  ·rw[List.length_append,List.length_singleton];omega
  exact h.J_
 show ∀x∈BI.f l4 m,Nv x;unfold BI.f;split
 ·intro x a;rcases List.mem_append.1 a with a|a
  ·exact h.lets x a
  rw[List.mem_singleton.1 a];exact hm
 exact h.lets
theorem WG.Qj{l0:Dk}{s:Int}{u:Bool}{l3:Ef}{l4:Dl}(h:WG ⟨l0,s,u,l3,l4⟩){c:EI}(a:H9 c)(i:Nat):WG ⟨l0,s,u,l3.set i c,l4⟩ :=
 ⟨h.log,h.JE,h.safe,by show(l3.set i c).length=3;rw[List.length_set];exact h.three,λx b=>(GO b).elim (h.Kx x) (λe=>e ▸ a),h.J_,h.lets⟩
theorem L_(l:Dk)(s:Int)(u:Bool)(e:AM)(hl:Eo l)(a:l.length≤40)(he:GK e=true∧N8 e)(hs:0≤s∧s≤(l.length:Int)) :
  Bj (λk=>D6.f k l s u e.f0 e.f1 e.f2.f0 e.f2.f1 e.f2.f2 e.f2.f3 e.f2.f4) (λq=>Eo q.1∧q.1.length≤40∧0≤q.2.1∧q.2.1≤(q.1.length:Int)):=by
 unfold D6.f;refine Bj.bind (Bj.of (PU l e (by omega)) rfl) (λr c=>?_);subst c;refine Bj.ite (λ_=>Bj.ite (λh1=>Bj.now ?_) (λ_=>Bj.now ⟨hl,a,hs⟩)) (λ_=>Bj.now ⟨hl,a,hs⟩);obtain⟨b,_,_,h4⟩:=Mu h1;rw[b];refine⟨hl.snoc he,?_,hs.1,?_⟩
 ·rw[List.length_append,List.length_singleton];omega
 have:=hs.2;simp only[List.length_append,List.length_singleton];omega
theorem NA(x:Wd)(h:WG x)(m:Dm)(hm:Nv m):Bj (λk=>DM.f k x m) WG:=by
 obtain⟨l0,s,u,l3,l4⟩:=x;have d:=hm.dest;have h3:l3.length=3:=h.three;unfold DM.f;refine Bj.ite (λz=>?_) (λz=>?_)
 ·have:=hm.one z;refine Bj.pos (by omega) ?_;have a:Aa m.f2 0∈m.f2:=by have:=EY m.f2 0 (hm.one z);rw[show((0:Nat):Int)=0 from rfl]at this;rw[this];exact List.getElem_mem _
  refine Bj.bind (L_ l0 s u _ h.log h.JE (hm.P4 _ a) h.safe) (λq b=>Bj.now ?_);exact⟨b.1,b.2.1,b.2.2,h.three,h.Kx,h.J_,h.lets⟩
 have w:wrap64 (m.f0-1)=m.f0-1:=AP _ (by omega) (by omega);rw[w];refine Bj.pos (by omega) (Bj.pos (by show m.f0-1<(l3.length:Int);omega) ?_);have c:=h.Kx _ (He l3 (m.f0-1) (by omega) (by omega));refine Bj.bind (ML _ c m.f1 m.f2 hm.QN hm.P4 hm.len) (λq b=>Bj.now ?_);exact h.Qj b _
theorem Qc(x:Wd)(h:WG x)(e:IY):Bj (λk=>DG.f k x e) WG:=by
 obtain⟨l0,s,u,l3,l4⟩:=x;have h4:l4.length≤12:=h.J_;unfold DG.f;refine Bj.pos (by show l4.length≤1000;omega) (Bj.ite (λz=>?_) (λ_=>Bj.now h));have hm:=h.lets _ (N0 l4 e.n z.1 z.2)
 have a:WG ⟨l0,s,u,l3,l4.take e.n.toNat++l4.drop (e.n.toNat+1)⟩:=by
  refine⟨h.log,h.JE,h.safe,h.three,h.Kx,?_,?_⟩
  ·simp only[List.length_append,List.length_take,List.length_drop];omega
  intro m hm;rcases List.mem_append.1 hm with hm|hm
  ·exact h.lets m (List.mem_of_mem_take hm)
  exact h.lets m (List.mem_of_mem_drop hm)
 refine Bj.ite (λ_=>Bj.now (h.put hm)) (λ_=>Bj.ite (λ_=>NA _ a _ hm) (λ_=>Bj.now a))
theorem Ki{l0:Dk}{s:Int}{u:Bool}{l3:Ef}:∀(l:Dk) (l4:Dl),Eo l->WG ⟨l0,s,u,l3,l4⟩->WG ⟨l0,s,u,l3,Gb l4 l⟩
 | [],l4,_,h=>h
 | e::l,l4,hl,h=>by
  unfold Gb
  refine Ki l _ (hl.sub λx a=>List.mem_cons_of_mem _ a) (h.put ⟨⟨by simp,by simp⟩,λ_=>by simp,⟨by simp,by simp⟩,λx a=>?_,by simp⟩)
  have:x=e:=by simpa using a
  rw[this];exact hl e List.mem_cons_self
def OT(o:Et):Prop:=EG o.f0∧EG o.f1∧EG o.f2∧EG o.f3∧o.f4.size≤9223372036854775807
theorem LX{l:Dk}(h:Eo l)(s:Int)(u:Bool)(a:Int):Eo (I7 l s u a):=by
 unfold I7;split
 ·exact h.sub λe he=>List.mem_of_mem_take (List.mem_of_mem_drop he)
 intro e he;cases he
theorem Qn(x:Wd)(h:WG x)(e:IY)(a:OT e.o):Bj (λk=>DH.f k x e) WG:=by
 obtain⟨l0,s,u,l3,l4⟩:=x;have h3:l3.length=3:=h.three;unfold DH.f;refine Bj.ite (λz=>Bj.pos (by show e.CL-1<(l3.length:Int);omega) ?_) (λ_=>Bj.now h);have c:=h.Kx _ (He l3 (e.CL-1) (by omega) (by omega));refine Bj.ite (λ_=>?_) (λ_=>Bj.ite (λ_=>Bj.now (Ki _ _ c.wait h)) (λ_=>Bj.ite (λ_=>Bj.ite (λhu=>Bj.ite (λg=>?_) (λ_=>Bj.now h)) (λ_=>Bj.now h)) (λ_=>Bj.now h)))
 ·refine Bj.bind (Pb _ c _ _ _ _ _ a.1 a.2.1 a.2.2.1 a.2.2.2.1 a.2.2.2.2) (λq b=>Bj.now (h.Qj b _))
 have j:l0.length≤40:=h.JE;have hs:0≤s∧s≤(l0.length:Int):=h.safe;have i:0≤e.n∧e.n≤s:=g;refine Bj.bind (Bj.of (N3 l0 s true e.n h.log.wf (by omega)) rfl) (λq b=>Bj.now ?_);subst b;exact h.put ⟨⟨by simp only;omega,by simp only;omega⟩,λd=>by simp only at d;omega,⟨by simp only;omega,by simp only;omega⟩,LX h.log _ _ _,LW _ _ _ _⟩
theorem Pd(l:Dk)(s:Int)(u:Bool)(a:Int)(hl:Eo l)(c:l.length≤40)(hs:0≤s∧s≤(l.length:Int))(b:0≤a∧a≤40):∃q,D5.f l s u a=some q∧Eo q.1∧q.1.length≤40∧0≤q.2.1∧q.2.1≤(q.1.length:Int):=by
 have w:wrap64 (s+a)=s+a:=AP _ (by omega) (by omega);have hm:0≤mn (l.length:Int) (s+a)∧mn (l.length:Int) (s+a)≤l.length∧s≤mn (l.length:Int) (s+a):=by unfold mn;split <;> omega
 unfold D5.f;rw[w];simp only[Option.bind_some,List.nil_append,List.length_nil];rw[if_pos hm.1,if_pos hm.2.1,if_pos (by rw[List.length_take];omega)];refine⟨_,rfl,hl.sub λe he=>List.mem_of_mem_take he,?_,hs.1,?_⟩
 ·simp only[List.length_take];omega
 simp only[List.length_take];omega
theorem Pc(x:Wd)(h:WG x)(e:IY)(c:OT e.o):Bj (λk=>Es.f k x e) WG:=by have h0:=h;obtain⟨l0,s,u,l3,l4⟩:=x;unfold Es.f;refine Bj.ite (λ_=>Qn _ h e c) (λ_=>Bj.ite (λ_=>Bj.ite (λ_=>Bj.now ⟨h.log,h.JE,⟨by simp,by simp⟩,h.three,h.Kx,h.J_,h.lets⟩) (λ_=>Bj.now h)) (λ_=>Bj.ite (λ_=>Bj.ite (λz=>?_) (λ_=>Bj.now h)) (λ_=>Bj.ite (λ_=>Bj.now ⟨h.log,h.JE,h.safe,h.three,h.Kx,h.J_,h.lets⟩) (λ_=>Bj.ite (λ_=>Qc _ h e) (λ_=>Bj.now h)))));obtain⟨q,b,a⟩:=Pd l0 s u e.n h.log h.JE h.safe z;rw[b];exact Bj.now ⟨a.1,a.2.1,a.2.2,h.three,h.Kx,h.J_,h.lets⟩
def JH:List Ba:=[⟨1,0,⟨#[]⟩⟩,⟨2,0,⟨#[]⟩⟩,⟨3,0,⟨#[]⟩⟩]
theorem NU:JQ JH 3:=by
 refine⟨λx a h=>?_,⟨⟨3,0,⟨#[]⟩⟩,by simp[JH],rfl⟩,λx a=>?_,by simp[Uq,JH],by simp[GI,JH],by simp[JH]⟩
 ·have:x=⟨1,0,⟨#[]⟩⟩∨x=⟨2,0,⟨#[]⟩⟩∨x=⟨3,0,⟨#[]⟩⟩:=by simpa[JH]using a
  rcases this with rfl|rfl|rfl <;> rfl
 have:x=⟨1,0,⟨#[]⟩⟩∨x=⟨2,0,⟨#[]⟩⟩∨x=⟨3,0,⟨#[]⟩⟩:=by simpa[JH]using a
 rcases this with rfl|rfl|rfl <;> exact⟨Bl (by decide) (by decide),by decide⟩
theorem JQ.more{t:List Ba}{n m:Nat}(h:JQ t n)(hm:n≤m):JQ t m:=⟨h.root,h.found,h.ids,h.uq,h.ch,Nat.le_trans h.len hm⟩
structure OG (c:EI):Prop where
 CL:1≤c.f0∧c.f0≤3
 seen:0≤c.f1∧c.f1≤40
 base:JQ c.f2 43
 wait:Eo c.f3
 done:0≤c.f4∧c.f4+c.f3.length≤40
theorem H9.s{c:EI}(h:H9 c):OG c:=⟨h.CL,h.seen,h.base.more (by have:=h.seen;omega),h.wait,h.done⟩
theorem OT.zero:OT IM:=⟨Bl (by decide) (by decide),Bl (by decide) (by decide),Bl (by decide) (by decide),Bl (by decide) (by decide),by decide⟩
def Qt(m:Nat)(q:IY×Int):Prop:=OT q.1.o∧Rd q.2 m
theorem IZ(b:List Int)(a:Bytes b)(p:Int)(m:Nat)(c:Rd p (m+2))(x:Wd):Bj (λk=>Gh k b p x) (Qt m):=by unfold Gh;refine Bj.bind (Ey b p _ (m+1) a c) (λr e=>Bj.bind (Ey b r.2 2 m a e.2.2.2) (λq d=>Bj.now ⟨OT.zero,d.2.2.2⟩))
theorem NI(b:List Int)(d:Bytes b)(p:Int)(m:Nat)(G:Rd p (m+40))(x:Wd)(h:WG x):Bj (λk=>DN.f k b p x) (Qt m):=by
 have h3:x.l3.length=3:=h.three;have Z:∀{a b c:Int} {r:Int},Rd r m->Qt m (⟨a,b,c,IM⟩,r):=λe=>⟨OT.zero,e⟩
 unfold DN.f;refine Bj.bind (Ey b p 3 (m+39) d G) (λw hw=>Bj.pos hw.1 (Bj.pos (by have:=hw.2.1 (by decide);omega) ?_));have l:=h.Kx _ (He x.l3 w.1 hw.1 (by have:=hw.2.1 (by decide);omega));refine Bj.bind (Ey b w.2 14 (m+38) d hw.2.2.2) (λq g=>Bj.ite (λ_=>?_) (λ_=>Bj.ite (λ_=>Bj.now (Z (g.2.2.2.less (by omega)))) (λ_=>Bj.ite (λ_=>Bj.now (Z (g.2.2.2.less (by omega)))) (λ_=>Bj.ite (λ_=>?_) (λ_=>Bj.ite (λ_=>?_) (λ_=>Bj.ite (λ_=>?_) (λ_=>IZ b d _ m (g.2.2.2.less (by omega)) x)))))))
 ·refine Bj.bind (Nl (by have:=l.done;omega) l.wait.op (by have:=l.seen;omega) l.base) (λt n=>?_);obtain⟨k,i,u,a,s,K,h1,D,h4⟩:=M2 b d t _ (1+w.1) (Aw x.l3 w.1).f5 q.2 (m+21) n.inv (by have:=n.len;have:=l.done;have:=l.seen;omega) g.2.2.2;refine Bj.bind (Bj.of h1 rfl) (λo E=>Bj.now ?_);subst E;obtain⟨y,I,z,A,B,J⟩:=D;have gk:EG k:=by rcases y with rfl|rfl|rfl <;> exact Bl (by decide) (by decide)
  exact⟨⟨gk,z,A,B,by simp only;omega⟩,h4.less (by omega)⟩
 ·exact Bj.bind (Ey b q.2 4 (m+37) d g.2.2.2) (λr e=>Bj.now (Z (e.2.2.2.less (by omega))))
 ·refine Bj.bind (Ey b q.2 3 (m+37) d g.2.2.2) (λr e=>Bj.ite (λ_=>Bj.bind (Ey b r.2 3 (m+36) d e.2.2.2) (λv j=>Bj.now (Z (j.2.2.2.less (by omega))))) (λ_=>Bj.ite (λ_=>?_) (λ_=>Bj.now (Z (e.2.2.2.less (by omega))))));exact Bj.bind (Ey b r.2 4 (m+36) d e.2.2.2) (λv j=>Bj.ite (λ_=>Bj.now (Z (j.2.2.2.less (by omega)))) (λ_=>IZ b d _ m (j.2.2.2.less (by omega)) x))
 exact Bj.bind (Ey b q.2 2 (m+37) d g.2.2.2) (λr e=>Bj.bind (Ey b r.2 _ (m+36) d e.2.2.2) (λv j=>Bj.ite (λ_=>Bj.now (Z (j.2.2.2.less (by omega)))) (λ_=>Bj.now (Z (j.2.2.2.less (by omega))))))
theorem Lo(b:List Int)(c:Bytes b):∀(N:Nat) (p:Int) (m:Nat) (x:Wd),N≤1000->Rd p (m+40*N)->WG x->Bj (λk=>Cc.l0 k b p N x) (λq=>WG q.1∧Rd q.2 m)
 | 0,p,m,x,_,a,h=>by
  refine Bj.step (λk=>by simp only[Cc.l0];rfl) ?_
  exact Bj.neg (by omega) (Bj.now ⟨h,a.less (by omega)⟩)
 | N+1,p,m,x,hN,a,h=>by
  refine Bj.step (λk=>by simp only[Cc.l0];rfl) ?_
  have w:wrap64 (((N+1:Nat):Int)-1)=(N:Int):=by rw[AP _ (by omega) (by omega)];omega
  rw[w]
  refine Bj.pos (by omega) (Bj.bind (NI b c p (m+40*N) (a.less (by omega)) x h) (λe he=>Bj.bind (Pc x h e.1 he.1) (λy d=>?_)))
  exact Lo b c N e.2 m y (by omega) he.2 d
theorem Lb(l0:Dk)(s:Int)(u:Bool)(l3:Ef)(l4:Dl)(h4:l4.length≤12)(hm:∀m∈l4,m.f2.length≤40)(a:Dk)(b:Int)(c:Bool)(d:Ef):∀(n i:Nat),i+n=l4.length->Bj (λk=>AG.l1 k i l0 s u l3 l4 a b c d (l4.take i)) (λq=>q=(a,b,c,d,l4))
 | 0,i,h=>by
  refine Bj.step (λk=>by simp only[AG.l1];rfl) ?_
  refine Bj.neg (by omega) (Bj.now ?_)
  rw[List.take_of_length_le (by omega)]
 | n+1,i,h=>by
  have hi:i<l4.length:=by omega
  have e:AB l4 (i:Int)=l4[i]:=by
   unfold AB
   rw[List.getD_eq_getElem?_getD,show((i:Int)).toNat=i from rfl,List.getElem?_eq_getElem hi];rfl
  have w:wrap64 ((i:Int)+1)=((i+1:Nat):Int):=AP _ (by omega) (by omega)
  have hl:=hm _ (List.getElem_mem hi)
  refine Bj.step (λk=>by simp only[AG.l1];rfl) ?_
  simp only[Option.bind_some,List.nil_append,List.length_nil]
  rw[e,w]
  refine Bj.pos (by omega) (Bj.pos (by omega) (Bj.pos (by omega) (Bj.pos (by rw[List.length_take];omega) ?_)))
  have g:=Lb l0 s u l3 l4 h4 hm a b c d n (i+1) (by omega)
  rw[List.take_succ_eq_append_getElem hi]at g
  exact g
theorem La(l0:Dk)(s:Int)(u:Bool)(l3:Ef)(l4:Dl)(h4:l4.length≤12)(hm:∀m∈l4,m.f2.length≤40)(h3:l3.length=3)(g:∀c∈l3,c.f2.length≤1000∧c.f3.length≤1000)(a:Dk)(b:Int)(d:Bool):∀(n i:Nat),i+n=l3.length->Bj (λk=>AG.l0 k i l0 s u l3 l4 a b d (l3.take i) []) (λq=>q=(a,b,d,l3,l4))
 | 0,i,h=>by
  refine Bj.step (λk=>by simp only[AG.l0];rfl) ?_
  refine Bj.neg (by omega) ?_
  rw[List.take_of_length_le (by omega)]
  exact Lb l0 s u l3 l4 h4 hm a b d l3 l4.length 0 (by omega)
 | n+1,i,h=>by
  have hi:i<l3.length:=by omega
  have e:Aw l3 (i:Int)=l3[i]:=by
   unfold Aw
   rw[List.getD_eq_getElem?_getD,show((i:Int)).toNat=i from rfl,List.getElem?_eq_getElem hi];rfl
  have w:wrap64 ((i:Int)+1)=((i+1:Nat):Int):=AP _ (by omega) (by omega)
  have hl:=g _ (List.getElem_mem hi)
  have l:D7.f l3[i].f0 l3[i].f1 l3[i].f2 l3[i].f3 l3[i].f4 l3[i].f5=some (l3[i].f0,l3[i].f1,l3[i].f2,l3[i].f3,l3[i].f4,l3[i].f5):=by
   unfold D7.f
   simp only[Option.bind_some,List.nil_append,List.length_nil]
   rw[if_pos (by omega),if_pos (by omega)]
  refine Bj.step (λk=>by simp only[AG.l0];rfl) ?_
  rw[e,w,l]
  simp only[Option.bind_some]
  refine Bj.pos (by omega) (Bj.pos (by omega) (Bj.pos (by rw[List.length_take];omega) ?_))
  have j:=La l0 s u l3 l4 h4 hm h3 g a b d n (i+1) (by omega)
  rw[List.take_succ_eq_append_getElem hi]at j
  exact j
theorem LJ{c:EI}(h:H9 c):c.f2.length≤1000∧c.f3.length≤1000:=by have:=h.base.len;have:=h.done;have:=h.seen;omega
theorem Pa(x:Wd)(h:WG x):Bj (λk=>AG.f k x.l0 x.s x.u x.l3 x.l4) (λq=>q=(x.l0,x.s,x.u,x.l3,x.l4)):=by
 have d:=h.JE;have a:D4.f x.l0 x.s x.u=some (x.l0,x.s,x.u):=by unfold D4.f;simp only[Option.bind_some,List.nil_append,List.length_nil];rw[if_pos (by omega)]
 unfold AG.f;rw[a];simp only[Option.bind_some];exact La x.l0 x.s x.u x.l3 x.l4 h.J_ (λm hm=>(h.lets m hm).len) h.three (λc b=>LJ (h.Kx c b)) x.l0 x.s x.u x.l3.length 0 (by omega)
def IL(w:Int):EI:=⟨w,0,JH,[],0,0⟩
theorem Jv{w:Int}(h:1≤w∧w≤3):H9 (IL w):=⟨h,(by show(0:Int)≤0∧(0:Int)≤40;decide),(show JQ JH (3+(0:Int).toNat)from NU),(λe he=>(by cases he)),(by show(0:Int)≤0∧(0:Int)+((0:Nat):Int)≤40;decide)⟩
theorem Ma:Bh.f 5=some ([],0,true,[IL 1,IL 2,IL 3],[]):=by kernel_rfl
theorem Ph:WG ⟨[],0,true,[IL 1,IL 2,IL 3],[]⟩:=by
 refine⟨(λe he=>(by cases he)),(by decide),(by decide),rfl,(λc a=>?_),(by decide),(λm hm=>(by cases hm))⟩;have:c=IL 1∨c=IL 2∨c=IL 3:=by simpa using a
 rcases this with rfl|rfl|rfl
 ·exact Jv (by decide)
 ·exact Jv (by decide)
 exact Jv (by decide)
theorem Pm(b:List Int)(e:Bytes b)(p:Int)(m:Nat)(i:Rd p (m+2000)):Bj (λk=>Cc.f k b p) (λq=>WG q.1∧Rd q.2 m):=by
 unfold Cc.f;refine Bj.bind (Bj.of (Ev.of (λk=>Bh.mono k) Ma) rfl) (λw hw=>?_);subst hw;refine Bj.bind (Ey b p 46 (m+1999) e i) (λn a=>?_);have j:=a.2.1 (by decide);obtain⟨N,hN⟩:∃N:Nat,n.1=N:=⟨n.1.toNat,by have:=a.1;omega⟩
 refine Bj.pos (by omega) ?_;rw[hN];refine Bj.bind (Lo b e N n.2 m _ (by omega) (a.2.2.2.less (by omega)) Ph) (λq d=>Bj.bind (Pa q.1 d.1) (λc g=>Bj.now ?_));subst g;exact⟨d.1,d.2⟩
theorem N_(b:List Int)(e:Bytes b)(p:Int)(m:Nat)(t:Rd p (m+2400)):Bj (λk=>DO.f k b p) (λq=>(∀c∈q.1.l3,OG c)∧1≤q.1.l3.length∧q.1.l3.length≤3∧Rd q.2 m):=by
 unfold DO.f;refine Bj.bind (Pm b e p (m+400) (t.less (by omega))) (λy n=>?_);have h3:y.1.l3.length=3:=n.1.three;have g:∀c∈y.1.l3,OG c:=λc h=>(n.1.Kx c h).s
 refine Bj.bind (Ey b y.2 3 (m+399) e (n.2.less (by omega))) (λi hi=>Bj.bind (Ey b i.2 40 (m+398) e hi.2.2.2) (λq j=>?_));have i1:=hi.2.1 (by decide);have a:=g _ (He y.1.l3 i.1 hi.1 (by omega));refine Bj.ite (λ_=>?_) (λ_=>Bj.ite (λ_=>Bj.pos ⟨hi.1,by omega⟩ ?_) (λ_=>Bj.ite (λ_=>Bj.pos ⟨hi.1,by omega⟩ ?_) (λ_=>Bj.ite (λ_=>?_) (λ_=>Bj.ite (λ_=>Bj.pos (by omega) (Bj.now ?_)) (λ_=>Bj.now ⟨g,by simp only;omega,by simp only;omega,j.2.2.2.less (by omega)⟩)))))
 ·exact Bj.bind (Ey b q.2 3 (m+397) e j.2.2.2) (λr d=>Bj.now ⟨g,by simp only;omega,by simp only;omega,d.2.2.2.less (by omega)⟩)
 ·refine Bj.bind (Ey b q.2 5 (m+397) e j.2.2.2) (λr d=>Bj.now ⟨λc h=>?_,by simp only[List.length_set];omega,by simp only[List.length_set];omega,d.2.2.2.less (by omega)⟩);have x:=d.2.1 (by decide);have u:=d.1;rcases GO h with h|h
  ·exact g c h
  rw[h];exact⟨a.CL,⟨u,by simp only;omega⟩,a.base,a.wait,a.done⟩
 ·refine Bj.bind (Ey b q.2 8 (m+397) e j.2.2.2) (λr d=>Bj.now ⟨λc h=>?_,by simp only[List.length_set];omega,by simp only[List.length_set];omega,d.2.2.2.less (by omega)⟩);rcases GO h with h|h
  ·exact g c h
  rw[h];exact⟨a.CL,a.seen,a.base,a.wait,a.done⟩
 ·obtain⟨l,w,h1,v,h4,o⟩:=NS b e q.2 m (j.2.2.2.less (by omega));refine Bj.bind (Bj.of h1 rfl) (λr d=>Bj.now ?_);subst d;exact⟨g,by simp only;omega,by simp only;omega,o⟩
 refine⟨λc h=>g c (List.mem_of_mem_drop h),?_,?_,j.2.2.2.less (by omega)⟩
 ·simp only[List.length_drop];omega
 simp only[List.length_drop];omega
structure Lv (a b:Int) (t:List Ba) (l:List AM) (c d:Int):Prop where
 CL:0≤a∧a≤4
 seen:0≤b∧b≤40
 base:JQ t 43
 wait:Kn l
 len:l.length≤41
 done:0≤c∧c≤40
theorem MC(b:List Int)(e:Bytes b)(p:Int)(m:Nat)(z:Rd p (m+2500)):Bj (λk=>CJ.f k b p) (λq=>Lv q.1 q.2.1 q.2.2.1 q.2.2.2.1 q.2.2.2.2.1 q.2.2.2.2.2.1∧Rd q.2.2.2.2.2.2 m):=by
 unfold CJ.f;refine Bj.bind (N_ b e p (m+100) (z.less (by omega))) (λy j=>Bj.bind (Ey b y.2 _ (m+99) e j.2.2.2) (λi hi=>?_));have i1:=hi.2.1 (by have:=j.2.1;omega);refine Bj.pos hi.1 (Bj.pos i1 ?_);have c:=j.1 _ (He y.1.l3 i.1 hi.1 i1);have B:=c.done;have hw:=c.CL;refine Bj.bind (Ey b i.2 24 (m+98) e hi.2.2.2) (λq g=>Bj.ite (λ_=>?_) (λ_=>Bj.ite (λ_=>?_) (λ_=>Bj.now ⟨⟨by simp only;omega,c.seen,c.base,c.wait.wf,by simp only;omega,by simp only;omega⟩,g.2.2.2.less (by omega)⟩)))
 ·refine Bj.bind (Ey b q.2 4 (m+97) e g.2.2.2) (λr d=>Bj.now ⟨⟨by simp only;omega,c.seen,c.base,c.wait.wf,by simp only;omega,?_⟩,d.2.2.2.less (by omega)⟩);have:=d.1;have:=d.2.1 (by decide);simp only;omega
 refine Bj.bind (Ey b q.2 9 (m+97) e g.2.2.2) (λr d=>?_);obtain⟨k,i',u,a,s,D,h1,w,h3⟩:=M1 b e r.2 (m+80) (d.2.2.2.less (by omega));have E:=d.1;have G:=d.2.1 (by decide);refine Bj.bind (Bj.of h1 rfl) (λo x=>Bj.pos (by omega) (Bj.now ?_));subst x;obtain⟨l,n,t,v,A⟩:=w;refine⟨⟨by simp only;omega,c.seen,c.base,Ge c.wait.wf ⟨Bl (by simp only;omega) (by simp only;omega),Fv _,l,n,t,v,by simp only;omega⟩,?_,by simp only;omega⟩,h3.less (by omega)⟩;simp only[List.length_append,List.length_singleton];omega
end Go.Proofs.YtlhlpfnljglhoaaDoor.PL
namespace Go.Proofs.YtlhlpfnljglhoaaDoor.PL
open Go.RowKit Go.Proofs.YtlhlpfnljglhoaaDoor.P Go.Proofs.YtlhlpfnljglhoaaDoorW.PrintWords Go.Proofs.YtlhlpfnljglhoaaDoorW.Bc
def Qq(r:Ba):Prop:=EG r.f0∧r.f2.size≤9223372036854775807
theorem F1:∀(l:List Ba) (s a:List Int) (roots d:Int),(∀x,x∈s↔x∈a)->EE s roots d l=EE a roots d l
 | [],_,_,_,_,_=>rfl
 | r::rest,s,a,roots,d,h=>by
  have b:∀x,x∈r.f0::s↔x∈r.f0::a:=λx=>by simp only[List.mem_cons,h x]
  have c:decide (r.f0∉s)=decide (r.f0∉a):=by simp only[h r.f0]
  unfold EE
  rw[c,F1 rest _ _ (roots+1) r.f1 b,F1 rest _ _ roots r.f1 b]
theorem I_{r:Ba}(h:GS r=true):0≤r.f1∧r.f1≤18:=by obtain⟨_,_,d0,d18⟩:=Lp h;exact⟨d0,d18⟩
theorem Nb(t:List Ba)(hl:t.length≤1000000000)(roots:Int)(i:Nat)(hi:i<t.length)(b:Bool)(a:Ev (λk=>Ak.l0 k t roots ((i:Int)+1)) b):∀(n j:Nat),j+n=i->Ev (λk=>Ak.l1 k t roots i j) (decide (t[i].f0∉((t.take i).drop j).map (·.f0))&&b)
 | 0,j,h=>by
  have d:j=i:=by omega
  subst d
  rw[List.drop_eq_nil_of_le (by rw[List.length_take];omega)]
  refine Ev.step (λk=>by simp only[Ak.l1];rfl) ?_
  refine AE (by omega) ?_
  rw[ET j (by omega) (by omega)]
  simpa using a
 | n+1,j,h=>by
  have l:j<(t.take i).length:=by rw[List.length_take];omega
  have g:j<t.length:=by omega
  rw[List.drop_eq_getElem_cons l,List.map_cons,List.getElem_take]
  refine Ev.step (λk=>by simp only[Ak.l1];rfl) ?_
  refine Ao (by omega) (Ao (by omega) (Ao (by omega) (Ao (by omega) (Ao (by omega) ?_))))
  rw[CF t j g,CF t i hi,ET j (by omega) (by omega)]
  by_cases c:t[j].f0=t[i].f0
  ·refine Ao c ?_
   rw[C1 (by simp[c]),Bool.false_and]
   exact AW _
  ·refine AE c ?_
   have m:=Nb t hl roots i hi b a n (j+1) (by omega)
   have e:decide (t[i].f0∉t[j].f0::((t.take i).drop (j+1)).map (·.f0))=decide (t[i].f0∉((t.take i).drop (j+1)).map (·.f0)):=by
    rw[decide_eq_decide,List.mem_cons,not_or]
    exact⟨λq=>q.2,λq=>⟨λe=>c e.symm,q⟩⟩
   rw[e]
   exact m
theorem OB(t:List Ba)(hl:t.length≤1000000000)(hw:∀r∈t,Qq r):∀(n i:Nat) (roots:Int) (h:i+n=t.length) (h1:0<i) (p:i≤t.length),0≤roots->roots≤i->GS (t[i-1]'(by omega))=true ->
  Ev (λk=>Ak.l0 k t roots i) (EE ((t.take i).map (·.f0)) roots (t[i-1]'(by omega)).f1 (t.drop i)&&((t[0]'(by omega)).f0==1))
 | 0,i,roots,h,h1,p,v,A,u=>by
  rw[List.drop_eq_nil_of_le (by omega)]
  refine Ev.step (λk=>by simp only[Ak.l0];rfl) ?_
  refine AE (by omega) ?_
  unfold EE
  by_cases e:roots=3
  ·refine Ao e (Ao (by omega) ?_)
   rw[BJ e,Bool.true_and,show Ag t 0=t[0]'(by omega)from CF t 0 (by omega)]
   exact AW _
  ·refine AE e ?_
   rw[C1 e,Bool.false_and]
   exact AW _
 | n+1,i,roots,h,h1,p,v,A,u=>by
  have hi:i<t.length:=by omega
  have g:i-1<t.length:=by omega
  obtain⟨w0,w1⟩:=hw t[i] (List.getElem_mem hi)
  obtain⟨d0,d18⟩:=I_ u
  rw[List.drop_eq_getElem_cons hi]
  refine Ev.step (λk=>by simp only[Ak.l0];rfl) ?_
  refine Ao (by omega) (Ao (by omega) ?_)
  rw[CF t i hi]
  refine Ev.bind (Na t[i] w0 w1) ?_
  unfold EE
  cases d:GS t[i]with
  | false =>
   simp only[Bool.false_eq_true,if_false,Bool.false_and]
   refine Ev.step (λk=>by simp only[Ak.j1];rfl) ?_
   exact Ao trivial (AW _)
  | true =>
   simp only[if_true,Bool.true_and]
   have l:wrap64 ((i:Int)-1)=((i-1:Nat):Int):=by rw[AP _ (by omega) (by omega)];omega
   rw[l]
   refine Ao (by omega) (Ao (by omega) (Ao (by omega) ?_))
   rw[CF t (i-1) g,AP (t[i-1].f1+1) (by omega) (by omega)]
   refine Ev.step (λk=>by simp only[Ak.j1];rfl) ?_
   by_cases q:t[i].f1>t[i-1].f1+1
   ·refine Ao (by simpa using q) ?_
    rw[C1 (show¬ t[i].f1≤t[i-1].f1+1 by omega),Bool.false_and,Bool.and_false,Bool.false_and]
    exact AW _
   ·refine AE (by simpa using q) (Ao (by omega) (Ao (by omega) ?_))
    rw[BJ (show t[i].f1≤t[i-1].f1+1 by omega),Bool.true_and,CF t i hi,JM]
    simp only[Option.bind_some]
    have c:∀x,x∈(t.take (i+1)).map (·.f0)↔x∈t[i].f0::(t.take i).map (·.f0):=λx=>by
     rw[List.take_succ_eq_append_getElem hi,List.map_append,List.mem_append,List.mem_cons]
     simp[or_comm]
    have b:∀(a:Int),0≤a->a≤(i+1:Nat)->Ev (λk=>Ak.j2 k t a i) (decide (t[i].f0∉(t.take i).map (·.f0))&&(EE (t[i].f0::(t.take i).map (·.f0)) a t[i].f1 (t.drop (i+1))&&((t[0]'(by omega)).f0==1))):=λa y z=>by
     refine Ev.step (λk=>by simp only[Ak.j2];rfl) ?_
     have w:=OB t hl hw n (i+1) a (by omega) (by omega) (by omega) y z d
     have o:Ev (λk=>Ak.l0 k t a ((i:Int)+1)) (EE (t[i].f0::(t.take i).map (·.f0)) a t[i].f1 (t.drop (i+1))&&((t[0]'(by omega)).f0==1)):=by
      rw[<-F1 (t.drop (i+1)) _ _ a t[i].f1 c]
      exact w
     have:=Nb t hl a i hi _ o i 0 (by omega)
     rw[List.drop_zero]at this
     exact this
    cases j:ES t[i].f0 with
    | true =>
     simp only[if_true]
     have m:wrap64 (roots+1)=roots+1:=AP _ (by omega) (by omega)
     rw[m]
     by_cases he:t[i].f0=roots+1
     ·refine Ao he ?_
      rw[BJ he,Bool.true_and,Bool.and_assoc]
      exact b (roots+1) (by omega) (by omega)
     ·refine AE he ?_
      rw[C1 he,Bool.false_and,Bool.and_false,Bool.false_and]
      exact AW _
    | false =>
     simp only[Bool.false_eq_true,if_false]
     rw[Bool.and_assoc]
     exact b roots v (by omega)
theorem N4(t:List Ba)(hl:t.length≤1000000000)(hw:∀r∈t,Qq r):Ev (λk=>Ak.f k t) (Jh t):=by
 unfold Ak.f Jh;cases t with
 | nil =>
  refine Ev.step (λk=>by simp only[Ak.l0];rfl) ?_
  exact AE (by simp) (AE (by decide) (AW _))
 | cons r rest =>
  obtain⟨w0,w1⟩:=hw r List.mem_cons_self
  have g:Ag (r::rest) 0=r:=CF (r::rest) 0 (by simp)
  refine Ev.step (λk=>by simp only[Ak.l0];rfl) ?_
  refine Ao (by simp) (Ao (by omega) ?_)
  rw[g]
  refine Ev.bind (Na r w0 w1) ?_
  unfold EE
  cases b:GS r with
  | false =>
   simp only[Bool.false_eq_true,if_false,Bool.false_and]
   refine Ev.step (λk=>by simp only[Ak.j1];rfl) ?_
   exact Ao trivial (AW _)
  | true =>
   simp only[if_true,Bool.true_and]
   refine AE (by omega) ?_
   refine Ev.step (λk=>by simp only[Ak.j1];rfl) ?_
   refine AE (by decide) (Ao (by omega) (Ao (by simp) ?_))
   rw[g,JM]
   simp only[Option.bind_some]
   have d:∀(a:Int),0≤a->a≤1->Ev (λk=>Ak.j2 k (r::rest) a 0) (EE [r.f0] a r.f1 rest&&(r.f0==1)):=λa o p=>by
    refine Ev.step (λk=>by simp only[Ak.j2];rfl) ?_
    have n:=OB (r::rest) hl hw rest.length 1 a (by simp;omega) (by omega) (by simp) o (by omega) b
    have:=Nb (r::rest) hl a 0 (by simp) _ n 0 0 rfl
    simpa using this
   have m:=I_ b
   cases c:ES r.f0 with
   | true =>
    simp only[if_true]
    have l:r.f1=0:=by
     unfold GS at b
     rw[if_pos c]at b
     simp only[Bool.and_eq_true,decide_eq_true_eq]at b
     exact b.1
    rw[BJ (show r.f1≤-1+1 by omega),Bool.true_and,show wrap64 (0+1)=1 from AP (0+1) (by omega) (by omega)]
    by_cases he:r.f0=1
    ·refine Ao he ?_
     have:=d 1 (by omega) (by omega)
     have j:(r.f0==1)=true:=beq_iff_eq.2 he
     rw[j,Bool.and_true]at this
     simpa[he]using this
    ·refine AE he ?_
     rw[C1 (show¬ r.f0=0+1 by omega),Bool.false_and,Bool.and_false]
     exact AW _
   | false =>
    simp only[Bool.false_eq_true,if_false]
    have l:1≤r.f1:=by
     unfold GS at b
     rw[if_neg (by rw[c];decide)]at b
     simp only[Bool.and_eq_true,decide_eq_true_eq]at b
     exact b.2.1
    have i:(r.f0==1)=false:=beq_eq_false_iff_ne.2 λe=>by rw[e]at c;exact absurd c (by decide)
    rw[C1 (show¬ r.f1≤-1+1 by omega),Bool.false_and,Bool.and_false]
    have:=d 0 (by omega) (by omega)
    rwa[i,Bool.and_false]at this
end Go.Proofs.YtlhlpfnljglhoaaDoor.PL
namespace Go.Proofs.YtlhlpfnljglhoaaDoor.PL
open Go.RowKit Go.Proofs.YtlhlpfnljglhoaaDoor.P Go.Proofs.YtlhlpfnljglhoaaDoorW.PrintWords Go.Proofs.YtlhlpfnljglhoaaDoorW.Bc
def EF(CL done made:Int):Nat->List AM->Bool
 | _,[]=>true
 | i,e::l=>GK e&&(decide (e.f0=CL)&&(decide (e.f1=done+i+1)&&((decide (e.f2.f0≠1) || decide (e.f2.f1≤10*CL+made))&&EF CL done made (i+1) l)))
def F5(CL seen:Int)(b:List Ba)(w:List AM)(done made:Int):Bool :=
 (decide (1≤CL)&&decide (CL≤3))&&((decide (0≤seen)&&decide (seen≤40))&&(Jh b&&((decide (0≤done)&&decide (done≤seen))&&(decide (done+w.length≤40)&&((decide (0≤made)&&decide (made≤6))&&EF CL done made 0 w)))))
section
variable (CL seen done made:Int) (b:List Ba) (w:List AM)
theorem NK(h1:1≤CL∧CL≤3)(hm:0≤made∧made≤6)(len:Int)(i:Nat)(hi:i≤1000)(e:AM)(R:Bool)(h:Ev (λk=>Ah.l0 k w len ((i+1:Nat):Int) CL seen b w done made) R)(f:Bool) :
  Ev (λk=>Ah.j3 k w len i f CL seen b w done made e.f0 e.f1 e.f2.f0 e.f2.f1 e.f2.f2 e.f2.f3 e.f2.f4) (!f&&((decide (e.f2.f0≠1) || decide (e.f2.f1≤10*CL+made))&&R)):=by
 refine Ev.step (λk=>by simp only[Ah.j3];rfl) ?_;cases f with
 | true=>exact Ao rfl (AW _)
 | false =>
  have w1:wrap64 (wrap64 (10*CL)+made)=10*CL+made:=by rw[AP (10*CL) (by omega) (by omega),AP _ (by omega) (by omega)]
  have c:wrap64 ((i:Int)+1)=((i+1:Nat):Int):=AP _ (by omega) (by omega)
  refine AE (by decide) ?_
  rw[w1,c]
  by_cases a:e.f2.f0=1
  ·refine Ao a ?_
   by_cases g:e.f2.f1>10*CL+made
   ·have z:(!false&&((decide (e.f2.f0≠1) || decide (e.f2.f1≤10*CL+made))&&R))=false:=by simp[a];intro;omega
    rw[z]
    exact Ao g (AW _)
   ·have z:(!false&&((decide (e.f2.f0≠1) || decide (e.f2.f1≤10*CL+made))&&R))=R:=by rw[BJ (show e.f2.f1≤10*CL+made by omega)];simp
    rw[z]
    exact AE g h
  ·have z:(!false&&((decide (e.f2.f0≠1) || decide (e.f2.f1≤10*CL+made))&&R))=R:=by simp[a]
   rw[z]
   exact AE a h
theorem Lj(hw:Kn w)(h1:1≤CL∧CL≤3)(c:0≤done∧done≤40)(hm:0≤made∧made≤6)(hl:w.length≤1000):∀n i:Nat,i+n=w.length->Ev (λk=>Ah.l0 k w (w.length:Int) i CL seen b w done made) (EF CL done made i (w.drop i))
 | 0,i,h=>by
  rw[List.drop_eq_nil_of_le (by omega)]
  refine Ev.step (f:=λ_=>some true) (λk=>?_) (AW _)
  simp only[Ah.l0];rw[if_neg (by omega)]
 | n+1,i,h=>by
  have hi:i<w.length:=by omega
  rw[List.drop_eq_getElem_cons hi]
  have J:=NK CL seen done made b w h1 hm (w.length:Int) i (by omega) w[i] _ (Lj hw h1 c hm hl n (i+1) (by omega))
  have ws:wrap64 (wrap64 (done+(i:Int))+1)=done+i+1:=by rw[AP (done+i) (by omega) (by omega),AP _ (by omega) (by omega)]
  refine Ev.step (f:=λk=>(Da.f k w[i].f0 w[i].f1 w[i].f2.f0 w[i].f2.f1 w[i].f2.f2 w[i].f2.f3 w[i].f2.f4).bind λt=>if t=true then(if w[i].f0=CL then Ah.j3 k w (w.length:Int) i (w[i].f1 != done+i+1) CL seen b w done made w[i].f0 w[i].f1 w[i].f2.f0 w[i].f2.f1 w[i].f2.f2 w[i].f2.f3 w[i].f2.f4 else Ah.j3 k w (w.length:Int) i true CL seen b w done made w[i].f0 w[i].f1 w[i].f2.f0 w[i].f2.f1 w[i].f2.f2 w[i].f2.f3 w[i].f2.f4)else Ah.j3 k w (w.length:Int) i true CL seen b w done made w[i].f0 w[i].f1 w[i].f2.f0 w[i].f2.f1 w[i].f2.f2 w[i].f2.f3 w[i].f2.f4) (λk=>?_) ?_
  ·simp only[Ah.l0]
   rw[if_pos (by omega),if_pos (by omega),if_pos (by omega),EY w i hi,ws]
  ·refine Ev.bind (P3 _ (hw _ (List.getElem_mem hi))) ?_
   unfold EF
   cases GK w[i]with
   | false=>exact AE (by decide) (J true)
   | true =>
    refine Ao rfl ?_
    by_cases a:w[i].f0=CL
    ·refine Ao a ?_
     have q:=J (w[i].f1 != done+i+1)
     have z:(!(w[i].f1 != done+i+1))=decide (w[i].f1=done+i+1):=by by_cases d:w[i].f1=done+i+1 <;> simp[d]
     rw[z]at q
     rw[BJ a,Bool.true_and,Bool.true_and]
     exact q
    ·rw[C1 a]
     exact AE a (J true)
theorem Kz(hw:Kn w)(hl:w.length≤1099511627776):Ev (λk=>Ah.f k CL seen b w done made) (F5 CL seen b w done made):=by
 have a:Ev (λk=>Ah.j0 k true CL seen b w done made) false:=Ev.step (f:=λ_=>some false) (λk=>by simp only[Ah.j0];rfl) (AW _);have c:Ev (λk=>Ah.j1 k true CL seen b w done made) false:=Ev.step (f:=λ_=>some false) (λk=>by simp only[Ah.j1];rfl) (AW _);unfold Ah.f Cw.f F5;by_cases d:CL≥1
 ·rw[if_pos d];simp only[Option.bind_some];rw[BJ (show 1≤CL from d),Bool.true_and];by_cases e:CL≤3
  ·rw[BJ e,Bool.true_and];refine Ao rfl ?_;by_cases g:seen<0
   ·rw[C1 (show¬ 0≤seen by omega)];exact Ao g a
   rw[BJ (show 0≤seen by omega),Bool.true_and];refine AE g ?_;by_cases i:seen>40
   ·rw[C1 (show¬ seen≤40 by omega)];exact Ao i a
   rw[BJ (show seen≤40 by omega),Bool.true_and];refine AE i ?_;unfold ER.f;simp only[Option.bind_some];cases Jh b with
   | false=>exact a
   | true =>
    rw[Bool.true_and]
    refine Ev.step (λk=>by simp only[Ah.j0];rfl) ?_
    refine AE (by decide) ?_
    by_cases j:done<0
    ·rw[C1 (show¬ 0≤done by omega)]
     exact Ao j c
    ·rw[BJ (show 0≤done by omega),Bool.true_and]
     refine AE j ?_
     by_cases l:done>seen
     ·rw[C1 (show¬ done≤seen by omega)]
      exact Ao l c
     ·rw[BJ (show done≤seen by omega),Bool.true_and]
      refine AE l ?_
      rw[AP (40-done) (by omega) (by omega)]
      by_cases m:(w.length:Int)>40-done
      ·rw[C1 (show¬ done+w.length≤40 by omega)]
       exact Ao m c
      ·rw[BJ (show done+w.length≤40 by omega),Bool.true_and]
       refine AE m ?_
       by_cases n:made<0
       ·rw[C1 (show¬ 0≤made by omega)]
        exact Ao n c
       ·rw[BJ (show 0≤made by omega),Bool.true_and]
        refine AE n ?_
        by_cases o:made>6
        ·rw[C1 (show¬ made≤6 by omega),BJ o]
         exact c
        ·rw[BJ (show made≤6 by omega),C1 o,Bool.true_and]
         refine Ev.step (λk=>by simp only[Ah.j1];rfl) ?_
         exact AE (by decide) (Lj CL seen done made b w hw ⟨by omega,by omega⟩ ⟨by omega,by omega⟩ ⟨by omega,by omega⟩ (by omega) w.length 0 (by omega))
  rw[C1 e];exact AE (by decide) a
 rw[if_neg d];simp only[Option.bind_some];rw[C1 (show¬ 1≤CL by omega)];exact AE (by decide) a
theorem Lq(hw:Kn w)(h1:1≤CL∧CL≤3)(e:0≤done∧done≤40)(hm:0≤made∧made≤6)(hl:w.length≤1000):∀n i:Nat,i+n=w.length->Ev (λk=>Ar.l0 k i CL seen b w done made) (EF CL done made i (w.drop i))
 | 0,i,h=>by
  rw[List.drop_eq_nil_of_le (by omega)]
  refine Ev.step (f:=λ_=>some true) (λk=>?_) (AW _)
  simp only[Ar.l0];rw[if_neg (by omega)]
 | n+1,i,h=>by
  have hi:i<w.length:=by omega
  have d:=Lq hw h1 e hm hl n (i+1) (by omega)
  rw[List.drop_eq_getElem_cons hi]
  have ws:wrap64 (wrap64 (done+(i:Int))+1)=done+i+1:=by rw[AP (done+i) (by omega) (by omega),AP _ (by omega) (by omega)]
  have w1:wrap64 (wrap64 (10*CL)+made)=10*CL+made:=by rw[AP (10*CL) (by omega) (by omega),AP _ (by omega) (by omega)]
  have j:wrap64 ((i:Int)+1)=((i+1:Nat):Int):=AP _ (by omega) (by omega)
  refine Ev.step (f:=λk=>(Bv.f k w[i].f0 w[i].f1 w[i].f2.f0 w[i].f2.f1 w[i].f2.f2 w[i].f2.f3 w[i].f2.f4).bind λt=>if t=true then(if w[i].f0=CL then(if w[i].f1=done+i+1 then(if w[i].f2.f0=1 then(if w[i].f2.f1>10*CL+made then some false else Ar.l0 k ((i+1:Nat):Int) CL seen b w done made)else Ar.l0 k ((i+1:Nat):Int) CL seen b w done made)else some false)else some false)else some false) (λk=>?_) ?_
  ·simp only[Ar.l0]
   rw[if_pos (by omega),if_pos (by omega),EY w i hi,ws,w1,j]
  ·refine Ev.bind (KM _ (hw _ (List.getElem_mem hi))) ?_
   unfold EF
   cases GK w[i]with
   | false=>exact AE (by decide) (AW _)
   | true =>
    refine Ao rfl ?_
    rw[Bool.true_and]
    by_cases a:w[i].f0=CL
    ·rw[BJ a,Bool.true_and]
     refine Ao a ?_
     by_cases c:w[i].f1=done+i+1
     ·rw[BJ c,Bool.true_and]
      refine Ao c ?_
      by_cases g:w[i].f2.f0=1
      ·refine Ao g ?_
       rw[C1 (show¬ w[i].f2.f0≠1 from λz=>z g),Bool.false_or]
       by_cases o:w[i].f2.f1>10*CL+made
       ·rw[C1 (show¬ w[i].f2.f1≤10*CL+made by omega)]
        exact Ao o (AW _)
       ·rw[BJ (show w[i].f2.f1≤10*CL+made by omega),Bool.true_and]
        exact AE o d
      ·rw[BJ (show w[i].f2.f0≠1 from g),Bool.true_or,Bool.true_and]
       exact AE g d
     ·rw[C1 c]
      exact AE c (AW _)
    ·rw[C1 a]
     exact AE a (AW _)
theorem Pn(hw:Kn w)(hl:w.length≤1099511627776)(j:b.length≤1000000000)(l:∀r∈b,Qq r)(hs:EG seen)(m:EG done):Ev (λk=>Ar.f k CL seen b w done made) (F5 CL seen b w done made):=by
 have a:Ev (λk=>Ar.j0 k true CL seen b w done made) false:=Ev.step (f:=λ_=>some false) (λk=>by simp only[Ar.j0];rfl) (AW _);unfold Ar.f F5;simp only[Hw,Option.bind_some];cases c:(decide (1≤CL)&&decide (CL≤3))with
 | false=>exact AE (by decide) a
 | true =>
  rw[Bool.true_and]
  refine Ao rfl ?_
  cases g:(decide (0≤seen)&&decide (seen≤40))with
  | false=>exact AE (by decide) a
  | true =>
   rw[Bool.true_and]
   refine Ao rfl (Ev.bind (N4 b j l) ?_)
   cases Jh b with
   | false=>exact AE (by decide) a
   | true =>
    rw[Bool.true_and]
    refine Ao rfl ?_
    cases i:(decide (0≤done)&&decide (done≤seen))with
    | false=>exact AE (by decide) a
    | true =>
     rw[Bool.true_and]
     refine Ao rfl ?_
     simp only[Bool.and_eq_true,decide_eq_true_eq]at c g i
     rw[AP (done+(w.length:Int)) (by omega) (by omega)]
     by_cases d:done+(w.length:Int)>40
     ·rw[C1 (show¬ done+w.length≤40 by omega)]
      exact Ao d a
     ·rw[BJ (show done+w.length≤40 by omega),Bool.true_and]
      refine AE d ?_
      cases e:(decide (0≤made)&&decide (made≤6))with
      | false=>exact a
      | true =>
       rw[Bool.true_and]
       simp only[Bool.and_eq_true,decide_eq_true_eq]at e
       refine Ev.step (λk=>by simp only[Ar.j0];rfl) ?_
       exact AE (by decide) (Lq CL seen done made b w hw c ⟨by omega,by omega⟩ e (by omega) w.length 0 (by omega))
end
end Go.Proofs.YtlhlpfnljglhoaaDoor.PL
namespace Go.Proofs.YtlhlpfnljglhoaaDoor.PL
open Go.RowKit Go.Proofs.YtlhlpfnljglhoaaDoor.P Go.Proofs.YtlhlpfnljglhoaaDoorW.PrintWords Go.Proofs.YtlhlpfnljglhoaaDoorW.Bc
theorem NB{x:Int}(h:(Lit.int .u8 x).wf=true):0≤x∧x≤255:=by simp only[Lit.wf,Bool.and_eq_true,decide_eq_true_eq]at h;exact⟨h.1,h.2⟩
theorem Bj.pure{f:Nat->Option Bool}(h:Bj f (λr=>r=true)):∃k,f k=some true:=by obtain⟨r,⟨K,hK⟩,rfl⟩:=h;exact⟨K,hK K (Nat.le_refl _)⟩
theorem LM(code:List Int)(h:∀x∈code,(Lit.int .u8 x).wf=true):Bj (λk=>CG.f k code) (λq=>Lv q.1 q.2.1 q.2.2.1 q.2.2.2.1 q.2.2.2.2.1 q.2.2.2.2.2):=by
 obtain⟨b,h1,c⟩:=Pk code λx g=>NB (h x g)
 unfold CG.f;rw[h1];simp only[Option.bind_some];refine Bj.bind (MC b c 0 100 ⟨by decide,by decide⟩) (λq a=>Bj.bind (Ey b _ 6 99 c a.2) (λr e=>Bj.ite (λ_=>Bj.bind (Ey b _ 5 98 c e.2.2.2) (λv d=>Bj.now ?_)) (λ_=>Bj.now a.1)));have:=d.1;have:=d.2.1 (by decide);exact⟨by simp only;omega,a.1.seen,a.1.base,a.1.wait,a.1.len,a.1.done⟩
theorem N2{t:List Ba}{n:Nat}(b:JQ t n):∀r∈t,Qq r:=λr a=>⟨(b.ids r a).1,by have:=(b.ids r a).2;omega⟩
section
variable {a b c d:Int} {t:List Ba} {l:List AM}
theorem P8(h:Lv a b t l c d):Ev (λk=>Ah.f k a b t l c d) (F5 a b t l c d):=Kz a b c d t l h.wait (by have:=h.len;omega)
theorem Oz(h:Lv a b t l c d):Ev (λk=>Ar.f k a b t l c d) (F5 a b t l c d) :=
 Pn a b c d t l h.wait (by have:=h.len;omega) (by have:=h.base.len;omega) (N2 h.base) (Bl (by have:=h.seen;omega) (by have:=h.seen;omega)) (Bl (by have:=h.done;omega) (by have:=h.done;omega))
end
theorem Lh{CL done made:Int}{e:AM}:∀(l:List AM) (i:Nat),EF CL done made i (l++[e])=true->e.f0=CL
 | [],i,h=>by
  rw[List.nil_append]at h
  unfold EF at h
  simp only[Bool.and_eq_true,decide_eq_true_eq]at h
  exact h.2.1
 | x::l,i,h=>by
  rw[List.cons_append]at h
  unfold EF at h
  simp only[Bool.and_eq_true]at h
  exact Lh l (i+1) h.2.2.2.2
theorem Li{CL done made:Int}:∀(l:List AM) (i n:Nat),EF CL done made i l=true->EF CL done made i (l.take n)=true
 | [],i,n,h=>by rw[List.take_nil];exact h
 | x::l,i,0,h=>by rw[List.take_zero];rfl
 | x::l,i,n+1,h=>by
  rw[List.take_succ_cons]
  unfold EF at h⊢
  simp only[Bool.and_eq_true]at h⊢
  exact⟨h.1,h.2.1,h.2.2.1,h.2.2.2.1,Li l (i+1) n h.2.2.2.2⟩
theorem go_get{CL done made:Int}:∀(l:List AM) (i j:Nat) (a:j<l.length),EF CL done made i l=true->l[j].f0=CL∧l[j].f1=done+((i+j:Nat):Int)+1
 | x::l,i,0,a,h=>by
  unfold EF at h
  simp only[Bool.and_eq_true,decide_eq_true_eq]at h
  exact⟨h.2.1,h.2.2.1⟩
 | x::l,i,j+1,a,h=>by
  unfold EF at h
  simp only[Bool.and_eq_true]at h
  have:=go_get l (i+1) j (by simpa using a) h.2.2.2.2
  rw[List.getElem_cons_succ]
  rw[show i+(j+1)=i+1+j by omega]
  exact this
section
variable {a b c d:Int} {t:List Ba} {l:List AM}
theorem Jw(h:F5 a b t l c d=true):EF a c d 0 l=true:=by unfold F5 at h;simp only[Bool.and_eq_true]at h;exact h.2.2.2.2.2.2
theorem I0(h:F5 a b t l c d=true):(1≤a∧a≤3)∧(0≤c∧c+l.length≤40):=by unfold F5 at h;simp only[Bool.and_eq_true,decide_eq_true_eq]at h;exact⟨h.1,h.2.2.2.1.1,h.2.2.2.2.1⟩
theorem LI(h:F5 a b t l c d=true){e:AM}(he:e.f0≠a):F5 a b t (l++[e]) c d=false:=by
 cases g:F5 a b t (l++[e]) c d with
 | false=>rfl
 | true=>exact absurd (Lh l 0 (Jw g)) he
theorem LH(h:F5 a b t l c d=true)(n:Nat):F5 a b t (l.take n) c d=true:=by have hg:=Li l 0 n (Jw h);unfold F5 at h⊢;simp only[Bool.and_eq_true,decide_eq_true_eq]at h⊢;refine⟨h.1,h.2.1,h.2.2.1,h.2.2.2.1,?_,h.2.2.2.2.2.1,hg⟩;have:=h.2.2.2.2.1;rw[List.length_take];omega
end
theorem MJ(j:List Int)(p:j.length≤1048576)(a b c d:Int)(t:List Ba)(l:List AM)(h:Lv a b t l c d)(hB:F5 a b t l c d=true):Bj (λk=>Am.l0 k j (l.length:Int) (l.length:Int) a b t l c d) (λr=>r=true):=by
 obtain⟨o,m,n⟩:=I0 hB;have w1:wrap64 (Int.tmod a 3+1)=Int.tmod a 3+1:=AP _ (by rcases(show a=1∨a=2∨a=3 by omega)with rfl|rfl|rfl <;> decide) (by rcases(show a=1∨a=2∨a=3 by omega)with rfl|rfl|rfl <;> decide);have i:Int.tmod a 3+1≠a:=by rcases(show a=1∨a=2∨a=3 by omega)with rfl|rfl|rfl <;> decide
 have hm:mx (wrap64 ((l.length:Int)-1)) 0=((l.length-1:Nat):Int):=by rw[AP _ (by omega) (by omega)];unfold mx;split <;> omega
 refine Bj.step (λk=>by simp only[Am.l0];rfl) ?_;refine Bj.neg (by omega) ?_;simp only[Option.bind_some,List.nil_append,List.length_nil,List.length_singleton];rw[hm,w1];refine Bj.pos (by omega) (Bj.pos (by omega) (Bj.pos (by omega) (Bj.pos (by omega) ?_)));refine Bj.bind (Bj.of (Kz a b c d t (l++[⟨Int.tmod a 3+1,wrap64 (wrap64 (c+(l.length:Int))+1),⟨2,wrap64 (11+Int.tmod (j.length:Int) 3),0,0,⟨#[]⟩⟩⟩]) (Ge h.wait ⟨by rw[<-w1];exact Fv _,Fv _,Bl (by simp only;decide) (by simp only;decide),Fv _,Bl (by simp only;decide) (by simp only;decide),Bl (by simp only;decide) (by simp only;decide),by show ByteArray.size ⟨#[]⟩≤9223372036854775807;decide⟩) (by rw[List.length_append,List.length_singleton];omega)) rfl) (λr g=>?_);rw[LI hB i]at g;subst g;refine Bj.neg (by decide) (Bj.bind (Bj.of (Kz a b c d t (l.take (l.length-1)) (λe he=>h.wait e (List.mem_of_mem_take he)) (by rw[List.length_take];omega)) rfl) (λr g=>Bj.now ?_));rw[LH hB]at g;exact g.symm
theorem Lf(g:List Int)(j:g.length≤1048576)(a b c d:Int)(t:List Ba)(l:List AM)(h:Lv a b t l c d)(hB:F5 a b t l c d=true):∀(n i:Nat),i+n=l.length->Bj (λk=>Am.l0 k g (l.length:Int) (i:Int) a b t l c d) (λr=>r=true)
 | 0,i,e=>by
  obtain rfl:i=l.length:=by omega
  exact MJ g j a b c d t l h hB
 | n+1,i,e=>by
  have hi:i<l.length:=by omega
  obtain⟨u,p,q⟩:=I0 hB
  obtain⟨m,o⟩:=go_get l 0 i hi (Jw hB)
  have w:wrap64 ((i:Int)+1)=((i+1:Nat):Int):=AP _ (by omega) (by omega)
  have ws:wrap64 (wrap64 (c+(i:Int))+1)=c+i+1:=by rw[AP (c+(i:Int)) (by omega) (by omega),AP _ (by omega) (by omega)]
  refine Bj.step (λk=>by simp only[Am.l0];rfl) ?_
  rw[EY l i hi,w,ws]
  refine Bj.pos (by omega) (Bj.pos (by omega) (Bj.pos (by omega) (Bj.pos m (Bj.pos (by rw[o,Nat.zero_add]) ?_))))
  exact Lf g j a b c d t l h hB n (i+1) (by omega)
theorem Jy(l0 l1:List Int)(f:Bool)(h0:∀x∈l0,(Lit.int .u8 x).wf=true)(b:f=false->l1.length≤1048576):Bj (λk=>Am.j0 k l0 l1 f) (λr=>r=true):=by
 refine Bj.step (λk=>by simp only[Am.j0];rfl) ?_;cases f with
 | true=>exact Bj.pos (by simp) (Bj.now rfl)
 | false =>
  refine Bj.neg (by decide) (Bj.bind (LM l0 h0) (λq a=>?_))
  refine Bj.bind (Bj.of (P8 a) rfl) (λx d=>Bj.bind (Bj.of (Oz a) rfl) (λy c=>?_))
  subst d
  subst c
  refine Bj.neg (by simp) (Bj.ite (λz=>?_) (λz=>Bj.bind (Bj.of (Oz a) rfl) (λy c=>Bj.now (by rw[<-c];simp))))
  exact Lf l1 (b rfl) _ _ _ _ _ _ a z _ 0 (Nat.zero_add _)
theorem FnClientForm:Am.Pure:=by
 intro l0 l1 _ _ h0 _ _ _;refine Bj.pure ?_;unfold Am.f;refine Bj.ite (λ_=>Jy l0 l1 true h0 (λh=>by cases h)) (λ_=>?_);by_cases h:(l1.length:Int)>1048576
 ·rw[BJ h];exact Jy l0 l1 true h0 (λh=>by cases h)
 rw[C1 h];exact Jy l0 l1 false h0 (λ_=>by omega)
end Go.Proofs.YtlhlpfnljglhoaaDoor.PL
namespace Go.Proofs.YtlhlpfnljglhoaaDoor.P
open Go.ChangeShapes Go.WideShapes Go.ChangeAt Go.RowKit
theorem JO:(Tryd.prog.globals[0]?).map (·.type)=some 66:=by kernel_rfl
theorem NC:Tryd.prog.cellsOf 66=37:=by kernel_rfl
theorem Qx:Tryd.prog.cellsOf 3=1:=by kernel_rfl
abbrev Ga:Array Value:=(FJ.map λz=>Value.int .i64 z).toArray
theorem Jz{W:World}(h:laidMet Tryd.prog [("loop.example/plashet/impl.rowOwners",Rows.laid_loop_example_plashet_impl_rowOwners)] W):B1 W :=
 Lib.tabIs_of_head Gk JO Tryd.underlying66 Tryd.underlying3 Qx NC h
theorem MD(os:Os)(args:Array Value):laidMet Tryd.prog [("loop.example/plashet/impl.rowOwners",Rows.laid_loop_example_plashet_impl_rowOwners)] ((World.doorLaid Tryd.prog 400 os).forCall (λ_ _=>0) ⟨#[],args,[]⟩).memory :=
 laidMet_of_run' 8 (by kernel_rfl) (by kernel_rfl)
abbrev Nh{H:Type}:DataW H:=.agg (FJ.map λz=>.lit (.int .i64 z))
theorem H6{H:Type}(enc:TypeId×Value->H)(W:World)(a:Nat->Bool):DataW.trod enc Tryd.prog W 0 a true 3 66 Ga.toList=some (Nh,[]):=by kernel_rfl
theorem Ng{H:Type}(enc:TypeId×Value->H){W:World}(h:B1 W){a:Nat->Bool}:DataW.TrodVars enc Tryd.prog W a ["loop.example/plashet/impl.rowOwners"] [Nh] (MemPlace.row ⟨0,0,none⟩ Ga.size++[]++[]) :=
 ⟨0,66,Ga,3,[],[],Gk,JO,h,H6 enc W a,rfl,rfl⟩
end Go.Proofs.YtlhlpfnljglhoaaDoor.P
namespace Go.Proofs.YtlhlpfnljglhoaaDoor.fnClientForm
open Go.ChangeMaps (open_string shut_string)
open Go.ChangeShapes Go.WideShapes Go.ChangeAt Go.RowKit
theorem own:ownKnob Tryd.prog.godebug=none:=by kernel_rfl
theorem laidOut:laidOutB Tryd.prog=true:=by kernel_rfl
def Oe(k:IntKind)(w:World)(a:Option Addr)(len cap:Nat)(zs:List Int):Prop :=
 (a=none∧len=0∧cap=0∧zs=[]) ∨
 ∃x,a=some x∧len≤cap∧cap≤maxLen∧zs.length=cap∧(∀i,i<zs.length->w.cell? (x.add i)=some (.int k (zs.getD i 0)))∧∀n∈zs,(Lit.int k n).wf=true
theorem lifted(os:Os)(started:os.Started)(H:Type)(enc:TypeId×Value->H) :
  ReturnsInHanded {} Tryd.checked os 3 .any (λw args=>(Rows.fnClientFormSpec.pre enc Tryd.prog Tryd.f3 [] false w args∧laidMet Tryd.prog [("loop.example/plashet/impl.rowOwners",Rows.laid_loop_example_plashet_impl_rowOwners)] w)∧sizedMet enc Tryd.prog Tryd.f3 (OpenSpec.ofChange Rows.fnClientFormSpec) false w args) (Rows.fnClientFormSpec.post enc Tryd.prog Tryd.f3 false true false false):=by
 refine returnsInHanded_of_change_and (C:=Tryd.checked) (X:=λw _=>laidMet Tryd.prog [("loop.example/plashet/impl.rowOwners",Rows.laid_loop_example_plashet_impl_rowOwners)] w) (λ_ _ _ hh h=>h.of_heap hh) own started (by kernel_rfl) Tryd.func3
  (ChangeSpec.witness_shaped (enc:=enc) (C:=Tryd.checked) (os:=os) (X:=λw _=>laidMet Tryd.prog [("loop.example/plashet/impl.rowOwners",Rows.laid_loop_example_plashet_impl_rowOwners)] w) false (World.doorLaid Tryd.prog 400 os) #[.slice none 0 0,.slice none 0 0] 8 rfl (World.shaped_of_RefB (by kernel_rfl) (by kernel_rfl)) (by kernel_rfl) (by kernel_rfl) (by kernel_rfl) (P.MD os _)) ?_
 intro W base args ds gs before g hW _ y hL _;have o:(DataW.weightsEach Tryd.prog (Tryd.f3.params.toList++Rows.fnClientFormSpec.plain.varTypes Tryd.prog) (ds++gs)).all (·≤reachBytes)=true:=y;have d:∀(j:Nat) t v,Tryd.f3.params[j]?=some t->args[j]?=some v->Value.okWide Tryd.prog W .any base t v:=g;have G:=hW;obtain⟨p,q,hA0,hV,rfl,ae,af⟩:=hW;have Z:DataW.TrodAll enc Tryd.prog W 0 (λ_=>true) true Tryd.f3.params.toList args.toList ds p:=hA0;rw[Tryd.params3]at Z d o;obtain⟨v0,ag,d0,aa,p0,q0,I,rfl,rfl,h0,r0⟩:=trodAll_cons Z;obtain⟨v1,ah,d1,ab,p1,q1,rfl,rfl,rfl,h1,r1⟩:=trodAll_cons r0;obtain⟨rfl,rfl,rfl⟩:=trodAll_nil r1;obtain rfl:args=#[v0,v1]:=by cases args;simp_all
 have E:P.B1 W:=P.Jz hL;obtain⟨gv,tv,D,z,dv,pv,rfl,L,M,A,J,rfl⟩:=trodVars_one hV;obtain rfl:D=P.Ga:=Option.some.inj (A.symm.trans E);obtain rfl:=Option.some.inj (P.JO.symm.trans (by rw[Option.some.inj (P.Gk.symm.trans L)];exact M));obtain⟨rfl,rfl⟩:=DataW.Trod.unique (v:=.agg P.Ga) ⟨z,J⟩ ⟨3,P.H6 enc W _⟩;obtain⟨U,i,r,rfl⟩:=okWide_slice Tryd.underlying22 (d 0 22 v0 rfl rfl);have k0:=h0;have O:∀x∈p0,x.block<W.heap.size:=by obtain⟨m,hm⟩:=k0;exact DataW.trod_lt m _ _ _ hm
 obtain⟨z0,w0⟩:∃zs,Oe .u8 W U i r zs:=by
  obtain⟨fuel,K⟩:=h0;rcases open_ints Tryd.underlying22 Tryd.underlying5 (by kernel_rfl) K with⟨a,_⟩|⟨x,l,c,zs,a,_,hl,hm,hz,_,b,B⟩
  ·simp[Value.cells]at a;obtain⟨rfl,rfl,rfl⟩:=a;exact⟨[],.inl ⟨rfl,rfl,rfl,rfl⟩⟩
  simp[Value.cells]at a;obtain⟨rfl,rfl,rfl⟩:=a;exact⟨zs,.inr ⟨_,rfl,hl,hm,by simpa using hz,b,B⟩⟩
 have y0:i*1≤140737488351232:=Go.Proofs.YtlhlpfnljglhoaaDoorW.PrintWords.sized_ints o (j:=0) (t:=22) rfl rfl Tryd.underlying22 Tryd.underlying5 (by kernel_rfl) (by kernel_rfl) h0;obtain⟨Y,k,u,rfl⟩:=okWide_slice Tryd.underlying22 (d 1 22 v1 rfl rfl);have k1:=h1;have T:∀x∈p1,x.block<W.heap.size:=by obtain⟨m,hm⟩:=k1;exact DataW.trod_lt m _ _ _ hm
 obtain⟨z1,w1⟩:∃zs,Oe .u8 W Y k u zs:=by
  obtain⟨fuel,K⟩:=h1;rcases open_ints Tryd.underlying22 Tryd.underlying5 (by kernel_rfl) K with⟨a,_⟩|⟨x,l,c,zs,a,_,hl,hm,hz,_,b,B⟩
  ·simp[Value.cells]at a;obtain⟨rfl,rfl,rfl⟩:=a;exact⟨[],.inl ⟨rfl,rfl,rfl,rfl⟩⟩
  simp[Value.cells]at a;obtain⟨rfl,rfl,rfl⟩:=a;exact⟨zs,.inr ⟨_,rfl,hl,hm,by simpa using hz,b,B⟩⟩
 have y1:k*1≤140737488351232:=Go.Proofs.YtlhlpfnljglhoaaDoorW.PrintWords.sized_ints o (j:=1) (t:=22) rfl rfl Tryd.underlying22 Tryd.underlying5 (by kernel_rfl) (by kernel_rfl) h1;clear hA0 g y o;refine(P.Am.walk PL.FnClientForm U i r z0 Y k u z1 W w0 y0 w1 y1 E).mono λe W' ⟨he,n⟩=>?_
 subst he;exact⟨_,rfl,_,_,_,_,_,_,G,trodAll_mk1 (shut_bool Tryd.underlying4 _),(trodAll_cons_mk (Below.trod laidOut (by kernel_rfl) (of_decide_eq_true (by kernel_rfl)) k0 n O) (trodAll_cons_mk (Below.trod laidOut (by kernel_rfl) (of_decide_eq_true (by kernel_rfl)) k1 n T) trodAll_mk0)),P.Ng enc (E.below n),n.frame _,λh=>by cases h⟩
theorem over:Rows.fnClientFormRow.holds Tryd.pinned (OpenSpec.ofChange Rows.fnClientFormSpec) :=
 OpenClaim.holds_of_wide 3 Tryd.f3 rfl rfl rfl rfl rfl rfl rfl ⟨rfl,rfl,rfl,rfl,rfl⟩ rfl rfl rfl rfl rfl (by kernel_rfl) Tryd.func3 (by kernel_rfl)
  (of_decide_eq_true (by kernel_rfl)) (by unfold Func.isWrapper;first|(rw[if_pos (by decide +kernel)];kernel_rfl)|(rw[if_neg (by decide +kernel)];exact⟨rfl,rfl⟩))
  (λos started H enc _=>lifted os started H enc)
theorem proved:Rows.FnClientFormSaid:=over
end Go.Proofs.YtlhlpfnljglhoaaDoor.fnClientForm
namespace Go.Proofs.YtlhlpfnljglhoaaDoor
theorem GL:Rows.FnClientFormSaid:=fnClientForm.proved
end Go.Proofs.YtlhlpfnljglhoaaDoor
namespace Go.Proofs.YtlhlpfnljglhoaaDoor
open Go
theorem fnClientFormCard_holds:Rows.FnClientFormCardSaid :=
 Claim7.holds_tied_plain_at .later [] [.data] true (true, "46b2604f590e9b1edcb4ba007c239a82216d81ace1e2acef235fc68e9b5cb629") false
  GL (λ_ h=>by cases h) (by kernel_rfl) (λ_ h=>by cases h) fnClientForm_row_tie rfl ⟨rfl,rfl⟩ (by kernel_rfl) rfl
  (λf fn d b=>by
   obtain rfl:f=3:=Option.some.inj ((show Tryd.prog.funcNamed "loop.example/plashet/laws.FnClientForm" = some 3 by kernel_rfl).symm.trans d) |>.symm
   obtain rfl:fn=Tryd.f3:=(Option.some.inj (Tryd.func3.symm.trans b)).symm
   exact⟨by kernel_rfl,λj t c=>by
    rw[Tryd.params3]at c
    have hm:t∈[22]:=by have:=Array.mem_of_getElem? c;simp at this;first|(subst this;simp;done)|(rcases this with h|h <;> simp[h];done)|(rcases this with h|h|h <;> simp[h];done)
    have a:([22].all λu=>!Tryd.prog.wantsStandIn u)=true:=by kernel_rfl
    exact(show Tryd.prog.wantsStandIn t=false by simpa using List.all_eq_true.1 a t hm)⟩)
  (by kernel_rfl)
#print axioms fnClientFormCard_holds
end Go.Proofs.YtlhlpfnljglhoaaDoor
