/- The tied card of the statement FnClientMade (who makes a row makes the next one of its own) is proved: fnClientMadeCard_holds : Rows.FnClientMadeCardSaid. Conditions: none. Joined by programs (wip/shake.py, wip/pats.py, wip/mini.py). -/
import Derived.Test.YtlhlpfnljglhoaaDoorZCr9
set_option linter.unusedVariables false
set_option linter.unusedSimpArgs false
set_option linter.unusedSectionVars false
set_option maxHeartbeats 8000000
set_option maxRecDepth 100000
open Go.Proofs.YtlhlpfnljglhoaaDoorW
namespace Go.Proofs.YtlhlpfnljglhoaaDoor.PL
open Go.RowKit Go.Proofs.YtlhlpfnljglhoaaDoor.P Go.Proofs.YtlhlpfnljglhoaaDoorW.PrintWords Go.Proofs.YtlhlpfnljglhoaaDoorW.Bb
def My(l:List AQ)(s:Int):Bool:=Mn l&&(decide (0≤s)&&decide (s≤(l.length:Int)))
theorem PZ(l:List AQ)(s:Int)(u:Bool)(h:Kk l)(hl:l.length≤281474976710656):Ev (λk=>Da.f k l s u) (My l s):=by
 unfold Da.f My;refine Ev.bind (PY l h hl) ?_;cases Mn l with
 | false=>simp only[Bool.false_eq_true,if_false,Bool.false_and];exact AR _
 | true =>
  simp only[if_true,Bool.true_and,Hl,Option.bind_some]
  exact AR _
theorem JE{l:List AQ}{s:Int}(h:My l s=true):l.length≤40∧0≤s∧s≤l.length:=by unfold My at h;simp only[Bool.and_eq_true,decide_eq_true_eq]at h;exact⟨Nq h.1,h.2.1,h.2.2⟩
def Jz(l:List AQ)(s:Int)(u:Bool)(a:Int):List AQ:=if My l s=true∧u=true∧0≤a∧a≤s then(l.take s.toNat).drop a.toNat else[]
theorem OB(l:List AQ)(s:Int)(u:Bool)(a:Int)(h:Kk l)(hl:l.length≤281474976710656):Ev (λk=>Dx.f k l s u a) (Jz l s u a):=by
 unfold Dx.f Jz;refine Ev.bind (PZ l s u h hl) ?_;cases hs:My l s with
 | false=>simp only[Bool.false_eq_true,if_false,false_and];exact AR _
 | true =>
  obtain⟨hl,h0,h1⟩:=JE hs
  simp only[if_true,true_and]
  cases u with
  | false=>simp only[Bool.false_eq_true,if_false,false_and];exact AR _
  | true =>
   simp only[if_true,true_and,Hl,Option.bind_some]
   by_cases b:0≤a∧a≤s
   ·have:(decide (0≤a)&&decide (a≤s))=true:=by simp[b.1,b.2]
    rw[this,Ry rfl,Ry b,Ry b.1,Ry b.2,Ry h1,Ry (by rw[R9,RV];simp;omega)]
    exact AR _
   ·have:(decide (0≤a)&&decide (a≤s))=false:=by
     cases c:(decide (0≤a)&&decide (a≤s))with
     | false=>rfl
     | true=>simp only[Bool.and_eq_true,decide_eq_true_eq]at c;exact absurd c b
    rw[this,Rz (by decide),Rz b]
    exact AR _
theorem Mp(l:List AQ)(s:Int)(u:Bool)(a:Int):(Jz l s u a).length≤40:=by
 unfold Jz;split
 ·rename_i h;obtain⟨hl,_,_⟩:=JE h.1;rw[R9,RV];omega
 simp
theorem ET(b:List Int)(p n:Int)(m:Nat)(d:Bytes b)(e:Rd p (m+1)):Bg (λk=>Ab.f k b p n) (λq=>0≤q.1∧(1≤n->q.1<n)∧(n<1->q.1=0)∧Rd q.2 m):=by obtain⟨r,h1,a,h3,h4,c⟩:=Dn b p n m d e;exact⟨_,h1,h3,h4,c,a⟩
def Ez(l:List AQ):Prop:=∀e∈l,FX e=true∧NS e
theorem Ez.wf{l:List AQ}(h:Ez l):Kk l:=λe he=>(h e he).2
theorem Ez.sub{l l':List AQ}(h:Ez l)(hs:∀e∈l',e∈l):Ez l':=λe he=>h e (hs e he)
theorem Ez.snoc{l:List AQ}(h:Ez l){e:AQ}(he:FX e=true∧NS e):Ez (l++[e]):=λx a=>(Sr.1 a).elim (h x) (λa=>by rw[SK.1 a];exact he)
theorem K7{e:AQ}(h:FX e=true):Km e.f2.f0 e.f2.f1 e.f2.f2 e.f2.f3 e.f2.f4=true:=by unfold FX at h;simp only[Bool.and_eq_true]at h;exact h.1.2
theorem Ez.op{l:List AQ}(h:Ez l):∀e∈l,Km e.f2.f0 e.f2.f1 e.f2.f2 e.f2.f3 e.f2.f4=true:=λe he=>K7 (h e he).1
structure Iy (c:EZ):Prop where
 CR:1≤c.f0∧c.f0≤3
 seen:0≤c.f1∧c.f1≤40
 base:Kl c.f2 (3+c.f1.toNat)
 wait:Ez c.f3
 done:0≤c.f4∧c.f4+c.f3.length≤40
structure N0 (m:DH):Prop where
 dest:0≤m.f0∧m.f0≤3
 one:m.f0=0->0<m.f2.length
 Rv:0≤m.f1∧m.f1≤40
 QC:Ez m.f2
 len:m.f2.length≤40
structure WG (x:Wd):Prop where
 log:Ez x.l0
 J6:x.l0.length≤40
 safe:0≤x.s∧x.s≤(x.l0.length:Int)
 three:x.l3.length=3
 JZ:∀c∈x.l3,Iy c
 KF:x.l4.length≤12
 lets:∀m∈x.l4,N0 m
theorem HX(l:List EZ)(i:Int)(h0:0≤i)(h1:i<(l.length:Int)):AE l i∈l:=by unfold AE;rw[RS,RD (show i.toNat<l.length by omega)];exact RR _
theorem Ox(l:List DH)(i:Int)(h0:0≤i)(h1:i<(l.length:Int)):AG l i∈l:=by unfold AG;rw[RS,RD (show i.toNat<l.length by omega)];exact RR _
theorem G5{α:Type}{l:List α}{i:Nat}{v x:α}(h:x∈l.set i v):x∈l∨x=v:=by
 rcases TQ h with h|h
 ·exact Or.inl h
 exact Or.inr h
def FM(q:Int×Int×List Ba×List AQ×Int×Int×Bool):Prop:=Iy ⟨q.1,q.2.1,q.2.2.1,q.2.2.2.1,q.2.2.2.2.1,q.2.2.2.2.2.1⟩
theorem J3(l:List AQ)(hl:Ez l)(m:l.length≤40)(b:EZ)(h0:Iy b):∀(n i:Nat) (c:EZ),i+n=l.length->Iy c->c.f1+n≤40 ->
  Bg (λk=>Aq.l0 k l i b.f0 b.f1 b.f2 b.f3 b.f4 b.f5 c.f0 c.f1 c.f2 c.f3 c.f4 c.f5) FM
 | 0,i,c,h,a,hs=>by
  refine Bg.step (λk=>by simp only[Aq.l0];rfl) ?_
  exact Bg.neg (by omega) (Bg.now (P:=FM) a)
 | n+1,i,c,h,a,hs=>by
  have hi:i<l.length:=by omega
  have he:=hl _ (RR hi)
  have j:=a.base.do (by have:=a.seen;omega) (K7 he.1)
  have g:3+(c.f1+1).toNat=3+c.f1.toNat+1:=by have:=a.seen;omega
  have w1:wrap64 (c.f1+1)=c.f1+1:=AN _ (by have:=a.seen;omega) (by have:=a.seen;omega)
  have o:wrap64 (c.f4+1)=c.f4+1:=AN _ (by have:=a.done;omega) (by have:=a.done;omega)
  have p:wrap64 ((i:Int)+1)=((i+1:Nat):Int):=AN _ (by omega) (by omega)
  refine Bg.step (λk=>by simp only[Aq.l0];rfl) ?_
  rw[Fo l i hi,w1,o,p]
  refine Bg.pos (by omega) (Bg.pos (by omega) (Bg.ite (λ_=>Bg.ite (λ_=>Bg.now (P:=FM) h0) (λz=>?_)) (λ_=>?_)))
  ·refine Bg.pos (by omega) (Bg.ite (λ_=>Bg.now (P:=FM) h0) (λ_=>Bg.pos (by omega) ?_))
   refine Bg.bind j (λr d=>?_)
   rw[<-g]at d
   exact J3 l hl m b h0 n (i+1) ⟨c.f0,c.f1+1,r,c.f3.drop 1,c.f4+1,c.f5⟩ (by omega) ⟨a.CR,by have:=a.seen;exact⟨by simp only;omega,by simp only;omega⟩,d,a.wait.sub (λe h=>SF h),by have:=a.done;refine⟨by simp only;omega,?_⟩;simp only[List.length_drop];omega⟩ (by simp only;omega)
  ·refine Bg.bind j (λr d=>?_)
   rw[<-g]at d
   exact J3 l hl m b h0 n (i+1) ⟨c.f0,c.f1+1,r,c.f3,c.f4,c.f5⟩ (by omega) ⟨a.CR,by have:=a.seen;exact⟨by simp only;omega,by simp only;omega⟩,d,a.wait,a.done⟩ (by simp only;omega)
theorem Na(c:EZ)(h:Iy c)(a:Int)(l:List AQ)(i:0≤a∧a≤40)(hl:Ez l)(e:l.length≤40):Bg (λk=>Aq.f k c.f0 c.f1 c.f2 c.f3 c.f4 c.f5 a l) FM:=by
 have hs:=h.seen;have out:Bg (λk=>Aq.j0 k a l true c.f0 c.f1 c.f2 c.f3 c.f4 c.f5) FM:=by refine Bg.step (λk=>by simp only[Aq.j0];rfl) ?_;exact Bg.pos (by simp) (Bg.now (P:=FM) h)
 unfold Aq.f;refine Bg.ite (λ_=>out) (λh1=>?_);have w1:wrap64 (a+(l.length:Int))=a+l.length:=AN _ (by omega) (by omega);have g:wrap64 (c.f1-a)=c.f1-a:=AN _ (by omega) (by omega);rw[w1];by_cases b:a+(l.length:Int)>40
 ·rw[BM b];exact out
 rw[C9 b];refine Bg.step (λk=>by simp only[Aq.j0];rfl) ?_;refine Bg.neg (by decide) ?_;have d:mx (wrap64 (c.f1-a)) 0=(((c.f1-a).toNat:Nat):Int):=by rw[g];unfold mx;split <;> omega
 rw[d];by_cases h3:(c.f1-a).toNat≤l.length
 ·exact J3 l hl e c h (l.length-(c.f1-a).toNat) _ c (by omega) h (by omega)
 refine Bg.step (λk=>by simp only[Aq.l0];rfl) ?_;exact Bg.neg (by omega) (Bg.now (P:=FM) h)
theorem PH(c:EZ)(h:Iy c)(k i u a:Int)(s:ByteArray)(x:DT k)(hi:DT i)(hu:DT u)(v:DT a)(hs:s.size≤9223372036854775807):Bg (λn=>Bs.f n c.f0 c.f1 c.f2 c.f3 c.f4 c.f5 k i u a s) FM:=by
 have w:=h.done;have hw:=h.CR;have w1:wrap64 (wrap64 (c.f4+(c.f3.length:Int))+1)=c.f4+c.f3.length+1:=by rw[AN (c.f4+c.f3.length) (by omega) (by omega),AN _ (by omega) (by omega)]
 have wf:NS ⟨c.f0,c.f4+c.f3.length+1,⟨k,i,u,a,s⟩⟩:=⟨Bm (by simp only;omega) (by simp only;omega),Bm (by simp only;omega) (by simp only;omega),x,hi,hu,v,hs⟩
 have out:∀j l m o p q t,Bg (λn=>Bs.j0 n true c.f0 c.f1 c.f2 c.f3 c.f4 c.f5 k i u a s j l m o p q t) FM:=λj l m o p q t=>by
  refine Bg.step (λk=>by simp only[Bs.j0];rfl) ?_
  exact Bg.pos (by simp) (Bg.now (P:=FM) h)
 unfold Bs.f;rw[w1];refine Bg.bind (Bg.of (Kh _ wf) rfl) (λr e=>?_);subst e;refine Bg.ite (λhe=>?_) (λ_=>out _ _ _ _ _ _ _)
 have g:∀d:Int,Iy ⟨c.f0,c.f1,c.f2,c.f3++[⟨c.f0,c.f4+c.f3.length+1,⟨k,i,u,a,s⟩⟩],c.f4,d⟩:=λd=>⟨h.CR,h.seen,h.base,h.wait.snoc ⟨he,wf⟩,by
  have b:=he
  unfold FX at b
  simp only[Bool.and_eq_true,decide_eq_true_eq]at b
  refine⟨w.1,?_⟩
  simp only[List.length_append,List.length_singleton]
  omega⟩
 have put:Bg (λn=>Bs.j0 n false c.f0 c.f1 c.f2 c.f3 c.f4 c.f5 k i u a s c.f0 (c.f4+c.f3.length+1) k i u a s) FM:=by refine Bg.step (λk=>by simp only[Bs.j0];rfl) ?_;refine Bg.neg (by decide) ?_;simp only[Option.bind_some,List.nil_append,List.length_nil,List.length_singleton];refine Bg.ite (λ_=>Bg.pos (by omega) (Bg.pos (by omega) (Bg.now (P:=FM) (g _)))) (λ_=>Bg.pos (by omega) (Bg.pos (by omega) (Bg.now (P:=FM) (g _))))
 refine Bg.ite (λ_=>?_) (λ_=>put);obtain⟨r,e,_⟩:=JD c.f0 (wrap64 (c.f5+1));rw[e];simp only[Option.bind_some];cases (i != r)with
 | true=>exact out _ _ _ _ _ _ _
 | false=>exact put
theorem WG.put{l0:Dy}{s:Int}{u:Bool}{l3:En}{l4:Dz}(h:WG ⟨l0,s,u,l3,l4⟩){m:DH}(hm:N0 m):WG ⟨l0,s,u,l3,BN.f l4 m⟩:=by
 refine⟨h.log,h.J6,h.safe,h.three,h.JZ,?_,?_⟩
 ·show(BN.f l4 m).length≤12;unfold BN.f;split
  ·rw[Sc,S7];omega
  exact h.KF
 show ∀x∈BN.f l4 m,N0 x;unfold BN.f;split
 ·intro x a;rcases Sr.1 a with a|a
  ·exact h.lets x a
  rw[SK.1 a];exact hm
 exact h.lets
theorem WG.QR{l0:Dy}{s:Int}{u:Bool}{l3:En}{l4:Dz}(h:WG ⟨l0,s,u,l3,l4⟩){c:EZ}(a:Iy c)(i:Nat):WG ⟨l0,s,u,l3.set i c,l4⟩ :=
 ⟨h.log,h.J6,h.safe,by show(l3.set i c).length=3;rw[Si];exact h.three,λx b=>(G5 b).elim (h.JZ x) (λe=>e ▸ a),h.KF,h.lets⟩
theorem Mz(l:Dy)(s:Int)(u:Bool)(e:AQ)(hl:Ez l)(a:l.length≤40)(he:FX e=true∧NS e)(hs:0≤s∧s≤(l.length:Int)) :
  Bg (λk=>Eg.f k l s u e.f0 e.f1 e.f2.f0 e.f2.f1 e.f2.f2 e.f2.f3 e.f2.f4) (λq=>Ez q.1∧q.1.length≤40∧0≤q.2.1∧q.2.1≤(q.1.length:Int)):=by
 unfold Eg.f;refine Bg.bind (Bg.of (Qs l e (by omega)) rfl) (λr c=>?_);subst c;refine Bg.ite (λ_=>Bg.ite (λh1=>Bg.now ?_) (λ_=>Bg.now ⟨hl,a,hs⟩)) (λ_=>Bg.now ⟨hl,a,hs⟩);obtain⟨b,_,_,h4⟩:=MU h1;rw[b];refine⟨hl.snoc he,?_,hs.1,?_⟩
 ·rw[Sc,S7];omega
 have:=hs.2;simp only[List.length_append,List.length_singleton];omega
theorem N7(x:Wd)(h:WG x)(m:DH)(hm:N0 m):Bg (λk=>DX.f k x m) WG:=by
 obtain⟨l0,s,u,l3,l4⟩:=x;have d:=hm.dest;have h3:l3.length=3:=h.three;unfold DX.f;refine Bg.ite (λz=>?_) (λz=>?_)
 ·have:=hm.one z;refine Bg.pos (by omega) ?_;have a:Aa m.f2 0∈m.f2:=by have:=Fo m.f2 0 (hm.one z);rw[show((0:Nat):Int)=0 from rfl]at this;rw[this];exact RR _
  refine Bg.bind (Mz l0 s u _ h.log h.J6 (hm.QC _ a) h.safe) (λq b=>Bg.now ?_);exact⟨b.1,b.2.1,b.2.2,h.three,h.JZ,h.KF,h.lets⟩
 have w:wrap64 (m.f0-1)=m.f0-1:=AN _ (by omega) (by omega);rw[w];refine Bg.pos (by omega) (Bg.pos (by show m.f0-1<(l3.length:Int);omega) ?_);have c:=h.JZ _ (HX l3 (m.f0-1) (by omega) (by omega));refine Bg.bind (Na _ c m.f1 m.f2 hm.Rv hm.QC hm.len) (λq b=>Bg.now ?_);exact h.QR b _
theorem QL(x:Wd)(h:WG x)(e:Jp):Bg (λk=>DQ.f k x e) WG:=by
 obtain⟨l0,s,u,l3,l4⟩:=x;have h4:l4.length≤12:=h.KF;unfold DQ.f;refine Bg.pos (by show l4.length≤1000;omega) (Bg.ite (λz=>?_) (λ_=>Bg.now h));have hm:=h.lets _ (Ox l4 e.n z.1 z.2)
 have a:WG ⟨l0,s,u,l3,l4.take e.n.toNat++l4.drop (e.n.toNat+1)⟩:=by
  refine⟨h.log,h.J6,h.safe,h.three,h.JZ,?_,?_⟩
  ·simp only[List.length_append,List.length_take,List.length_drop];omega
  intro m hm;rcases Sr.1 hm with hm|hm
  ·exact h.lets m (SA hm)
  exact h.lets m (SF hm)
 refine Bg.ite (λ_=>Bg.now (h.put hm)) (λ_=>Bg.ite (λ_=>N7 _ a _ hm) (λ_=>Bg.now a))
theorem KO{l0:Dy}{s:Int}{u:Bool}{l3:En}:∀(l:Dy) (l4:Dz),Ez l->WG ⟨l0,s,u,l3,l4⟩->WG ⟨l0,s,u,l3,Gu l4 l⟩
 | [],l4,_,h=>h
 | e::l,l4,hl,h=>by
  unfold Gu
  refine KO l _ (hl.sub λx a=>RU _ a) (h.put ⟨⟨by simp,by simp⟩,λ_=>by simp,⟨by simp,by simp⟩,λx a=>?_,by simp⟩)
  have:x=e:=by simpa using a
  rw[this];exact hl e RI
def Ps(o:E0):Prop:=DT o.f0∧DT o.f1∧DT o.f2∧DT o.f3∧o.f4.size≤9223372036854775807
theorem Mq{l:Dy}(h:Ez l)(s:Int)(u:Bool)(a:Int):Ez (Jz l s u a):=by
 unfold Jz;split
 ·exact h.sub λe he=>SA (SF he)
 intro e he;cases he
theorem QV(x:Wd)(h:WG x)(e:Jp)(a:Ps e.o):Bg (λk=>DR.f k x e) WG:=by
 obtain⟨l0,s,u,l3,l4⟩:=x;have h3:l3.length=3:=h.three;unfold DR.f;refine Bg.ite (λz=>Bg.pos (by show e.CR-1<(l3.length:Int);omega) ?_) (λ_=>Bg.now h);have c:=h.JZ _ (HX l3 (e.CR-1) (by omega) (by omega));refine Bg.ite (λ_=>?_) (λ_=>Bg.ite (λ_=>Bg.now (KO _ _ c.wait h)) (λ_=>Bg.ite (λ_=>Bg.ite (λhu=>Bg.ite (λg=>?_) (λ_=>Bg.now h)) (λ_=>Bg.now h)) (λ_=>Bg.now h)))
 ·refine Bg.bind (PH _ c _ _ _ _ _ a.1 a.2.1 a.2.2.1 a.2.2.2.1 a.2.2.2.2) (λq b=>Bg.now (h.QR b _))
 have j:l0.length≤40:=h.J6;have hs:0≤s∧s≤(l0.length:Int):=h.safe;have i:0≤e.n∧e.n≤s:=g;refine Bg.bind (Bg.of (OB l0 s true e.n h.log.wf (by omega)) rfl) (λq b=>Bg.now ?_);subst b;exact h.put ⟨⟨by simp only;omega,by simp only;omega⟩,λd=>by simp only at d;omega,⟨by simp only;omega,by simp only;omega⟩,Mq h.log _ _ _,Mp _ _ _ _⟩
theorem PJ(l:Dy)(s:Int)(u:Bool)(a:Int)(hl:Ez l)(c:l.length≤40)(hs:0≤s∧s≤(l.length:Int))(b:0≤a∧a≤40):∃q,Ef.f l s u a=some q∧Ez q.1∧q.1.length≤40∧0≤q.2.1∧q.2.1≤(q.1.length:Int):=by
 have w:wrap64 (s+a)=s+a:=AN _ (by omega) (by omega);have hm:0≤mn (l.length:Int) (s+a)∧mn (l.length:Int) (s+a)≤l.length∧s≤mn (l.length:Int) (s+a):=by unfold mn;split <;> omega
 unfold Ef.f;rw[w];simp only[Option.bind_some,List.nil_append,List.length_nil];rw[Ry hm.1,Ry hm.2.1,Ry (by rw[RV];omega)];refine⟨_,rfl,hl.sub λe he=>SA he,?_,hs.1,?_⟩
 ·simp only[List.length_take];omega
 simp only[List.length_take];omega
theorem PI(x:Wd)(h:WG x)(e:Jp)(c:Ps e.o):Bg (λk=>EF.f k x e) WG:=by have h0:=h;obtain⟨l0,s,u,l3,l4⟩:=x;unfold EF.f;refine Bg.ite (λ_=>QV _ h e c) (λ_=>Bg.ite (λ_=>Bg.ite (λ_=>Bg.now ⟨h.log,h.J6,⟨by simp,by simp⟩,h.three,h.JZ,h.KF,h.lets⟩) (λ_=>Bg.now h)) (λ_=>Bg.ite (λ_=>Bg.ite (λz=>?_) (λ_=>Bg.now h)) (λ_=>Bg.ite (λ_=>Bg.now ⟨h.log,h.J6,h.safe,h.three,h.JZ,h.KF,h.lets⟩) (λ_=>Bg.ite (λ_=>QL _ h e) (λ_=>Bg.now h)))));obtain⟨q,b,a⟩:=PJ l0 s u e.n h.log h.J6 h.safe z;rw[b];exact Bg.now ⟨a.1,a.2.1,a.2.2,h.three,h.JZ,h.KF,h.lets⟩
def J9:List Ba:=[⟨1,0,⟨#[]⟩⟩,⟨2,0,⟨#[]⟩⟩,⟨3,0,⟨#[]⟩⟩]
theorem Oq:Kl J9 3:=by
 refine⟨λx a h=>?_,⟨⟨3,0,⟨#[]⟩⟩,by simp[J9],rfl⟩,λx a=>?_,by simp[Uq,J9],by simp[GZ,J9],by simp[J9]⟩
 ·have:x=⟨1,0,⟨#[]⟩⟩∨x=⟨2,0,⟨#[]⟩⟩∨x=⟨3,0,⟨#[]⟩⟩:=by simpa[J9]using a
  rcases this with rfl|rfl|rfl <;> rfl
 have:x=⟨1,0,⟨#[]⟩⟩∨x=⟨2,0,⟨#[]⟩⟩∨x=⟨3,0,⟨#[]⟩⟩:=by simpa[J9]using a
 rcases this with rfl|rfl|rfl <;> exact⟨Bm (by decide) (by decide),by decide⟩
theorem Kl.more{t:List Ba}{n m:Nat}(h:Kl t n)(hm:n≤m):Kl t m:=⟨h.root,h.found,h.ids,h.uq,h.ch,RJ h.len hm⟩
structure Pe (c:EZ):Prop where
 CR:1≤c.f0∧c.f0≤3
 seen:0≤c.f1∧c.f1≤40
 base:Kl c.f2 43
 wait:Ez c.f3
 done:0≤c.f4∧c.f4+c.f3.length≤40
theorem Iy.s{c:EZ}(h:Iy c):Pe c:=⟨h.CR,h.seen,h.base.more (by have:=h.seen;omega),h.wait,h.done⟩
theorem Ps.zero:Ps Jk:=⟨Bm (by decide) (by decide),Bm (by decide) (by decide),Bm (by decide) (by decide),Bm (by decide) (by decide),by decide⟩
def Q1(m:Nat)(q:Jp×Int):Prop:=Ps q.1.o∧Rd q.2 m
theorem Jr(b:List Int)(a:Bytes b)(p:Int)(m:Nat)(c:Rd p (m+2))(x:Wd):Bg (λk=>GA k b p x) (Q1 m):=by unfold GA;refine Bg.bind (ET b p _ (m+1) a c) (λr e=>Bg.bind (ET b r.2 2 m a e.2.2.2) (λq d=>Bg.now ⟨Ps.zero,d.2.2.2⟩))
theorem Oe(b:List Int)(d:Bytes b)(p:Int)(m:Nat)(G:Rd p (m+40))(x:Wd)(h:WG x):Bg (λk=>DY.f k b p x) (Q1 m):=by
 have h3:x.l3.length=3:=h.three;have Z:∀{a b c:Int} {r:Int},Rd r m->Q1 m (⟨a,b,c,Jk⟩,r):=λe=>⟨Ps.zero,e⟩
 unfold DY.f;refine Bg.bind (ET b p 3 (m+39) d G) (λw hw=>Bg.pos hw.1 (Bg.pos (by have:=hw.2.1 (by decide);omega) ?_));have l:=h.JZ _ (HX x.l3 w.1 hw.1 (by have:=hw.2.1 (by decide);omega));refine Bg.bind (ET b w.2 14 (m+38) d hw.2.2.2) (λq g=>Bg.ite (λ_=>?_) (λ_=>Bg.ite (λ_=>Bg.now (Z (g.2.2.2.less (by omega)))) (λ_=>Bg.ite (λ_=>Bg.now (Z (g.2.2.2.less (by omega)))) (λ_=>Bg.ite (λ_=>?_) (λ_=>Bg.ite (λ_=>?_) (λ_=>Bg.ite (λ_=>?_) (λ_=>Jr b d _ m (g.2.2.2.less (by omega)) x)))))))
 ·refine Bg.bind (KT (by have:=l.done;omega) l.wait.op (by have:=l.seen;omega) l.base) (λt n=>?_);obtain⟨k,i,u,a,s,K,h1,D,h4⟩:=Lf b d t _ (1+w.1) (AE x.l3 w.1).f5 q.2 (m+21) n.inv (by have:=n.len;have:=l.done;have:=l.seen;omega) g.2.2.2;refine Bg.bind (Bg.of h1 rfl) (λo E=>Bg.now ?_);subst E;obtain⟨y,I,z,A,B,J⟩:=D;have gk:DT k:=by rcases y with rfl|rfl|rfl <;> exact Bm (by decide) (by decide)
  exact⟨⟨gk,z,A,B,by simp only;omega⟩,h4.less (by omega)⟩
 ·exact Bg.bind (ET b q.2 4 (m+37) d g.2.2.2) (λr e=>Bg.now (Z (e.2.2.2.less (by omega))))
 ·refine Bg.bind (ET b q.2 3 (m+37) d g.2.2.2) (λr e=>Bg.ite (λ_=>Bg.bind (ET b r.2 3 (m+36) d e.2.2.2) (λv j=>Bg.now (Z (j.2.2.2.less (by omega))))) (λ_=>Bg.ite (λ_=>?_) (λ_=>Bg.now (Z (e.2.2.2.less (by omega))))));exact Bg.bind (ET b r.2 4 (m+36) d e.2.2.2) (λv j=>Bg.ite (λ_=>Bg.now (Z (j.2.2.2.less (by omega)))) (λ_=>Jr b d _ m (j.2.2.2.less (by omega)) x))
 exact Bg.bind (ET b q.2 2 (m+37) d g.2.2.2) (λr e=>Bg.bind (ET b r.2 _ (m+36) d e.2.2.2) (λv j=>Bg.ite (λ_=>Bg.now (Z (j.2.2.2.less (by omega)))) (λ_=>Bg.now (Z (j.2.2.2.less (by omega))))))
theorem LZ(b:List Int)(c:Bytes b):∀(N:Nat) (p:Int) (m:Nat) (x:Wd),N≤1000->Rd p (m+40*N)->WG x->Bg (λk=>Cu.l0 k b p N x) (λq=>WG q.1∧Rd q.2 m)
 | 0,p,m,x,_,a,h=>by
  refine Bg.step (λk=>by simp only[Cu.l0];rfl) ?_
  exact Bg.neg (by omega) (Bg.now ⟨h,a.less (by omega)⟩)
 | N+1,p,m,x,hN,a,h=>by
  refine Bg.step (λk=>by simp only[Cu.l0];rfl) ?_
  have w:wrap64 (((N+1:Nat):Int)-1)=(N:Int):=by rw[AN _ (by omega) (by omega)];omega
  rw[w]
  refine Bg.pos (by omega) (Bg.bind (Oe b c p (m+40*N) (a.less (by omega)) x h) (λe he=>Bg.bind (PI x h e.1 he.1) (λy d=>?_)))
  exact LZ b c N e.2 m y (by omega) he.2 d
theorem LJ(l0:Dy)(s:Int)(u:Bool)(l3:En)(l4:Dz)(h4:l4.length≤12)(hm:∀m∈l4,m.f2.length≤40)(a:Dy)(b:Int)(c:Bool)(d:En):∀(n i:Nat),i+n=l4.length->Bg (λk=>AM.l1 k i l0 s u l3 l4 a b c d (l4.take i)) (λq=>q=(a,b,c,d,l4))
 | 0,i,h=>by
  refine Bg.step (λk=>by simp only[AM.l1];rfl) ?_
  refine Bg.neg (by omega) (Bg.now ?_)
  rw[Tu (by omega)]
 | n+1,i,h=>by
  have hi:i<l4.length:=by omega
  have e:AG l4 (i:Int)=l4[i]:=by
   unfold AG
   rw[RS,show((i:Int)).toNat=i from rfl,RD hi];rfl
  have w:wrap64 ((i:Int)+1)=((i+1:Nat):Int):=AN _ (by omega) (by omega)
  have hl:=hm _ (RR hi)
  refine Bg.step (λk=>by simp only[AM.l1];rfl) ?_
  simp only[Option.bind_some,List.nil_append,List.length_nil]
  rw[e,w]
  refine Bg.pos (by omega) (Bg.pos (by omega) (Bg.pos (by omega) (Bg.pos (by rw[RV];omega) ?_)))
  have g:=LJ l0 s u l3 l4 h4 hm a b c d n (i+1) (by omega)
  rw[Sy hi]at g
  exact g
theorem LI(l0:Dy)(s:Int)(u:Bool)(l3:En)(l4:Dz)(h4:l4.length≤12)(hm:∀m∈l4,m.f2.length≤40)(h3:l3.length=3)(g:∀c∈l3,c.f2.length≤1000∧c.f3.length≤1000)(a:Dy)(b:Int)(d:Bool):∀(n i:Nat),i+n=l3.length->Bg (λk=>AM.l0 k i l0 s u l3 l4 a b d (l3.take i) []) (λq=>q=(a,b,d,l3,l4))
 | 0,i,h=>by
  refine Bg.step (λk=>by simp only[AM.l0];rfl) ?_
  refine Bg.neg (by omega) ?_
  rw[Tu (by omega)]
  exact LJ l0 s u l3 l4 h4 hm a b d l3 l4.length 0 (by omega)
 | n+1,i,h=>by
  have hi:i<l3.length:=by omega
  have e:AE l3 (i:Int)=l3[i]:=by
   unfold AE
   rw[RS,show((i:Int)).toNat=i from rfl,RD hi];rfl
  have w:wrap64 ((i:Int)+1)=((i+1:Nat):Int):=AN _ (by omega) (by omega)
  have hl:=g _ (RR hi)
  have l:C6.f l3[i].f0 l3[i].f1 l3[i].f2 l3[i].f3 l3[i].f4 l3[i].f5=some (l3[i].f0,l3[i].f1,l3[i].f2,l3[i].f3,l3[i].f4,l3[i].f5):=by
   unfold C6.f
   simp only[Option.bind_some,List.nil_append,List.length_nil]
   rw[Ry (by omega),Ry (by omega)]
  refine Bg.step (λk=>by simp only[AM.l0];rfl) ?_
  rw[e,w,l]
  simp only[Option.bind_some]
  refine Bg.pos (by omega) (Bg.pos (by omega) (Bg.pos (by rw[RV];omega) ?_))
  have j:=LI l0 s u l3 l4 h4 hm h3 g a b d n (i+1) (by omega)
  rw[Sy hi]at j
  exact j
theorem Mf{c:EZ}(h:Iy c):c.f2.length≤1000∧c.f3.length≤1000:=by have:=h.base.len;have:=h.done;have:=h.seen;omega
theorem PG(x:Wd)(h:WG x):Bg (λk=>AM.f k x.l0 x.s x.u x.l3 x.l4) (λq=>q=(x.l0,x.s,x.u,x.l3,x.l4)):=by
 have d:=h.J6;have a:Ee.f x.l0 x.s x.u=some (x.l0,x.s,x.u):=by unfold Ee.f;simp only[Option.bind_some,List.nil_append,List.length_nil];rw[Ry (by omega)]
 unfold AM.f;rw[a];simp only[Option.bind_some];exact LI x.l0 x.s x.u x.l3 x.l4 h.KF (λm hm=>(h.lets m hm).len) h.three (λc b=>Mf (h.JZ c b)) x.l0 x.s x.u x.l3.length 0 (by omega)
def Jj(w:Int):EZ:=⟨w,0,J9,[],0,0⟩
theorem J0{w:Int}(h:1≤w∧w≤3):Iy (Jj w):=⟨h,(by show(0:Int)≤0∧(0:Int)≤40;decide),(show Kl J9 (3+(0:Int).toNat)from Oq),(λe he=>(by cases he)),(by show(0:Int)≤0∧(0:Int)+((0:Nat):Int)≤40;decide)⟩
theorem MA:Bl.f 5=some ([],0,true,[Jj 1,Jj 2,Jj 3],[]):=by kernel_rfl
theorem PR:WG ⟨[],0,true,[Jj 1,Jj 2,Jj 3],[]⟩:=by
 refine⟨(λe he=>(by cases he)),(by decide),(by decide),rfl,(λc a=>?_),(by decide),(λm hm=>(by cases hm))⟩;have:c=Jj 1∨c=Jj 2∨c=Jj 3:=by simpa using a
 rcases this with rfl|rfl|rfl
 ·exact J0 (by decide)
 ·exact J0 (by decide)
 exact J0 (by decide)
theorem PW(b:List Int)(e:Bytes b)(p:Int)(m:Nat)(i:Rd p (m+2000)):Bg (λk=>Cu.f k b p) (λq=>WG q.1∧Rd q.2 m):=by
 unfold Cu.f;refine Bg.bind (Bg.of (Ev.of (λk=>Bl.mono k) MA) rfl) (λw hw=>?_);subst hw;refine Bg.bind (ET b p 46 (m+1999) e i) (λn a=>?_);have j:=a.2.1 (by decide);obtain⟨N,hN⟩:∃N:Nat,n.1=N:=⟨n.1.toNat,by have:=a.1;omega⟩
 refine Bg.pos (by omega) ?_;rw[hN];refine Bg.bind (LZ b e N n.2 m _ (by omega) (a.2.2.2.less (by omega)) PR) (λq d=>Bg.bind (PG q.1 d.1) (λc g=>Bg.now ?_));subst g;exact⟨d.1,d.2⟩
theorem OI(b:List Int)(e:Bytes b)(p:Int)(m:Nat)(t:Rd p (m+2400)):Bg (λk=>DZ.f k b p) (λq=>(∀c∈q.1.l3,Pe c)∧1≤q.1.l3.length∧q.1.l3.length≤3∧Rd q.2 m):=by
 unfold DZ.f;refine Bg.bind (PW b e p (m+400) (t.less (by omega))) (λy n=>?_);have h3:y.1.l3.length=3:=n.1.three;have g:∀c∈y.1.l3,Pe c:=λc h=>(n.1.JZ c h).s
 refine Bg.bind (ET b y.2 3 (m+399) e (n.2.less (by omega))) (λi hi=>Bg.bind (ET b i.2 40 (m+398) e hi.2.2.2) (λq j=>?_));have i1:=hi.2.1 (by decide);have a:=g _ (HX y.1.l3 i.1 hi.1 (by omega));refine Bg.ite (λ_=>?_) (λ_=>Bg.ite (λ_=>Bg.pos ⟨hi.1,by omega⟩ ?_) (λ_=>Bg.ite (λ_=>Bg.pos ⟨hi.1,by omega⟩ ?_) (λ_=>Bg.ite (λ_=>?_) (λ_=>Bg.ite (λ_=>Bg.pos (by omega) (Bg.now ?_)) (λ_=>Bg.now ⟨g,by simp only;omega,by simp only;omega,j.2.2.2.less (by omega)⟩)))))
 ·exact Bg.bind (ET b q.2 3 (m+397) e j.2.2.2) (λr d=>Bg.now ⟨g,by simp only;omega,by simp only;omega,d.2.2.2.less (by omega)⟩)
 ·refine Bg.bind (ET b q.2 5 (m+397) e j.2.2.2) (λr d=>Bg.now ⟨λc h=>?_,by simp only[List.length_set];omega,by simp only[List.length_set];omega,d.2.2.2.less (by omega)⟩);have x:=d.2.1 (by decide);have u:=d.1;rcases G5 h with h|h
  ·exact g c h
  rw[h];exact⟨a.CR,⟨u,by simp only;omega⟩,a.base,a.wait,a.done⟩
 ·refine Bg.bind (ET b q.2 8 (m+397) e j.2.2.2) (λr d=>Bg.now ⟨λc h=>?_,by simp only[List.length_set];omega,by simp only[List.length_set];omega,d.2.2.2.less (by omega)⟩);rcases G5 h with h|h
  ·exact g c h
  rw[h];exact⟨a.CR,a.seen,a.base,a.wait,a.done⟩
 ·obtain⟨l,w,h1,v,h4,o⟩:=On b e q.2 m (j.2.2.2.less (by omega));refine Bg.bind (Bg.of h1 rfl) (λr d=>Bg.now ?_);subst d;exact⟨g,by simp only;omega,by simp only;omega,o⟩
 refine⟨λc h=>g c (SF h),?_,?_,j.2.2.2.less (by omega)⟩
 ·simp only[List.length_drop];omega
 simp only[List.length_drop];omega
structure NT (a b:Int) (t:List Ba) (l:List AQ) (c d:Int):Prop where
 CR:0≤a∧a≤4
 seen:0≤b∧b≤40
 base:Kl t 43
 wait:Kk l
 len:l.length≤41
 done:0≤c∧c≤40
theorem M5(b:List Int)(e:Bytes b)(p:Int)(m:Nat)(z:Rd p (m+2500)):Bg (λk=>Df.f k b p) (λq=>NT q.1 q.2.1 q.2.2.1 q.2.2.2.1 q.2.2.2.2.1 q.2.2.2.2.2.1∧Rd q.2.2.2.2.2.2 m):=by
 unfold Df.f;refine Bg.bind (OI b e p (m+100) (z.less (by omega))) (λy j=>Bg.bind (ET b y.2 _ (m+99) e j.2.2.2) (λi hi=>?_));have i1:=hi.2.1 (by have:=j.2.1;omega);refine Bg.pos hi.1 (Bg.pos i1 ?_);have c:=j.1 _ (HX y.1.l3 i.1 hi.1 i1);have B:=c.done;have hw:=c.CR;refine Bg.bind (ET b i.2 24 (m+98) e hi.2.2.2) (λq g=>Bg.ite (λ_=>?_) (λ_=>Bg.ite (λ_=>?_) (λ_=>Bg.now ⟨⟨by simp only;omega,c.seen,c.base,c.wait.wf,by simp only;omega,by simp only;omega⟩,g.2.2.2.less (by omega)⟩)))
 ·refine Bg.bind (ET b q.2 4 (m+97) e g.2.2.2) (λr d=>Bg.now ⟨⟨by simp only;omega,c.seen,c.base,c.wait.wf,by simp only;omega,?_⟩,d.2.2.2.less (by omega)⟩);have:=d.1;have:=d.2.1 (by decide);simp only;omega
 refine Bg.bind (ET b q.2 9 (m+97) e g.2.2.2) (λr d=>?_);obtain⟨k,i',u,a,s,D,h1,w,h3⟩:=Le b e r.2 (m+80) (d.2.2.2.less (by omega));have E:=d.1;have G:=d.2.1 (by decide);refine Bg.bind (Bg.of h1 rfl) (λo x=>Bg.pos (by omega) (Bg.now ?_));subst x;obtain⟨l,n,t,v,A⟩:=w;refine⟨⟨by simp only;omega,c.seen,c.base,H8 c.wait.wf ⟨Bm (by simp only;omega) (by simp only;omega),H9 _,l,n,t,v,by simp only;omega⟩,?_,by simp only;omega⟩,h3.less (by omega)⟩;simp only[List.length_append,List.length_singleton];omega
end Go.Proofs.YtlhlpfnljglhoaaDoor.PL
namespace Go.Proofs.YtlhlpfnljglhoaaDoor.PL
open Go.RowKit Go.Proofs.YtlhlpfnljglhoaaDoor.P Go.Proofs.YtlhlpfnljglhoaaDoorW.PrintWords Go.Proofs.YtlhlpfnljglhoaaDoorW.Bb
def QU(r:Ba):Prop:=DT r.f0∧r.f2.size≤9223372036854775807
theorem Gh:∀(l:List Ba) (s a:List Int) (roots d:Int),(∀x,x∈s↔x∈a)->EP s roots d l=EP a roots d l
 | [],_,_,_,_,_=>rfl
 | r::rest,s,a,roots,d,h=>by
  have b:∀x,x∈r.f0::s↔x∈r.f0::a:=λx=>by simp only[List.mem_cons,h x]
  have c:decide (r.f0∉s)=decide (r.f0∉a):=by simp only[h r.f0]
  unfold EP
  rw[c,Gh rest _ _ (roots+1) r.f1 b,Gh rest _ _ roots r.f1 b]
theorem JC{r:Ba}(h:G9 r=true):0≤r.f1∧r.f1≤18:=by obtain⟨_,_,d0,d18⟩:=L1 h;exact⟨d0,d18⟩
theorem NF(t:List Ba)(hl:t.length≤1000000000)(roots:Int)(i:Nat)(hi:i<t.length)(b:Bool)(a:Ev (λk=>Ak.l0 k t roots ((i:Int)+1)) b):∀(n j:Nat),j+n=i->Ev (λk=>Ak.l1 k t roots i j) (decide (t[i].f0∉((t.take i).drop j).map (·.f0))&&b)
 | 0,j,h=>by
  have d:j=i:=by omega
  subst d
  rw[Sb (by rw[RV];omega)]
  refine Ev.step (λk=>by simp only[Ak.l1];rfl) ?_
  refine AF (by omega) ?_
  rw[EV j (by omega) (by omega)]
  simpa using a
 | n+1,j,h=>by
  have l:j<(t.take i).length:=by rw[RV];omega
  have g:j<t.length:=by omega
  rw[RZ l,Ub,List.getElem_take]
  refine Ev.step (λk=>by simp only[Ak.l1];rfl) ?_
  refine Al (by omega) (Al (by omega) (Al (by omega) (Al (by omega) (Al (by omega) ?_))))
  rw[CX t j g,CX t i hi,EV j (by omega) (by omega)]
  by_cases c:t[j].f0=t[i].f0
  ·refine Al c ?_
   rw[C9 (by simp[c]),Se]
   exact AR _
  ·refine AF c ?_
   have m:=NF t hl roots i hi b a n (j+1) (by omega)
   have e:decide (t[i].f0∉t[j].f0::((t.take i).drop (j+1)).map (·.f0))=decide (t[i].f0∉((t.take i).drop (j+1)).map (·.f0)):=by
    rw[decide_eq_decide,Sl,not_or]
    exact⟨λq=>q.2,λq=>⟨λe=>c e.symm,q⟩⟩
   rw[e]
   exact m
theorem O9(t:List Ba)(hl:t.length≤1000000000)(hw:∀r∈t,QU r):∀(n i:Nat) (roots:Int) (h:i+n=t.length) (h1:0<i) (p:i≤t.length),0≤roots->roots≤i->G9 (t[i-1]'(by omega))=true ->
  Ev (λk=>Ak.l0 k t roots i) (EP ((t.take i).map (·.f0)) roots (t[i-1]'(by omega)).f1 (t.drop i)&&((t[0]'(by omega)).f0==1))
 | 0,i,roots,h,h1,p,v,A,u=>by
  rw[Sb (by omega)]
  refine Ev.step (λk=>by simp only[Ak.l0];rfl) ?_
  refine AF (by omega) ?_
  unfold EP
  by_cases e:roots=3
  ·refine Al e (Al (by omega) ?_)
   rw[BM e,RY,show Ae t 0=t[0]'(by omega)from CX t 0 (by omega)]
   exact AR _
  ·refine AF e ?_
   rw[C9 e,Se]
   exact AR _
 | n+1,i,roots,h,h1,p,v,A,u=>by
  have hi:i<t.length:=by omega
  have g:i-1<t.length:=by omega
  obtain⟨w0,w1⟩:=hw t[i] (RR hi)
  obtain⟨d0,d18⟩:=JC u
  rw[RZ hi]
  refine Ev.step (λk=>by simp only[Ak.l0];rfl) ?_
  refine Al (by omega) (Al (by omega) ?_)
  rw[CX t i hi]
  refine Ev.bind (ND t[i] w0 w1) ?_
  unfold EP
  cases d:G9 t[i]with
  | false =>
   simp only[Bool.false_eq_true,if_false,Bool.false_and]
   refine Ev.step (λk=>by simp only[Ak.j1];rfl) ?_
   exact Al trivial (AR _)
  | true =>
   simp only[if_true,Bool.true_and]
   have l:wrap64 ((i:Int)-1)=((i-1:Nat):Int):=by rw[AN _ (by omega) (by omega)];omega
   rw[l]
   refine Al (by omega) (Al (by omega) (Al (by omega) ?_))
   rw[CX t (i-1) g,AN (t[i-1].f1+1) (by omega) (by omega)]
   refine Ev.step (λk=>by simp only[Ak.j1];rfl) ?_
   by_cases q:t[i].f1>t[i-1].f1+1
   ·refine Al (by simpa using q) ?_
    rw[C9 (show¬ t[i].f1≤t[i-1].f1+1 by omega),Se,Tb,Se]
    exact AR _
   ·refine AF (by simpa using q) (Al (by omega) (Al (by omega) ?_))
    rw[BM (show t[i].f1≤t[i-1].f1+1 by omega),RY,CX t i hi,Kg]
    simp only[Option.bind_some]
    have c:∀x,x∈(t.take (i+1)).map (·.f0)↔x∈t[i].f0::(t.take i).map (·.f0):=λx=>by
     rw[Sy hi,TI,Sr,Sl]
     simp[or_comm]
    have b:∀(a:Int),0≤a->a≤(i+1:Nat)->Ev (λk=>Ak.j2 k t a i) (decide (t[i].f0∉(t.take i).map (·.f0))&&(EP (t[i].f0::(t.take i).map (·.f0)) a t[i].f1 (t.drop (i+1))&&((t[0]'(by omega)).f0==1))):=λa y z=>by
     refine Ev.step (λk=>by simp only[Ak.j2];rfl) ?_
     have w:=O9 t hl hw n (i+1) a (by omega) (by omega) (by omega) y z d
     have o:Ev (λk=>Ak.l0 k t a ((i:Int)+1)) (EP (t[i].f0::(t.take i).map (·.f0)) a t[i].f1 (t.drop (i+1))&&((t[0]'(by omega)).f0==1)):=by
      rw[<-Gh (t.drop (i+1)) _ _ a t[i].f1 c]
      exact w
     have:=NF t hl a i hi _ o i 0 (by omega)
     rw[List.drop_zero]at this
     exact this
    cases j:E8 t[i].f0 with
    | true =>
     simp only[if_true]
     have m:wrap64 (roots+1)=roots+1:=AN _ (by omega) (by omega)
     rw[m]
     by_cases he:t[i].f0=roots+1
     ·refine Al he ?_
      rw[BM he,RY,Bool.and_assoc]
      exact b (roots+1) (by omega) (by omega)
     ·refine AF he ?_
      rw[C9 he,Se,Tb,Se]
      exact AR _
    | false =>
     simp only[Bool.false_eq_true,if_false]
     rw[Bool.and_assoc]
     exact b roots v (by omega)
theorem OC(t:List Ba)(hl:t.length≤1000000000)(hw:∀r∈t,QU r):Ev (λk=>Ak.f k t) (JJ t):=by
 unfold Ak.f JJ;cases t with
 | nil =>
  refine Ev.step (λk=>by simp only[Ak.l0];rfl) ?_
  exact AF (by simp) (AF (by decide) (AR _))
 | cons r rest =>
  obtain⟨w0,w1⟩:=hw r RI
  have g:Ae (r::rest) 0=r:=CX (r::rest) 0 (by simp)
  refine Ev.step (λk=>by simp only[Ak.l0];rfl) ?_
  refine Al (by simp) (Al (by omega) ?_)
  rw[g]
  refine Ev.bind (ND r w0 w1) ?_
  unfold EP
  cases b:G9 r with
  | false =>
   simp only[Bool.false_eq_true,if_false,Bool.false_and]
   refine Ev.step (λk=>by simp only[Ak.j1];rfl) ?_
   exact Al trivial (AR _)
  | true =>
   simp only[if_true,Bool.true_and]
   refine AF (by omega) ?_
   refine Ev.step (λk=>by simp only[Ak.j1];rfl) ?_
   refine AF (by decide) (Al (by omega) (Al (by simp) ?_))
   rw[g,Kg]
   simp only[Option.bind_some]
   have d:∀(a:Int),0≤a->a≤1->Ev (λk=>Ak.j2 k (r::rest) a 0) (EP [r.f0] a r.f1 rest&&(r.f0==1)):=λa o p=>by
    refine Ev.step (λk=>by simp only[Ak.j2];rfl) ?_
    have n:=O9 (r::rest) hl hw rest.length 1 a (by simp;omega) (by omega) (by simp) o (by omega) b
    have:=NF (r::rest) hl a 0 (by simp) _ n 0 0 rfl
    simpa using this
   have m:=JC b
   cases c:E8 r.f0 with
   | true =>
    simp only[if_true]
    have l:r.f1=0:=by
     unfold G9 at b
     rw[Ry c]at b
     simp only[Bool.and_eq_true,decide_eq_true_eq]at b
     exact b.1
    rw[BM (show r.f1≤-1+1 by omega),RY,show wrap64 (0+1)=1 from AN (0+1) (by omega) (by omega)]
    by_cases he:r.f0=1
    ·refine Al he ?_
     have:=d 1 (by omega) (by omega)
     have j:(r.f0==1)=true:=RO.2 he
     rw[j,Ua]at this
     simpa[he]using this
    ·refine AF he ?_
     rw[C9 (show¬ r.f0=0+1 by omega),Se,Tb]
     exact AR _
   | false =>
    simp only[Bool.false_eq_true,if_false]
    have l:1≤r.f1:=by
     unfold G9 at b
     rw[Rz (by rw[c];decide)]at b
     simp only[Bool.and_eq_true,decide_eq_true_eq]at b
     exact b.2.1
    have i:(r.f0==1)=false:=Sx.2 λe=>by rw[e]at c;exact absurd c (by decide)
    rw[C9 (show¬ r.f1≤-1+1 by omega),Se,Tb]
    have:=d 0 (by omega) (by omega)
    rwa[i,Tb]at this
end Go.Proofs.YtlhlpfnljglhoaaDoor.PL
namespace Go.Proofs.YtlhlpfnljglhoaaDoor.PL
open Go.RowKit Go.Proofs.YtlhlpfnljglhoaaDoor.P Go.Proofs.YtlhlpfnljglhoaaDoorW.PrintWords Go.Proofs.YtlhlpfnljglhoaaDoorW.Bb
def Gj(CR done made:Int):Nat->List AQ->Bool
 | _,[]=>true
 | i,e::l=>FX e&&(decide (e.f0=CR)&&(decide (e.f1=done+i+1)&&((decide (e.f2.f0≠1) || decide (e.f2.f1≤10*CR+made))&&Gj CR done made (i+1) l)))
def Hi(CR seen:Int)(b:List Ba)(w:List AQ)(done made:Int):Bool :=
 (decide (1≤CR)&&decide (CR≤3))&&((decide (0≤seen)&&decide (seen≤40))&&(JJ b&&((decide (0≤done)&&decide (done≤seen))&&(decide (done+w.length≤40)&&((decide (0≤made)&&decide (made≤6))&&Gj CR done made 0 w)))))
section
variable (CR seen done made:Int) (b:List Ba) (w:List AQ)
theorem Og(h1:1≤CR∧CR≤3)(hm:0≤made∧made≤6)(len:Int)(i:Nat)(hi:i≤1000)(e:AQ)(R:Bool)(h:Ev (λk=>Am.l0 k w len ((i+1:Nat):Int) CR seen b w done made) R)(f:Bool) :
  Ev (λk=>Am.j3 k w len i f CR seen b w done made e.f0 e.f1 e.f2.f0 e.f2.f1 e.f2.f2 e.f2.f3 e.f2.f4) (!f&&((decide (e.f2.f0≠1) || decide (e.f2.f1≤10*CR+made))&&R)):=by
 refine Ev.step (λk=>by simp only[Am.j3];rfl) ?_;cases f with
 | true=>exact Al rfl (AR _)
 | false =>
  have w1:wrap64 (wrap64 (10*CR)+made)=10*CR+made:=by rw[AN (10*CR) (by omega) (by omega),AN _ (by omega) (by omega)]
  have c:wrap64 ((i:Int)+1)=((i+1:Nat):Int):=AN _ (by omega) (by omega)
  refine AF (by decide) ?_
  rw[w1,c]
  by_cases a:e.f2.f0=1
  ·refine Al a ?_
   by_cases g:e.f2.f1>10*CR+made
   ·have z:(!false&&((decide (e.f2.f0≠1) || decide (e.f2.f1≤10*CR+made))&&R))=false:=by simp[a];intro;omega
    rw[z]
    exact Al g (AR _)
   ·have z:(!false&&((decide (e.f2.f0≠1) || decide (e.f2.f1≤10*CR+made))&&R))=R:=by rw[BM (show e.f2.f1≤10*CR+made by omega)];simp
    rw[z]
    exact AF g h
  ·have z:(!false&&((decide (e.f2.f0≠1) || decide (e.f2.f1≤10*CR+made))&&R))=R:=by simp[a]
   rw[z]
   exact AF a h
theorem LR(hw:Kk w)(h1:1≤CR∧CR≤3)(c:0≤done∧done≤40)(hm:0≤made∧made≤6)(hl:w.length≤1000):∀n i:Nat,i+n=w.length->Ev (λk=>Am.l0 k w (w.length:Int) i CR seen b w done made) (Gj CR done made i (w.drop i))
 | 0,i,h=>by
  rw[Sb (by omega)]
  refine Ev.step (f:=λ_=>some true) (λk=>?_) (AR _)
  simp only[Am.l0];rw[Rz (by omega)]
 | n+1,i,h=>by
  have hi:i<w.length:=by omega
  rw[RZ hi]
  have J:=Og CR seen done made b w h1 hm (w.length:Int) i (by omega) w[i] _ (LR hw h1 c hm hl n (i+1) (by omega))
  have ws:wrap64 (wrap64 (done+(i:Int))+1)=done+i+1:=by rw[AN (done+i) (by omega) (by omega),AN _ (by omega) (by omega)]
  refine Ev.step (f:=λk=>(CD.f k w[i].f0 w[i].f1 w[i].f2.f0 w[i].f2.f1 w[i].f2.f2 w[i].f2.f3 w[i].f2.f4).bind λt=>if t=true then(if w[i].f0=CR then Am.j3 k w (w.length:Int) i (w[i].f1 != done+i+1) CR seen b w done made w[i].f0 w[i].f1 w[i].f2.f0 w[i].f2.f1 w[i].f2.f2 w[i].f2.f3 w[i].f2.f4 else Am.j3 k w (w.length:Int) i true CR seen b w done made w[i].f0 w[i].f1 w[i].f2.f0 w[i].f2.f1 w[i].f2.f2 w[i].f2.f3 w[i].f2.f4)else Am.j3 k w (w.length:Int) i true CR seen b w done made w[i].f0 w[i].f1 w[i].f2.f0 w[i].f2.f1 w[i].f2.f2 w[i].f2.f3 w[i].f2.f4) (λk=>?_) ?_
  ·simp only[Am.l0]
   rw[Ry (by omega),Ry (by omega),Ry (by omega),Fo w i hi,ws]
  ·refine Ev.bind (OV _ (hw _ (RR hi))) ?_
   unfold Gj
   cases FX w[i]with
   | false=>exact AF (by decide) (J true)
   | true =>
    refine Al rfl ?_
    by_cases a:w[i].f0=CR
    ·refine Al a ?_
     have q:=J (w[i].f1 != done+i+1)
     have z:(!(w[i].f1 != done+i+1))=decide (w[i].f1=done+i+1):=by by_cases d:w[i].f1=done+i+1 <;> simp[d]
     rw[z]at q
     rw[BM a,RY,RY]
     exact q
    ·rw[C9 a]
     exact AF a (J true)
theorem PM(hw:Kk w)(hl:w.length≤1099511627776):Ev (λk=>Am.f k CR seen b w done made) (Hi CR seen b w done made):=by
 have a:Ev (λk=>Am.j0 k true CR seen b w done made) false:=Ev.step (f:=λ_=>some false) (λk=>by simp only[Am.j0];rfl) (AR _);have c:Ev (λk=>Am.j1 k true CR seen b w done made) false:=Ev.step (f:=λ_=>some false) (λk=>by simp only[Am.j1];rfl) (AR _);unfold Am.f Cc.f Hi;by_cases d:CR≥1
 ·rw[Ry d];simp only[Option.bind_some];rw[BM (show 1≤CR from d),RY];by_cases e:CR≤3
  ·rw[BM e,RY];refine Al rfl ?_;by_cases g:seen<0
   ·rw[C9 (show¬ 0≤seen by omega)];exact Al g a
   rw[BM (show 0≤seen by omega),RY];refine AF g ?_;by_cases i:seen>40
   ·rw[C9 (show¬ seen≤40 by omega)];exact Al i a
   rw[BM (show seen≤40 by omega),RY];refine AF i ?_;unfold E5.f;simp only[Option.bind_some];cases JJ b with
   | false=>exact a
   | true =>
    rw[RY]
    refine Ev.step (λk=>by simp only[Am.j0];rfl) ?_
    refine AF (by decide) ?_
    by_cases j:done<0
    ·rw[C9 (show¬ 0≤done by omega)]
     exact Al j c
    ·rw[BM (show 0≤done by omega),RY]
     refine AF j ?_
     by_cases l:done>seen
     ·rw[C9 (show¬ done≤seen by omega)]
      exact Al l c
     ·rw[BM (show done≤seen by omega),RY]
      refine AF l ?_
      rw[AN (40-done) (by omega) (by omega)]
      by_cases m:(w.length:Int)>40-done
      ·rw[C9 (show¬ done+w.length≤40 by omega)]
       exact Al m c
      ·rw[BM (show done+w.length≤40 by omega),RY]
       refine AF m ?_
       by_cases n:made<0
       ·rw[C9 (show¬ 0≤made by omega)]
        exact Al n c
       ·rw[BM (show 0≤made by omega),RY]
        refine AF n ?_
        by_cases o:made>6
        ·rw[C9 (show¬ made≤6 by omega),BM o]
         exact c
        ·rw[BM (show made≤6 by omega),C9 o,RY]
         refine Ev.step (λk=>by simp only[Am.j1];rfl) ?_
         exact AF (by decide) (LR CR seen done made b w hw ⟨by omega,by omega⟩ ⟨by omega,by omega⟩ ⟨by omega,by omega⟩ (by omega) w.length 0 (by omega))
  rw[C9 e];exact AF (by decide) a
 rw[Rz d];simp only[Option.bind_some];rw[C9 (show¬ 1≤CR by omega)];exact AF (by decide) a
theorem L4(hw:Kk w)(h1:1≤CR∧CR≤3)(e:0≤done∧done≤40)(hm:0≤made∧made≤6)(hl:w.length≤1000):∀n i:Nat,i+n=w.length->Ev (λk=>Ap.l0 k i CR seen b w done made) (Gj CR done made i (w.drop i))
 | 0,i,h=>by
  rw[Sb (by omega)]
  refine Ev.step (f:=λ_=>some true) (λk=>?_) (AR _)
  simp only[Ap.l0];rw[Rz (by omega)]
 | n+1,i,h=>by
  have hi:i<w.length:=by omega
  have d:=L4 hw h1 e hm hl n (i+1) (by omega)
  rw[RZ hi]
  have ws:wrap64 (wrap64 (done+(i:Int))+1)=done+i+1:=by rw[AN (done+i) (by omega) (by omega),AN _ (by omega) (by omega)]
  have w1:wrap64 (wrap64 (10*CR)+made)=10*CR+made:=by rw[AN (10*CR) (by omega) (by omega),AN _ (by omega) (by omega)]
  have j:wrap64 ((i:Int)+1)=((i+1:Nat):Int):=AN _ (by omega) (by omega)
  refine Ev.step (f:=λk=>(BA.f k w[i].f0 w[i].f1 w[i].f2.f0 w[i].f2.f1 w[i].f2.f2 w[i].f2.f3 w[i].f2.f4).bind λt=>if t=true then(if w[i].f0=CR then(if w[i].f1=done+i+1 then(if w[i].f2.f0=1 then(if w[i].f2.f1>10*CR+made then some false else Ap.l0 k ((i+1:Nat):Int) CR seen b w done made)else Ap.l0 k ((i+1:Nat):Int) CR seen b w done made)else some false)else some false)else some false) (λk=>?_) ?_
  ·simp only[Ap.l0]
   rw[Ry (by omega),Ry (by omega),Fo w i hi,ws,w1,j]
  ·refine Ev.bind (Kh _ (hw _ (RR hi))) ?_
   unfold Gj
   cases FX w[i]with
   | false=>exact AF (by decide) (AR _)
   | true =>
    refine Al rfl ?_
    rw[RY]
    by_cases a:w[i].f0=CR
    ·rw[BM a,RY]
     refine Al a ?_
     by_cases c:w[i].f1=done+i+1
     ·rw[BM c,RY]
      refine Al c ?_
      by_cases g:w[i].f2.f0=1
      ·refine Al g ?_
       rw[C9 (show¬ w[i].f2.f0≠1 from λz=>z g),Bool.false_or]
       by_cases o:w[i].f2.f1>10*CR+made
       ·rw[C9 (show¬ w[i].f2.f1≤10*CR+made by omega)]
        exact Al o (AR _)
       ·rw[BM (show w[i].f2.f1≤10*CR+made by omega),RY]
        exact AF o d
      ·rw[BM (show w[i].f2.f0≠1 from g),T1,RY]
       exact AF g d
     ·rw[C9 c]
      exact AF c (AR _)
    ·rw[C9 a]
     exact AF a (AR _)
theorem NB(hw:Kk w)(hl:w.length≤1099511627776)(j:b.length≤1000000000)(l:∀r∈b,QU r)(hs:DT seen)(m:DT done):Ev (λk=>Ap.f k CR seen b w done made) (Hi CR seen b w done made):=by
 have a:Ev (λk=>Ap.j0 k true CR seen b w done made) false:=Ev.step (f:=λ_=>some false) (λk=>by simp only[Ap.j0];rfl) (AR _);unfold Ap.f Hi;simp only[Hl,Option.bind_some];cases c:(decide (1≤CR)&&decide (CR≤3))with
 | false=>exact AF (by decide) a
 | true =>
  rw[RY]
  refine Al rfl ?_
  cases g:(decide (0≤seen)&&decide (seen≤40))with
  | false=>exact AF (by decide) a
  | true =>
   rw[RY]
   refine Al rfl (Ev.bind (OC b j l) ?_)
   cases JJ b with
   | false=>exact AF (by decide) a
   | true =>
    rw[RY]
    refine Al rfl ?_
    cases i:(decide (0≤done)&&decide (done≤seen))with
    | false=>exact AF (by decide) a
    | true =>
     rw[RY]
     refine Al rfl ?_
     simp only[Bool.and_eq_true,decide_eq_true_eq]at c g i
     rw[AN (done+(w.length:Int)) (by omega) (by omega)]
     by_cases d:done+(w.length:Int)>40
     ·rw[C9 (show¬ done+w.length≤40 by omega)]
      exact Al d a
     ·rw[BM (show done+w.length≤40 by omega),RY]
      refine AF d ?_
      cases e:(decide (0≤made)&&decide (made≤6))with
      | false=>exact a
      | true =>
       rw[RY]
       simp only[Bool.and_eq_true,decide_eq_true_eq]at e
       refine Ev.step (λk=>by simp only[Ap.j0];rfl) ?_
       exact AF (by decide) (L4 CR seen done made b w hw c ⟨by omega,by omega⟩ e (by omega) w.length 0 (by omega))
end
end Go.Proofs.YtlhlpfnljglhoaaDoor.PL
namespace Go.Proofs.YtlhlpfnljglhoaaDoor.PL
open Go.RowKit Go.Proofs.YtlhlpfnljglhoaaDoor.P Go.Proofs.YtlhlpfnljglhoaaDoorW.PrintWords Go.Proofs.YtlhlpfnljglhoaaDoorW.Bb
theorem N8{x:Int}(h:(Lit.int .u8 x).wf=true):0≤x∧x≤255:=by simp only[Lit.wf,Bool.and_eq_true,decide_eq_true_eq]at h;exact⟨h.1,h.2⟩
theorem Bg.pure{f:Nat->Option Bool}(h:Bg f (λr=>r=true)):∃k,f k=some true:=by obtain⟨r,⟨K,hK⟩,rfl⟩:=h;exact⟨K,hK K (RB _)⟩
theorem L2{t:List Ba}{n:Nat}(b:Kl t n):∀r∈t,QU r:=λr a=>⟨(b.ids r a).1,by have:=(b.ids r a).2;omega⟩
section
variable {a b c d:Int} {t:List Ba} {l:List AQ}
theorem O7(h:NT a b t l c d):Ev (λk=>Ap.f k a b t l c d) (Hi a b t l c d) :=
 NB a b c d t l h.wait (by have:=h.len;omega) (by have:=h.base.len;omega) (L2 h.base) (Bm (by have:=h.seen;omega) (by have:=h.seen;omega)) (Bm (by have:=h.done;omega) (by have:=h.done;omega))
end
section
variable {a b c d:Int} {t:List Ba} {l:List AQ}
theorem Ob(h:Hi a b t l c d=true):Gj a c d 0 l=true:=by unfold Hi at h;simp only[Bool.and_eq_true]at h;exact h.2.2.2.2.2.2
end
end Go.Proofs.YtlhlpfnljglhoaaDoor.PL
namespace Go.Proofs.YtlhlpfnljglhoaaDoor.PL
open Go.RowKit Go.Proofs.YtlhlpfnljglhoaaDoor.P Go.Proofs.YtlhlpfnljglhoaaDoorW.PrintWords Go.Proofs.YtlhlpfnljglhoaaDoorW.Bb
def EB(CR n:Int):Int:=if n≤6 then 10*CR+n else 0
theorem LS{CR n:Int}(hw:1≤CR∧CR≤3)(a:1≤n∧n≤7):CE.f CR n=some (EB CR n):=by
 unfold CE.f Cc.f EB;rw[Ry (show CR≥1 by omega)];simp only[Option.bind_some];rw[Ry (show decide (CR≤3)=true by simp;omega),Rz (show¬ n<1 by omega)];by_cases h:n≤6
 ·rw[Rz (show¬ n>6 by omega),Ry h,AN (10*CR) (by omega) (by omega),AN _ (by omega) (by omega)]
 rw[Ry (show n>6 by omega),Rz h]
theorem Oz{CR n:Int}(hw:1≤CR∧CR≤3)(a:1≤n∧n≤7):C5.f CR n=some (EB CR n):=by
 unfold C5.f EB;simp only[Hl,Option.bind_some];rw[Ry (show(decide (1≤CR)&&decide (CR≤3))=true by simp;omega)];by_cases h:n≤6
 ·rw[Ry (show(decide (1≤n)&&decide (n≤6))=true by simp;omega),Ry h,AN (10*CR) (by omega) (by omega),AN _ (by omega) (by omega)]
 rw[Rz (show¬ (decide (1≤n)&&decide (n≤6))=true by simp;omega),Rz h]
def I3(a c:Int)(n:Nat)(k i u v:Int)(s:ByteArray):AQ:=⟨a,c+n+1,⟨k,i,u,v,s⟩⟩
def M1(a c d:Int)(n:Nat)(k i u v:Int)(s:ByteArray):Bool:=FX (I3 a c n k i u v s)&&!(decide (k=1)&&decide (i≠EB a (d+1)))
def JX(a b:Int)(t:List Ba)(l:List AQ)(c d k i u v:Int)(s:ByteArray):Int×Int×List Ba×List AQ×Int×Int×Bool :=
 if Hi a b t l c d=true then(if M1 a c d l.length k i u v s=true then(a,b,t,l++[I3 a c l.length k i u v s],c,(if k=1 then d+1 else d),true)else(a,b,t,l,c,d,false))else(0,0,[],[],0,0,false)
theorem Ig{a b c d:Int}{t:List Ba}{l:List AQ}(h:Hi a b t l c d=true):(1≤a∧a≤3)∧(0≤c∧c≤40)∧c+l.length≤40∧(0≤d∧d≤6):=by unfold Hi at h;simp only[Bool.and_eq_true,decide_eq_true_eq]at h;obtain⟨h1,g,_,h3,h4,e,_⟩:=h;exact⟨h1,⟨h3.1,by omega⟩,h4,e⟩
section
variable (a b:Int) (t:List Ba) (l:List AQ) (c d k i u v:Int) (s:ByteArray)
theorem LD:(JX a b t l c d k i u v s).2.2.1.length≤t.length∧(JX a b t l c d k i u v s).2.2.2.1.length≤l.length+1:=by
 unfold JX;split
 ·split
  ·simp
  simp
 simp
theorem LX(b:DT a)(d:DT (c+l.length+1))(e:DT k)(hi:DT i)(hu:DT u)(g:DT v)(hs:s.size≤9223372036854775807):NS (I3 a c l.length k i u v s):=⟨b,d,e,hi,hu,g,hs⟩
theorem PK(hw:Kk l)(o:DT k)(hi:DT i)(hu:DT u)(p:DT v)(hs:s.size≤9223372036854775807)(w:t.length≤1000000000)(hl:l.length≤1000000000):Ev (λn=>AK.f n a b t l c d k i u v s) (JX a b t l c d k i u v s):=by
 unfold AK.f JX;refine Ev.bind (PM a b c d t l hw (by omega)) ?_;cases hB:Hi a b t l c d with
 | false =>
  rw[Rz (show¬ (false=true) by decide)]
  exact AF (by decide) (AR _)
 | true =>
  obtain⟨h1,r,h3,h4⟩:=Ig hB
  rw[Ry rfl]
  refine Al rfl ?_
  have g:Di.f a b t l c d=some (a,b,t,l,c,d):=by
   unfold Di.f E6.f Ej.f
   rw[Ry (by omega),Ry (by omega)]
   rfl
  rw[g]
  simp only[Option.bind_some]
  have ws:wrap64 (wrap64 (c+(l.length:Int))+1)=c+l.length+1:=by rw[AN (c+l.length) (by omega) (by omega),AN _ (by omega) (by omega)]
  have wd:wrap64 (d+1)=d+1:=AN _ (by omega) (by omega)
  rw[ws,wd,LS h1 ⟨by omega,by omega⟩]
  simp only[Option.bind_some]
  have he:=OV (I3 a c l.length k i u v s) (LX a l c k i u v s ⟨by omega,by omega⟩ ⟨by omega,by omega⟩ o hi hu p hs)
  refine Ev.bind he ?_
  have m:Ev (λn=>AK.j0 n true a b t l c d k i u v s a (c+l.length+1) k i u v s) (a,b,t,l,c,d,false):=Ev.step (f:=λ_=>some (a,b,t,l,c,d,false)) (λn=>by simp only[AK.j0];rfl) (AR _)
  have j:Ev (λn=>AK.j0 n false a b t l c d k i u v s a (c+l.length+1) k i u v s) (a,b,t,l++[I3 a c l.length k i u v s],c,(if k=1 then d+1 else d),true):=by
   refine Ev.step (λn=>by simp only[AK.j0];rfl) ?_
   refine AF (by decide) (Al (by omega) ?_)
   simp only[Option.bind_some]
   by_cases e:k=1
   ·rw[Ry e,Ry e,wd]
    exact AR _
   ·rw[Rz e,Rz e]
    exact AR _
  unfold M1
  cases hE:FX (I3 a c l.length k i u v s)with
  | false =>
   rw[Se,Rz (show¬ (false=true) by decide)]
   exact AF (by decide) m
  | true =>
   rw[RY]
   refine Al rfl ?_
   by_cases e:k=1
   ·refine Al e ?_
    by_cases q:i=EB a (d+1)
    ·have z:(i != EB a (d+1))=false:=by rw[q];simp
     rw[z,Ry (show(!(decide (k=1)&&decide (i≠EB a (d+1))))=true by simp[q])]
     exact j
    ·have z:(i != EB a (d+1))=true:=by simpa using q
     rw[z,Rz (show¬ (!(decide (k=1)&&decide (i≠EB a (d+1))))=true by simp[q,e])]
     exact m
   ·rw[Ry (show(!(decide (k=1)&&decide (i≠EB a (d+1))))=true by simp[e])]
    exact AF e j
theorem PX(hw:Kk l)(y:∀r∈t,QU r)(p:DT b)(w:DT c)(x:DT k)(hi:DT i)(hu:DT u)(A:DT v)(hs:s.size≤9223372036854775807)(D:t.length≤1000000000)(hl:l.length≤1000000000):Ev (λn=>Ci.f n a b t l c d k i u v s) (JX a b t l c d k i u v s):=by
 unfold Ci.f JX;refine Ev.bind (NB a b c d t l hw (by omega) (by omega) y p w) ?_;cases hB:Hi a b t l c d with
 | false =>
  rw[Rz (show¬ (false=true) by decide)]
  exact AF (by decide) (AR _)
 | true =>
  obtain⟨h1,B,h3,h4⟩:=Ig hB
  rw[Ry rfl]
  refine Al rfl ?_
  have g:C6.f a b t l c d=some (a,b,t,l,c,d):=by
   unfold C6.f
   simp only[Option.bind_some,List.length_nil,List.nil_append]
   rw[Ry (by omega),Ry (by omega)]
  rw[g]
  simp only[Option.bind_some]
  have o:∀r:Int×Int×List Ba×List AQ×Int×Int×Bool,Ev (λn=>Bs.f n a b t l c d k i u v s) r->Ev (λn=>(Bs.f n a b t l c d k i u v s).bind λq=>some (q.1,q.2.1,q.2.2.1,q.2.2.2.1,q.2.2.2.2.1,q.2.2.2.2.2.1,q.2.2.2.2.2.2)) r:=λr h=>Ev.bind h (AR _)
  refine o _ ?_
  unfold Bs.f
  have ws:wrap64 (wrap64 (c+(l.length:Int))+1)=c+l.length+1:=by rw[AN (c+l.length) (by omega) (by omega),AN _ (by omega) (by omega)]
  have wd:wrap64 (d+1)=d+1:=AN _ (by omega) (by omega)
  rw[ws,wd,Oz h1 ⟨by omega,by omega⟩]
  simp only[Option.bind_some]
  have he:=Kh (I3 a c l.length k i u v s) (LX a l c k i u v s ⟨by omega,by omega⟩ ⟨by omega,by omega⟩ x hi hu A hs)
  refine Ev.bind he ?_
  have m:Ev (λn=>Bs.j0 n true a b t l c d k i u v s a (c+l.length+1) k i u v s) (a,b,t,l,c,d,false):=Ev.step (f:=λ_=>some (a,b,t,l,c,d,false)) (λn=>by simp only[Bs.j0];rfl) (AR _)
  have j:Ev (λn=>Bs.j0 n false a b t l c d k i u v s a (c+l.length+1) k i u v s) (a,b,t,l++[I3 a c l.length k i u v s],c,(if k=1 then d+1 else d),true):=by
   refine Ev.step (λn=>by simp only[Bs.j0];rfl) ?_
   refine AF (by decide) ?_
   simp only[Option.bind_some,List.length_nil,List.nil_append,List.length_cons]
   by_cases e:k=1
   ·rw[Ry e,Ry e,wd]
    exact Al (by omega) (Al (by omega) (AR _))
   ·rw[Rz e,Rz e]
    exact Al (by omega) (Al (by omega) (AR _))
  unfold M1
  cases hE:FX (I3 a c l.length k i u v s)with
  | false =>
   rw[Se,Rz (show¬ (false=true) by decide)]
   exact AF (by decide) m
  | true =>
   rw[RY]
   refine Al rfl ?_
   by_cases e:k=1
   ·refine Al e ?_
    by_cases q:i=EB a (d+1)
    ·have z:(i != EB a (d+1))=false:=by rw[q];simp
     rw[z,Ry (show(!(decide (k=1)&&decide (i≠EB a (d+1))))=true by simp[q])]
     exact j
    ·have z:(i != EB a (d+1))=true:=by simpa using q
     rw[z,Rz (show¬ (!(decide (k=1)&&decide (i≠EB a (d+1))))=true by simp[q,e])]
     exact m
   ·rw[Ry (show(!(decide (k=1)&&decide (i≠EB a (d+1))))=true by simp[e])]
    exact AF e j
end
end Go.Proofs.YtlhlpfnljglhoaaDoor.PL
namespace Go.Proofs.YtlhlpfnljglhoaaDoor.PL
open Go.RowKit Go.Proofs.YtlhlpfnljglhoaaDoor.P Go.Proofs.YtlhlpfnljglhoaaDoorW.PrintWords Go.Proofs.YtlhlpfnljglhoaaDoorW.Bb
theorem OY(l:List AQ)(hl:l.length≤1099511627776):∀(n i:Nat),i+n=l.length->Ev (λk=>CG.l0 k l l i) true
 | 0,i,h=>by
  refine Ev.step (f:=λ_=>some true) (λk=>?_) (AR _)
  simp only[CG.l0];rw[Rz (by omega)]
 | n+1,i,h=>by
  refine Ev.step (λk=>?_) (OY l hl n (i+1) (by omega))
  simp only[CG.l0]
  rw[Ry (by omega),Ry (by omega),Ry (by omega)]
  simp only[BEq.rfl,Bool.not_true,Bool.or_false,Bool.false_eq_true,if_false]
  rw[EV i (by omega) (by omega)]
  rfl
theorem Q8(l:List AQ)(hl:l.length≤1099511627776):Ev (λk=>CG.f k l l) true:=by unfold CG.f;exact Al rfl (OY l hl l.length 0 (by omega))
theorem LQ{CR done made:Int}:∀(l:List AQ) (i:Nat),Gj CR done made i l=true->∀e∈l,FX e=true
 | [],i,h,e,he=>by cases he
 | x::l,i,h,e,he=>by
  unfold Gj at h
  simp only[Bool.and_eq_true]at h
  rcases Sl.1 he with rfl|he
  ·exact h.1
  ·exact LQ l (i+1) h.2.2.2.2 e he
structure Q0 (a b:Int) (t:List Ba) (l:List AQ) (c d k i u v:Int) (s:ByteArray):Prop where
 JZ:NT a b t l c d
 Rk:DT k
 i64:DT i
 u64:DT u
 Rc:DT v
 size:s.size≤2000
def Re(q:Int×Int×List Ba×List AQ×Int×Int×Int×Int×Int×Int×ByteArray):Prop:=Q0 q.1 q.2.1 q.2.2.1 q.2.2.2.1 q.2.2.2.2.1 q.2.2.2.2.2.1 q.2.2.2.2.2.2.1 q.2.2.2.2.2.2.2.1 q.2.2.2.2.2.2.2.2.1 q.2.2.2.2.2.2.2.2.2.1 q.2.2.2.2.2.2.2.2.2.2
theorem Js(b:List Int)(o:Bytes b)(p:Int)(q:Rd p 50)(c g:Int)(t:List Ba)(l:List AQ)(j d:Int)(h:NT c g t l j d)(f:Bool)(B:f=false->Hi c g t l j d=true):Bg (λk=>AH.j0 k f b p c g t l j d) Re:=by
 refine Bg.step (λk=>by simp only[AH.j0];rfl) ?_;cases f with
 | true =>
  refine Bg.pos (by simp) ?_
  obtain⟨k,i,u,v,s,D,h1,a,h3⟩:=Le b o p 33 q
  refine Bg.bind (Bg.of h1 rfl) (λr m=>Bg.now ?_)
  subst m
  exact⟨h,a.1,a.2.1,a.2.2.1,a.2.2.2.1,a.2.2.2.2⟩
 | false =>
  refine Bg.neg (by decide) ?_
  have hl:=h.len
  refine Bg.bind (KT (by omega) (λe he=>K7 (LQ l 0 (Ob (B rfl)) e he)) (by omega) h.base) (λT n=>?_)
  obtain⟨k,i,u,v,s,D,h1,a,h3⟩:=Lf b o T _ c d p 33 n.inv (by have:=n.len;omega) q
  refine Bg.bind (Bg.of h1 rfl) (λr m=>Bg.now ?_)
  subst m
  obtain⟨w,E,x,y,z,A⟩:=a
  have gk:DT k:=by rcases w with rfl|rfl|rfl <;> exact Bm (by decide) (by decide)
  exact⟨h,gk,x,y,z,A⟩
theorem M7(code:List Int)(h:∀x∈code,(Lit.int .u8 x).wf=true):Bg (λk=>AH.f k code) Re:=by
 obtain⟨b,h1,a⟩:=PU code λx g=>N8 (h x g)
 unfold AH.f;rw[h1];simp only[Option.bind_some];refine Bg.bind (M5 b a 0 100 ⟨by decide,by decide⟩) (λq c=>Bg.bind (ET b _ 4 99 a c.2) (λr d=>Bg.ite (λ_=>Js b a _ (d.2.2.2.less (by omega)) _ _ _ _ _ _ c.1 true (λz=>by cases z)) (λ_=>?_)));refine Bg.bind (Bg.of (O7 c.1) rfl) (λz hz=>Js b a _ (d.2.2.2.less (by omega)) _ _ _ _ _ _ c.1 (!z) (λe=>?_));rw[hz];simpa using e
theorem Nr(t:List Ba)(a:t.length≤1000000):∀(n i:Nat),i+n=t.length->Bg (λk=>Cs.l0 k t t (i:Int)) (λr=>r=true)
 | 0,i,h=>by
  refine Bg.step (λk=>by simp only[Cs.l0];rfl) ?_
  exact Bg.neg (by omega) (Bg.now rfl)
 | n+1,i,h=>by
  have w:wrap64 ((i:Int)+1)=((i+1:Nat):Int):=AN _ (by omega) (by omega)
  refine Bg.step (λk=>by simp only[Cs.l0];rfl) ?_
  rw[w]
  exact Bg.pos (by omega) (Bg.pos (by omega) (Bg.pos (by omega) (Bg.neg (by simp) (Nr t a n (i+1) (by omega)))))
theorem IK(a b:Int)(t:List Ba)(l:List AQ)(c d:Int)(g:t.length≤1000000)(hl:l.length≤1000000):Bg (λk=>BH.f k a b t l c d a b t l c d) (λr=>r=true):=by unfold BH.f;refine Bg.pos rfl (Bg.pos rfl (Bg.bind (P:=λr=>r=true) ?_ (λr e=>Bg.pos e (Bg.bind (Bg.of (Q8 l (by omega)) rfl) (λz hz=>Bg.pos hz.symm (Bg.pos rfl (Bg.now (by simp))))))));unfold Cs.f;exact Bg.pos rfl (Nr t g t.length 0 (Tp _))
theorem Nx:∀a:Nat,a<4->∀m:Nat,m<7->1≤a->1≤m->EO (10*(a:Int)+m)-1=(a:Int):=by decide
theorem M2{a c d:Int}{n:Nat}{k i u v:Int}{s:ByteArray}(g:1≤a∧a≤3)(p:0≤c)(q:0≤d∧d≤6)(j:Km k i u v s=true):M1 a c d n k i u v s=(decide (c+n<40)&&(decide (k≠1) || decide (EB a (d+1)=i))):=by
 have m:FX (I3 a c n k i u v s)=(decide (c+n<40)&&(decide (k≠1) || decide (EO i-1=a))):=by unfold FX I3;simp only[j,BM g.1,BM g.2,Bool.true_and,Bool.and_true];rw[BM (show 1≤c+(n:Int)+1 by omega),RY];congr 1
 unfold M1;rw[m];by_cases l:k=1
 ·subst l;by_cases hm:EB a (d+1)=i
  ·have:EO i-1=a:=by
    have o:d+1≤6:=by
     rcases TL 6 (d+1)with h|h
     ·exfalso;unfold EB at hm;rw[Rz (by omega)]at hm;have:=Hy _ _ _ _ _ j;rw[<-hm]at this;exact absurd this (by decide)
     exact h
    unfold EB at hm;rw[Ry o]at hm;rw[<-hm];have:=Nx a.toNat (by omega) (d+1).toNat (by omega) (by omega) (by omega);rw[show((a.toNat:Nat):Int)=a by omega,show(((d+1).toNat:Nat):Int)=d+1 by omega]at this;exact this
   simp[hm,this]
  have b:¬ i=EB a (d+1):=λe=>hm e.symm
  simp[hm,b]
 simp[l]
theorem LW(f:Bool)(a b:Int)(t:List Ba)(l:List AQ)(c d k i u v:Int)(s:ByteArray)(h:Q0 a b t l c d k i u v s)(y:f=false->Hi a b t l c d=true∧Km k i u v s=true)(V:Int×Int×List Ba×List AQ×Int×Int×Bool)(e:V=JX a b t l c d k i u v s) :
  Bg (λn=>AZ.j0 n V.2.2.2.2.2.2 V.2.2.2.2.2.2 f a b t l c d k i u v s V.1 V.2.1 V.2.2.1 V.2.2.2.1 V.2.2.2.2.1 V.2.2.2.2.2.1 V.1 V.2.1 V.2.2.1 V.2.2.2.1 V.2.2.2.2.1 V.2.2.2.2.2.1) (λr=>r=true):=by
 have B:=h.JZ.base.len;have hl:=h.JZ.len;have o:V.2.2.1.length≤1000000∧V.2.2.2.1.length≤1000000:=by have:=LD a b t l c d k i u v s;rw[<-e]at this;omega
 refine Bg.step (λk=>by simp only[AZ.j0];rfl) ?_;cases f with
 | true=>exact Bg.pos (by simp) (Bg.pos (by simp) (Bg.bind (IK _ _ _ _ _ _ o.1 o.2) (λr m=>Bg.now m)))
 | false =>
  obtain⟨hB,x⟩:=y rfl
  obtain⟨h1,w,h3,h4⟩:=Ig hB
  have p:=M2 (n:=l.length) h1 w.1 h4 x
  unfold JX at e
  rw[Ry hB,p]at e
  have w1:wrap64 (d+1)=d+1:=AN _ (by omega) (by omega)
  have A:wrap64 (c+(l.length:Int))=c+l.length:=AN _ (by omega) (by omega)
  rw[w1,A]
  refine Bg.neg (by decide) ?_
  by_cases j:k=1
  ·refine Bg.pos j ?_
   rw[LS h1 ⟨by omega,by omega⟩]
   simp only[Option.bind_some]
   have q:decide (k≠1)=false:=C9 (λz=>z j)
   rw[q,Bool.false_or]at e
   by_cases g:c+(l.length:Int)<40
   ·refine Bg.pos g ?_
    rw[BM g,RY]at e
    by_cases hm:EB a (d+1)=i
    ·rw[Ry (BM hm),Ry j]at e
     subst e
     exact Bg.pos (by simp[hm]) (Bg.pos rfl (Bg.pos rfl (Bg.now rfl)))
    ·rw[Rz (by rw[C9 hm];decide)]at e
     subst e
     exact Bg.pos (by simp[hm]) (Bg.neg (by simp) (Bg.bind (IK _ _ _ _ _ _ (by simp only;omega) (by simp only;omega)) (λr m=>Bg.now m)))
   ·refine Bg.neg g ?_
    rw[C9 g,Se,Rz (by decide)]at e
    subst e
    exact Bg.pos (by simp) (Bg.neg (by simp) (Bg.bind (IK _ _ _ _ _ _ (by simp only;omega) (by simp only;omega)) (λr m=>Bg.now m)))
  ·refine Bg.neg j ?_
   have q:decide (k≠1)=true:=BM j
   rw[q,T1,Ua]at e
   by_cases g:c+(l.length:Int)<40
   ·rw[Ry (BM g),Rz j]at e
    subst e
    exact Bg.pos (by simp[g]) (Bg.now (by simp))
   ·rw[Rz (by rw[C9 g];decide)]at e
    subst e
    exact Bg.pos (by simp[g]) (Bg.now (by simp))
theorem FnClientMade:AZ.Pure:=by
 intro l0 _ _ h0;refine Bg.pure ?_;unfold AZ.f;refine Bg.ite (λ_=>Bg.now rfl) (λ_=>Bg.bind (M7 l0 h0) (λq a=>?_));have a:Q0 q.1 q.2.1 q.2.2.1 q.2.2.2.1 q.2.2.2.2.1 q.2.2.2.2.2.1 q.2.2.2.2.2.2.1 q.2.2.2.2.2.2.2.1 q.2.2.2.2.2.2.2.2.1 q.2.2.2.2.2.2.2.2.2.1 q.2.2.2.2.2.2.2.2.2.2:=a;have b:=a.JZ;have i:=b.base.len;have hl:=b.len;have sz:q.2.2.2.2.2.2.2.2.2.2.size≤9223372036854775807:=by have:=a.size;omega
 have S:=PX q.1 q.2.1 q.2.2.1 q.2.2.2.1 q.2.2.2.2.1 q.2.2.2.2.2.1 q.2.2.2.2.2.2.1 q.2.2.2.2.2.2.2.1 q.2.2.2.2.2.2.2.2.1 q.2.2.2.2.2.2.2.2.2.1 q.2.2.2.2.2.2.2.2.2.2 b.wait (L2 b.base) (Bm (by have:=b.seen;omega) (by have:=b.seen;omega)) (Bm (by have:=b.done;omega) (by have:=b.done;omega)) a.Rk a.i64 a.u64 a.Rc sz (by omega) (by omega);have I:=PK q.1 q.2.1 q.2.2.1 q.2.2.2.1 q.2.2.2.2.1 q.2.2.2.2.2.1 q.2.2.2.2.2.2.1 q.2.2.2.2.2.2.2.1 q.2.2.2.2.2.2.2.2.1 q.2.2.2.2.2.2.2.2.2.1 q.2.2.2.2.2.2.2.2.2.2 b.wait a.Rk a.i64 a.u64 a.Rc sz (by omega) (by omega);have L:=LD q.1 q.2.1 q.2.2.1 q.2.2.2.1 q.2.2.2.2.1 q.2.2.2.2.2.1 q.2.2.2.2.2.2.1 q.2.2.2.2.2.2.2.1 q.2.2.2.2.2.2.2.2.1 q.2.2.2.2.2.2.2.2.2.1 q.2.2.2.2.2.2.2.2.2.2;refine Bg.bind (Bg.of S rfl) (λx c=>Bg.bind (Bg.of I rfl) (λy e=>?_));obtain rfl:x=y:=c.symm.trans e;rw[c]at L;refine Bg.neg (by simp) (Bg.bind (IK _ _ _ _ _ _ (by omega) (by omega)) (λz hz=>Bg.pos hz ?_));refine Bg.bind (Bg.of (O7 b) rfl) (λg hg=>Bg.ite (λgt=>?_) (λ_=>LW true _ _ _ _ _ _ _ _ _ _ _ a (λz=>by cases z) x c.symm));refine Bg.bind (Bg.of (O8 _ _ _ _ _ a.i64 a.u64 a.Rc sz) rfl) (λo d=>LW (!o) _ _ _ _ _ _ _ _ _ _ _ a (λz=>⟨hg.trans gt,?_⟩) x c.symm);rw[d];simpa using z
end Go.Proofs.YtlhlpfnljglhoaaDoor.PL
namespace Go.Proofs.YtlhlpfnljglhoaaDoor.P
open Go.ChangeShapes Go.WideShapes Go.ChangeAt Go.RowKit
theorem Kj:(Tryd.prog.globals[0]?).map (·.type)=some 66:=by kernel_rfl
theorem N9:Tryd.prog.cellsOf 66=37:=by kernel_rfl
theorem Q5:Tryd.prog.cellsOf 3=1:=by kernel_rfl
abbrev Gt:Array Value:=(FZ.map λz=>Value.int .i64 z).toArray
theorem J2{W:World}(h:laidMet Tryd.prog [("loop.example/plashet/impl.rowOwners",Rows.laid_loop_example_plashet_impl_rowOwners)] W):Cm W :=
 Lib.tabIs_of_head GF Kj Tryd.underlying66 Tryd.underlying3 Q5 N9 h
theorem M6(os:Os)(args:Array Value):laidMet Tryd.prog [("loop.example/plashet/impl.rowOwners",Rows.laid_loop_example_plashet_impl_rowOwners)] ((World.doorLaid Tryd.prog 400 os).forCall (λ_ _=>0) ⟨#[],args,[]⟩).memory :=
 laidMet_of_run' 8 (by kernel_rfl) (by kernel_rfl)
abbrev NK{H:Type}:DataW H:=.agg (FZ.map λz=>.lit (.int .i64 z))
theorem Iu{H:Type}(enc:TypeId×Value->H)(W:World)(a:Nat->Bool):DataW.trod enc Tryd.prog W 0 a true 3 66 Gt.toList=some (NK,[]):=by kernel_rfl
theorem NJ{H:Type}(enc:TypeId×Value->H){W:World}(h:Cm W){a:Nat->Bool}:DataW.TrodVars enc Tryd.prog W a ["loop.example/plashet/impl.rowOwners"] [NK] (MemPlace.row ⟨0,0,none⟩ Gt.size++[]++[]) :=
 ⟨0,66,Gt,3,[],[],GF,Kj,h,Iu enc W a,rfl,rfl⟩
end Go.Proofs.YtlhlpfnljglhoaaDoor.P
namespace Go.Proofs.YtlhlpfnljglhoaaDoor.fnClientMade
open Go.ChangeMaps (open_string shut_string)
open Go.ChangeShapes Go.WideShapes Go.ChangeAt Go.RowKit
theorem own:ownKnob Tryd.prog.godebug=none:=by kernel_rfl
theorem laidOut:laidOutB Tryd.prog=true:=by kernel_rfl
def Qk(k:IntKind)(w:World)(a:Option Addr)(len cap:Nat)(zs:List Int):Prop :=
 (a=none∧len=0∧cap=0∧zs=[]) ∨
 ∃x,a=some x∧len≤cap∧cap≤maxLen∧zs.length=cap∧(∀i,i<zs.length->w.cell? (x.add i)=some (.int k (zs.getD i 0)))∧∀n∈zs,(Lit.int k n).wf=true
theorem lifted(os:Os)(started:os.Started)(H:Type)(enc:TypeId×Value->H) :
  ReturnsInHanded {} Tryd.checked os 4 .any (λw args=>(Rows.fnClientMadeSpec.pre enc Tryd.prog Tryd.f4 [] false w args∧laidMet Tryd.prog [("loop.example/plashet/impl.rowOwners",Rows.laid_loop_example_plashet_impl_rowOwners)] w)∧sizedMet enc Tryd.prog Tryd.f4 (OpenSpec.ofChange Rows.fnClientMadeSpec) false w args) (Rows.fnClientMadeSpec.post enc Tryd.prog Tryd.f4 false true false false):=by
 refine returnsInHanded_of_change_and (C:=Tryd.checked) (X:=λw _=>laidMet Tryd.prog [("loop.example/plashet/impl.rowOwners",Rows.laid_loop_example_plashet_impl_rowOwners)] w) (λ_ _ _ hh h=>h.of_heap hh) own started (by kernel_rfl) Tryd.func4
  (ChangeSpec.witness_shaped (enc:=enc) (C:=Tryd.checked) (os:=os) (X:=λw _=>laidMet Tryd.prog [("loop.example/plashet/impl.rowOwners",Rows.laid_loop_example_plashet_impl_rowOwners)] w) false (World.doorLaid Tryd.prog 400 os) #[.slice none 0 0] 8 rfl (World.shaped_of_RefB (by kernel_rfl) (by kernel_rfl)) (by kernel_rfl) (by kernel_rfl) (by kernel_rfl) (P.M6 os _)) ?_
 intro W base args ds gs before b O _ i Y _;have u:(DataW.weightsEach Tryd.prog (Tryd.f4.params.toList++Rows.fnClientMadeSpec.plain.varTypes Tryd.prog) (ds++gs)).all (·≤reachBytes)=true:=i;have k:∀(j:Nat) t v,Tryd.f4.params[j]?=some t->args[j]?=some v->Value.okWide Tryd.prog W .any base t v:=b;have B:=O;obtain⟨p,q,hA0,Z,rfl,aa,ab⟩:=O;have M:DataW.TrodAll enc Tryd.prog W 0 (λ_=>true) true Tryd.f4.params.toList args.toList ds p:=hA0;rw[Tryd.params4]at M k u;obtain⟨v0,ae,d0,U,p0,q0,D,rfl,rfl,h0,r0⟩:=trodAll_cons M;obtain⟨rfl,rfl,rfl⟩:=trodAll_nil r0;obtain rfl:args=#[v0]:=by cases args;simp_all
 have A:P.Cm W:=P.J2 Y;obtain⟨gv,tv,z,o,dv,pv,rfl,G,I,y,E,rfl⟩:=trodVars_one Z;obtain rfl:z=P.Gt:=S0 (y.symm.trans A);obtain rfl:=S0 (P.Kj.symm.trans (by rw[S0 (P.GF.symm.trans G)];exact I));obtain⟨rfl,rfl⟩:=DataW.Trod.unique (v:=.agg P.Gt) ⟨o,E⟩ ⟨3,P.Iu enc W _⟩;obtain⟨L,d,g,rfl⟩:=okWide_slice Tv (k 0 22 v0 rfl rfl);have T:=h0;have K:∀x∈p0,x.block<W.heap.size:=by obtain⟨m,hm⟩:=T;exact DataW.trod_lt m _ _ _ hm
 obtain⟨z0,w0⟩:∃zs,Qk .u8 W L d g zs:=by
  obtain⟨fuel,hf⟩:=h0;rcases open_ints Tv Tryd.underlying5 (by kernel_rfl) hf with⟨a,_⟩|⟨x,l,c,zs,a,_,hl,hm,hz,_,r,J⟩
  ·simp[Value.cells]at a;obtain⟨rfl,rfl,rfl⟩:=a;exact⟨[],.inl ⟨rfl,rfl,rfl,rfl⟩⟩
  simp[Value.cells]at a;obtain⟨rfl,rfl,rfl⟩:=a;exact⟨zs,.inr ⟨_,rfl,hl,hm,by simpa using hz,r,J⟩⟩
 have y0:d*1≤140737488351232:=Go.Proofs.YtlhlpfnljglhoaaDoorW.PrintWords.sized_ints u (j:=0) (t:=22) rfl rfl Tv Tryd.underlying5 (by kernel_rfl) (by kernel_rfl) h0;clear hA0 b i u;refine(P.AZ.walk PL.FnClientMade L d g z0 W w0 y0 A).mono λe W' ⟨he,n⟩=>?_
 subst he;exact⟨_,rfl,_,_,_,_,_,_,B,trodAll_mk1 (shut_bool Tryd.underlying4 _),(trodAll_cons_mk (Below.trod laidOut (by kernel_rfl) (Tw (by kernel_rfl)) T n K) trodAll_mk0),P.NJ enc (A.below n),n.frame _,λh=>by cases h⟩
theorem over:Rows.fnClientMadeRow.holds Tryd.pinned (OpenSpec.ofChange Rows.fnClientMadeSpec) :=
 OpenClaim.holds_of_wide 4 Tryd.f4 rfl rfl rfl rfl rfl rfl rfl ⟨rfl,rfl,rfl,rfl,rfl⟩ rfl rfl rfl rfl rfl (by kernel_rfl) Tryd.func4 (by kernel_rfl)
  (Tw (by kernel_rfl)) (by unfold Func.isWrapper;first|(rw[Ry (by decide +kernel)];kernel_rfl)|(rw[Rz (by decide +kernel)];exact⟨rfl,rfl⟩))
  (λos started H enc _=>lifted os started H enc)
theorem proved:Rows.FnClientMadeSaid:=over
end Go.Proofs.YtlhlpfnljglhoaaDoor.fnClientMade
namespace Go.Proofs.YtlhlpfnljglhoaaDoor
theorem G0:Rows.FnClientMadeSaid:=fnClientMade.proved
end Go.Proofs.YtlhlpfnljglhoaaDoor
namespace Go.Proofs.YtlhlpfnljglhoaaDoor
open Go
theorem fnClientMadeCard_holds:Rows.FnClientMadeCardSaid :=
 Claim7.holds_tied_plain_at .later [] [.data] true (true, "46b2604f590e9b1edcb4ba007c239a82216d81ace1e2acef235fc68e9b5cb629") false
  G0 (λ_ h=>by cases h) (by kernel_rfl) (λ_ h=>by cases h) fnClientMade_row_tie rfl ⟨rfl,rfl⟩ (by kernel_rfl) rfl
  (λf fn d b=>by
   obtain rfl:f=4:=S0 ((show Tryd.prog.funcNamed "loop.example/plashet/laws.FnClientMade" = some 4 by kernel_rfl).symm.trans d) |>.symm
   obtain rfl:fn=Tryd.f4:=(S0 (Tryd.func4.symm.trans b)).symm
   exact⟨by kernel_rfl,λj t c=>by
    rw[Tryd.params4]at c
    have hm:t∈[22]:=by have:=Array.mem_of_getElem? c;simp at this;first|(subst this;simp;done)|(rcases this with h|h <;> simp[h];done)|(rcases this with h|h|h <;> simp[h];done)
    have a:([22].all λu=>!Tryd.prog.wantsStandIn u)=true:=by kernel_rfl
    exact(show Tryd.prog.wantsStandIn t=false by simpa using List.all_eq_true.1 a t hm)⟩)
  (by kernel_rfl)
#print axioms fnClientMadeCard_holds
end Go.Proofs.YtlhlpfnljglhoaaDoor
