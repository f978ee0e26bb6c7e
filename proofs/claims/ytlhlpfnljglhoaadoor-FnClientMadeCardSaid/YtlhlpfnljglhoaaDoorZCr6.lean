/- Joined by programs (wip/shake.py, wip/mini.py). -/
import Derived.Test.YtlhlpfnljglhoaaDoorZCr5
set_option linter.unusedVariables false
set_option linter.unusedSimpArgs false
set_option linter.unusedSectionVars false
set_option maxHeartbeats 8000000
set_option maxRecDepth 100000
open Go.Proofs.YtlhlpfnljglhoaaDoorW
namespace Go.Proofs.YtlhlpfnljglhoaaDoor.P
open Go.RowKit Go.Proofs.YtlhlpfnljglhoaaDoorW.PrintWords Go.Proofs.YtlhlpfnljglhoaaDoorW.Bb Go.Proofs.YtlhlpfnljglhoaaDoorW.Dm
structure Wd where
 l0:Dy
 s:Int
 u:Bool
 l3:En
 l4:Dz
structure Jp where
 k:Int
 CR:Int
 n:Int
 o:E0
def DX.f(k:Nat)(x:Wd)(m:DH):Option Wd :=
 if m.f0=0 then(if(0:Int)<(m.f2.length:Int)then
   ((Eg.f k x.l0 x.s x.u (Aa m.f2 0).f0 (Aa m.f2 0).f1 (Aa m.f2 0).f2.f0 (Aa m.f2 0).f2.f1 (Aa m.f2 0).f2.f2 (Aa m.f2 0).f2.f3 (Aa m.f2 0).f2.f4).bind λp=>some ⟨p.1,p.2.1,p.2.2.1,x.l3,x.l4⟩)else none)
 else(if 0≤wrap64 (m.f0-1)then(if wrap64 (m.f0-1)<(x.l3.length:Int)then
   ((Aq.f k (AE x.l3 (wrap64 (m.f0-1))).f0 (AE x.l3 (wrap64 (m.f0-1))).f1 (AE x.l3 (wrap64 (m.f0-1))).f2 (AE x.l3 (wrap64 (m.f0-1))).f3 (AE x.l3 (wrap64 (m.f0-1))).f4 (AE x.l3 (wrap64 (m.f0-1))).f5 m.f1 m.f2).bind λq =>
    some ⟨x.l0,x.s,x.u,x.l3.set (wrap64 (m.f0-1)).toNat ⟨q.1,q.2.1,q.2.2.1,q.2.2.2.1,q.2.2.2.2.1,q.2.2.2.2.2.1⟩,x.l4⟩)else none)else none)
def DQ.f(k:Nat)(x:Wd)(e:Jp):Option Wd :=
 if x.l4.length≤1000 then(if 0≤e.n∧e.n<(x.l4.length:Int)then
  (if e.k=10 then some ⟨x.l0,x.s,x.u,x.l3,BN.f x.l4 (AG x.l4 e.n)⟩
   else(if e.k=8 then DX.f k ⟨x.l0,x.s,x.u,x.l3,x.l4.take e.n.toNat++x.l4.drop (e.n.toNat+1)⟩ (AG x.l4 e.n)
    else some ⟨x.l0,x.s,x.u,x.l3,x.l4.take e.n.toNat++x.l4.drop (e.n.toNat+1)⟩))else some x)else none
def Gu:Dz->Dy->Dz
 | l4,[]=>l4
 | l4,e::l=>Gu (BN.f l4 ⟨0,0,[e]⟩) l
def DR.f(k:Nat)(x:Wd)(e:Jp):Option Wd :=
 if 1≤e.CR∧e.CR≤3 then(if e.CR-1<(x.l3.length:Int)then
  (if e.k=1 then((Bs.f k (AE x.l3 (e.CR-1)).f0 (AE x.l3 (e.CR-1)).f1 (AE x.l3 (e.CR-1)).f2 (AE x.l3 (e.CR-1)).f3 (AE x.l3 (e.CR-1)).f4 (AE x.l3 (e.CR-1)).f5 e.o.f0 e.o.f1 e.o.f2 e.o.f3 e.o.f4).bind λq =>
    some ⟨x.l0,x.s,x.u,x.l3.set (e.CR-1).toNat ⟨q.1,q.2.1,q.2.2.1,q.2.2.2.1,q.2.2.2.2.1,q.2.2.2.2.2.1⟩,x.l4⟩)
   else(if e.k=2 then some ⟨x.l0,x.s,x.u,x.l3,Gu x.l4 (AE x.l3 (e.CR-1)).f3⟩
    else(if e.k=4 then(if x.u=true then(if 0≤e.n∧e.n≤x.s then
      ((Dx.f k x.l0 x.s true e.n).bind λl=>some ⟨x.l0,x.s,x.u,x.l3,BN.f x.l4 ⟨e.CR,e.n,l⟩⟩)else some x)else some x)else some x)))else none)else some x
def EF.f(k:Nat)(x:Wd)(e:Jp):Option Wd :=
 if e.k=1∨e.k=2∨e.k=4 then DR.f k x e
 else if e.k=3 then(if x.u=true then some ⟨x.l0,x.l0.length,x.u,x.l3,x.l4⟩else some x)
 else if e.k=5 then(if 0≤e.n∧e.n≤40 then((Ef.f x.l0 x.s x.u e.n).bind λp=>some ⟨p.1,p.2.1,p.2.2,x.l3,x.l4⟩)else some x)
 else if e.k=6∨e.k=7 then some ⟨x.l0,x.s,decide (e.k=7),x.l3,x.l4⟩
 else if e.k=8∨e.k=9∨e.k=10 then DQ.f k x e
 else some x
def Jk:E0:=⟨0,0,0,0,⟨#[]⟩⟩
def GA(k:Nat)(b:List Int)(p:Int)(x:Wd):Option (Jp×Int) :=
 (Ab.f k b p (wrap64 ((x.l4.length:Int)+1))).bind λr=>(Ab.f k b r.2 2).bind λq=>some (⟨8,0,wrap64 (r.1*q.1),Jk⟩,q.2)
def DY.f(k:Nat)(b:List Int)(p:Int)(x:Wd):Option (Jp×Int) :=
 (Ab.f k b p 3).bind λw=>if 0≤w.1 then(if w.1<(x.l3.length:Int)then
  ((Ab.f k b w.2 14).bind λq =>
   if q.1=0∨q.1=1∨q.1=2∨q.1=3 then
    ((BS.f k (AE x.l3 w.1).f2 (AE x.l3 w.1).f3).bind λt=>(Aw.f k b q.2 t (1+w.1) (AE x.l3 w.1).f5).bind λo=>some (⟨1,1+w.1,0,⟨o.1,o.2.1,o.2.2.1,o.2.2.2.1,o.2.2.2.2.1⟩⟩,o.2.2.2.2.2))
   else if q.1=4 then some (⟨2,1+w.1,0,Jk⟩,q.2)
   else if q.1=5∨q.1=6 then some (⟨3,0,0,Jk⟩,q.2)
   else if q.1=7∨q.1=8 then((Ab.f k b q.2 4).bind λr=>some (⟨4,1+w.1,wrap64 (Int.tdiv (wrap64 (mn (AE x.l3 w.1).f1 x.s*r.1)) 3),Jk⟩,r.2))
   else if q.1=9 then((Ab.f k b q.2 3).bind λr =>
    if r.1=0 then((Ab.f k b r.2 3).bind λv=>some (⟨5,0,v.1,Jk⟩,v.2))
    else if x.u=true then((Ab.f k b r.2 4).bind λv=>if v.1=0 then some (⟨6,0,0,Jk⟩,v.2)else GA k b v.2 x)
    else some (⟨7,0,0,Jk⟩,r.2))
   else if q.1=10 then((Ab.f k b q.2 2).bind λr=>(Ab.f k b r.2 (wrap64 ((x.l4.length:Int)+1))).bind λv =>
    if r.1=0 then some (⟨10,0,v.1,Jk⟩,v.2)else some (⟨9,0,v.1,Jk⟩,v.2))
   else GA k b q.2 x)else none)else none
def Cu.l0:Nat->List Int->Int->Int->Wd->Option (Wd×Int)
 | 0,_,_,_,_=>none
 | k+1,b,p,n,x=>if n>0 then((DY.f k b p x).bind λe=>(EF.f k x e.1).bind λy=>Cu.l0 k b e.2 (wrap64 (n-1)) y)else some (x,p)
def Cu.f(k:Nat)(b:List Int)(p:Int):Option (Wd×Int) :=
 (Bl.f k).bind λw=>(Ab.f k b p 46).bind λn=>if n.1≤1000 then((Cu.l0 k b n.2 n.1 ⟨w.1,w.2.1,w.2.2.1,w.2.2.2.1,w.2.2.2.2⟩).bind λq =>
  (AM.f k q.1.l0 q.1.s q.1.u q.1.l3 q.1.l4).bind λc=>some (⟨c.1,c.2.1,c.2.2.1,c.2.2.2.1,c.2.2.2.2⟩,q.2))else none
def DZ.f(k:Nat)(b:List Int)(p:Int):Option (Wd×Int) :=
 (Cu.f k b p).bind λy=>(Ab.f k b y.2 3).bind λi=>(Ab.f k b i.2 40).bind λq =>
  if q.1=0 then((Ab.f k b q.2 3).bind λr=>some (⟨y.1.l0,wrap64 (wrap64 (y.1.s+r.1)-1),y.1.u,y.1.l3,y.1.l4⟩,r.2))
  else if q.1=1 then(if 0≤i.1∧i.1<(y.1.l3.length:Int)then((Ab.f k b q.2 5).bind λr=>some (⟨y.1.l0,y.1.s,y.1.u,y.1.l3.set i.1.toNat { AE y.1.l3 i.1 with f1:=r.1 },y.1.l4⟩,r.2))else none)
  else if q.1=2 then(if 0≤i.1∧i.1<(y.1.l3.length:Int)then((Ab.f k b q.2 8).bind λr=>some (⟨y.1.l0,y.1.s,y.1.u,y.1.l3.set i.1.toNat { AE y.1.l3 i.1 with f5:=r.1 },y.1.l4⟩,r.2))else none)
  else if q.1=3 then((AW.f k b q.2).bind λr=>some (⟨r.1,y.1.s,y.1.u,y.1.l3,y.1.l4⟩,r.2))
  else if q.1=4 then(if 1≤y.1.l3.length then some (⟨y.1.l0,y.1.s,y.1.u,y.1.l3.drop 1,y.1.l4⟩,q.2)else none)
  else some (y.1,q.2)
def Df.f(k:Nat)(b:List Int)(p:Int):Option (Int×Int×List Ba×List AQ×Int×Int×Int) :=
 (DZ.f k b p).bind λy=>(Ab.f k b y.2 (y.1.l3.length:Int)).bind λi=>if 0≤i.1 then(if i.1<(y.1.l3.length:Int)then
  ((Ab.f k b i.2 24).bind λq =>
   if q.1=0 then((Ab.f k b q.2 4).bind λr=>some ((AE y.1.l3 i.1).f0,(AE y.1.l3 i.1).f1,(AE y.1.l3 i.1).f2,(AE y.1.l3 i.1).f3,r.1,(AE y.1.l3 i.1).f5,r.2))
   else if q.1=1 then((Ab.f k b q.2 9).bind λr=>(AX.f k b r.2).bind λo=>if(AE y.1.l3 i.1).f3.length<1000000 then
    some ((AE y.1.l3 i.1).f0,(AE y.1.l3 i.1).f1,(AE y.1.l3 i.1).f2,(AE y.1.l3 i.1).f3++[⟨(AE y.1.l3 i.1).f0,wrap64 (1+r.1),⟨o.1,o.2.1,o.2.2.1,o.2.2.2.1,o.2.2.2.2.1⟩⟩],(AE y.1.l3 i.1).f4,(AE y.1.l3 i.1).f5,o.2.2.2.2.2)else none)
   else some ((AE y.1.l3 i.1).f0,(AE y.1.l3 i.1).f1,(AE y.1.l3 i.1).f2,(AE y.1.l3 i.1).f3,(AE y.1.l3 i.1).f4,(AE y.1.l3 i.1).f5,q.2))else none)else none
section
variable {w0 w W W1:World} {zs zs':List Nat} {S S':Nat->Prop} {bs:List Bx} {v0 v3 v4 u:Value} {l0:Dy} {l3:En} {l4:Dz}
theorem St.drew(h:St w0 w W zs S bs v0 v3 v4 l0 l3 l4):St w0 w W.drew zs S bs v0 v3 v4 l0 l3 l4 :=
 ⟨⟨E2 h.M.hB,h.M.hz,Kd.BO h.M.h0,Kd.MG h.M.h3,Kd.MG h.M.h4⟩,⟨h.B.at_,h.B.nd,h.B.ge,h.B.mem,Kept.drew h.B.hK⟩,h.hw⟩
theorem WM.dt(h:WM w0 W zs v0 v3 v4 l0 l3 l4){k:Nat}(a:W.heap.size≤k):Dt zs v3 v4 k:=⟨λe=>by have:=h.hz k e;omega,λe=>by have:=Kd.Ko h.h3 k e.symm;omega,λe=>by have:=Kd.Ko h.h4 k e.symm;omega⟩
theorem St.QN{b:Nat}{c:Value}{a:Dy}(h:St w0 w W zs S bs v0 v3 v4 l0 l3 l4)(d:Kd.V Ck 32 W b (Dt zs v3 v4) c a):St w0 w W zs S bs c v3 v4 a l3 l4 :=
 ⟨⟨h.M.hB,h.M.hz,d,h.M.h3,h.M.h4⟩,h.B,h.hw⟩
theorem MQ{α:Type}{d:Kd α}{e b b':Nat}{P:Nat->Prop}{xs:List α}{v:Value}(h:WM w0 W zs v0 v3 v4 l0 l3 l4)(i:Kd.V d e W1 b (λk=>P k∨W.heap.size≤k) v xs)(c:∀k,P k->Dt zs v3 v4 k):Kd.V d e W1 b' (Dt zs v3 v4) v xs :=
 Kd.AD (show Kd.V d e W1 b' (λk=>P k∨W.heap.size≤k) v xs from i) (λk g=>g.elim (c k) (λa=>h.dt a))
theorem Gq{α:Type}{d:Kd α}{e b g:Nat}{xs:List α}{v:Value}(i:Kd.V d e W b (Dt zs v3 v4) v xs)(hg:g=W.heap.size)(c:Below W.heap.size W W1):Kd.V d e W1 b (Dt (g::zs) v3 v4) v xs :=
 Kd.AD (Kd.Bh (Kd.FO i) c) (λk a=>⟨not_cons a.1.1 (by have:=a.2;omega),a.1.2⟩)
theorem St.QP(h:St w0 w W zs S bs v0 v3 v4 l0 l3 l4)(i:Nat){g t:Nat}{a b c d e a' b' j:Value}(l:bs[i]?=some ⟨g,[a,b,c,d,e],t⟩):St w0 w (((W.setCell ⟨g,0,none⟩ a').setCell ⟨g,1,none⟩ b').setCell ⟨g,2,none⟩ j) zs S (bs.set i ⟨g,[a',b',j,d,e],t⟩) v0 v3 v4 l0 l3 l4:=by have hl:i<bs.length:=(RL.1 l).1;have h1:=h.put i 0 a' l;have k:=h1.put i 1 (g:=g) (cs:=[a',b,c,d,e]) (t:=t) b' (by rw[RC hl];rfl);rw[RQ]at k;have h3:=k.put i 2 (g:=g) (cs:=[a',b',c,d,e]) (t:=t) j (by rw[RC hl];rfl);rw[RQ]at h3;exact h3
theorem St.elem{g n cap:Nat}(h:St w0 w W zs S bs v0 (.slice (some ⟨g,0,none⟩) n cap) v4 l0 l3 l4)(i:Int)(h0:0≤i)(h1:i<n):∃d c2 l c3,(W.cell? ⟨g,i.toNat*6,none⟩=some (.int .i64 (AE l3 i).f0)∧W.cell? ⟨g,i.toNat*6+1,none⟩=some (.int .i64 (AE l3 i).f1)∧W.cell? ⟨g,i.toNat*6+2,none⟩=some (.slice d (AE l3 i).f2.length c2)∧W.cell? ⟨g,i.toNat*6+3,none⟩=some (.slice l (AE l3 i).f3.length c3)∧W.cell? ⟨g,i.toNat*6+4,none⟩=some (.int .i64 (AE l3 i).f4)∧W.cell? ⟨g,i.toNat*6+5,none⟩=some (.int .i64 (AE l3 i).f5)) ∧
  Kd.V Dd 68 W w0.heap.size (Dt zs (.slice (some ⟨g,0,none⟩) n cap) v4) (.slice d (AE l3 i).f2.length c2) (AE l3 i).f2∧Kd.V Ck 32 W w0.heap.size (Dt zs (.slice (some ⟨g,0,none⟩) n cap) v4) (.slice l (AE l3 i).f3.length c3) (AE l3 i).f3∧∀j,W.frozen? ⟨g,i.toNat*6+j,none⟩=false:=by
 obtain⟨c,q,hF,a,m⟩:=Kd.KW h.M.h3 P8 i h0 h1;obtain⟨d,c2,l,c3,rfl,r,f2,p,f3⟩:=Mk hF;have b:∀k,((k∉zs∧some k≠v4.ownBlock)∧k≠g)->Dt zs (.slice (some ⟨g,0,none⟩) n cap) v4 k:=λk o=>⟨o.1.1,λe=>o.2 (by simpa[Value.ownBlock]using e),o.1.2⟩
 exact⟨d,c2,l,c3,⟨a 0 _ rfl,a 1 _ rfl,a 2 _ rfl,a 3 _ rfl,a 4 _ rfl,a 5 _ rfl⟩,Kd.N5 r (Kd.Gl f2 b),Kd.N5 p (Kd.Gl f3 b),m⟩
theorem St.JZ{g n cap o p:Nat}{z A:Option Addr}(h:St w0 w W zs S bs v0 (.slice (some ⟨g,0,none⟩) n cap) v4 l0 l3 l4)(L:S g)(i:Int)(h0:0≤i)(h1:i<n){a b c d:Int}{t:List Ba}{u:Dy}{G I:Nat}
  (f2:Kd.V Dd 68 W G (Dt zs (.slice (some ⟨g,0,none⟩) n cap) v4) (.slice z t.length o) t)(f3:Kd.V Ck 32 W I (Dt zs (.slice (some ⟨g,0,none⟩) n cap) v4) (.slice A u.length p) u) :
  St w0 w ((((((W.setCell ⟨g,i.toNat*6,none⟩ (.int .i64 a)).setCell ⟨g,i.toNat*6+1,none⟩ (.int .i64 b)).setCell ⟨g,i.toNat*6+2,none⟩ (.slice z t.length o)).setCell ⟨g,i.toNat*6+3,none⟩ (.slice A u.length p)).setCell ⟨g,i.toNat*6+4,none⟩ (.int .i64 c)).setCell ⟨g,i.toNat*6+5,none⟩ (.int .i64 d)) zs S bs v0 (.slice (some ⟨g,0,none⟩) n cap) v4 l0 (l3.set i.toNat ⟨a,b,t,u,c,d⟩) l4:=by
 obtain⟨v,x,hF,B,O⟩:=Kd.KW h.M.h3 P8 i h0 h1;have y:∀k,Dt zs (.slice (some ⟨g,0,none⟩) n cap) v4 k->(k∉zs∧some k≠v4.ownBlock)∧k≠g:=λk m=>⟨⟨m.1,m.2.2⟩,λe=>m.2.1 (by rw[e];simp[Value.ownBlock])⟩
 have K:Kd.FK Ha W (Dt zs (.slice (some ⟨g,0,none⟩) n cap) v4) (⟨a,b,t,u,c,d⟩:EZ) (v.take 0++[.int .i64 a,.int .i64 b,.slice z t.length o,.slice A u.length p,.int .i64 c,.int .i64 d]++v.drop (0+6)):=by have M:v.drop (0+6)=[]:=Sb (by have:v.length=6:=x;omega);rw[M,List.take_zero,SZ,Tr];exact Oj _ _ _ (Kd.Kv f2).2.1 (Kd.Q3 f2) (Kd.Kv f3).2.1 (Kd.Q3 f3)
 obtain⟨J,hg⟩:=Kd.Ql h.M.h3 i h0 h1 (c:=v) (seg:=[.int .i64 a,.int .i64 b,.slice z t.length o,.slice A u.length p,.int .i64 c,.int .i64 d]) (j:=0) x B (show 0+6≤6 by decide) K y;have D:∀k,Dt zs (.slice (some ⟨g,0,none⟩) n cap) v4 k->some k≠some g:=λk m e=>(y k m).2 (by injection e)
 have r:(Value.slice (some ⟨g,0,none⟩) n cap).ownBlock=some g:=by simp[Value.ownBlock]
 have hz:g∉zs∧some g≠v4.ownBlock:=h.M.Hz r;have l:w0.heap.size≤g:=Kd.Pq h.M.h3 g r
 exact⟨⟨DK (DK (DK (DK (DK (DK h.M.hB l) l) l) l) l) l,λk m=>R_ (h.M.hz k m) hg.size,Kd.JT h.M.h0 hg D,J,Kd.JP h.M.h4 hg (λk m e=>m.2 (by rw[r];exact e))⟩,
  ⟨λq E=>AO (h.B.at_ q E) hg (λe=>hz.1 (by injection e with e;exact e ▸ h.B.mem q E)),h.B.nd,h.B.ge,h.B.mem,h.B.hK.DJ hg (λk m=>.inl (by injection m with m;exact m ▸ L))⟩,h.hw⟩
theorem Qu{W:World}{A:Option Addr}{xs:Dy}(h:Kd.C Ck W A xs.length xs)(h1:(0:Int)<xs.length):∃ad,A=some ad∧W.cell? ad=some (.int .i64 (Aa xs 0).f0)∧W.cell? ⟨ad.block,ad.off+1,none⟩=some (.int .i64 (Aa xs 0).f1)∧W.cell? ⟨ad.block,ad.off+2,none⟩=some (.int .i64 (Aa xs 0).f2.f0)∧W.cell? ⟨ad.block,ad.off+3,none⟩=some (.int .i64 (Aa xs 0).f2.f1)∧W.cell? ⟨ad.block,ad.off+4,none⟩=some (.int .i64 (Aa xs 0).f2.f2)∧W.cell? ⟨ad.block,ad.off+5,none⟩=some (.int .i64 (Aa xs 0).f2.f3)∧W.cell? ⟨ad.block,ad.off+6,none⟩=some (.string (Aa xs 0).f2.f4):=by obtain⟨ad,e,a,b,c,d,g,i,j⟩:=CQ h 0 (by omega) h1;rw[show((0:Int)).toNat*7=0 from rfl,Sa]at a b c d g i j;exact⟨ad,e,a,b,c,d,g,i,j⟩
end
end Go.Proofs.YtlhlpfnljglhoaaDoor.P
namespace Go.Proofs.YtlhlpfnljglhoaaDoor.P
open Go.RowKit Go.Proofs.YtlhlpfnljglhoaaDoorW.PrintWords Go.Proofs.YtlhlpfnljglhoaaDoorW.Bb Go.Proofs.YtlhlpfnljglhoaaDoorW.Dm
theorem DX.calls(k:Nat)(zs:List Nat)(v0 v3 v4 vl:Value)(l0:Dy)(s:Int)(u:Bool)(l3:En)(l4:Dz)(A fr:Int)(o:Dy)(r0:Dy)(r1:Int)(r2:Bool)(r3:En)(r4:Dz)(w0 w:World)(h:WM w0 w zs v0 v3 v4 l0 l3 l4)(hl:Kd.V Ck 32 w w0.heap.size (Dt zs v3 v4) vl o)
  (q:DX.f k ⟨l0,s,u,l3,l4⟩ ⟨A,fr,o⟩=some ⟨r0,r1,r2,r3,r4⟩) :
  Calls Tryd.prog 74 #[.agg #[v0,.int .i64 s,.bool u,v3,v4],.agg #[.int .i64 A,.int .i64 fr,vl]] w λe w'=>∃af,e=.returned (.agg #[af,.int .i64 r1,.bool r2,v3,v4])∧WM w0 w' zs af v3 v4 r0 r3 r4∧Kept w w' (λk_=>some k_=v3.ownBlock):=by
 have au:=RK;have aj:=Ti;have ar:=Sh;have aq:=Sk;have ao:=RP;obtain⟨W,X,rfl⟩:=Kd.Cd h.h0;obtain⟨B,c4,rfl⟩:=Kd.C3 h.h4;obtain⟨AL,Y,rfl⟩:=Kd.Cd hl;unfold DX.f at q;dsimp only at q;by_cases c:A=0
 ·rw[Ry c]at q;have cb:(A==0)=true:=RO.mpr c;clear c;by_cases c2:(0:Int)<(o.length:Int)
  ·rw[Ry c2]at q;obtain⟨⟨p1,p2,p3,p4⟩,hp,q⟩:=BR q;simp only[Option.some.injEq,Wd.mk.injEq]at q;obtain⟨rfl,rfl,rfl,rfl,rfl⟩:=q;have HP:=a_ hp;clear hp;obtain⟨A3,c3,rfl⟩:=Kd.C3 h.h3;obtain⟨ad,rfl,x0,x1,P,x3,x4,x5,x6⟩:=Qu (Kd.AY hl).2.2 c2;have M:=a_ (St.start h (λk=>some k=(Value.slice A3 l3.length c3).ownBlock));have p:=a_ hl;have XX:=a_ (And.intro x0 (And.intro x1 (And.intro P (And.intro x3 (And.intro x4 (And.intro x5 x6))))));have q2:=RA c2;have q3:(0<o.length)=True:=RA (by omega);clear h hl c2 x0 x1 P x3 x4 x5 x6;go_enter Tryd.func74,Tryd.ntmps74;go_wp2_with(first
   | ((with_reducible refine BV (N:=2) rfl ?_);refine Cy 2 (#[.slice W l0.length X,.int .i64 s,.bool u,.slice A3 l3.length c3,.slice B l4.length c4]) 64 ?_;intro v hg w1 j l;have D:=M.o.box (cs:=[.slice W l0.length X,.int .i64 s,.bool u,.slice A3 l3.length c3,.slice B l4.length c4]) hg l j;have m:=a_ (Gq p.o hg l);clear M p j l hg;have M:=a_ D;clear D;have p:=m;clear m)
   | ((with_reducible refine BV (N:=3) rfl ?_);refine Cy 3 (#[.int .i64 A,.int .i64 fr,.slice (some ad) o.length Y]) 114 ?_;intro O hg w2 j l;have D:=M.o.box (cs:=[.int .i64 A,.int .i64 fr,.slice (some ad) o.length Y]) hg l j;have m:=a_ (Gq p.o hg l);clear M p j l hg;have M:=a_ D;clear D;have p:=m;clear m)
   | ((with_reducible refine BV (N:=4) rfl ?_);refine Cy 4 (#[.slice none 0 0,.int .i64 0,.bool false,.slice none 0 0,.slice none 0 0]) 64 ?_;intro x hg w3 j l;have D:=M.o.box (cs:=[.slice none 0 0,.int .i64 0,.bool false,.slice none 0 0,.slice none 0 0]) hg l j;have m:=a_ (Gq p.o hg l);clear M p j l hg;have M:=a_ D;clear D;have p:=m;clear m;obtain⟨z0,z1,z2,z3,z4,y⟩:=M.o.B.c5 2 rfl;obtain⟨x0,x1,P,-⟩:=M.o.B.c3 1 rfl))
   have ag:=a_ (show Kept w w3 _ from M.o.B.hK);obtain⟨av,ed,E,G,I,J,L,z,e6⟩:=Qu (Kd.AY p.o).2.2 (of_eq_true q2);cases ed;have T:=a_ (Kd.BO p.o);have Md:=a_ M.o.drew;clear M p XX ag;have M:=Md;have p:=T;clear Md T;refine Cl (n:=12) (S:=λw'=>w'.cell? ⟨v,0,none⟩=some (.slice W l0.length X)∧w'.cell? ⟨v,1,none⟩=some (.int .i64 s)∧w'.cell? ⟨v,2,none⟩=some (.bool u)∧w'.cell? ⟨O,2,none⟩=some (.slice (some ad) o.length Y)∧w'.cell? ad=some (.int .i64 (Aa o 0).f0)∧w'.cell? ⟨ad.block,ad.off+1,none⟩=some (.int .i64 (Aa o 0).f1)∧w'.cell? ⟨ad.block,ad.off+2,none⟩=some (.int .i64 (Aa o 0).f2.f0)∧w'.cell? ⟨ad.block,ad.off+3,none⟩=some (.int .i64 (Aa o 0).f2.f1)∧w'.cell? ⟨ad.block,ad.off+4,none⟩=some (.int .i64 (Aa o 0).f2.f2)∧w'.cell? ⟨ad.block,ad.off+5,none⟩=some (.int .i64 (Aa o 0).f2.f3)∧w'.cell? ⟨ad.block,ad.off+6,none⟩=some (.string (Aa o 0).f2.f4)) (ds:=[11]) #[false,false,false,false,false,false,false,false,false,false,false,false] (by kernel_rfl) rfl rfl ⟨z0,z1,z2,P,E,G,I,J,L,z,e6⟩ (λg=>?_);refine Bf 0 9 ?_;refine Bf 2 11 ?_;refine F5 1 10 g ?_;refine F5 3 12 g ?_;refine Bf 4 13 ?_;refine F5 5 14 g ?_;refine E7 6 15 (λK hK=>?_);refine C7 Tryd.func76 (by kernel_rfl) rfl #[.agg #[.slice W l0.length X,.int .i64 s,.bool u],.agg #[.int .i64 (Aa o 0).f0,.int .i64 (Aa o 0).f1,.int .i64 (Aa o 0).f2.f0,.int .i64 (Aa o 0).f2.f1,.int .i64 (Aa o 0).f2.f2,.int .i64 (Aa o 0).f2.f3,.string (Aa o 0).f2.f4]] (by rfl) rfl rfl (by simp only[List.map_toArray,List.map_cons,List.map_nil];rfl) ?_;with_reducible refine(Eg.calls k (Dt (x::O::v::zs) (.slice A3 l3.length c3) (.slice B l4.length c4)) W X l0 s u (Aa o 0).f0 (Aa o 0).f1 (Aa o 0).f2.f0 (Aa o 0).f2.f1 (Aa o 0).f2.f2 (Aa o 0).f2.f3 (Aa o 0).f2.f4 p1 p2 p3 p4 _ M.o.M.h0 HP.o).mono ?_
   rintro e w5 ⟨af,rfl,hv,l⟩;refine⟨_,rfl,?_⟩;have D:=(M.o.below l).QN (b:=0) (MQ M.o.M hv (λk Z=>Z));obtain⟨A5,c5,z⟩:=Kd.Cd hv;subst z;have U:=a_ (show _ from(⟨(l.cell (FV _ _ E)).trans E,(l.cell (FV _ _ G)).trans G,(l.cell (FV _ _ I)).trans I,(l.cell (FV _ _ J)).trans J,(l.cell (FV _ _ L)).trans L,(l.cell (FV _ _ z)).trans z,(l.cell (FV _ _ e6)).trans e6⟩:_∧_∧_∧_∧_∧_∧_));clear M hv l z0 z1 z2 z3 z4 y x0 x1 P E G I J L z e6;have M:=a_ D;clear D;obtain⟨z0,z1,z2,z3,z4,y⟩:=M.o.B.c5 2 rfl;obtain⟨t0,t1,t2,t3,t4,ty⟩:=M.o.B.c5 0 rfl;obtain⟨-,-,P,-⟩:=M.o.B.c3 1 rfl;obtain⟨E,G,I,J,L,z,e6⟩:=U.o;clear U;have ae:x≠v:=M.o.B.ne (i:=0) (i':=2) rfl rfl (by decide);have ak:v≠x:=λe=>ae e.symm
   refine hK.out _ _ ⟨z0,z1,z2,P,E,G,I,J,L,z,e6⟩ (λg=>?_);clear hK K;refine Er 15 ?_;refine Bf 7 8 ?_;refine Bf 8 16 ?_;refine Bf 9 17 ?_;refine Bf 10 18 ?_;refine Fe (i:=11) (N:=none) #[true,true,true,true,true,true,true,true,true,true,true,true] rfl rfl (by kernel_rfl) (by decide) (λK hK=>?_);refine EL (w1:=?_) (by rfl) rfl ?_ ?_;rotate_left
   ·go_simp;rfl
   refine hK.out _ _ ?_;clear hK K;refine CV (by kernel_rfl) ?_;go_wp2;have D2:St w0 w _ (x::O::v::zs) _ [⟨x,[.slice A5 p1.length c5,.int .i64 p2,.bool p3,.slice A3 l3.length c3,.slice B l4.length c4],64⟩,⟨O,[.int .i64 A,.int .i64 fr,.slice (some ad) o.length Y],114⟩,⟨v,[.slice A5 p1.length c5,.int .i64 p2,.bool p3,.slice A3 l3.length c3,.slice B l4.length c4],64⟩] _ _ _ _ _ _:=(M.o.QP 2 rfl).DW 0 rfl;have DB:=D2.B.Ex 0 rfl;refine RH (RF rfl _ _ x 64 #[.slice A5 p1.length c5,.int .i64 p2,.bool p3,.slice A3 l3.length c3,.slice B l4.length c4] (0,0) _ rfl DB RK rfl (by kernel_rfl)) rfl ?_;exact⟨_,rfl,D2.M.mono (λk Z=>by simp[Z]),D2.B.hK⟩
  rw[Rz c2]at q;exact absurd q (by simp)
 rw[Rz c]at q;have cb:(A==0)=false:=Dr c;clear c;obtain⟨i,hi⟩:∃i,i=wrap64 (A-1):=⟨_,rfl⟩
 rw[<-hi]at q;have ax:wrap64 (A-1)=i:=hi.symm;clear hi;by_cases c2:0≤i
 ·rw[Ry c2]at q;by_cases c3:i<(l3.length:Int)
  ·rw[Ry c3]at q;obtain⟨⟨p1,p2,p3,p4,p5,p6,p7⟩,hp,q⟩:=BR q;simp only[Option.some.injEq,Wd.mk.injEq]at q;obtain⟨rfl,rfl,rfl,rfl,rfl⟩:=q;have HP:=a_ hp;clear hp;obtain⟨r,t,rfl,-⟩:=Kd.JO h.h3 (by omega);have M:=a_ (St.start h (λk=>some k=(Value.slice (some ⟨r,0,none⟩) l3.length t).ownBlock));have p:=a_ hl;have CC:=a_ (And.intro c2 c3);have q2:=RA c2;have q3:=RA c3;clear h hl c2 c3;go_enter Tryd.func74,Tryd.ntmps74;go_wp2_with(first
  | ((with_reducible refine BV (N:=2) rfl ?_);refine Cy 2 (#[.slice W l0.length X,.int .i64 s,.bool u,.slice (some ⟨r,0,none⟩) l3.length t,.slice B l4.length c4]) 64 ?_;intro v hg w1 j l;have D:=M.o.box (cs:=[.slice W l0.length X,.int .i64 s,.bool u,.slice (some ⟨r,0,none⟩) l3.length t,.slice B l4.length c4]) hg l j;have m:=a_ (Gq p.o hg l);clear M p j l hg;have M:=a_ D;clear D;have p:=m;clear m)
  | ((with_reducible refine BV (N:=3) rfl ?_);refine Cy 3 (#[.int .i64 A,.int .i64 fr,.slice AL o.length Y]) 114 ?_;intro O hg w2 j l;have D:=M.o.box (cs:=[.int .i64 A,.int .i64 fr,.slice AL o.length Y]) hg l j;have m:=a_ (Gq p.o hg l);clear M p j l hg;have M:=a_ D;clear D;have p:=m;clear m)
  | ((with_reducible refine BV (N:=4) rfl ?_);refine Cy 4 (#[.slice none 0 0,.int .i64 0,.bool false,.slice none 0 0,.slice none 0 0]) 64 ?_;intro x hg w3 j l;have D:=M.o.box (cs:=[.slice none 0 0,.int .i64 0,.bool false,.slice none 0 0,.slice none 0 0]) hg l j;have m:=a_ (Gq p.o hg l);clear M p j l hg;have M:=a_ D;clear D;have p:=m;clear m;obtain⟨z0,z1,z2,z3,z4,y⟩:=M.o.B.c5 2 rfl;obtain⟨x0,x1,P,-⟩:=M.o.B.c3 1 rfl))
   obtain⟨B2,b2,B3,b3,⟨E,G,I,J,L,z⟩,f2,f3,-⟩:=M.o.elem i CC.o.1 CC.o.2
   have F2:=a_ (Kd.BO f2)
   have F3:=a_ (Kd.BO f3)
   clear f2 f3
   have T:=a_ (Kd.BO p.o)
   have Md:=a_ M.o.drew
   clear M p
   have M:=Md
   have p:=T
   clear Md T
   refine Cl (n:=22) (S:=λw'=>w'.cell? ⟨v,3,none⟩=some (.slice (some ⟨r,0,none⟩) l3.length t)∧w'.cell? ⟨O,0,none⟩=some (.int .i64 A)∧w'.cell? ⟨O,1,none⟩=some (.int .i64 fr)∧w'.cell? ⟨O,2,none⟩=some (.slice AL o.length Y)∧w'.cell? ⟨r,i.toNat*6,none⟩=some (.int .i64 (AE l3 i).f0)∧w'.cell? ⟨r,i.toNat*6+1,none⟩=some (.int .i64 (AE l3 i).f1)∧w'.cell? ⟨r,i.toNat*6+2,none⟩=some (.slice B2 (AE l3 i).f2.length b2)∧w'.cell? ⟨r,i.toNat*6+3,none⟩=some (.slice B3 (AE l3 i).f3.length b3)∧w'.cell? ⟨r,i.toNat*6+4,none⟩=some (.int .i64 (AE l3 i).f4)∧w'.cell? ⟨r,i.toNat*6+5,none⟩=some (.int .i64 (AE l3 i).f5)) (ds:=[21]) #[false,false,false,false,false,false,false,false,false,false,false,false,false,false,false,false,false,false,false,false,false,false] (by kernel_rfl) rfl rfl ⟨z3,x0,x1,P,E,G,I,J,L,z⟩ (λg=>?_)
   refine Bf 0 21 ?_
   refine Bf 2 23 ?_
   refine Bf 5 26 ?_
   refine Bf 7 28 ?_
   refine Bf 12 33 ?_
   refine Bf 14 35 ?_
   refine I7 1 22 g ?_
   refine I7 3 24 g ?_
   refine Bf 4 25 ?_
   refine I7 6 27 g ?_
   refine I7 8 29 g ?_
   refine Bf 9 30 ?_
   refine Bf 10 31 ?_
   refine I7 11 32 g ?_
   refine I7 13 34 g ?_
   refine I7 15 36 g ?_
   refine E7 16 37 (λK hK=>?_)
   refine C7 Tryd.func77 (by kernel_rfl) rfl #[.agg #[.int .i64 (AE l3 i).f0,.int .i64 (AE l3 i).f1,.slice B2 (AE l3 i).f2.length b2,.slice B3 (AE l3 i).f3.length b3,.int .i64 (AE l3 i).f4,.int .i64 (AE l3 i).f5],.int .i64 fr,.slice AL o.length Y] (by rfl) rfl rfl (by simp only[List.map_toArray,List.map_cons,List.map_nil];rfl) ?_
   with_reducible refine(Aq.calls k (AE l3 i).f0 (AE l3 i).f1 (Dt (x::O::v::zs) (.slice (some ⟨r,0,none⟩) l3.length t) (.slice B l4.length c4)) B2 b2 (AE l3 i).f2 (Dt (x::O::v::zs) (.slice (some ⟨r,0,none⟩) l3.length t) (.slice B l4.length c4)) B3 b3 (AE l3 i).f3 (AE l3 i).f4 (AE l3 i).f5 fr AL Y o p1 p2 p3 p4 p5 p6 p7 _ (show Kd.V _ _ _ _ _ _ _ from F2.o) (show Kd.V _ _ _ _ _ _ _ from F3.o) (Kd.AY p.o).2.2 (Kd.AY p.o).2.1 HP.o).mono ?_
   rintro e w5 ⟨aA,aB,rfl,aa,ab,l⟩
   refine⟨_,rfl,?_⟩
   obtain⟨D2,d2,ah⟩:=Kd.Cd aa
   subst ah
   obtain⟨D3,d3,ai⟩:=Kd.Cd ab
   subst ai
   have G2:=a_ (MQ (b':=0) M.o.M aa (λk Z=>Z.elim id id))
   have G3:=a_ (MQ (b':=0) M.o.M ab (λk Z=>Z.elim id id))
   have D:=M.o.below l
   have U:=a_ (show _ from(⟨(l.cell (FV _ _ E)).trans E,(l.cell (FV _ _ G)).trans G,(l.cell (FV _ _ I)).trans I,(l.cell (FV _ _ J)).trans J,(l.cell (FV _ _ L)).trans L,(l.cell (FV _ _ z)).trans z⟩:_∧_∧_∧_∧_∧_))
   clear M F2 F3 aa ab l z0 z1 z2 z3 z4 y x0 x1 P E G I J L z
   have M:=a_ D
   clear D
   obtain⟨z0,z1,z2,z3,z4,y⟩:=M.o.B.c5 2 rfl
   obtain⟨x0,x1,P,-⟩:=M.o.B.c3 1 rfl
   obtain⟨t0,t1,t2,t3,t4,ty⟩:=M.o.B.c5 0 rfl
   obtain⟨-,-,-,-,-,-,-,fz⟩:=M.o.elem i CC.o.1 CC.o.2
   obtain⟨E,G,I,J,L,z⟩:=U.o
   clear U
   have aw:w5.frozen? ⟨r,i.toNat*6,none⟩=false:=fz 0
   have ae:x≠v:=M.o.B.ne (i:=0) (i':=2) rfl rfl (by decide)
   have ak:v≠x:=λe=>ae e.symm
   have NZ:=a_ (M.o.M.Hz (k:=r) (by simp[Value.ownBlock]))
   have al:r≠v:=λe=>NZ.o.1 (by simp[e])
   have ay:v≠r:=λe=>al e.symm
   have an:r≠x:=λe=>NZ.o.1 (by simp[e])
   have az:x≠r:=λe=>an e.symm
   refine hK.out _ _ ⟨z3,x0,x1,P,E,G,I,J,L,z⟩ (λg=>?_)
   clear hK K
   refine Er 37 ?_
   refine Bf 17 20 ?_
   refine Bf 18 38 ?_
   refine Bf 19 39 ?_
   refine Bf 20 40 ?_
   refine Fe (i:=21) (N:=none) #[true,true,true,true,true,true,true,true,true,true,true,true,true,true,true,true,true,true,true,true,true,true] rfl rfl (by kernel_rfl) (by decide) (λK hK=>?_)
   refine EL (w1:=?_) (by rfl) rfl ?_ ?_
   rotate_left
   ·go_simp
    rfl
   refine hK.out _ _ ?_
   clear hK K
   refine CV (by kernel_rfl) ?_
   go_wp2
   have D2:St w0 w _ (x::O::v::zs) _ [⟨x,[.slice W l0.length X,.int .i64 s,.bool u,.slice (some ⟨r,0,none⟩) l3.length t,.slice B l4.length c4],64⟩,⟨O,[.int .i64 A,.int .i64 fr,.slice AL o.length Y],114⟩,⟨v,[.slice W l0.length X,.int .i64 s,.bool u,.slice (some ⟨r,0,none⟩) l3.length t,.slice B l4.length c4],64⟩] _ _ _ _ _ _:=(M.o.JZ (a:=p1) (b:=p2) (c:=p5) (d:=p6) (by simp[Value.ownBlock]) i CC.o.1 CC.o.2 G2.o G3.o).DW 0 rfl
   have DB:=D2.B.Ex 0 rfl
   refine RH (RF rfl _ _ x 64 #[.slice W l0.length X,.int .i64 s,.bool u,.slice (some ⟨r,0,none⟩) l3.length t,.slice B l4.length c4] (0,0) _ rfl DB RK rfl (by kernel_rfl)) rfl ?_
   exact⟨_,rfl,D2.M.mono (λk Z=>by simp[Z]),D2.B.hK⟩
  rw[Rz c3]at q;exact absurd q (by simp)
 rw[Rz c2]at q;exact absurd q (by simp)
section
variable {w0 w W W1:World} {zs zs':List Nat} {S S':Nat->Prop} {bs:List Bx} {v0 v3 v4 u:Value} {l0:Dy} {l3:En} {l4:Dz}
theorem St.letter{g n cap:Nat}(h:St w0 w W zs S bs v0 v3 (.slice (some ⟨g,0,none⟩) n cap) l0 l3 l4)(i:Int)(h0:0≤i)(h1:i<n):∃b c2,(W.cell? ⟨g,i.toNat*3,none⟩=some (.int .i64 (AG l4 i).f0)∧W.cell? ⟨g,i.toNat*3+1,none⟩=some (.int .i64 (AG l4 i).f1)∧W.cell? ⟨g,i.toNat*3+2,none⟩=some (.slice b (AG l4 i).f2.length c2)) ∧
  Kd.V Ck 32 W w0.heap.size (Dt zs v3 (.slice (some ⟨g,0,none⟩) n cap)) (.slice b (AG l4 i).f2.length c2) (AG l4 i).f2:=by obtain⟨c,j,hF,a,l⟩:=Kd.KW h.M.h4 P7 i h0 h1;obtain⟨b,c2,rfl,m,f2⟩:=Lc hF;exact⟨b,c2,⟨a 0 _ rfl,a 1 _ rfl,a 2 _ rfl⟩,Kd.N5 m (Kd.Gl f2 (λk d=>⟨d.1.1,d.1.2,λe=>d.2 (by simpa[Value.ownBlock]using e)⟩))⟩
theorem St.Q9(h:St w0 w W zs S bs v0 v3 v4 l0 l3 l4)(i:Nat){g t:Nat}{a b c a' b' d:Value}(j:bs[i]?=some ⟨g,[a,b,c],t⟩):St w0 w (((W.setCell ⟨g,0,none⟩ a').setCell ⟨g,1,none⟩ b').setCell ⟨g,2,none⟩ d) zs S (bs.set i ⟨g,[a',b',d],t⟩) v0 v3 v4 l0 l3 l4:=by have hl:i<bs.length:=(RL.1 j).1;have h1:=h.put i 0 a' j;have e:=h1.put i 1 (g:=g) (cs:=[a',b,c]) (t:=t) b' (by rw[RC hl];rfl);rw[RQ]at e;have h3:=e.put i 2 (g:=g) (cs:=[a',b',c]) (t:=t) d (by rw[RC hl];rfl);rw[RQ]at h3;exact h3
structure NR (w0 w W:World) (b:Nat) (zs:List Nat) (S:Nat->Prop) (bs:List Bx) (v0 v3 v4:Value) (l0:Dy) (l3:En) (l4:Dz) (v:Value) (xs:Dz):Prop where
 M:WM w0 W (b::zs) v0 v3 v4 l0 l3 l4
 B:BX w W zs S bs
 hw:w0.heap.size≤w.heap.size
 own:v.ownBlock=some b
 ge:w.heap.size≤b
 nb:b∉zs
 hN:Kd.N Fh 114 W w0.heap.size (λk=>k∉zs∧some k≠v3.ownBlock) v xs
theorem WM.turn{row:Option Nat}{b':Nat}(h:WM w0 W zs' v0 v3 v4 l0 l3 l4)(hz:∀k,k∈zs->k∈zs')(hB:Below w0.heap.size w0 W1)(hg:W.grownBy W1 row)(d:∀k,row=some k->k∈zs')(c:b'∈zs'∨W.heap.size≤b')(b:b'<W1.heap.size):WM w0 W1 (b'::zs) v0 v3 v4 l0 l3 l4:=by
 have key:∀k,k∉zs'->k<W.heap.size->k∉b'::zs:=λk h1 g e=>(Sl.1 e).elim (λe=>c.elim (λq=>h1 (e ▸ q)) (λq=>by omega)) (λe=>h1 (hz k e))
 have ne:∀k,k∉zs'->some k≠row:=λk h1 e=>h1 (d k e.symm)
 exact⟨hB,λk a=>(Sl.1 a).elim (λe=>e ▸ b) (λa=>R_ (h.hz k (hz k a)) hg.size),
  Kd.AD (Kd.JT (Kd.FO h.h0) hg (λk a=>ne k a.1.1)) (λk a=>⟨key k a.1.1 a.2,a.1.2⟩),Kd.Gm (Kd.JP (Kd.Hc h.h3) hg (λk a=>ne k a.1.1)) (λk a=>⟨key k a.1.1 a.2,a.1.2⟩),Kd.Gm (Kd.JP (Kd.Hc h.h4) hg (λk a=>ne k a.1.1)) (λk a=>⟨key k a.1.1 a.2,a.1.2⟩)⟩
theorem K5{α:Type}{d:Kd α}{e b b':Nat}{xs:List α}{v:Value}{row:Option Nat}(h:Kd.V d e W b (Dt zs' v3 v4) v xs)(hz:∀k,k∈zs->k∈zs')(hg:W.grownBy W1 row)(g:∀k,row=some k->k∈zs')(c:b'∈zs'∨W.heap.size≤b'):Kd.V d e W1 b (Dt (b'::zs) v3 v4) v xs:=by
 have key:∀k,k∉zs'->k<W.heap.size->k∉b'::zs:=λk h1 i e=>(Sl.1 e).elim (λe=>c.elim (λq=>h1 (e ▸ q)) (λq=>by omega)) (λe=>h1 (hz k e))
 exact Kd.AD (Kd.JT (Kd.FO h) hg (λk a e=>a.1.1 (g k e.symm))) (λk a=>⟨key k a.1.1 a.2,a.1.2⟩)
theorem NR.lit{v1:Value}(h:St w0 w W zs S bs v0 v3 v4 l0 l3 l4)(hN:Kd.N Fh 114 W1 w0.heap.size (λk=>k∉zs∧some k≠v3.ownBlock) v1 [])(hB:Below w0.heap.size w0 W1)(hg:W.grownBy W1 none)(c:∃b,v1.ownBlock=some b∧W.heap.size≤b):∃b,NR w0 w W1 b zs S bs v0 v3 v4 l0 l3 l4 v1 []∧W.heap.size≤b:=by obtain⟨b,d,hle⟩:=c;exact⟨b,⟨h.M.turn (λ_ a=>a) hB hg (λk a=>by cases a) (.inr hle) (Kd.Ko hN b d),⟨λq g=>AO (h.B.at_ q g) hg (λe=>by cases e),h.B.nd,h.B.ge,h.B.mem,h.B.hK.DJ hg (λk a=>by cases a)⟩,h.hw,d,RJ h.B.hK.1 hle,(hN.1 b d).1,hN⟩,hle⟩
theorem NR.app{b:Nat}{v v1:Value}{xs ys:Dz}(h:NR w0 w W b zs S bs v0 v3 v4 l0 l3 l4 v xs)(hN:Kd.N Fh 114 W1 w0.heap.size (λk=>k∉zs∧some k≠v3.ownBlock) v1 ys)(hB:Below w0.heap.size w0 W1)(hg:W.grownBy W1 v.ownBlock)(i:v1.ownBlock=v.ownBlock∨∃b,v1.ownBlock=some b∧W.heap.size≤b):∃b',NR w0 w W1 b' zs S bs v0 v3 v4 l0 l3 l4 v1 ys∧(b'∈b::zs∨W.heap.size≤b'):=by
 have m:∀k,v.ownBlock=some k->k∈b::zs:=λk a=>by rw[h.own]at a;injection a with a;rw[<-a];exact RI
 obtain⟨b',c,g⟩:∃b',v1.ownBlock=some b'∧(b'=b∨W.heap.size≤b'):=by
  rcases i with e|⟨b',e,hle⟩
  ·exact⟨b,e.trans h.own,.inl rfl⟩
  exact⟨b',e,.inr hle⟩
 have d:b'∈b::zs∨W.heap.size≤b':=g.imp_left (λe=>by rw[e];exact RI);have j:w.heap.size≤b':=g.elim (λe=>e ▸ h.ge) (λe=>RJ h.B.hK.1 e);exact⟨b',⟨h.M.turn (λ_ a=>RU _ a) hB hg m d (Kd.Ko hN b' c),⟨λq l=>AO (h.B.at_ q l) hg (λe=>h.nb (by rw[h.own]at e;injection e with e;exact e ▸ h.B.mem q l)),h.B.nd,h.B.ge,h.B.mem,h.B.hK.DJ hg (λk a=>by rw[h.own]at a;injection a with a;exact .inr (a ▸ h.ge))⟩,h.hw,c,j,(hN.1 b' c).1,hN⟩,d⟩
theorem NR.fin{b:Nat}{v:Value}{xs:Dz}(h:NR w0 w W b zs S bs v0 v3 v4 l0 l3 l4 v xs):St w0 w W zs S bs v0 v3 v l0 l3 xs:=by
 have key:∀k,k∉b::zs->k∉zs∧some k≠v.ownBlock:=λk a=>⟨λe=>a (RU _ e),λe=>a (by rw[h.own]at e;injection e with e;rw[e];exact RI)⟩
 exact⟨⟨h.M.hB,λk a=>h.M.hz k (RU _ a),Kd.AD h.M.h0 (λk a=>⟨(key k a.1).1,a.2.1,(key k a.1).2⟩),Kd.Gm h.M.h3 (λk a=>key k a.1),h.hN⟩,h.B,h.hw⟩
theorem Qq{α:Type}{d:Kd α}{e c b:Nat}{xs:List α}{g v:Value}(h:Kd.V d e W c (Dt (b::zs) v3 v4) g xs)(i:v.ownBlock=some b):Kd.V d e W c (Dt zs v3 v) g xs :=
 Kd.AD h (λk a=>⟨λe=>a.1 (RU _ e),a.2.1,λe=>a.1 (by rw[i]at e;injection e with e;rw[e];exact RI)⟩)
theorem PN(n:Int)(m:Nat)(hm:(m:Int)≤4611686018427387904):Ar.f n 0 (wrap64 ((m:Int)-1))=some (decide (0≤n)&&decide (n<(m:Int))):=by
 unfold Ar.f;have e:wrap64 ((m:Int)-1)=(m:Int)-1:=by unfold wrap64;omega
 rw[e];by_cases h:0≤n
 ·rw[Ry h,BM h,RY];by_cases a:n<(m:Int)
  ·rw[BM a,BM (show n≤(m:Int)-1 by omega)]
  rw[C9 a,C9 (show¬ n≤(m:Int)-1 by omega)]
 rw[Rz h,C9 h,Se]
end
end Go.Proofs.YtlhlpfnljglhoaaDoor.P
namespace Go.Proofs.YtlhlpfnljglhoaaDoor.P
open Go.RowKit Go.Proofs.YtlhlpfnljglhoaaDoorW.PrintWords Go.Proofs.YtlhlpfnljglhoaaDoorW.Bb Go.Proofs.YtlhlpfnljglhoaaDoorW.Dm
section
variable {w0 w W W1:World} {zs zs':List Nat} {S S':Nat->Prop} {bs:List Bx} {v0 v3 v4 u:Value} {l0:Dy} {l3:En} {l4:Dz}
theorem MS{α:Type}{d:Kd α}{e b:Nat}{ok:Nat->Prop}{v:Value}{xs:List α}(h:WM w0 W zs v0 v3 v4 l0 l3 l4)(c:d.R e W1 W.heap.size ok v xs):Kd.V d e W1 b (Dt zs v3 v4) v xs :=
 Kd.AD (Kd.MH (Kd.C4 c)) (λk a=>h.dt a.2.1)
theorem QH(a b c:Int):Ar.f a b c=some (decide (b≤a)&&decide (a≤c)):=by
 unfold Ar.f;by_cases h:a≥b
 ·rw[Ry h,BM (show b≤a from h),RY]
 rw[Rz h,C9 (show¬ b≤a from h),Se]
theorem K_{a b c:Int}(h:b≤a∧a≤c):Ar.f a b c=some true:=by rw[QH,BM h.1,BM h.2];rfl
theorem Nb{a b c:Int}(h:¬ (b≤a∧a≤c)):Ar.f a b c=some false:=by
 rw[QH,Option.some.injEq,Bool.and_eq_false_iff];by_cases h1:b≤a
 ·exact .inr (C9 (λd=>h ⟨h1,d⟩))
 exact .inl (C9 h1)
theorem Lk(a:Dz)(wl:Dy)(i:Int)(h0:0≤i)(h1:i<wl.length):Gu a (wl.drop i.toNat)=Gu (BN.f a ⟨0,0,[Aa wl i]⟩) (wl.drop (i+1).toNat):=by
 have b:=RZ (l:=wl) (i:=i.toNat) (by omega);rw[b,show i.toNat+1=(i+1).toNat by omega];have he:Aa wl i=wl[i.toNat]'(by omega):=by unfold Aa;rw[RS,RD (by omega)];rfl
 rw[he];rfl
theorem Mw(a:Dz)(wl:Dy)(i:Int)(h1:¬ i<wl.length):Gu a (wl.drop i.toNat)=a:=by rw[Sb (by omega)];rfl
theorem Rj{W:World}{A:Option Addr}{xs:Dy}{base c n:Nat}{ok:Nat->Prop}(h:Kd.V Ck 32 W base ok (.slice A n c) xs)(i:Int)(h0:0≤i)(h1:i<xs.length):∃ad,A=some ad∧W.cell? (ad.add (i.toNat*7))=some (.int .i64 (Aa xs i).f0)∧W.cell? ⟨(ad.add (i.toNat*7)).block,(ad.add (i.toNat*7)).off+1,none⟩=some (.int .i64 (Aa xs i).f1)∧W.cell? ⟨(ad.add (i.toNat*7)).block,(ad.add (i.toNat*7)).off+2,none⟩=some (.int .i64 (Aa xs i).f2.f0)∧W.cell? ⟨(ad.add (i.toNat*7)).block,(ad.add (i.toNat*7)).off+3,none⟩=some (.int .i64 (Aa xs i).f2.f1)∧W.cell? ⟨(ad.add (i.toNat*7)).block,(ad.add (i.toNat*7)).off+4,none⟩=some (.int .i64 (Aa xs i).f2.f2)∧W.cell? ⟨(ad.add (i.toNat*7)).block,(ad.add (i.toNat*7)).off+5,none⟩=some (.int .i64 (Aa xs i).f2.f3)∧W.cell? ⟨(ad.add (i.toNat*7)).block,(ad.add (i.toNat*7)).off+6,none⟩=some (.string (Aa xs i).f2.f4) :=
 CQ (Kd.AY h).2.2 i h0 h1
theorem St.ID(h:St w0 w W zs S bs v0 v3 v4 l0 l3 l4)(i:Nat){g t:Nat}{a b c d e f a' b' j d' e' k:Value}(o:bs[i]?=some ⟨g,[a,b,c,d,e,f],t⟩):St w0 w ((((((W.setCell ⟨g,0,none⟩ a').setCell ⟨g,1,none⟩ b').setCell ⟨g,2,none⟩ j).setCell ⟨g,3,none⟩ d').setCell ⟨g,4,none⟩ e').setCell ⟨g,5,none⟩ k) zs S (bs.set i ⟨g,[a',b',j,d',e',k],t⟩) v0 v3 v4 l0 l3 l4:=by have hl:i<bs.length:=(RL.1 o).1;have h1:=h.put i 0 a' o;have l:=h1.put i 1 (g:=g) (cs:=[a',b,c,d,e,f]) (t:=t) b' (by rw[RC hl];rfl);rw[RQ]at l;have h3:=l.put i 2 (g:=g) (cs:=[a',b',c,d,e,f]) (t:=t) j (by rw[RC hl];rfl);rw[RQ]at h3;have h4:=h3.put i 3 (g:=g) (cs:=[a',b',j,d,e,f]) (t:=t) d' (by rw[RC hl];rfl);rw[RQ]at h4;have m:=h4.put i 4 (g:=g) (cs:=[a',b',j,d',e,f]) (t:=t) e' (by rw[RC hl];rfl);rw[RQ]at m;have n:=m.put i 5 (g:=g) (cs:=[a',b',j,d',e',f]) (t:=t) k (by rw[RC hl];rfl);rw[RQ]at n;exact n
theorem DO{α:Type}{d:Kd α}{e base g:Nat}{xs:List α}{a:Value}(h:Kd.V d e W base (Dt zs v3 v4) a xs)(hg:g∈zs)(j:Nat)(x:Value):Kd.V d e (W.setCell ⟨g,j,none⟩ x) base (Dt zs v3 v4) a xs :=
 Kd.AA (p:=⟨g,j,none⟩) h (λk b e=>b.1 (by rw[e];exact hg)) x
theorem Qr{α:Type}{d:Kd α}{e base:Nat}{xs:List α}{c Gv:Value}(h:Kd.V d e W base (Dt zs v3 v4) c xs)(o:Out w0 W W1 zs v3 v4 Gv):Kd.V d e W1 base (Dt zs v3 Gv) c xs:=by
 refine Kd.AD (Kd.PB (Kd.FO h) o.hK (λk a hs=>hs.elim a.1.2.1 a.1.2.2)) (λk a=>⟨a.1.1,a.1.2.1,λe=>?_⟩);rcases o.o4 with f|⟨b,f,g⟩
 ·exact a.1.2.2 (e.trans f)
 rw[f]at e;injection e with e;have:=a.2;omega
end
end Go.Proofs.YtlhlpfnljglhoaaDoor.P
namespace Go.Proofs.YtlhlpfnljglhoaaDoor.P
open Go.RowKit Go.Proofs.YtlhlpfnljglhoaaDoorW.PrintWords Go.Proofs.YtlhlpfnljglhoaaDoorW.Bb Go.Proofs.YtlhlpfnljglhoaaDoorW.Dm
structure Sg (w0 w W:World) (g:Nat) (b:List Int) (p:Int) (zs:List Nat) (bs:List Bx) (v0 v3 v4:Value) (l0:Dy) (l3:En) (l4:Dz):Prop where
 st:St w0 w W zs (λk=>k=g) bs v0 v3 v4 l0 l3 l4
 hI:Ad w0 W g b p
 hz:g∈zs
 hg:g<w.heap.size
section
variable {w0 w W W1:World} {g:Nat} {b:List Int} {p:Int} {zs:List Nat} {bs:List Bx} {v0 v3 v4 u:Value} {l0:Dy} {l3:En} {l4:Dz}
theorem Sg.start(h:WM w0 w zs v0 v3 v4 l0 l3 l4)(hI:Ad w0 w g b p)(hz:g∈zs):Sg w0 w w g b p zs [] v0 v3 v4 l0 l3 l4:=⟨St.start h _,hI,hz,hI.lt⟩
theorem Sg.box(h:Sg w0 w W g b p zs bs v0 v3 v4 l0 l3 l4){a:Nat}{cs:List Value}{t:Nat}(e:a=W.heap.size)(d:Below W.heap.size W W1)(c:W1.heap[a]?=some (.cells cs.toArray t (0,0))):Sg w0 w W1 g b p (a::zs) (⟨a,cs,t⟩::bs) v0 v3 v4 l0 l3 l4 :=
 ⟨h.st.box e d c,h.hI.below d,RU _ h.hz,h.hg⟩
theorem Sg.below(h:Sg w0 w W g b p zs bs v0 v3 v4 l0 l3 l4)(a:Below W.heap.size W W1):Sg w0 w W1 g b p zs bs v0 v3 v4 l0 l3 l4:=⟨h.st.below a,h.hI.below a,h.hz,h.hg⟩
theorem Sg.drew(h:Sg w0 w W g b p zs bs v0 v3 v4 l0 l3 l4):Sg w0 w W.drew g b p zs bs v0 v3 v4 l0 l3 l4:=⟨h.st.drew,h.hI.drew,h.hz,h.hg⟩
theorem Sg.pick{a:Int}(h:Sg w0 w W g b p zs bs v0 v3 v4 l0 l3 l4)(hI:Ad w0 W1 g b a)(hB:Below w0.heap.size w0 W1)(c:Ah W W1 g none):Sg w0 w W1 g b a zs bs v0 v3 v4 l0 l3 l4:=⟨h.st.KD hB c h.hz h.hg rfl,hI,h.hz,h.hg⟩
theorem Sg.put(h:Sg w0 w W g b p zs bs v0 v3 v4 l0 l3 l4)(i j:Nat){a t:Nat}{cs:List Value}(x:Value)(c:bs[i]?=some ⟨a,cs,t⟩):Sg w0 w (W.setCell ⟨a,j,none⟩ x) g b p zs (bs.set i ⟨a,cs.set j x,t⟩) v0 v3 v4 l0 l3 l4 :=
 ⟨h.st.put i j x c,h.hI.ER (p:=⟨a,j,none⟩) (λe=>by have:=h.st.B.ge _ (So c);have:=h.hg;have d:g=a:=e;simp only at *;omega) x,h.hz,h.hg⟩
theorem Sg.CU(h:Sg w0 w W g b p zs bs v0 v3 v4 l0 l3 l4):Ah w W g none:=⟨h.st.B.hK.1,λi h1 a _=>h.st.B.hK.2 i h1 a⟩
theorem QK(hz:g∈zs):∀k,Dt zs v3 v4 k->k≠g:=λk a e=>a.1 (e ▸ hz)
theorem Ly{α:Type}{d:Kd α}{e base:Nat}{xs:List α}{b:Value}(h:Kd.V d e W base (Dt zs v3 v4) b xs)(hz:g∈zs)(a:Ah W W1 g none):Kd.V d e W1 base (Dt zs v3 v4) b xs:=Kd.MR h a (λk a e=>a.1 (e ▸ hz))
theorem Sg.ID(h:Sg w0 w W g b p zs bs v0 v3 v4 l0 l3 l4)(i:Nat){q t:Nat}{r k j e d c b0 b1 b2 b3 b4 b5:Value}(o:bs[i]?=some ⟨q,[r,k,j,e,d,c],t⟩):Sg w0 w ((((((W.setCell ⟨q,0,none⟩ b0).setCell ⟨q,1,none⟩ b1).setCell ⟨q,2,none⟩ b2).setCell ⟨q,3,none⟩ b3).setCell ⟨q,4,none⟩ b4).setCell ⟨q,5,none⟩ b5) g b p zs (bs.set i ⟨q,[b0,b1,b2,b3,b4,b5],t⟩) v0 v3 v4 l0 l3 l4:=by have hl:i<bs.length:=(RL.1 o).1;have h1:=h.put i 0 b0 o;have l:=h1.put i 1 (a:=q) (cs:=[b0,k,j,e,d,c]) (t:=t) b1 (by rw[RC hl];rfl);rw[RQ]at l;have h3:=l.put i 2 (a:=q) (cs:=[b0,b1,j,e,d,c]) (t:=t) b2 (by rw[RC hl];rfl);rw[RQ]at h3;have h4:=h3.put i 3 (a:=q) (cs:=[b0,b1,b2,e,d,c]) (t:=t) b3 (by rw[RC hl];rfl);rw[RQ]at h4;have m:=h4.put i 4 (a:=q) (cs:=[b0,b1,b2,b3,d,c]) (t:=t) b4 (by rw[RC hl];rfl);rw[RQ]at m;have n:=m.put i 5 (a:=q) (cs:=[b0,b1,b2,b3,b4,c]) (t:=t) b5 (by rw[RC hl];rfl);rw[RQ]at n;exact n
theorem Sg.DW(h:Sg w0 w W g b p zs bs v0 v3 v4 l0 l3 l4)(i:Nat){q t:Nat}{n j e d c b0 b1 b2 b3 b4:Value}(m:bs[i]?=some ⟨q,[n,j,e,d,c],t⟩):Sg w0 w (((((W.setCell ⟨q,0,none⟩ b0).setCell ⟨q,1,none⟩ b1).setCell ⟨q,2,none⟩ b2).setCell ⟨q,3,none⟩ b3).setCell ⟨q,4,none⟩ b4) g b p zs (bs.set i ⟨q,[b0,b1,b2,b3,b4],t⟩) v0 v3 v4 l0 l3 l4:=by have hl:i<bs.length:=(RL.1 m).1;have h1:=h.put i 0 b0 m;have k:=h1.put i 1 (a:=q) (cs:=[b0,j,e,d,c]) (t:=t) b1 (by rw[RC hl];rfl);rw[RQ]at k;have h3:=k.put i 2 (a:=q) (cs:=[b0,b1,e,d,c]) (t:=t) b2 (by rw[RC hl];rfl);rw[RQ]at h3;have h4:=h3.put i 3 (a:=q) (cs:=[b0,b1,b2,d,c]) (t:=t) b3 (by rw[RC hl];rfl);rw[RQ]at h4;have l:=h4.put i 4 (a:=q) (cs:=[b0,b1,b2,b3,c]) (t:=t) b4 (by rw[RC hl];rfl);rw[RQ]at l;exact l
theorem Sg.Io(h:Sg w0 w W g b p zs bs v0 v3 v4 l0 l3 l4)(i:Nat){q t:Nat}{A o m k j e d c b0 b1 b2 b3 b4 b5 l n:Value}(z:bs[i]?=some ⟨q,[A,o,m,k,j,e,d,c],t⟩):Sg w0 w ((((((((W.setCell ⟨q,0,none⟩ b0).setCell ⟨q,1,none⟩ b1).setCell ⟨q,2,none⟩ b2).setCell ⟨q,3,none⟩ b3).setCell ⟨q,4,none⟩ b4).setCell ⟨q,5,none⟩ b5).setCell ⟨q,6,none⟩ l).setCell ⟨q,7,none⟩ n) g b p zs (bs.set i ⟨q,[b0,b1,b2,b3,b4,b5,l,n],t⟩) v0 v3 v4 l0 l3 l4:=by have hl:i<bs.length:=(RL.1 z).1;have h1:=h.put i 0 b0 z;have r:=h1.put i 1 (a:=q) (cs:=[b0,o,m,k,j,e,d,c]) (t:=t) b1 (by rw[RC hl];rfl);rw[RQ]at r;have h3:=r.put i 2 (a:=q) (cs:=[b0,b1,m,k,j,e,d,c]) (t:=t) b2 (by rw[RC hl];rfl);rw[RQ]at h3;have h4:=h3.put i 3 (a:=q) (cs:=[b0,b1,b2,k,j,e,d,c]) (t:=t) b3 (by rw[RC hl];rfl);rw[RQ]at h4;have u:=h4.put i 4 (a:=q) (cs:=[b0,b1,b2,b3,j,e,d,c]) (t:=t) b4 (by rw[RC hl];rfl);rw[RQ]at u;have v:=u.put i 5 (a:=q) (cs:=[b0,b1,b2,b3,b4,e,d,c]) (t:=t) b5 (by rw[RC hl];rfl);rw[RQ]at v;have x:=v.put i 6 (a:=q) (cs:=[b0,b1,b2,b3,b4,b5,d,c]) (t:=t) l (by rw[RC hl];rfl);rw[RQ]at x;have y:=x.put i 7 (a:=q) (cs:=[b0,b1,b2,b3,b4,b5,l,c]) (t:=t) n (by rw[RC hl];rfl);rw[RQ]at y;exact y
end
end Go.Proofs.YtlhlpfnljglhoaaDoor.P
namespace Go.Proofs.YtlhlpfnljglhoaaDoor.P
open Go.RowKit Go.Proofs.YtlhlpfnljglhoaaDoorW.PrintWords Go.Proofs.YtlhlpfnljglhoaaDoorW.Bb Go.Proofs.YtlhlpfnljglhoaaDoorW.Dm
theorem PO:(Tryd.prog.info? 95).map (λi=>(i.zero,i.size,i.bytes))=some (some (.agg #[.int .i64 0,.int .i64 0,.int .i64 0,.int .i64 0,.int .i64 0,.int .i64 0,.int .i64 0,.string ⟨#[]⟩]),(Kd.raw 8).sz,72):=by kernel_rfl
theorem KN{P:Program}{fn:Func}{p u:Tmp}{ty:TypeId}(h:fn.results=#[.tmp u,.cell p ty])(tmps:Array Value)(w:World)(g:Nat)(t:TypeId)(cs:Array Value)(fr:Nat×Nat)(d:TypeDesc)
  (c:tmps.getD p undef=.pointer (some ⟨g,0,none⟩))(hg:w.heap[g]?=some (.cells cs t fr))
  (hu:P.underlying ty=some d)(b:(match d with|.struct _|.array _ _=>true|_=>false)=true)(hi:(P.info? ty).map (·.size)=some cs.size) :
  (results fn tmps).run P w=.ok (.tuple #[tmps.getD u undef,.agg cs]) w:=by
 have a:tmps[p]?.getD undef=.pointer (some ⟨g,0,none⟩):=by simpa using c
 simp[results,h,a,asAddr,run_loadVar_row w g t ty cs fr d hg hu b hi]
section
variable {w0 w W W1:World} {g:Nat} {b:List Int} {p:Int} {zs zs':List Nat} {S:Nat->Prop} {bs:List Bx} {v0 v3 v4 u:Value} {l0:Dy} {l3:En} {l4:Dz}
theorem WM.made{base:Nat}{o3 o4:Nat->Prop}{l:Nat->Prop}(hB:Below w0.heap.size w0 W)(hz:∀k,k∈zs->k<base)(b:base≤W.heap.size)(d:w0.heap.size≤base)(h0:Kd.R Ck 32 W base l v0 l0)(h3:Kd.S Ha 26 W base o3 v3 l3)(h4:Kd.S Fh 114 W base o4 v4 l4):WM w0 W zs v0 v3 v4 l0 l3 l4:=by
 have c:∀k,base≤k->k∉zs:=λk a e=>by have:=hz k e;omega
 have i:=Kd.F7 (Kd.Kr h3 (Kd.Ds h4) (by decide));have j:=Kd.F7 (Kd.Kr h4 (Kd.Ds h3) (by decide));have g:=Kd.C4 (Kd.BE (Kd.BE h0 (Kd.Ds h3) (by decide)) (Kd.Ds h4) (by decide))
 exact⟨hB,λk a=>R_ (hz k a) b,Kd.AD (Kd.MH g) (λk a=>⟨c k a.2.1,a.1.1.2,a.1.2⟩),
  Kd.Lt (Kd.Rg (Kd.CM i (λk a=>⟨c k a.2.1,a.1.2⟩))) d,Kd.Lt (Kd.Rg (Kd.CM j (λk a=>⟨c k a.2.1,a.1.2⟩))) d⟩
theorem BX.drop{q:Bx}(h:BX w W (q.g::zs) S (q::bs)):BX w W zs S bs:=by
 have b:=(List.nodup_cons.1 (show(q.g::bs.map Bx.g).Nodup from h.nd))
 exact⟨λc a=>h.at_ c (RU _ a),b.2,λc a=>h.ge c (RU _ a),λc a=>(Sl.1 (h.mem c (RU _ a))).elim (λe=>(b.1 (e ▸ List.mem_map_of_mem a)).elim) id,h.hK⟩
structure Gk (w0 w W:World) (g:Nat) (b:List Int) (p:Int) (eb:Nat) (zs:List Nat) (bs:List Bx) (v0 v3 v4:Value) (l0:Dy) (l3:En) (l4:Dz) (vE:Value) (n:Nat):Prop where
 M:WM w0 W (eb::zs) v0 v3 v4 l0 l3 l4
 B:BX w W zs (λk=>k=g) bs
 hw:w0.heap.size≤w.heap.size
 hI:Ad w0 W g b p
 hz:g∈zs
 hg:g<w.heap.size
 own:vE.ownBlock=some eb
 ge:w.heap.size≤eb
 nb:eb∉zs
 hR:∃rows:List (List Value),rows.length=n∧(Kd.raw 8).R 95 W w0.heap.size (λk=>some k=vE.ownBlock) vE rows
 o3:∀k,v3.ownBlock=some k->w.heap.size≤k
 o4:∀k,v4.ownBlock=some k->w.heap.size≤k
variable {eb n:Nat} {vE:Value}
theorem Gk.below(h:Gk w0 w W g b p eb zs bs v0 v3 v4 l0 l3 l4 vE n)(a:Below W.heap.size W W1):Gk w0 w W1 g b p eb zs bs v0 v3 v4 l0 l3 l4 vE n:=by obtain⟨rows,hl,hR⟩:=h.hR;exact⟨h.M.below a,h.B.below a,h.hw,h.hI.below a,h.hz,h.hg,h.own,h.ge,h.nb,⟨rows,hl,Kd.AJ hR a⟩,h.o3,h.o4⟩
theorem Gk.box(h:Gk w0 w W g b p eb zs bs v0 v3 v4 l0 l3 l4 vE n){a:Nat}{cs:List Value}{t:Nat}(i:a=W.heap.size)(d:Below W.heap.size W W1)(c:W1.heap[a]?=some (.cells cs.toArray t (0,0))):Gk w0 w W1 g b p eb (a::zs) (⟨a,cs,t⟩::bs) v0 v3 v4 l0 l3 l4 vE n:=by obtain⟨rows,hl,hR⟩:=h.hR;have l:eb<W.heap.size:=h.M.hz eb RI;exact⟨(h.M.new i d (Av c)).mono (λk j=>by simp only[List.mem_cons]at j⊢;rcases j with e|e|e <;> simp[e]),h.B.new i d c,h.hw,h.hI.below d,RU _ h.hz,h.hg,h.own,h.ge,not_cons h.nb (by omega),⟨rows,hl,Kd.AJ hR d⟩,h.o3,h.o4⟩
theorem Gk.pick{c:Int}(h:Gk w0 w W g b p eb zs bs v0 v3 v4 l0 l3 l4 vE n)(hI:Ad w0 W1 g b c)(hB:Below w0.heap.size w0 W1)(a:Ah W W1 g none):Gk w0 w W1 g b c eb zs bs v0 v3 v4 l0 l3 l4 vE n:=by obtain⟨rows,hl,hR⟩:=h.hR;exact⟨h.M.KD (RU _ h.hz) hB a,h.B.KD a h.hg rfl,h.hw,hI,h.hz,h.hg,h.own,h.ge,h.nb,⟨rows,hl,Kd.Br hR a (λk a e=>h.nb (by rw[h.own]at a;injection a with a;rw[<-a,e];exact h.hz))⟩,h.o3,h.o4⟩
theorem Gk.put(h:Gk w0 w W g b p eb zs bs v0 v3 v4 l0 l3 l4 vE n)(i j:Nat){a t:Nat}{cs:List Value}(x:Value)(l:bs[i]?=some ⟨a,cs,t⟩):Gk w0 w (W.setCell ⟨a,j,none⟩ x) g b p eb zs (bs.set i ⟨a,cs.set j x,t⟩) v0 v3 v4 l0 l3 l4 vE n:=by obtain⟨rows,hl,hR⟩:=h.hR;have hm:=So l;have d:w.heap.size≤a:=h.B.ge _ hm;have hz:a∈zs:=h.B.mem _ hm;exact⟨h.M.set (RU _ hz) (RJ h.hw d) j x,h.B.set i j x l,h.hw,h.hI.ER (p:=⟨a,j,none⟩) (λe=>by have:=h.hg;have m:g=a:=e;omega) x,h.hz,h.hg,h.own,h.ge,h.nb,⟨rows,hl,Kd.CS hR (p:=⟨a,j,none⟩) (λk c e=>h.nb (by rw[h.own]at c;injection c with c;rw[<-c];exact e ▸ hz)) x⟩,h.o3,h.o4⟩
theorem Gk.app{v1:Value}{a:List (List Value)}(h:Gk w0 w W g b p eb zs bs v0 v3 v4 l0 l3 l4 vE n)(hN:(Kd.raw 8).R 95 W1 w0.heap.size (λ_=>True) v1 a)(hl:a.length=n+1)(hB:Below w0.heap.size w0 W1)(d:W.grownBy W1 vE.ownBlock)(m:v1.ownBlock=vE.ownBlock∨∃b,v1.ownBlock=some b∧W.heap.size≤b):∃l,Gk w0 w W1 g b p l zs bs v0 v3 v4 l0 l3 l4 v1 (n+1):=by
 have v:∀k,vE.ownBlock=some k->k∈eb::zs:=λk c=>by rw[h.own]at c;injection c with c;rw[<-c];exact RI
 obtain⟨b',j,i⟩:∃b',v1.ownBlock=some b'∧(b'=eb∨W.heap.size≤b'):=by
  rcases m with e|⟨b',e,hle⟩
  ·exact⟨eb,e.trans h.own,.inl rfl⟩
  exact⟨b',e,.inr hle⟩
 have r:b'∈eb::zs∨W.heap.size≤b':=i.imp_left (λe=>by rw[e];exact RI);have o:w.heap.size≤b':=i.elim (λe=>e ▸ h.ge) (λe=>RJ h.B.hK.1 e);have t:b'∉zs:=i.elim (λe=>e ▸ h.nb) (λe hm=>by have:=h.M.hz b' (RU _ hm);omega);exact⟨b',⟨h.M.turn (λ_ c=>RU _ c) hB d v r (Kd.EH hN b' j),⟨λq u=>AO (h.B.at_ q u) d (λe=>h.nb (by rw[h.own]at e;injection e with e;exact e ▸ h.B.mem q u)),h.B.nd,h.B.ge,h.B.mem,h.B.hK.DJ d (λk c=>by rw[h.own]at c;injection c with c;exact .inr (c ▸ h.ge))⟩,h.hw,h.hI.grown d (λe=>h.nb (by rw[h.own]at e;injection e with e;exact e ▸ h.hz)),h.hz,h.hg,j,o,t,⟨a,hl,Kd.E_ rfl hN⟩,h.o3,h.o4⟩⟩
theorem Gk.Ru{c Gv:Value}{j:Dy}{l:En}{m:Dz}(h:Gk w0 w W g b p eb zs bs v0 v3 v4 l0 l3 l4 vE n)(o:WM w0 W1 (eb::zs) c v3 Gv j l m)(d:Out w0 W W1 (eb::zs) v3 v4 Gv):Gk w0 w W1 g b p eb zs bs c v3 Gv j l m vE n:=by
 obtain⟨rows,hl,hR⟩:=h.hR;have i:∀k,(some k=v3.ownBlock∨some k=v4.ownBlock)->k∉eb::zs:=λk a=>a.elim (λe=>(h.M.Hz e.symm).1) (λe=>(h.M.I4 e.symm).1)
 refine⟨o,h.B.kept d.hK (λk a=>.inr (a.elim (λe=>h.o3 k e.symm) (λe=>h.o4 k e.symm))) (λk a e=>i k a (RU _ e)),h.hw,h.hI.kept d.hK (λhs=>i g hs (RU _ h.hz)),h.hz,h.hg,h.own,h.ge,h.nb,⟨rows,hl,Kd.Pw hR d.hK (λk a hs=>i k hs (by rw[h.own]at a;injection a with a;rw[a];exact RI))⟩,h.o3,λk a=>?_⟩;rcases d.o4 with e|⟨b',e,hle⟩
 ·exact h.o4 k (e ▸ a)
 rw[e]at a;injection a with a;have:=h.B.hK.1;omega
theorem Gk.drop{q:Bx}(h:Gk w0 w W g b p eb (q.g::zs) (q::bs) v0 v3 v4 l0 l3 l4 vE n):Gk w0 w W g b p eb zs bs v0 v3 v4 l0 l3 l4 vE n :=
 ⟨h.M.mono (λk a=>by simp only[List.mem_cons]at a⊢;rcases a with e|e <;> simp[e]),h.B.drop,h.hw,h.hI,(Sl.1 h.hz).elim (λe=>by have:=h.B.ge q RI;have:=h.hg;omega) id,h.hg,h.own,h.ge,λe=>h.nb (RU _ e),h.hR,h.o3,h.o4⟩
theorem Gk.DW(h:Gk w0 w W g b p eb zs bs v0 v3 v4 l0 l3 l4 vE n)(i:Nat){q t:Nat}{o j e d c b0 b1 b2 b3 b4:Value}(m:bs[i]?=some ⟨q,[o,j,e,d,c],t⟩):Gk w0 w (((((W.setCell ⟨q,0,none⟩ b0).setCell ⟨q,1,none⟩ b1).setCell ⟨q,2,none⟩ b2).setCell ⟨q,3,none⟩ b3).setCell ⟨q,4,none⟩ b4) g b p eb zs (bs.set i ⟨q,[b0,b1,b2,b3,b4],t⟩) v0 v3 v4 l0 l3 l4 vE n:=by have hl:i<bs.length:=(RL.1 m).1;have h1:=h.put i 0 b0 m;have k:=h1.put i 1 (a:=q) (cs:=[b0,j,e,d,c]) (t:=t) b1 (by rw[RC hl];rfl);rw[RQ]at k;have h3:=k.put i 2 (a:=q) (cs:=[b0,b1,e,d,c]) (t:=t) b2 (by rw[RC hl];rfl);rw[RQ]at h3;have h4:=h3.put i 3 (a:=q) (cs:=[b0,b1,b2,d,c]) (t:=t) b3 (by rw[RC hl];rfl);rw[RQ]at h4;have l:=h4.put i 4 (a:=q) (cs:=[b0,b1,b2,b3,c]) (t:=t) b4 (by rw[RC hl];rfl);rw[RQ]at l;exact l
theorem Gk.Io(h:Gk w0 w W g b p eb zs bs v0 v3 v4 l0 l3 l4 vE n)(i:Nat){q t:Nat}{B r m k j e d c b0 b1 b2 b3 b4 b5 l o:Value}(A:bs[i]?=some ⟨q,[B,r,m,k,j,e,d,c],t⟩):Gk w0 w ((((((((W.setCell ⟨q,0,none⟩ b0).setCell ⟨q,1,none⟩ b1).setCell ⟨q,2,none⟩ b2).setCell ⟨q,3,none⟩ b3).setCell ⟨q,4,none⟩ b4).setCell ⟨q,5,none⟩ b5).setCell ⟨q,6,none⟩ l).setCell ⟨q,7,none⟩ o) g b p eb zs (bs.set i ⟨q,[b0,b1,b2,b3,b4,b5,l,o],t⟩) v0 v3 v4 l0 l3 l4 vE n:=by have hl:i<bs.length:=(RL.1 A).1;have h1:=h.put i 0 b0 A;have u:=h1.put i 1 (a:=q) (cs:=[b0,r,m,k,j,e,d,c]) (t:=t) b1 (by rw[RC hl];rfl);rw[RQ]at u;have h3:=u.put i 2 (a:=q) (cs:=[b0,b1,m,k,j,e,d,c]) (t:=t) b2 (by rw[RC hl];rfl);rw[RQ]at h3;have h4:=h3.put i 3 (a:=q) (cs:=[b0,b1,b2,k,j,e,d,c]) (t:=t) b3 (by rw[RC hl];rfl);rw[RQ]at h4;have v:=h4.put i 4 (a:=q) (cs:=[b0,b1,b2,b3,j,e,d,c]) (t:=t) b4 (by rw[RC hl];rfl);rw[RQ]at v;have x:=v.put i 5 (a:=q) (cs:=[b0,b1,b2,b3,b4,e,d,c]) (t:=t) b5 (by rw[RC hl];rfl);rw[RQ]at x;have y:=x.put i 6 (a:=q) (cs:=[b0,b1,b2,b3,b4,b5,d,c]) (t:=t) l (by rw[RC hl];rfl);rw[RQ]at y;have z:=y.put i 7 (a:=q) (cs:=[b0,b1,b2,b3,b4,b5,l,c]) (t:=t) o (by rw[RC hl];rfl);rw[RQ]at z;exact z
theorem Gk.Rw{v1:Value}(h:Sg w0 w W g b p zs bs v0 v3 v4 l0 l3 l4)(hN:(Kd.raw 8).R 95 W1 w0.heap.size (λ_=>True) v1 [])(hB:Below w0.heap.size w0 W1)(a:W.grownBy W1 none)(d:∃b,v1.ownBlock=some b∧W.heap.size≤b)(o3:∀k,v3.ownBlock=some k->w.heap.size≤k)(o4:∀k,v4.ownBlock=some k->w.heap.size≤k):∃eb,Gk w0 w W1 g b p eb zs bs v0 v3 v4 l0 l3 l4 v1 0:=by obtain⟨eb,i,hle⟩:=d;exact⟨eb,⟨h.st.M.turn (λ_ c=>c) hB a (λk c=>by cases c) (.inr hle) (Kd.EH hN eb i),⟨λq j=>AO (h.st.B.at_ q j) a (λe=>by cases e),h.st.B.nd,h.st.B.ge,h.st.B.mem,h.st.B.hK.DJ a (λk c=>by cases c)⟩,h.st.hw,h.hI.grown a (by simp),h.hz,h.hg,i,RJ h.st.B.hK.1 hle,λhm=>by have:=h.st.M.hz eb hm;omega,⟨[],rfl,Kd.E_ rfl hN⟩,o3,o4⟩⟩
theorem Sg.made{l:Nat}{cs:List Value}{t:Nat}{o3 o4 o:Nat->Prop}(hI:Ad w0 w g b p)(hB:Below w0.heap.size w0 w)(hg:l=w.heap.size)(d:Below w.heap.size w W)(c:W.heap[l]?=some (.cells cs.toArray t (0,0)))(a:Below W.heap.size W W1)(h0:Kd.R Ck 32 W1 W.heap.size o v0 l0)(h3:Kd.S Ha 26 W1 W.heap.size o3 v3 l3)(h4:Kd.S Fh 114 W1 W.heap.size o4 v4 l4):Sg w0 w W1 g b p [l,g] [⟨l,cs,t⟩] v0 v3 v4 l0 l3 l4:=by
 have i:=hI.lt;have n:=Av c;refine⟨⟨WM.made (base:=W.heap.size) (IY (IY hB d) a) (λk m=>?_) a.size (RJ hB.size d.size) h0 h3 h4,⟨λq j=>?_,by simp,λq j=>?_,λq j=>?_,(Kept.Dl d _).below a⟩,hB.size⟩,(hI.below d).below a,by simp,i⟩
 ·simp only[List.mem_cons,List.not_mem_nil,or_false]at m;rcases m with e|e
  ·rw[e];exact n
  rw[e];exact R_ i d.size
 ·rw[SK.1 j];exact Ao c a
 ·rw[SK.1 j];exact Sd hg.symm
 rw[SK.1 j];simp
end
end Go.Proofs.YtlhlpfnljglhoaaDoor.P
namespace Go.Proofs.YtlhlpfnljglhoaaDoor.P
open Go.RowKit Go.Proofs.YtlhlpfnljglhoaaDoorW.PrintWords Go.Proofs.YtlhlpfnljglhoaaDoorW.Bb Go.Proofs.YtlhlpfnljglhoaaDoorW.Dm
theorem DR.calls(k:Nat)(zs:List Nat)(v0 v3 v4:Value)(l0:Dy)(s:Int)(u:Bool)(l3:En)(l4:Dz)(ek T X o0 o1 o2 o3:Int)(o4:ByteArray)(r0:Dy)(r1:Int)(r2:Bool)(r3:En)(r4:Dz)(w0 w:World)(h:WM w0 w zs v0 v3 v4 l0 l3 l4)
  (B:DR.f k ⟨l0,s,u,l3,l4⟩ ⟨ek,T,X,⟨o0,o1,o2,o3,o4⟩⟩=some ⟨r0,r1,r2,r3,r4⟩) :
  Calls Tryd.prog 68 #[.agg #[v0,.int .i64 s,.bool u,v3,v4],.agg #[.int .i64 ek,.int .i64 T,.int .i64 X,.int .i64 o0,.int .i64 o1,.int .i64 o2,.int .i64 o3,.string o4]] w λe w'=>∃Gv,e=.returned (.agg #[v0,.int .i64 r1,.bool r2,v3,Gv])∧WM w0 w' zs v0 v3 Gv r0 r3 r4∧Out w0 w w' zs v3 v4 Gv:=by
 have aK:=RK;have aC:=Ti;have aL:=Sn;have aJ:=Sh;have aI:=Sk;have aG:=RP;have aH:=RW;obtain⟨G,I,rfl⟩:=Kd.Cd h.h0;obtain⟨J,c4,rfl⟩:=Kd.C3 h.h4;unfold DR.f at B;dsimp only at B;by_cases c:1≤T∧T≤3
 ·rw[Ry c]at B;have IN:=a_ (K_ c);obtain⟨j,hj⟩:∃j,j=T-1:=⟨_,rfl⟩
  rw[<-hj]at B;have aP:wrap64 (T-1)=j:=by rw[hj];unfold wrap64;omega
  by_cases c2:j<(l3.length:Int)
  ·rw[Ry c2]at B;have CC:=a_ (show 0≤j∧j<(l3.length:Int)from⟨by omega,c2⟩);have q2:(0≤j)=True:=RA CC.o.1;have q3:=RA c2;obtain⟨r,c3,rfl,-⟩:=Kd.JO h.h3 (by omega);have M:=a_ (St.start h (λk=>some k=(Value.slice (some ⟨r,0,none⟩) l3.length c3).ownBlock∨some k=(Value.slice J l4.length c4).ownBlock));obtain⟨l,ai⟩:∃c:EZ,c=AE l3 j:=⟨_,rfl⟩
   rw[<-ai]at B;have HC:=a_ ai;clear h c c2 hj ai;go_enter Tryd.func68,Tryd.ntmps68
   go_upto_region 4 with(first
    | ((with_reducible refine BV (N:=2) rfl ?_);refine Cy 2 (#[.slice G l0.length I,.int .i64 s,.bool u,.slice (some ⟨r,0,none⟩) l3.length c3,.slice J l4.length c4]) 64 ?_;intro z hg w1 o q;have D:=M.o.box (cs:=[.slice G l0.length I,.int .i64 s,.bool u,.slice (some ⟨r,0,none⟩) l3.length c3,.slice J l4.length c4]) hg q o;clear M o q hg;have M:=a_ D;clear D)
    | ((with_reducible refine BV (N:=3) rfl ?_);refine Cy 3 (#[.int .i64 ek,.int .i64 T,.int .i64 X,.int .i64 o0,.int .i64 o1,.int .i64 o2,.int .i64 o3,.string o4]) 95 ?_;intro L hg w2 o q;have D:=M.o.box (cs:=[.int .i64 ek,.int .i64 T,.int .i64 X,.int .i64 o0,.int .i64 o1,.int .i64 o2,.int .i64 o3,.string o4]) hg q o;clear M o q hg;have M:=a_ D;clear D)
    | ((with_reducible refine BV (N:=4) rfl ?_);refine Cy 4 (#[.slice none 0 0,.int .i64 0,.bool false,.slice none 0 0,.slice none 0 0]) 64 ?_;intro A hg w3 o q;have D:=M.o.box (cs:=[.slice none 0 0,.int .i64 0,.bool false,.slice none 0 0,.slice none 0 0]) hg q o;clear M o q hg;have M:=a_ D;clear D;obtain⟨z0,z1,z2,U,z4,y⟩:=M.o.B.c5 2 rfl;obtain⟨x0,x1,x2,x3,x4,x5,x6,x7,-⟩:=M.o.B.c8 1 rfl;obtain⟨t0,t1,t2,t3,t4,ty⟩:=M.o.B.c5 0 rfl)
    | (go_at_call 20;(with_reducible refine(Ar.calls T 1 3 true _ IN.o).mono ?_);rintro e w4 ⟨rfl,Y⟩;have D:=M.o.below Y.below;clear M Y z0 z1 z2 U z4 y x0 x1 x2 x3 x4 x5 x6 x7 t0 t1 t2 t3 t4 ty;have M:=a_ D;clear D;obtain⟨z0,z1,z2,U,z4,y⟩:=M.o.B.c5 2 rfl;obtain⟨x0,x1,x2,x3,x4,x5,x6,x7,-⟩:=M.o.B.c8 1 rfl;obtain⟨t0,t1,t2,t3,t4,ty⟩:=M.o.B.c5 0 rfl;obtain⟨B2,b2,B3,b3,⟨f0,f1,f2,f3,f4,f5⟩,g2,ah,-⟩:=M.o.elem j CC.o.1 CC.o.2;rw[<-HC.o]at f0 f1 f2 f3 f4 f5 g2 ah;have H2:=a_ g2;have O:=a_ ah;clear g2 ah)
    | ((with_reducible refine BV (N:=5) rfl ?_);refine Cy 5 (#[.int .i64 0,.int .i64 0,.slice none 0 0,.slice none 0 0,.int .i64 0,.int .i64 0]) 26 ?_;intro E hg w5 o q;have D:=M.o.box (cs:=[.int .i64 0,.int .i64 0,.slice none 0 0,.slice none 0 0,.int .i64 0,.int .i64 0]) hg q o;have aa:=a_ (Gq H2.o hg q);have P:=a_ (Gq O.o hg q);replace f0:=(q.cell (FV _ _ f0)).trans f0;replace f1:=(q.cell (FV _ _ f1)).trans f1;replace f2:=(q.cell (FV _ _ f2)).trans f2;replace f3:=(q.cell (FV _ _ f3)).trans f3;replace f4:=(q.cell (FV _ _ f4)).trans f4;replace f5:=(q.cell (FV _ _ f5)).trans f5;clear M H2 O z0 z1 z2 U z4 y x0 x1 x2 x3 x4 x5 x6 x7 t0 t1 t2 t3 t4 ty o q hg;have M:=a_ D;clear D;have H2:=aa;have O:=P;clear aa P;obtain⟨d0,d1,d2,d3,d4,d5,dy⟩:=M.o.B.c6 0 rfl)
    | ((with_reducible refine Dc (t:=26) (p:=5) rfl ?_);refine CY (t:=26) (p:=5) (v:=?q') (w1:=((((((w5.setCell ⟨E,0,none⟩ (.int .i64 l.f0)).setCell ⟨E,1,none⟩ (.int .i64 l.f1)).setCell ⟨E,2,none⟩ (.slice B2 l.f2.length b2)).setCell ⟨E,3,none⟩ (.slice B3 l.f3.length b3)).setCell ⟨E,4,none⟩ (.int .i64 l.f4)).setCell ⟨E,5,none⟩ (.int .i64 l.f5))) ?hg ?ho ?hn ?hr ?_;(case ho=>rfl);(case hg=>rfl);(case hn=>rfl);(case hr=>first|(go_simp;done)|(go_simp;rfl));intro w6 hw;have D:St w0 w _ (E::A::L::z::zs) _ [⟨E,[.int .i64 l.f0,.int .i64 l.f1,.slice B2 l.f2.length b2,.slice B3 l.f3.length b3,.int .i64 l.f4,.int .i64 l.f5],26⟩,⟨A,[.slice none 0 0,.int .i64 0,.bool false,.slice none 0 0,.slice none 0 0],64⟩,⟨L,[.int .i64 ek,.int .i64 T,.int .i64 X,.int .i64 o0,.int .i64 o1,.int .i64 o2,.int .i64 o3,.string o4],95⟩,⟨z,[.slice G l0.length I,.int .i64 s,.bool u,.slice (some ⟨r,0,none⟩) l3.length c3,.slice J l4.length c4],64⟩] _ _ _ _ _ _:=M.o.ID 0 rfl;rw[<-hw]at D;have aa:=a_ (show Kd.V Dd 68 w6 w0.heap.size (Dt (E::A::L::z::zs) (.slice (some ⟨r,0,none⟩) l3.length c3) (.slice J l4.length c4)) (.slice B2 l.f2.length b2) l.f2 by rw[hw];exact(DO (DO (DO (DO (DO (DO H2.o RI 0 _) RI 1 _) RI 2 _) RI 3 _) RI 4 _) RI 5 _));have P:=a_ (show Kd.V Ck 32 w6 w0.heap.size (Dt (E::A::L::z::zs) (.slice (some ⟨r,0,none⟩) l3.length c3) (.slice J l4.length c4)) (.slice B3 l.f3.length b3) l.f3 by rw[hw];exact(DO (DO (DO (DO (DO (DO O.o RI 0 _) RI 1 _) RI 2 _) RI 3 _) RI 4 _) RI 5 _));clear M H2 O hw f0 f1 f2 f3 f4 f5 d0 d1 d2 d3 d4 d5 dy;have M:=a_ D;have H2:=aa;have O:=P;clear D aa P;obtain⟨z0,z1,z2,U,z4,y⟩:=M.o.B.c5 3 rfl;obtain⟨x0,x1,x2,x3,x4,x5,x6,x7,-⟩:=M.o.B.c8 2 rfl;obtain⟨t0,t1,t2,t3,t4,ty⟩:=M.o.B.c5 1 rfl;obtain⟨d0,d1,d2,d3,d4,d5,dy⟩:=M.o.B.c6 0 rfl))
   by_cases k1:ek=1
   ·rw[Ry k1]at B;have cb:(ek==1)=true:=RO.mpr k1;clear k1;obtain⟨⟨p1,p2,p3,p4,p5,p6,p7⟩,hp,B⟩:=BR B;simp only[Option.some.injEq,Wd.mk.injEq]at B;obtain⟨rfl,rfl,rfl,rfl,rfl⟩:=B;have HP:=a_ hp;clear hp;go_upto_region 6 with(fail)
    have ao:=a_ (Kd.BO H2.o);have ae:=a_ (Kd.BO O.o);have Md:=a_ M.o.drew;clear M H2 O;have M:=Md;have H2:=ao;have O:=ae;clear Md ao ae;refine Cl (n:=14) (S:=λw'=>w'.cell? ⟨z,3,none⟩=some (.slice (some ⟨r,0,none⟩) l3.length c3)∧w'.cell? ⟨L,1,none⟩=some (.int .i64 T)∧w'.cell? ⟨L,3,none⟩=some (.int .i64 o0)∧w'.cell? ⟨L,4,none⟩=some (.int .i64 o1)∧w'.cell? ⟨L,5,none⟩=some (.int .i64 o2)∧w'.cell? ⟨L,6,none⟩=some (.int .i64 o3)∧w'.cell? ⟨L,7,none⟩=some (.string o4)∧w'.cell? ⟨E,0,none⟩=some (.int .i64 l.f0)∧w'.cell? ⟨E,1,none⟩=some (.int .i64 l.f1)∧w'.cell? ⟨E,2,none⟩=some (.slice B2 l.f2.length b2)∧w'.cell? ⟨E,3,none⟩=some (.slice B3 l.f3.length b3)∧w'.cell? ⟨E,4,none⟩=some (.int .i64 l.f4)∧w'.cell? ⟨E,5,none⟩=some (.int .i64 l.f5)) (ds:=[13]) #[false,false,false,false,false,false,false,false,false,false,false,false,false,false] (by kernel_rfl) rfl rfl ⟨U,x1,x3,x4,x5,x6,x7,d0,d1,d2,d3,d4,d5⟩ (λm=>?_);refine Bf 0 24 ?_;refine Bf 2 26 ?_;refine Bf 6 30 ?_;refine Fg 1 25 m ?_;refine Fg 3 27 m ?_;refine Bf 4 28 ?_;refine Fg 5 29 m ?_;refine Fg 7 31 m ?_;refine E7 8 32 (λK hK=>?_);refine C7 Tryd.func26 (by kernel_rfl) rfl #[.agg #[.int .i64 l.f0,.int .i64 l.f1,.slice B2 l.f2.length b2,.slice B3 l.f3.length b3,.int .i64 l.f4,.int .i64 l.f5],.agg #[.int .i64 o0,.int .i64 o1,.int .i64 o2,.int .i64 o3,.string o4]] (by rfl) rfl rfl (by simp only[List.map_toArray,List.map_cons,List.map_nil];rfl) ?_;with_reducible refine(Bs.calls k l.f0 l.f1 (Dt (E::A::L::z::zs) (.slice (some ⟨r,0,none⟩) l3.length c3) (.slice J l4.length c4)) B2 b2 l.f2 (Dt (E::A::L::z::zs) (.slice (some ⟨r,0,none⟩) l3.length c3) (.slice J l4.length c4)) B3 b3 l.f3 l.f4 l.f5 o0 o1 o2 o3 o4 p1 p2 p3 p4 p5 p6 p7 _ (show Kd.V _ _ _ _ _ _ _ from H2.o) (show Kd.V _ _ _ _ _ _ _ from O.o) HP.o).mono ?_
    rintro e w8 ⟨aV,aW,rfl,al,an,q⟩;refine⟨_,rfl,?_⟩;obtain⟨W,aM,ay⟩:=Kd.Cd al;subst ay;obtain⟨D3,aN,aA⟩:=Kd.Cd an;subst aA;have G2:=a_ (MQ (b':=0) M.o.M al (λk Z=>Z.elim id id));have G3:=a_ (MQ (b':=0) M.o.M an (λk Z=>Z.elim id id));have D:=M.o.below q;clear M H2 O al an q z0 z1 z2 U z4 y x0 x1 x2 x3 x4 x5 x6 x7 t0 t1 t2 t3 t4 ty d0 d1 d2 d3 d4 d5 dy;have M:=a_ D;clear D;obtain⟨z0,z1,z2,U,z4,y⟩:=M.o.B.c5 3 rfl;obtain⟨x0,x1,x2,x3,x4,x5,x6,x7,-⟩:=M.o.B.c8 2 rfl;obtain⟨t0,t1,t2,t3,t4,ty⟩:=M.o.B.c5 1 rfl;obtain⟨d0,d1,d2,d3,d4,d5,dy⟩:=M.o.B.c6 0 rfl;obtain⟨_,_,_,_,⟨f0,f1,f2,f3,f4,f5⟩,-,-,fz⟩:=M.o.elem j CC.o.1 CC.o.2;have aO:w8.frozen? ⟨r,j.toNat*6,none⟩=false:=fz 0;have aD:A≠z:=M.o.B.ne (i:=1) (i':=3) rfl rfl (by decide);have aR:z≠A:=λe=>aD e.symm
    have NZ:=a_ (M.o.M.Hz (k:=r) (by simp[Value.ownBlock]));have aE:r≠z:=λe=>NZ.o.1 (by simp[e])
    have aS:z≠r:=λe=>aE e.symm
    have aF:r≠A:=λe=>NZ.o.1 (by simp[e])
    have aT:A≠r:=λe=>aF e.symm
    refine hK.out _ _ ⟨U,x1,x3,x4,x5,x6,x7,d0,d1,d2,d3,d4,d5⟩ (λm=>?_);clear hK K;refine Er 32 ?_;refine Bf 9 23 ?_;refine Bf 10 33 ?_;refine Bf 11 34 ?_;refine Bf 12 35 ?_;refine Fe (i:=13) (N:=none) #[true,true,true,true,true,true,true,true,true,true,true,true,true,true] rfl rfl (by kernel_rfl) (by decide) (λK hK=>?_);refine EL (w1:=?_) (by rfl) rfl ?_ ?_;rotate_left
    ·go_simp;rfl
    refine hK.out _ _ ?_;clear hK K;refine CV (by kernel_rfl) ?_;go_wp2;have W:St w0 w _ (E::A::L::z::zs) _ [⟨E,[.int .i64 l.f0,.int .i64 l.f1,.slice B2 l.f2.length b2,.slice B3 l.f3.length b3,.int .i64 l.f4,.int .i64 l.f5],26⟩,⟨A,[.slice G l0.length I,.int .i64 s,.bool u,.slice (some ⟨r,0,none⟩) l3.length c3,.slice J l4.length c4],64⟩,⟨L,[.int .i64 ek,.int .i64 T,.int .i64 X,.int .i64 o0,.int .i64 o1,.int .i64 o2,.int .i64 o3,.string o4],95⟩,⟨z,[.slice G l0.length I,.int .i64 s,.bool u,.slice (some ⟨r,0,none⟩) l3.length c3,.slice J l4.length c4],64⟩] _ _ _ _ _ _:=(M.o.JZ (a:=p1) (b:=p2) (c:=p5) (d:=p6) (.inl (by simp[Value.ownBlock])) j CC.o.1 CC.o.2 G2.o G3.o).DW 1 rfl;have DB:=W.B.Ex 1 rfl;refine RH (RF rfl _ _ A 64 #[.slice G l0.length I,.int .i64 s,.bool u,.slice (some ⟨r,0,none⟩) l3.length c3,.slice J l4.length c4] (0,0) _ rfl DB RK rfl (by kernel_rfl)) rfl ?_;exact⟨_,rfl,W.M.mono (λk Z=>by simp[Z]),W.B.hK,.inl rfl⟩
   rw[Rz k1]at B;have cb:(ek==1)=false:=Dr k1;clear k1;by_cases k2:ek=2
   ·rw[Ry k2]at B;have aw:(ek==2)=true:=RO.mpr k2;clear k2;obtain⟨lt,ak⟩:∃x:Dz,x=Gu l4 l.f3:=⟨_,rfl⟩
    rw[<-ak]at B;simp only[Option.some.injEq,Wd.mk.injEq]at B;obtain⟨rfl,rfl,rfl,rfl,rfl⟩:=B;have aq:=a_ (show Gu l4 (l.f3.drop (0:Int).toNat)=lt from ak.symm);have LB:=a_ (show l.f3.length≤9223372036854775807 from(Kd.AY O.o).2.2.2.1);clear ak;go_wp2;go_loopg [6] (l.f3.length+1) (λkq v6 w'=>∃(i:Int) (lq:Dz) (q4:Value),v6=.int .i64 i∧Ac (0≤i∧i≤(l.f3.length:Int)∧(l.f3.length:Int)-i<kq∧kq≤l.f3.length+1)∧Ac (Gu lq (l.f3.drop i.toNat)=lt)∧Ac (St w0 w w' (E::A::L::z::zs) (λk=>some k=(Value.slice (some ⟨r,0,none⟩) l3.length c3).ownBlock∨some k=(Value.slice J l4.length c4).ownBlock) [⟨E,[.int .i64 l.f0,.int .i64 l.f1,.slice B2 l.f2.length b2,.slice B3 l.f3.length b3,.int .i64 l.f4,.int .i64 l.f5],26⟩,⟨A,[.slice none 0 0,.int .i64 0,.bool false,.slice none 0 0,.slice none 0 0],64⟩,⟨L,[.int .i64 ek,.int .i64 T,.int .i64 X,.int .i64 o0,.int .i64 o1,.int .i64 o2,.int .i64 o3,.string o4],95⟩,⟨z,[.slice G l0.length I,.int .i64 s,.bool u,.slice (some ⟨r,0,none⟩) l3.length c3,q4],64⟩] (.slice G l0.length I) (.slice (some ⟨r,0,none⟩) l3.length c3) q4 l0 l3 lq)∧Ac (Kd.V Ck 32 w' w0.heap.size (Dt (E::A::L::z::zs) (.slice (some ⟨r,0,none⟩) l3.length c3) q4) (.slice B3 l.f3.length b3) l.f3)∧Ac (q4.ownBlock=(Value.slice J l4.length c4).ownBlock∨∃b,q4.ownBlock=some b∧w.heap.size≤b))
    case atStart=>exact⟨0,l4,.slice J l4.length c4,rfl,⟨by omega,by omega,by omega,by omega⟩,aq,M,O,⟨.inl rfl⟩⟩
    clear M H2 O aq z0 z1 z2 U z4 y x0 x1 x2 x3 x4 x5 x6 x7 t0 t1 t2 t3 t4 ty d0 d1 d2 d3 d4 d5 dy;obtain⟨i,lq,q4,rfl,HI,HS,M,O,OO⟩:=hrel;cases gk with
    | zero=>exact absurd HI.o.2.2.1 (by have:=HI.o;omega)
    | succ k1 =>
     obtain⟨A9,c9,rfl⟩:=Kd.C3 M.o.M.h4
     obtain⟨z0,z1,z2,U,z4,y⟩:=M.o.B.c5 3 rfl;obtain⟨x0,x1,x2,x3,x4,x5,x6,x7,-⟩:=M.o.B.c8 2 rfl;obtain⟨t0,t1,t2,t3,t4,ty⟩:=M.o.B.c5 1 rfl;obtain⟨d0,d1,d2,d3,d4,d5,dy⟩:=M.o.B.c6 0 rfl
     by_cases c3:i<(l.f3.length:Int)
     ·have av:decide (i<(l.f3.length:Int))=true:=BM c3
      obtain⟨ad,rfl,e0,e1,e2,e3,e4,e5,e6⟩:=Rj O.o i HI.o.1 c3
      obtain⟨ln,aj⟩:∃x:Dz,x=BN.f lq ⟨0,0,[(Aa l.f3 i)]⟩:=⟨_,rfl⟩
      have ar:=a_ (show Gu ln (l.f3.drop (i+1).toNat)=lt by rw[aj,<-Lk lq l.f3 i HI.o.1 c3];exact HS.o)
      have HQ:=a_ aj
      have II:=a_ (And.intro HI.o.1 (And.intro c3 (show wrap64 (i+1)=i+1 by have:=HI.o;have:=LB.o;unfold wrap64;omega)))
      have q4:=RA HI.o.1
      have q5:=RA c3
      have aQ:=II.o.2.2
      clear c3 HS aj
      go_upto_region 11 with(fail)
      have ae:=a_ (Kd.BO O.o)
      have Md:=a_ M.o.drew
      clear M O
      have M:=Md
      have O:=ae
      clear Md ae
      refine Cl (n:=10) (S:=λw'=>w'.cell? ⟨z,0,none⟩=some (.slice G l0.length I)∧w'.cell? ⟨z,1,none⟩=some (.int .i64 s)∧w'.cell? ⟨z,2,none⟩=some (.bool u)∧w'.cell? ⟨z,3,none⟩=some (.slice (some ⟨r,0,none⟩) l3.length c3)∧w'.cell? ⟨z,4,none⟩=some (.slice A9 lq.length c9)∧w'.cell? ⟨E,3,none⟩=some (.slice (some ad) l.f3.length b3)∧w'.cell? (ad.add (i.toNat*7))=some (.int .i64 (Aa l.f3 i).f0)∧w'.cell? ⟨(ad.add (i.toNat*7)).block,(ad.add (i.toNat*7)).off+1,none⟩=some (.int .i64 (Aa l.f3 i).f1)∧w'.cell? ⟨(ad.add (i.toNat*7)).block,(ad.add (i.toNat*7)).off+2,none⟩=some (.int .i64 (Aa l.f3 i).f2.f0)∧w'.cell? ⟨(ad.add (i.toNat*7)).block,(ad.add (i.toNat*7)).off+3,none⟩=some (.int .i64 (Aa l.f3 i).f2.f1)∧w'.cell? ⟨(ad.add (i.toNat*7)).block,(ad.add (i.toNat*7)).off+4,none⟩=some (.int .i64 (Aa l.f3 i).f2.f2)∧w'.cell? ⟨(ad.add (i.toNat*7)).block,(ad.add (i.toNat*7)).off+5,none⟩=some (.int .i64 (Aa l.f3 i).f2.f3)∧w'.cell? ⟨(ad.add (i.toNat*7)).block,(ad.add (i.toNat*7)).off+6,none⟩=some (.string (Aa l.f3 i).f2.f4)) (ds:=[8,9]) #[false,false,false,false,false,false,false,false,false,false] (by kernel_rfl) rfl rfl ⟨z0,z1,z2,U,z4,d3,e0,e1,e2,e3,e4,e5,e6⟩ (λm=>?_)
      refine Bf 1 46 ?_
      refine Bf 3 48 ?_
      refine Fg 0 45 m ?_
      refine Fg 2 47 m ?_
      refine Bf 4 49 ?_
      refine Fg 5 50 m ?_
      refine E7 6 51 (λK hK=>?_)
      refine Kd.DU Ck _ 32 ?hg (N:=51) ?hd (xs:=([(Aa l.f3 i)]:Dy)) (inner:=[.int .i64 (Aa l.f3 i).f0,.int .i64 (Aa l.f3 i).f1,.int .i64 (Aa l.f3 i).f2.f0,.int .i64 (Aa l.f3 i).f2.f1,.int .i64 (Aa l.f3 i).f2.f2,.int .i64 (Aa l.f3 i).f2.f3,.string (Aa l.f3 i).f2.f4]) (ok:=λ_=>True) (okp:=λ_=>True) ?hr ?hp (λ_ Z=>Z) trivial (RG _ _) (RB _) (by simp) ?_;(case hd=>rfl);(case hg=>rfl);(case hr=>first|(go_simp;done)|(go_simp;rfl));(case hp=>exact(Bn.c7 (show Kd.M Ck _ _ _ (Aa l.f3 i) [.int .i64 (Aa l.f3 i).f0,.int .i64 (Aa l.f3 i).f1,.int .i64 (Aa l.f3 i).f2.f0,.int .i64 (Aa l.f3 i).f2.f1,.int .i64 (Aa l.f3 i).f2.f2,.int .i64 (Aa l.f3 i).f2.f3,.string (Aa l.f3 i).f2.f4]from(EX _ _ _ (Aa l.f3 i))) (Bn.none _ _)))
      intro u1 w8 ho q hg aB
      have HN:=a_ (MS (b:=w0.heap.size) M.o.M ho)
      obtain⟨ab,DM,ag⟩:=Kd.Cd HN.o
      subst ag
      have P:=a_ (Kd.Bh O.o q)
      have D:=M.o.below q
      have XX:=a_ (show _ from(⟨(q.cell (FV _ _ e0)).trans e0,(q.cell (FV _ _ e1)).trans e1,(q.cell (FV _ _ e2)).trans e2,(q.cell (FV _ _ e3)).trans e3,(q.cell (FV _ _ e4)).trans e4,(q.cell (FV _ _ e5)).trans e5,(q.cell (FV _ _ e6)).trans e6⟩:_∧_∧_∧_∧_∧_∧_))
      clear M O ho q hg aB e0 e1 e2 e3 e4 e5 e6 z0 z1 z2 U z4 y x0 x1 x2 x3 x4 x5 x6 x7 t0 t1 t2 t3 t4 ty d0 d1 d2 d3 d4 d5 dy
      have M:=a_ D
      have O:=P
      clear D P
      obtain⟨z0,z1,z2,U,z4,y⟩:=M.o.B.c5 3 rfl;obtain⟨x0,x1,x2,x3,x4,x5,x6,x7,-⟩:=M.o.B.c8 2 rfl;obtain⟨t0,t1,t2,t3,t4,ty⟩:=M.o.B.c5 1 rfl;obtain⟨d0,d1,d2,d3,d4,d5,dy⟩:=M.o.B.c6 0 rfl
      obtain⟨e0,e1,e2,e3,e4,e5,e6⟩:=XX.o
      clear XX
      refine hK.out _ _ ⟨z0,z1,z2,U,z4,d3,e0,e1,e2,e3,e4,e5,e6⟩ (λm=>?_)
      clear hK K
      refine Er 51 ?_
      refine Bf 7 52 ?_
      refine Fe (i:=8) (N:=some 53) #[true,true,true,true,true,true,true,true,true,false] rfl rfl (by kernel_rfl) (by decide) (λK hK=>?_)
      refine C7 Tryd.func72 (by kernel_rfl) rfl #[.agg #[.slice G l0.length I,.int .i64 s,.bool u,.slice (some ⟨r,0,none⟩) l3.length c3,.slice A9 lq.length c9],.agg #[.int .i64 0,.int .i64 0,.slice ab ([(Aa l.f3 i)]:Dy).length DM]] (by rfl) rfl rfl (by simp only[List.map_toArray,List.map_cons,List.map_nil];rfl) ?_
      with_reducible refine(BN.calls (E::A::L::z::zs) (.slice G l0.length I) (.slice (some ⟨r,0,none⟩) l3.length c3) (.slice A9 lq.length c9) (.slice ab ([(Aa l.f3 i)]:Dy).length DM) l0 s u l3 lq 0 0 [(Aa l.f3 i)] w0 _ M.o.M HN.o).mono ?_
      rintro e w9 ⟨Gv,rfl,hM,hO⟩
      refine⟨_,rfl,?_⟩
      rw[<-HQ.o]at hM
      obtain⟨A7,c7,e7⟩:=Kd.C3 hM.h4
      subst e7
      have HK:=hO.hK
      have BB:=M.o.B.kept hO.hK (λk Z=>Z.elim (λe=>.inl (.inl e)) (λe=>OO.o.elim (λf=>.inl (.inr (e.trans f))) (λ⟨b,f,g⟩=>.inr (by rw[f]at e;injection e with e;omega)))) (λk Z=>Z.elim (λe=>(M.o.M.Hz e.symm).1) (λe=>(M.o.M.I4 e.symm).1))
      have P:=a_ (show Kd.V Ck 32 w9 w0.heap.size (Dt (E::A::L::z::zs) (.slice (some ⟨r,0,none⟩) l3.length c3) (.slice A7 ln.length c7)) (.slice (some ad) l.f3.length b3) l.f3 from Qr O.o hO)
      have OX:=a_ (show(Value.slice A7 ln.length c7).ownBlock=(Value.slice J l4.length c4).ownBlock∨∃b,(Value.slice A7 ln.length c7).ownBlock=some b∧w.heap.size≤b from hO.o4.elim (λe=>OO.o.imp (λf=>e.trans f) (λ⟨b,f,g⟩=>⟨b,e.trans f,g⟩)) (λ⟨b,f,g⟩=>.inr ⟨b,f,RJ M.o.B.hK.1 g⟩))
      have D:St w0 w _ _ _ _ _ _ _ _ _ _:=⟨hM,BB,M.o.hw⟩
      clear M O HN hM hO BB OO HK z0 z1 z2 U z4 y x0 x1 x2 x3 x4 x5 x6 x7 t0 t1 t2 t3 t4 ty d0 d1 d2 d3 d4 d5 dy
      have M:=a_ D
      have O:=P
      have OO:=OX
      clear D P OX
      obtain⟨z0,z1,z2,U,z4,y⟩:=M.o.B.c5 3 rfl;obtain⟨x0,x1,x2,x3,x4,x5,x6,x7,-⟩:=M.o.B.c8 2 rfl;obtain⟨t0,t1,t2,t3,t4,ty⟩:=M.o.B.c5 1 rfl;obtain⟨d0,d1,d2,d3,d4,d5,dy⟩:=M.o.B.c6 0 rfl
      obtain⟨au,az,f0,f1,f2,f3,f4,f5,f6⟩:=Rj O.o i II.o.1 II.o.2.1
      obtain rfl:ad=au:=by injection az
      clear e0 e1 e2 e3 e4 e5 e6
      have e0:=f0
      have e1:=f1
      have e2:=f2
      have e3:=f3
      have e4:=f4
      have e5:=f5
      have e6:=f6
      clear f0 f1 f2 f3 f4 f5 f6
      refine hK.out _ _ ?_
      clear hK K
      refine Er 53 ?_
      refine Fe (i:=9) (N:=none) #[true,true,true,true,true,true,true,true,true,true] rfl rfl (by kernel_rfl) (by decide) (λK hK=>?_)
      refine EL (w1:=?_) (by rfl) rfl ?_ ?_
      rotate_left
      ·go_simp
       rfl
      refine hK.out _ _ ?_
      clear hK K
      refine CV (by kernel_rfl) ?_
      go_wp2
      go_roundg k1
      case measure=>have:=HI.o;omega
      case rel=>exact⟨i+1,ln,.slice A7 ln.length c7,(by first|rfl|(simp[*];done)),⟨by have:=HI.o;have:=II.o;omega⟩,ar,⟨M.o.DW 3 rfl⟩,⟨(DO (DO (DO (DO (DO O.o (by simp) 0 _) (by simp) 1 _) (by simp) 2 _) (by simp) 3 _) (by simp) 4 _)⟩,OO⟩
     ·have av:decide (i<(l.f3.length:Int))=false:=C9 c3
      have he:=HS.o
      rw[Mw lq l.f3 i c3]at he
      subst he
      clear c3 HS
      go_wp2
      have W:St w0 w _ (E::A::L::z::zs) _ [⟨E,[.int .i64 l.f0,.int .i64 l.f1,.slice B2 l.f2.length b2,.slice B3 l.f3.length b3,.int .i64 l.f4,.int .i64 l.f5],26⟩,⟨A,[.slice G l0.length I,.int .i64 s,.bool u,.slice (some ⟨r,0,none⟩) l3.length c3,.slice A9 lq.length c9],64⟩,⟨L,[.int .i64 ek,.int .i64 T,.int .i64 X,.int .i64 o0,.int .i64 o1,.int .i64 o2,.int .i64 o3,.string o4],95⟩,⟨z,[.slice G l0.length I,.int .i64 s,.bool u,.slice (some ⟨r,0,none⟩) l3.length c3,.slice A9 lq.length c9],64⟩] _ _ _ _ _ _:=M.o.DW 1 rfl
      have DB:=W.B.Ex 1 rfl
      refine RH (RF rfl _ _ A 64 #[.slice G l0.length I,.int .i64 s,.bool u,.slice (some ⟨r,0,none⟩) l3.length c3,.slice A9 lq.length c9] (0,0) _ rfl DB RK rfl (by kernel_rfl)) rfl ?_
      exact⟨_,rfl,W.M.mono (λk Z=>by simp[Z]),W.B.hK,OO.o⟩
   rw[Rz k2]at B;have aw:(ek==2)=false:=Dr k2;clear k2;by_cases k4:ek=4
   ·rw[Ry k4]at B;have ax:(ek==4)=true:=RO.mpr k4;clear k4;cases u with
    | true =>
     rw[Ry rfl]at B
     by_cases c4:0≤X∧X≤s
     ·rw[Ry c4]at B
      obtain⟨ln,hp,B⟩:=BR B
      simp only[Option.some.injEq,Wd.mk.injEq]at B
      obtain⟨rfl,rfl,rfl,rfl,rfl⟩:=B
      have HP:=a_ hp
      have af:=a_ (K_ c4)
      clear hp c4
      go_upto_region 14 with((go_at_call 20;(with_reducible refine(Ar.calls X 0 s true _ af.o).mono ?_);rintro e w7 ⟨rfl,Y⟩;have D:=M.o.below Y.below;have aa:=a_ (Kd.Bh H2.o Y.below);have P:=a_ (Kd.Bh O.o Y.below);clear H2 O;have H2:=aa;have O:=P;clear aa P;clear M Y z0 z1 z2 U z4 y x0 x1 x2 x3 x4 x5 x6 x7 t0 t1 t2 t3 t4 ty d0 d1 d2 d3 d4 d5 dy;have M:=a_ D;clear D;obtain⟨z0,z1,z2,U,z4,y⟩:=M.o.B.c5 3 rfl;obtain⟨x0,x1,x2,x3,x4,x5,x6,x7,-⟩:=M.o.B.c8 2 rfl;obtain⟨t0,t1,t2,t3,t4,ty⟩:=M.o.B.c5 1 rfl;obtain⟨d0,d1,d2,d3,d4,d5,dy⟩:=M.o.B.c6 0 rfl))
      have Md:=a_ M.o.drew
      clear M
      have M:=Md
      clear Md
      refine Cl (n:=13) (S:=λw'=>w'.cell? ⟨z,0,none⟩=some (.slice G l0.length I)∧w'.cell? ⟨z,1,none⟩=some (.int .i64 s)∧w'.cell? ⟨z,2,none⟩=some (.bool true)∧w'.cell? ⟨z,3,none⟩=some (.slice (some ⟨r,0,none⟩) l3.length c3)∧w'.cell? ⟨z,4,none⟩=some (.slice J l4.length c4)∧w'.cell? ⟨L,1,none⟩=some (.int .i64 T)∧w'.cell? ⟨L,2,none⟩=some (.int .i64 X)) (ds:=[11,12]) #[false,false,false,false,false,false,false,false,false,false,false,false,false] (by kernel_rfl) rfl rfl ⟨z0,z1,z2,U,z4,x1,x2⟩ (λm=>?_)
      refine Bf 1 68 ?_
      refine Bf 3 70 ?_
      refine Bf 5 72 ?_
      refine Bf 7 74 ?_
      refine IE 0 67 m ?_
      refine IE 2 69 m ?_
      refine IE 4 71 m ?_
      refine IE 6 73 m ?_
      refine IE 8 75 m ?_
      refine E7 9 76 (λK hK=>?_)
      refine C7 Tryd.func73 (by kernel_rfl) rfl #[.agg #[.slice G l0.length I,.int .i64 s,.bool true],.int .i64 X] (by rfl) rfl rfl (by simp only[List.map_toArray,List.map_cons,List.map_nil];rfl) ?_
      with_reducible refine(Dx.calls k G I l0 s true X ln _ (Kd.AY M.o.M.h0).2.2 (Kd.AY M.o.M.h0).2.1 HP.o).mono ?_
      rintro e w8 ⟨aU,rfl,hr,q⟩
      refine⟨_,rfl,?_⟩
      have HN:=a_ (MS (b:=w0.heap.size) M.o.M hr)
      obtain⟨ab,DM,ag⟩:=Kd.Cd HN.o
      subst ag
      have D:=M.o.below q
      clear M hr q H2 O z0 z1 z2 U z4 y x0 x1 x2 x3 x4 x5 x6 x7 t0 t1 t2 t3 t4 ty d0 d1 d2 d3 d4 d5 dy
      have M:=a_ D
      clear D
      obtain⟨z0,z1,z2,U,z4,y⟩:=M.o.B.c5 3 rfl;obtain⟨x0,x1,x2,x3,x4,x5,x6,x7,-⟩:=M.o.B.c8 2 rfl;obtain⟨t0,t1,t2,t3,t4,ty⟩:=M.o.B.c5 1 rfl;obtain⟨d0,d1,d2,d3,d4,d5,dy⟩:=M.o.B.c6 0 rfl
      refine hK.out _ _ ⟨z0,z1,z2,U,z4,x1,x2⟩ (λm=>?_)
      clear hK K
      refine Er 76 ?_
      refine Bf 10 77 ?_
      refine Fe (i:=11) (N:=some 78) #[true,true,true,true,true,true,true,true,true,true,true,true,false] rfl rfl (by kernel_rfl) (by decide) (λK hK=>?_)
      refine C7 Tryd.func72 (by kernel_rfl) rfl #[.agg #[.slice G l0.length I,.int .i64 s,.bool true,.slice (some ⟨r,0,none⟩) l3.length c3,.slice J l4.length c4],.agg #[.int .i64 T,.int .i64 X,.slice ab ln.length DM]] (by rfl) rfl rfl (by simp only[List.map_toArray,List.map_cons,List.map_nil];rfl) ?_
      with_reducible refine(BN.calls (E::A::L::z::zs) (.slice G l0.length I) (.slice (some ⟨r,0,none⟩) l3.length c3) (.slice J l4.length c4) (.slice ab ln.length DM) l0 s true l3 l4 T X ln w0 _ M.o.M HN.o).mono ?_
      rintro e w9 ⟨Gv,rfl,hM,hO⟩
      refine⟨_,rfl,?_⟩
      obtain⟨A7,c7,e7⟩:=Kd.C3 hM.h4
      subst e7
      have BB:=M.o.B.kept hO.hK (λk Z=>.inl Z) (λk Z=>Z.elim (λe=>(M.o.M.Hz e.symm).1) (λe=>(M.o.M.I4 e.symm).1))
      have OO:=a_ (show(Value.slice A7 (BN.f l4 ⟨T,X,ln⟩).length c7).ownBlock=(Value.slice J l4.length c4).ownBlock∨∃b,(Value.slice A7 (BN.f l4 ⟨T,X,ln⟩).length c7).ownBlock=some b∧w.heap.size≤b from hO.o4.imp_right (λ⟨b,h1,h2⟩=>⟨b,h1,RJ M.o.B.hK.1 h2⟩))
      have D:St w0 w _ _ _ _ _ _ _ _ _ _:=⟨hM,BB,M.o.hw⟩
      clear M HN hM hO BB z0 z1 z2 U z4 y x0 x1 x2 x3 x4 x5 x6 x7 t0 t1 t2 t3 t4 ty d0 d1 d2 d3 d4 d5 dy
      have M:=a_ D
      clear D
      obtain⟨z0,z1,z2,U,z4,y⟩:=M.o.B.c5 3 rfl;obtain⟨x0,x1,x2,x3,x4,x5,x6,x7,-⟩:=M.o.B.c8 2 rfl;obtain⟨t0,t1,t2,t3,t4,ty⟩:=M.o.B.c5 1 rfl;obtain⟨d0,d1,d2,d3,d4,d5,dy⟩:=M.o.B.c6 0 rfl
      refine hK.out _ _ ?_
      clear hK K
      refine Er 78 ?_
      refine Fe (i:=12) (N:=none) #[true,true,true,true,true,true,true,true,true,true,true,true,true] rfl rfl (by kernel_rfl) (by decide) (λK hK=>?_)
      refine EL (w1:=?_) (by rfl) rfl ?_ ?_
      rotate_left
      ·go_simp
       rfl
      refine hK.out _ _ ?_
      clear hK K
      refine CV (by kernel_rfl) ?_
      go_wp2
      have W:St w0 w _ (E::A::L::z::zs) _ [⟨E,[.int .i64 l.f0,.int .i64 l.f1,.slice B2 l.f2.length b2,.slice B3 l.f3.length b3,.int .i64 l.f4,.int .i64 l.f5],26⟩,⟨A,[.slice G l0.length I,.int .i64 s,.bool true,.slice (some ⟨r,0,none⟩) l3.length c3,.slice A7 (BN.f l4 ⟨T,X,ln⟩).length c7],64⟩,⟨L,[.int .i64 ek,.int .i64 T,.int .i64 X,.int .i64 o0,.int .i64 o1,.int .i64 o2,.int .i64 o3,.string o4],95⟩,⟨z,[.slice G l0.length I,.int .i64 s,.bool true,.slice (some ⟨r,0,none⟩) l3.length c3,.slice J l4.length c4],64⟩] _ _ _ _ _ _:=M.o.DW 1 rfl
      have DB:=W.B.Ex 1 rfl
      refine RH (RF rfl _ _ A 64 #[.slice G l0.length I,.int .i64 s,.bool true,.slice (some ⟨r,0,none⟩) l3.length c3,.slice A7 (BN.f l4 ⟨T,X,ln⟩).length c7] (0,0) _ rfl DB RK rfl (by kernel_rfl)) rfl ?_
      exact⟨_,rfl,W.M.mono (λk Z=>by simp[Z]),W.B.hK,OO.o⟩
     ·rw[Rz c4]at B
      simp only[Option.some.injEq,Wd.mk.injEq]at B
      obtain⟨rfl,rfl,rfl,rfl,rfl⟩:=B
      have af:=a_ (Nb c4)
      clear c4
      go_wp2_with((go_at_call 20;(with_reducible refine(Ar.calls X 0 s false _ af.o).mono ?_);rintro e w7 ⟨rfl,Y⟩;have D:=M.o.below Y.below;clear M Y z0 z1 z2 U z4 y x0 x1 x2 x3 x4 x5 x6 x7 t0 t1 t2 t3 t4 ty d0 d1 d2 d3 d4 d5 dy;have M:=a_ D;clear D;obtain⟨z0,z1,z2,U,z4,y⟩:=M.o.B.c5 3 rfl;obtain⟨x0,x1,x2,x3,x4,x5,x6,x7,-⟩:=M.o.B.c8 2 rfl;obtain⟨t0,t1,t2,t3,t4,ty⟩:=M.o.B.c5 1 rfl;obtain⟨d0,d1,d2,d3,d4,d5,dy⟩:=M.o.B.c6 0 rfl))
      have W:St w0 w _ (E::A::L::z::zs) _ [⟨E,[.int .i64 l.f0,.int .i64 l.f1,.slice B2 l.f2.length b2,.slice B3 l.f3.length b3,.int .i64 l.f4,.int .i64 l.f5],26⟩,⟨A,[.slice G l0.length I,.int .i64 s,.bool true,.slice (some ⟨r,0,none⟩) l3.length c3,.slice J l4.length c4],64⟩,⟨L,[.int .i64 ek,.int .i64 T,.int .i64 X,.int .i64 o0,.int .i64 o1,.int .i64 o2,.int .i64 o3,.string o4],95⟩,⟨z,[.slice G l0.length I,.int .i64 s,.bool true,.slice (some ⟨r,0,none⟩) l3.length c3,.slice J l4.length c4],64⟩] _ _ _ _ _ _:=M.o.DW 1 rfl
      have DB:=W.B.Ex 1 rfl
      refine RH (RF rfl _ _ A 64 #[.slice G l0.length I,.int .i64 s,.bool true,.slice (some ⟨r,0,none⟩) l3.length c3,.slice J l4.length c4] (0,0) _ rfl DB RK rfl (by kernel_rfl)) rfl ?_
      exact⟨_,rfl,W.M.mono (λk Z=>by simp[Z]),W.B.hK,.inl rfl⟩
    | false =>
     rw[Rz (by decide)]at B
     simp only[Option.some.injEq,Wd.mk.injEq]at B
     obtain⟨rfl,rfl,rfl,rfl,rfl⟩:=B
     go_wp2
     have W:St w0 w _ (E::A::L::z::zs) _ [⟨E,[.int .i64 l.f0,.int .i64 l.f1,.slice B2 l.f2.length b2,.slice B3 l.f3.length b3,.int .i64 l.f4,.int .i64 l.f5],26⟩,⟨A,[.slice G l0.length I,.int .i64 s,.bool false,.slice (some ⟨r,0,none⟩) l3.length c3,.slice J l4.length c4],64⟩,⟨L,[.int .i64 ek,.int .i64 T,.int .i64 X,.int .i64 o0,.int .i64 o1,.int .i64 o2,.int .i64 o3,.string o4],95⟩,⟨z,[.slice G l0.length I,.int .i64 s,.bool false,.slice (some ⟨r,0,none⟩) l3.length c3,.slice J l4.length c4],64⟩] _ _ _ _ _ _:=M.o.DW 1 rfl
     have DB:=W.B.Ex 1 rfl
     refine RH (RF rfl _ _ A 64 #[.slice G l0.length I,.int .i64 s,.bool false,.slice (some ⟨r,0,none⟩) l3.length c3,.slice J l4.length c4] (0,0) _ rfl DB RK rfl (by kernel_rfl)) rfl ?_
     exact⟨_,rfl,W.M.mono (λk Z=>by simp[Z]),W.B.hK,.inl rfl⟩
   rw[Rz k4]at B;have ax:(ek==4)=false:=Dr k4;clear k4;simp only[Option.some.injEq,Wd.mk.injEq]at B;obtain⟨rfl,rfl,rfl,rfl,rfl⟩:=B;go_wp2;have W:St w0 w _ (E::A::L::z::zs) _ [⟨E,[.int .i64 l.f0,.int .i64 l.f1,.slice B2 l.f2.length b2,.slice B3 l.f3.length b3,.int .i64 l.f4,.int .i64 l.f5],26⟩,⟨A,[.slice G l0.length I,.int .i64 s,.bool u,.slice (some ⟨r,0,none⟩) l3.length c3,.slice J l4.length c4],64⟩,⟨L,[.int .i64 ek,.int .i64 T,.int .i64 X,.int .i64 o0,.int .i64 o1,.int .i64 o2,.int .i64 o3,.string o4],95⟩,⟨z,[.slice G l0.length I,.int .i64 s,.bool u,.slice (some ⟨r,0,none⟩) l3.length c3,.slice J l4.length c4],64⟩] _ _ _ _ _ _:=M.o.DW 1 rfl;have DB:=W.B.Ex 1 rfl;refine RH (RF rfl _ _ A 64 #[.slice G l0.length I,.int .i64 s,.bool u,.slice (some ⟨r,0,none⟩) l3.length c3,.slice J l4.length c4] (0,0) _ rfl DB RK rfl (by kernel_rfl)) rfl ?_;exact⟨_,rfl,W.M.mono (λk Z=>by simp[Z]),W.B.hK,.inl rfl⟩
  rw[Rz c2]at B;exact absurd B (by simp)
 rw[Rz c]at B;simp only[Option.some.injEq,Wd.mk.injEq]at B;obtain⟨rfl,rfl,rfl,rfl,rfl⟩:=B;obtain⟨A3,c3,rfl⟩:=Kd.C3 h.h3;have IN:=a_ (Nb c);have M:=a_ (St.start h (λk=>some k=(Value.slice A3 l3.length c3).ownBlock∨some k=(Value.slice J l4.length c4).ownBlock));clear h c;go_enter Tryd.func68,Tryd.ntmps68
 go_wp2_with(first
  | ((with_reducible refine BV (N:=2) rfl ?_);refine Cy 2 (#[.slice G l0.length I,.int .i64 s,.bool u,.slice A3 l3.length c3,.slice J l4.length c4]) 64 ?_;intro z hg w1 o q;have D:=M.o.box (cs:=[.slice G l0.length I,.int .i64 s,.bool u,.slice A3 l3.length c3,.slice J l4.length c4]) hg q o;clear M o q hg;have M:=a_ D;clear D)
  | ((with_reducible refine BV (N:=3) rfl ?_);refine Cy 3 (#[.int .i64 ek,.int .i64 T,.int .i64 X,.int .i64 o0,.int .i64 o1,.int .i64 o2,.int .i64 o3,.string o4]) 95 ?_;intro L hg w2 o q;have D:=M.o.box (cs:=[.int .i64 ek,.int .i64 T,.int .i64 X,.int .i64 o0,.int .i64 o1,.int .i64 o2,.int .i64 o3,.string o4]) hg q o;clear M o q hg;have M:=a_ D;clear D)
  | ((with_reducible refine BV (N:=4) rfl ?_);refine Cy 4 (#[.slice none 0 0,.int .i64 0,.bool false,.slice none 0 0,.slice none 0 0]) 64 ?_;intro A hg w3 o q;have D:=M.o.box (cs:=[.slice none 0 0,.int .i64 0,.bool false,.slice none 0 0,.slice none 0 0]) hg q o;clear M o q hg;have M:=a_ D;clear D;obtain⟨z0,z1,z2,U,z4,y⟩:=M.o.B.c5 2 rfl;obtain⟨x0,x1,x2,x3,x4,x5,x6,x7,-⟩:=M.o.B.c8 1 rfl;obtain⟨t0,t1,t2,t3,t4,ty⟩:=M.o.B.c5 0 rfl)
  | (go_at_call 20;(with_reducible refine(Ar.calls T 1 3 false _ IN.o).mono ?_);rintro e w4 ⟨rfl,Y⟩;have D:=M.o.below Y.below;clear M Y z0 z1 z2 U z4 y x0 x1 x2 x3 x4 x5 x6 x7 t0 t1 t2 t3 t4 ty;have M:=a_ D;clear D;obtain⟨z0,z1,z2,U,z4,y⟩:=M.o.B.c5 2 rfl;obtain⟨x0,x1,x2,x3,x4,x5,x6,x7,-⟩:=M.o.B.c8 1 rfl;obtain⟨t0,t1,t2,t3,t4,ty⟩:=M.o.B.c5 0 rfl))
 have W:St w0 w _ (A::L::z::zs) _ [⟨A,[.slice G l0.length I,.int .i64 s,.bool u,.slice A3 l3.length c3,.slice J l4.length c4],64⟩,⟨L,[.int .i64 ek,.int .i64 T,.int .i64 X,.int .i64 o0,.int .i64 o1,.int .i64 o2,.int .i64 o3,.string o4],95⟩,⟨z,[.slice G l0.length I,.int .i64 s,.bool u,.slice A3 l3.length c3,.slice J l4.length c4],64⟩] _ _ _ _ _ _:=M.o.DW 0 rfl;have DB:=W.B.Ex 0 rfl;refine RH (RF rfl _ _ A 64 #[.slice G l0.length I,.int .i64 s,.bool u,.slice A3 l3.length c3,.slice J l4.length c4] (0,0) _ rfl DB RK rfl (by kernel_rfl)) rfl ?_;exact⟨_,rfl,W.M.mono (λk Z=>by simp[Z]),W.B.hK,.inl rfl⟩
theorem DQ.calls(k:Nat)(zs:List Nat)(v0 v3 v4:Value)(l0:Dy)(s:Int)(u:Bool)(l3:En)(l4:Dz)(U ew a o0 o1 o2 o3:Int)(o4:ByteArray)(r0:Dy)(r1:Int)(r2:Bool)(r3:En)(r4:Dz)(w0 w:World)(h:WM w0 w zs v0 v3 v4 l0 l3 l4)
  (G:DQ.f k ⟨l0,s,u,l3,l4⟩ ⟨U,ew,a,⟨o0,o1,o2,o3,o4⟩⟩=some ⟨r0,r1,r2,r3,r4⟩) :
  Calls Tryd.prog 70 #[.agg #[v0,.int .i64 s,.bool u,v3,v4],.agg #[.int .i64 U,.int .i64 ew,.int .i64 a,.int .i64 o0,.int .i64 o1,.int .i64 o2,.int .i64 o3,.string o4]] w λe w'=>∃aq Gv,e=.returned (.agg #[aq,.int .i64 r1,.bool r2,v3,Gv])∧WM w0 w' zs aq v3 Gv r0 r3 r4∧Out w0 w w' zs v3 v4 Gv:=by
 have aJ:=RK;have aH:=Ti;have aK:=Sn;obtain⟨O,T,rfl⟩:=Kd.Cd h.h0;obtain⟨o,c3,rfl⟩:=Kd.C3 h.h3;unfold DQ.f at G;dsimp only at G;by_cases hm:l4.length≤1000
 ·rw[Ry hm]at G;have m:=PN a l4.length (by omega);by_cases c:0≤a∧a<(l4.length:Int)
  ·rw[Ry c]at G;rw[BM c.1,BM c.2,RY]at m;have IN:=a_ m;obtain⟨g4,c4,rfl,-⟩:=Kd.JO h.h4 (by omega);have M:=a_ (St.start h (λk=>some k=(Value.slice o l3.length c3).ownBlock∨some k=(Value.slice (some ⟨g4,0,none⟩) l4.length c4).ownBlock));have CC:=a_ c;have HM:=a_ hm;have q2:=RA c.1;have q3:=RA c.2;clear h c m hm;go_enter Tryd.func70,Tryd.ntmps70
   go_upto_region 4 with(first
    | ((with_reducible refine BV (N:=2) rfl ?_);refine Cy 2 (#[.slice O l0.length T,.int .i64 s,.bool u,.slice o l3.length c3,.slice (some ⟨g4,0,none⟩) l4.length c4]) 64 ?_;intro x hg w1 d l;have D:=M.o.box (cs:=[.slice O l0.length T,.int .i64 s,.bool u,.slice o l3.length c3,.slice (some ⟨g4,0,none⟩) l4.length c4]) hg l d;clear M d l hg;have M:=a_ D;clear D)
    | ((with_reducible refine BV (N:=3) rfl ?_);refine Cy 3 (#[.int .i64 U,.int .i64 ew,.int .i64 a,.int .i64 o0,.int .i64 o1,.int .i64 o2,.int .i64 o3,.string o4]) 95 ?_;intro z hg w2 d l;have D:=M.o.box (cs:=[.int .i64 U,.int .i64 ew,.int .i64 a,.int .i64 o0,.int .i64 o1,.int .i64 o2,.int .i64 o3,.string o4]) hg l d;clear M d l hg;have M:=a_ D;clear D)
    | ((with_reducible refine BV (N:=4) rfl ?_);refine Cy 4 (#[.slice none 0 0,.int .i64 0,.bool false,.slice none 0 0,.slice none 0 0]) 64 ?_;intro q hg w3 d l;have D:=M.o.box (cs:=[.slice none 0 0,.int .i64 0,.bool false,.slice none 0 0,.slice none 0 0]) hg l d;clear M d l hg;have M:=a_ D;clear D;obtain⟨z0,z1,z2,z3,E,y⟩:=M.o.B.c5 2 rfl;obtain⟨x0,x1,B,-⟩:=M.o.B.c8 1 rfl;obtain⟨t0,t1,t2,t3,t4,ty⟩:=M.o.B.c5 0 rfl)
    | (go_at_call 20;(with_reducible refine(Ar.calls a 0 (wrap64 ((l4.length:Int)-1)) true _ IN.o).mono ?_);rintro e w4 ⟨rfl,af⟩;have D:=M.o.below af.below;clear M af z0 z1 z2 z3 E y x0 x1 B t0 t1 t2 t3 t4 ty;have M:=a_ D;clear D;obtain⟨z0,z1,z2,z3,E,y⟩:=M.o.B.c5 2 rfl;obtain⟨x0,x1,B,-⟩:=M.o.B.c8 1 rfl;obtain⟨t0,t1,t2,t3,t4,ty⟩:=M.o.B.c5 0 rfl;obtain⟨I,J,⟨f0,f1,f2⟩,av⟩:=M.o.letter a CC.o.1 CC.o.2;have au:=a_ av;clear av)
    | ((with_reducible refine BV (N:=5) rfl ?_);refine Cy 5 (#[.int .i64 0,.int .i64 0,.slice none 0 0]) 114 ?_;intro r hg w5 d l;have D:=M.o.box (cs:=[.int .i64 0,.int .i64 0,.slice none 0 0]) hg l d;have ab:=a_ (Gq au.o hg l);replace f0:=(l.cell (FV _ _ f0)).trans f0;replace f1:=(l.cell (FV _ _ f1)).trans f1;replace f2:=(l.cell (FV _ _ f2)).trans f2;clear M au z0 z1 z2 z3 E y x0 x1 B t0 t1 t2 t3 t4 ty d l hg;have M:=a_ D;clear D;have HL:=ab;clear ab;obtain⟨d0,d1,d2,dy⟩:=M.o.B.c3 0 rfl)
    | ((with_reducible refine Dc (t:=114) (p:=5) rfl ?_);refine CY (t:=114) (p:=5) (v:=?q') (w1:=(((w5.setCell ⟨r,0,none⟩ (.int .i64 (AG l4 a).f0)).setCell ⟨r,1,none⟩ (.int .i64 (AG l4 a).f1)).setCell ⟨r,2,none⟩ (.slice I (AG l4 a).f2.length J))) ?hg ?ho ?hn ?hr ?_;(case ho=>rfl);(case hg=>rfl);(case hn=>rfl);(case hr=>first|(go_simp;done)|(go_simp;rfl));intro w6 hw;have D:St w0 w _ (r::q::z::x::zs) _ [⟨r,[.int .i64 (AG l4 a).f0,.int .i64 (AG l4 a).f1,.slice I (AG l4 a).f2.length J],114⟩,⟨q,[.slice none 0 0,.int .i64 0,.bool false,.slice none 0 0,.slice none 0 0],64⟩,⟨z,[.int .i64 U,.int .i64 ew,.int .i64 a,.int .i64 o0,.int .i64 o1,.int .i64 o2,.int .i64 o3,.string o4],95⟩,⟨x,[.slice O l0.length T,.int .i64 s,.bool u,.slice o l3.length c3,.slice (some ⟨g4,0,none⟩) l4.length c4],64⟩] _ _ _ _ _ _:=M.o.Q9 0 rfl;rw[<-hw]at D;have ab:=a_ (show Kd.V Ck 32 w6 w0.heap.size (Dt (r::q::z::x::zs) (.slice o l3.length c3) (.slice (some ⟨g4,0,none⟩) l4.length c4)) (.slice I (AG l4 a).f2.length J) (AG l4 a).f2 by rw[hw];exact Kd.AA (p:=⟨r,2,none⟩) (Kd.AA (p:=⟨r,1,none⟩) (Kd.AA (p:=⟨r,0,none⟩) HL.o (λk g e=>g.1 (by rw[e];exact RI)) _) (λk g e=>g.1 (by rw[e];exact RI)) _) (λk g e=>g.1 (by rw[e];exact RI)) _);clear M HL hw f0 f1 f2 d0 d1 d2 dy;have M:=a_ D;have HL:=ab;clear D ab;obtain⟨z0,z1,z2,z3,E,y⟩:=M.o.B.c5 3 rfl;obtain⟨x0,x1,B,x3,x4,x5,x6,x7,-⟩:=M.o.B.c8 2 rfl;obtain⟨t0,t1,t2,t3,t4,ty⟩:=M.o.B.c5 1 rfl;obtain⟨d0,d1,d2,dy⟩:=M.o.B.c3 0 rfl))
   by_cases aa:U=10
   ·rw[Ry aa]at G;simp only[Option.some.injEq,Wd.mk.injEq]at G;obtain⟨rfl,rfl,rfl,rfl,rfl⟩:=G;have cb:(U==10)=true:=RO.mpr aa;clear aa;have HW:=a_ M.o.hw;have LT:=a_ (show w.heap.size≤w6.heap.size from M.o.B.hK.1);go_wp2_with(go_at_call 72;(with_reducible refine(BN.calls (r::q::z::x::zs) (.slice O l0.length T) (.slice o l3.length c3) (.slice (some ⟨g4,0,none⟩) l4.length c4) (.slice I (AG l4 a).f2.length J) l0 s u l3 l4 (AG l4 a).f0 (AG l4 a).f1 (AG l4 a).f2 w0 _ M.o.M HL.o).mono ?_);rintro e w7 ⟨Gv,rfl,hM,hO⟩;obtain⟨A7,c7,e7⟩:=Kd.C3 hM.h4;subst e7;have BB:=a_ (M.o.B.kept hO.hK (λk g=>.inl g) (λk g=>g.elim (λe=>(M.o.M.Hz e.symm).1) (λe=>(M.o.M.I4 e.symm).1)));have MM:=a_ hM;have OO:=a_ hO.o4;clear M hM hO z0 z1 z2 z3 E y x0 x1 B x3 x4 x5 x6 x7 t0 t1 t2 t3 t4 ty d0 d1 d2 dy;obtain⟨t0,t1,t2,t3,t4,ty⟩:=BB.o.c5 1 rfl);have X:St w0 w _ (r::q::z::x::zs) _ [⟨r,[.int .i64 (AG l4 a).f0,.int .i64 (AG l4 a).f1,.slice I (AG l4 a).f2.length J],114⟩,⟨q,[.slice O l0.length T,.int .i64 s,.bool u,.slice o l3.length c3,.slice A7 (BN.f l4 ⟨(AG l4 a).f0,(AG l4 a).f1,(AG l4 a).f2⟩).length c7],64⟩,⟨z,[.int .i64 U,.int .i64 ew,.int .i64 a,.int .i64 o0,.int .i64 o1,.int .i64 o2,.int .i64 o3,.string o4],95⟩,⟨x,[.slice O l0.length T,.int .i64 s,.bool u,.slice o l3.length c3,.slice (some ⟨g4,0,none⟩) l4.length c4],64⟩] _ _ _ _ _ _:=(St.mk MM.o BB.o HW.o).DW 1 rfl;have DB:=X.B.Ex 1 rfl;refine RH (RF rfl _ _ q 64 #[.slice O l0.length T,.int .i64 s,.bool u,.slice o l3.length c3,.slice A7 (BN.f l4 ⟨(AG l4 a).f0,(AG l4 a).f1,(AG l4 a).f2⟩).length c7] (0,0) _ rfl DB RK rfl (by kernel_rfl)) rfl ?_;exact⟨_,_,rfl,X.M.mono (λk g=>by simp[g]),X.B.hK,OO.o.imp_right (λ⟨b,h1,h2⟩=>⟨b,h1,RJ LT.o h2⟩)⟩
   rw[Rz aa]at G;have cb:(U==10)=false:=Dr aa;clear aa;obtain⟨y1,ak⟩:∃y:Dz,y=l4.take a.toNat:=⟨_,rfl⟩
   obtain⟨y2,al⟩:∃y:Dz,y=l4.drop (a.toNat+1):=⟨_,rfl⟩
   obtain⟨lx,ai⟩:∃y:Dz,y=[]++y1:=⟨_,rfl⟩
   obtain⟨Z,aj⟩:∃y:Dz,y=lx++y2:=⟨_,rfl⟩
   rw[<-ak,<-al,show y1++y2=Z by rw[aj,ai];rfl]at G;have hc:=CC.o;have ag:y1.length=a.toNat:=by rw[ak,RV];omega
   have ah:y2.length=l4.length-(a+1).toNat:=by rw[al,R9];omega
   have ax:(a+1).toNat=a.toNat+1:=by omega
   have aL:wrap64 (a+1)=a+1:=by have:=HM.o;unfold wrap64;omega
   have Y:l4.length≤c4:=(Kd.Fp M.o.M.h4).2.1;obtain⟨i1,ao,_,aA,_⟩:=S3 Hn;have ae:=Ih (P:=Tryd.prog) 62 114 .i64 Ta ao (some ⟨g4,0,none⟩) l4.length c4 a hc.1 (by omega) Y;have L:=Gs (P:=Tryd.prog) 62 114 .i64 Ta ao 3 aA (some ⟨g4,0,none⟩) l4.length c4 (a+1) (by omega) (by omega);rw[<-ag]at ae;rw[<-ah]at L;obtain⟨A5,hA5⟩:∃A:Option Addr,A=(if c4=(a+1).toNat then some ⟨g4,0,none⟩else(some (⟨g4,0,none⟩:Addr)).map (·.add ((a+1).toNat*3))):=⟨_,rfl⟩
   rw[<-hA5]at L;obtain⟨c5,aw⟩:∃c:Nat,c=c4-(a+1).toNat:=⟨_,rfl⟩
   rw[<-aw]at L;have aC:=a_ ai;have aD:=a_ aj;have aE:=a_ ak;have aF:=a_ al;have HA:=a_ hA5;have HR:=a_ Y;have aB:=a_ ax;have LY:=a_ (show y1.length≤1000∧y2.length≤1000∧lx.length≤1000∧Z.length≤2000 by have:=HM.o;refine⟨by omega,by omega,by rw[ai,SZ];omega,by rw[aj,Sc,ai,SZ];omega⟩);clear ai aj ak al hA5 Y ax hc ao aA ag ah aw;have HW:=a_ M.o.hw;go_upto_region 6 with(fail)
   have ar:=a_ (Kd.BO HL.o);have Md:=a_ M.o.drew;clear M HL;have M:=Md;have HL:=ar;clear Md ar;refine Cl (n:=16) (S:=λw'=>w'.cell? ⟨x,4,none⟩=some (.slice (some ⟨g4,0,none⟩) l4.length c4)∧w'.cell? ⟨z,2,none⟩=some (.int .i64 a)) (ds:=[15]) #[false,false,false,false,false,false,false,false,false,false,false,false,false,false,false,false] (by kernel_rfl) rfl rfl ⟨E,B⟩ (λj=>?_);refine Bf 1 28 ?_;refine Bf 3 30 ?_;refine Bf 7 34 ?_;refine Bf 9 36 ?_;refine KQ 2 29 j ?_;refine KQ 4 31 j ?_;refine Bf 5 32 ?_;refine KQ 8 35 j ?_;refine KQ 10 37 j ?_;refine Bf 11 38 ?_;refine Bf 12 39 ?_;refine E7 0 27 (λK hK=>?_);refine Kd.KX Fh (w0:=w0) w0.heap.size 114 ?hg (N':=27) ?hd (xs:=([]:Dz)) (inner:=[]) (ok:=(λk=>k∉r::q::z::x::zs∧some k≠(Value.slice o l3.length c3).ownBlock)) (okp:=λ_=>False) ?hr ?hp (λ_ h=>h.elim) (M.o.M.fresh _ (RB _)) M.o.M.hB M.o.M.hB.size (by simp) ?_;(case hd=>rfl);(case hg=>rfl);(case hr=>first|(go_simp;done)|(go_simp;rfl));(case hp=>exact(Bn.none _ _));intro u1 w8 ho l hg W;obtain⟨b1,R,m⟩:=NR.lit M.o ho l hg W;have R1:=a_ R;have H1:=a_ (K5 HL.o (λ_ h=>h) hg (λ_ g=>by cases g) (.inr m));clear M HL ho l hg W R m z0 z1 z2 z3 E y x0 x1 B x3 x4 x5 x6 x7 t0 t1 t2 t3 t4 ty d0 d1 d2 dy;have E:=R1.o.B.cell 3 4 rfl rfl;have B:=R1.o.B.cell 2 2 rfl rfl;refine hK.out _ _ ⟨E,B⟩ (λj=>?_);clear hK K;refine Er 27 ?_;refine E7 6 33 (λK hK=>?_);refine Kd.FD Fh (w0:=w0) w0.heap.size (by rfl) (.tmp 27) (.tmp 32) 62 114 (.agg #[(.int .i64 0),(.int .i64 0),(.slice none 0 0)]) 40 rfl Ta Hn rfl (by decide) (by omega) u1 [] y1 (some ⟨g4,0,none⟩) _ _ (λk=>k∉r::q::z::x::zs∧some k≠(Value.slice o l3.length c3).ownBlock) (λk=>k∉b1::r::q::z::x::zs∧some k≠(Value.slice o l3.length c3).ownBlock) rfl rfl R1.o.hN (by rw[aE.o];exact Kd.Pl (Kd.Rf R1.o.M.h4) (by have:=CC.o;omega)) (λk g=>⟨⟨λe=>g.1 (RU _ e),g.2⟩,λe=>g.1 (by rw[R1.o.own]at e;injection e with e;rw[e];exact RI)⟩) (λk g=>⟨λe=>by have:=R1.o.M.hz k (RU _ e);omega,λe=>by have:=Kd.Ko R1.o.M.h3 k e.symm;omega⟩) R1.o.M.hB R1.o.M.hB.size (by have:=HM.o;have:=LY.o;simp only[List.length_nil];omega) ?_;intro u2 w9 ho l hg W;rw[<-aC.o]at ho;have ay:∀k,(u1:Value).ownBlock=some k->k∈b1::r::q::z::x::zs:=λk g=>by rw[R1.o.own]at g;injection g with g;rw[<-g];exact RI
   obtain⟨b2,R,m⟩:=NR.app R1.o ho l hg W;have R2:=a_ R;have H2:=a_ (K5 H1.o (λ_ h=>RU _ h) hg ay m);clear R1 H1 ho l hg W R m ay E B;have E:=R2.o.B.cell 3 4 rfl rfl;have B:=R2.o.B.cell 2 2 rfl rfl;refine hK.out _ _ ⟨E,B⟩ (λj=>?_);clear hK K;refine Er 33 ?_;refine E7 13 40 (λK hK=>?_);refine Kd.FD Fh (w0:=w0) w0.heap.size (by rfl) (.tmp 33) (.tmp 39) 62 114 (.agg #[(.int .i64 0),(.int .i64 0),(.slice none 0 0)]) 40 rfl Ta Hn rfl (by decide) (by omega) u2 lx y2 A5 _ _ (λk=>k∉r::q::z::x::zs∧some k≠(Value.slice o l3.length c3).ownBlock) (λk=>k∉b2::r::q::z::x::zs∧some k≠(Value.slice o l3.length c3).ownBlock) rfl rfl R2.o.hN (by rw[HA.o,aF.o,aB.o];exact Kd.OL (c:=c4) (Kd.Rf R2.o.M.h4) (by have:=CC.o;omega) HR.o) (λk g=>⟨⟨λe=>g.1 (RU _ e),g.2⟩,λe=>g.1 (by rw[R2.o.own]at e;injection e with e;rw[e];exact RI)⟩) (λk g=>⟨λe=>by have:=R2.o.M.hz k (RU _ e);omega,λe=>by have:=Kd.Ko R2.o.M.h3 k e.symm;omega⟩) R2.o.M.hB R2.o.M.hB.size (by have:=HM.o;have:=LY.o;omega) ?_;intro u3 aI ho l hg W;rw[<-aD.o]at ho;have az:∀k,(u2:Value).ownBlock=some k->k∈b2::r::q::z::x::zs:=λk g=>by rw[R2.o.own]at g;injection g with g;rw[<-g];exact RI
   obtain⟨b3,R,m⟩:=NR.app R2.o ho l hg W;have R3:=a_ R;have H3:=a_ (K5 H2.o (λ_ h=>RU _ h) hg az m);obtain⟨A9,c9,e9⟩:=Kd.C3 ho;subst e9;clear R2 H2 ho l hg W R m az E B;have E:=R3.o.B.cell 3 4 rfl rfl;have B:=R3.o.B.cell 2 2 rfl rfl;have yW:=R3.o.B.fr 3 4 rfl;refine hK.out _ _ ⟨E,B⟩ (λj=>?_);clear hK K;refine Er 40 ?_;refine Bf 14 41 ?_;refine Fe (i:=15) (N:=none) #[true,true,true,true,true,true,true,true,true,true,true,true,true,true,true,true] rfl rfl (by kernel_rfl) (by decide) (λK hK=>?_);refine EL (w1:=?_) (by rfl) rfl ?_ ?_;rotate_left
   ·go_simp;rfl
   refine hK.out _ _ ?_;clear hK K;refine CV (by kernel_rfl) ?_;have D:St w0 w _ (r::q::z::x::zs) _ [⟨r,[.int .i64 (AG l4 a).f0,.int .i64 (AG l4 a).f1,.slice I (AG l4 a).f2.length J],114⟩,⟨q,[.slice none 0 0,.int .i64 0,.bool false,.slice none 0 0,.slice none 0 0],64⟩,⟨z,[.int .i64 U,.int .i64 ew,.int .i64 a,.int .i64 o0,.int .i64 o1,.int .i64 o2,.int .i64 o3,.string o4],95⟩,⟨x,[.slice O l0.length T,.int .i64 s,.bool u,.slice o l3.length c3,.slice A9 Z.length c9],64⟩] _ _ _ _ _ _:=R3.o.fin.put 3 4 (.slice A9 Z.length c9) rfl;have HL:=a_ (Qq (Kd.AA (p:=⟨x,4,none⟩) H3.o (λk g e=>g.1 (by rw[e];simp)) (.slice A9 Z.length c9)) R3.o.own);have OO:=a_ (show ∃b,(Value.slice A9 Z.length c9).ownBlock=some b∧w.heap.size≤b from⟨b3,R3.o.own,R3.o.ge⟩);clear R3 H3 E B yW j ae L;generalize aI.setCell ⟨x,4,none⟩ (.slice A9 Z.length c9)=aM at D HL⊢;have M:=a_ D;clear D;obtain⟨z0,z1,z2,z3,E,y⟩:=M.o.B.c5 3 rfl;obtain⟨x0,x1,B,x3,x4,x5,x6,x7,-⟩:=M.o.B.c8 2 rfl;obtain⟨t0,t1,t2,t3,t4,ty⟩:=M.o.B.c5 1 rfl;obtain⟨d0,d1,d2,dy⟩:=M.o.B.c3 0 rfl;by_cases k8:U=8
   ·rw[Ry k8]at G;have aG:(U==8)=true:=RO.mpr k8;clear k8;have HF:=a_ G;clear G;go_wp2_with(go_at_call 74;(with_reducible refine(DX.calls k (r::q::z::x::zs) (.slice O l0.length T) (.slice o l3.length c3) (.slice A9 Z.length c9) (.slice I (AG l4 a).f2.length J) l0 s u l3 Z (AG l4 a).f0 (AG l4 a).f1 (AG l4 a).f2 r0 r1 r2 r3 r4 w0 _ M.o.M HL.o HF.o).mono ?_);rintro e aN ⟨aq,rfl,hM,hK⟩;obtain⟨A7,c7,e7⟩:=Kd.Cd hM.h0;subst e7;have BB:=a_ (M.o.B.kept hK (λk g=>.inl (.inl g)) (λk g=>(M.o.M.Hz g.symm).1));have MM:=a_ hM;clear M hM hK z0 z1 z2 z3 E y x0 x1 B x3 x4 x5 x6 x7 t0 t1 t2 t3 t4 ty d0 d1 d2 dy;obtain⟨t0,t1,t2,t3,t4,ty⟩:=BB.o.c5 1 rfl);have X:St w0 w _ (r::q::z::x::zs) _ [⟨r,[.int .i64 (AG l4 a).f0,.int .i64 (AG l4 a).f1,.slice I (AG l4 a).f2.length J],114⟩,⟨q,[.slice A7 r0.length c7,.int .i64 r1,.bool r2,.slice o l3.length c3,.slice A9 Z.length c9],64⟩,⟨z,[.int .i64 U,.int .i64 ew,.int .i64 a,.int .i64 o0,.int .i64 o1,.int .i64 o2,.int .i64 o3,.string o4],95⟩,⟨x,[.slice O l0.length T,.int .i64 s,.bool u,.slice o l3.length c3,.slice A9 Z.length c9],64⟩] _ _ _ _ _ _:=(St.mk MM.o BB.o HW.o).DW 1 rfl;have DB:=X.B.Ex 1 rfl;refine RH (RF rfl _ _ q 64 #[.slice A7 r0.length c7,.int .i64 r1,.bool r2,.slice o l3.length c3,.slice A9 Z.length c9] (0,0) _ rfl DB RK rfl (by kernel_rfl)) rfl ?_;exact⟨_,_,rfl,X.M.mono (λk g=>by simp[g]),X.B.hK,.inr OO.o⟩
   rw[Rz k8]at G;have aG:(U==8)=false:=Dr k8;clear k8;simp only[Option.some.injEq,Wd.mk.injEq]at G;obtain⟨rfl,rfl,rfl,rfl,rfl⟩:=G;go_wp2;have X:St w0 w _ (r::q::z::x::zs) _ [⟨r,[.int .i64 (AG l4 a).f0,.int .i64 (AG l4 a).f1,.slice I (AG l4 a).f2.length J],114⟩,⟨q,[.slice O l0.length T,.int .i64 s,.bool u,.slice o l3.length c3,.slice A9 Z.length c9],64⟩,⟨z,[.int .i64 U,.int .i64 ew,.int .i64 a,.int .i64 o0,.int .i64 o1,.int .i64 o2,.int .i64 o3,.string o4],95⟩,⟨x,[.slice O l0.length T,.int .i64 s,.bool u,.slice o l3.length c3,.slice A9 Z.length c9],64⟩] _ _ _ _ _ _:=M.o.DW 1 rfl;have DB:=X.B.Ex 1 rfl;refine RH (RF rfl _ _ q 64 #[.slice O l0.length T,.int .i64 s,.bool u,.slice o l3.length c3,.slice A9 Z.length c9] (0,0) _ rfl DB RK rfl (by kernel_rfl)) rfl ?_;exact⟨_,_,rfl,X.M.mono (λk g=>by simp[g]),X.B.hK,.inr OO.o⟩
  rw[Rz c]at G;simp only[Option.some.injEq,Wd.mk.injEq]at G;obtain⟨rfl,rfl,rfl,rfl,rfl⟩:=G;obtain⟨A4,c4,rfl⟩:=Kd.C3 h.h4
  have an:(decide (0≤a)&&decide (a<(l4.length:Int)))=false:=by
   rw[Bool.and_eq_false_iff];rcases TL a 0 with h1|h1
   ·exact .inl (C9 (by omega))
   exact .inr (C9 (λh2=>c ⟨h1,h2⟩))
  rw[an]at m;have IN:=a_ m;have M:=a_ (St.start h (λk=>some k=(Value.slice o l3.length c3).ownBlock∨some k=(Value.slice A4 l4.length c4).ownBlock));clear h c m hm an;go_enter Tryd.func70,Tryd.ntmps70
  go_wp2_with(first
   | ((with_reducible refine BV (N:=2) rfl ?_);refine Cy 2 (#[.slice O l0.length T,.int .i64 s,.bool u,.slice o l3.length c3,.slice A4 l4.length c4]) 64 ?_;intro x hg w1 d l;have D:=M.o.box (cs:=[.slice O l0.length T,.int .i64 s,.bool u,.slice o l3.length c3,.slice A4 l4.length c4]) hg l d;clear M d l hg;have M:=a_ D;clear D)
   | ((with_reducible refine BV (N:=3) rfl ?_);refine Cy 3 (#[.int .i64 U,.int .i64 ew,.int .i64 a,.int .i64 o0,.int .i64 o1,.int .i64 o2,.int .i64 o3,.string o4]) 95 ?_;intro z hg w2 d l;have D:=M.o.box (cs:=[.int .i64 U,.int .i64 ew,.int .i64 a,.int .i64 o0,.int .i64 o1,.int .i64 o2,.int .i64 o3,.string o4]) hg l d;clear M d l hg;have M:=a_ D;clear D)
   | ((with_reducible refine BV (N:=4) rfl ?_);refine Cy 4 (#[.slice none 0 0,.int .i64 0,.bool false,.slice none 0 0,.slice none 0 0]) 64 ?_;intro q hg w3 d l;have D:=M.o.box (cs:=[.slice none 0 0,.int .i64 0,.bool false,.slice none 0 0,.slice none 0 0]) hg l d;clear M d l hg;have M:=a_ D;clear D;obtain⟨z0,z1,z2,z3,E,y⟩:=M.o.B.c5 2 rfl;obtain⟨x0,x1,B,-⟩:=M.o.B.c8 1 rfl;obtain⟨t0,t1,t2,t3,t4,ty⟩:=M.o.B.c5 0 rfl)
   | (go_at_call 20;(with_reducible refine(Ar.calls a 0 (wrap64 ((l4.length:Int)-1)) false _ IN.o).mono ?_);rintro e w4 ⟨rfl,af⟩;have D:=M.o.below af.below;clear M af z0 z1 z2 z3 E y x0 x1 B t0 t1 t2 t3 t4 ty;have M:=a_ D;clear D;obtain⟨z0,z1,z2,z3,E,y⟩:=M.o.B.c5 2 rfl;obtain⟨x0,x1,B,-⟩:=M.o.B.c8 1 rfl;obtain⟨t0,t1,t2,t3,t4,ty⟩:=M.o.B.c5 0 rfl))
  have X:St w0 w _ (q::z::x::zs) _ [⟨q,[.slice O l0.length T,.int .i64 s,.bool u,.slice o l3.length c3,.slice A4 l4.length c4],64⟩,⟨z,[.int .i64 U,.int .i64 ew,.int .i64 a,.int .i64 o0,.int .i64 o1,.int .i64 o2,.int .i64 o3,.string o4],95⟩,⟨x,[.slice O l0.length T,.int .i64 s,.bool u,.slice o l3.length c3,.slice A4 l4.length c4],64⟩] _ _ _ _ _ _:=M.o.DW 0 rfl;have DB:=X.B.Ex 0 rfl;refine RH (RF rfl _ _ q 64 #[.slice O l0.length T,.int .i64 s,.bool u,.slice o l3.length c3,.slice A4 l4.length c4] (0,0) _ rfl DB RK rfl (by kernel_rfl)) rfl ?_;exact⟨_,_,rfl,X.M.mono (λk g=>by simp[g]),X.B.hK,.inl rfl⟩
 rw[Rz hm]at G;exact absurd G (by simp)
theorem EF.calls(k:Nat)(zs:List Nat)(v0 v3 v4:Value)(l0:Dy)(s:Int)(u:Bool)(l3:En)(l4:Dz)(a G z J K L o3:Int)(o4:ByteArray)(X:Dy)(O:Int)(P:Bool)(r3:En)(v:Dz)(w0 w:World)(h:WM w0 w zs v0 v3 v4 l0 l3 l4)
  (m:EF.f k ⟨l0,s,u,l3,l4⟩ ⟨a,G,z,⟨J,K,L,o3,o4⟩⟩=some ⟨X,O,P,r3,v⟩) :
  Calls Tryd.prog 60 #[.agg #[v0,.int .i64 s,.bool u,v3,v4],.agg #[.int .i64 a,.int .i64 G,.int .i64 z,.int .i64 J,.int .i64 K,.int .i64 L,.int .i64 o3,.string o4]] w λe w'=>∃Y Gv,e=.returned (.agg #[Y,.int .i64 O,.bool P,v3,Gv])∧WM w0 w' zs Y v3 Gv X r3 v∧Out w0 w w' zs v3 v4 Gv:=by
 have au:=RK;have av:=Sn;have ar:=Sh;have aq:=RW;obtain⟨p,q,rfl⟩:=Kd.Cd h.h0;obtain⟨l,c3,rfl⟩:=Kd.C3 h.h3;obtain⟨n,c4,rfl⟩:=Kd.C3 h.h4;unfold EF.f at m;dsimp only at m;have M:=a_ (St.start h (λk=>some k=(Value.slice l l3.length c3).ownBlock∨some k=(Value.slice n l4.length c4).ownBlock));clear h;go_enter Tryd.func60,Tryd.ntmps60
 go_upto_region 2 with(first
  | ((with_reducible refine BV (N:=2) rfl ?_);refine Cy 2 (#[.slice p l0.length q,.int .i64 s,.bool u,.slice l l3.length c3,.slice n l4.length c4]) 64 ?_;intro o hg w1 B hb;have D:=M.o.box (cs:=[.slice p l0.length q,.int .i64 s,.bool u,.slice l l3.length c3,.slice n l4.length c4]) hg hb B;clear M B hb hg;have M:=a_ D;clear D)
  | ((with_reducible refine BV (N:=3) rfl ?_);refine Cy 3 (#[.int .i64 a,.int .i64 G,.int .i64 z,.int .i64 J,.int .i64 K,.int .i64 L,.int .i64 o3,.string o4]) 95 ?_;intro t hg w2 B hb;have D:=M.o.box (cs:=[.int .i64 a,.int .i64 G,.int .i64 z,.int .i64 J,.int .i64 K,.int .i64 L,.int .i64 o3,.string o4]) hg hb B;clear M B hb hg;have M:=a_ D;clear D)
  | ((with_reducible refine BV (N:=4) rfl ?_);refine Cy 4 (#[.slice none 0 0,.int .i64 0,.bool false,.slice none 0 0,.slice none 0 0]) 64 ?_;intro d hg w3 B hb;have D:=M.o.box (cs:=[.slice none 0 0,.int .i64 0,.bool false,.slice none 0 0,.slice none 0 0]) hg hb B;clear M B hb hg;have M:=a_ D;clear D;obtain⟨z0,z1,z2,z3,z4,y⟩:=M.o.B.c5 2 rfl;obtain⟨x0,x1,x2,x3,x4,x5,x6,x7,-⟩:=M.o.B.c8 1 rfl;obtain⟨t0,t1,t2,t3,t4,ty⟩:=M.o.B.c5 0 rfl))
 by_cases r:a=1∨a=2∨a=4
 ·rw[Ry r]at m;rcases r with k1|k1|k1
  ·skip;have ab:(a==1)=true:=RO.mpr (by omega);clear k1;have HF:=a_ m;clear m;go_wp2_with(go_at_call 68;(with_reducible refine(DR.calls k (d::t::o::zs) (.slice p l0.length q) (.slice l l3.length c3) (.slice n l4.length c4) l0 s u l3 l4 a G z J K L o3 o4 X O P r3 v w0 _ M.o.M HF.o).mono ?_);rintro e w7 ⟨Gv,rfl,A,I⟩;obtain⟨x,c8,e8⟩:=Kd.C3 A.h4;subst e8;have T:=a_ (M.o.B.kept I.hK (λk j=>.inl j) (λk j=>j.elim (λe=>(M.o.M.Hz e.symm).1) (λe=>(M.o.M.I4 e.symm).1)));have MM:=a_ A;have OO:=a_ (show(Value.slice x v.length c8).ownBlock=(Value.slice n l4.length c4).ownBlock∨∃b,(Value.slice x v.length c8).ownBlock=some b∧w.heap.size≤b from I.o4.imp_right (λ⟨b,h1,h2⟩=>⟨b,h1,RJ M.o.B.hK.1 h2⟩));have HW:=a_ M.o.hw;clear M A I z0 z1 z2 z3 z4 y x0 x1 x2 x3 x4 x5 x6 x7 t0 t1 t2 t3 t4 ty;obtain⟨t0,t1,t2,t3,t4,ty⟩:=T.o.c5 0 rfl);have g:St w0 w _ (d::t::o::zs) _ [⟨d,[.slice p l0.length q,.int .i64 O,.bool P,.slice l l3.length c3,.slice x v.length c8],64⟩,⟨t,[.int .i64 a,.int .i64 G,.int .i64 z,.int .i64 J,.int .i64 K,.int .i64 L,.int .i64 o3,.string o4],95⟩,⟨o,[.slice p l0.length q,.int .i64 s,.bool u,.slice l l3.length c3,.slice n l4.length c4],64⟩] _ _ _ _ _ _:=(St.mk MM.o T.o HW.o).DW 0 rfl;have E:=g.B.Ex 0 rfl;refine RH (RF rfl _ _ d 64 #[.slice p l0.length q,.int .i64 O,.bool P,.slice l l3.length c3,.slice x v.length c8] (0,0) _ rfl E RK rfl (by kernel_rfl)) rfl ?_;exact⟨_,_,rfl,g.M.mono (λk j=>by simp[j]),g.B.hK,OO.o⟩
  ·skip;have ab:(a==1)=false:=Dr (by omega);have ah:(a==2)=true:=RO.mpr (by omega);clear k1;have HF:=a_ m;clear m;go_wp2_with(go_at_call 68;(with_reducible refine(DR.calls k (d::t::o::zs) (.slice p l0.length q) (.slice l l3.length c3) (.slice n l4.length c4) l0 s u l3 l4 a G z J K L o3 o4 X O P r3 v w0 _ M.o.M HF.o).mono ?_);rintro e w7 ⟨Gv,rfl,A,I⟩;obtain⟨x,c8,e8⟩:=Kd.C3 A.h4;subst e8;have T:=a_ (M.o.B.kept I.hK (λk j=>.inl j) (λk j=>j.elim (λe=>(M.o.M.Hz e.symm).1) (λe=>(M.o.M.I4 e.symm).1)));have MM:=a_ A;have OO:=a_ (show(Value.slice x v.length c8).ownBlock=(Value.slice n l4.length c4).ownBlock∨∃b,(Value.slice x v.length c8).ownBlock=some b∧w.heap.size≤b from I.o4.imp_right (λ⟨b,h1,h2⟩=>⟨b,h1,RJ M.o.B.hK.1 h2⟩));have HW:=a_ M.o.hw;clear M A I z0 z1 z2 z3 z4 y x0 x1 x2 x3 x4 x5 x6 x7 t0 t1 t2 t3 t4 ty;obtain⟨t0,t1,t2,t3,t4,ty⟩:=T.o.c5 0 rfl);have g:St w0 w _ (d::t::o::zs) _ [⟨d,[.slice p l0.length q,.int .i64 O,.bool P,.slice l l3.length c3,.slice x v.length c8],64⟩,⟨t,[.int .i64 a,.int .i64 G,.int .i64 z,.int .i64 J,.int .i64 K,.int .i64 L,.int .i64 o3,.string o4],95⟩,⟨o,[.slice p l0.length q,.int .i64 s,.bool u,.slice l l3.length c3,.slice n l4.length c4],64⟩] _ _ _ _ _ _:=(St.mk MM.o T.o HW.o).DW 0 rfl;have E:=g.B.Ex 0 rfl;refine RH (RF rfl _ _ d 64 #[.slice p l0.length q,.int .i64 O,.bool P,.slice l l3.length c3,.slice x v.length c8] (0,0) _ rfl E RK rfl (by kernel_rfl)) rfl ?_;exact⟨_,_,rfl,g.M.mono (λk j=>by simp[j]),g.B.hK,OO.o⟩
  skip;have ab:(a==1)=false:=Dr (by omega);have ah:(a==2)=false:=Dr (by omega);have an:(a==4)=true:=RO.mpr (by omega);clear k1;have HF:=a_ m;clear m;go_wp2_with(go_at_call 68;(with_reducible refine(DR.calls k (d::t::o::zs) (.slice p l0.length q) (.slice l l3.length c3) (.slice n l4.length c4) l0 s u l3 l4 a G z J K L o3 o4 X O P r3 v w0 _ M.o.M HF.o).mono ?_);rintro e w7 ⟨Gv,rfl,A,I⟩;obtain⟨x,c8,e8⟩:=Kd.C3 A.h4;subst e8;have T:=a_ (M.o.B.kept I.hK (λk j=>.inl j) (λk j=>j.elim (λe=>(M.o.M.Hz e.symm).1) (λe=>(M.o.M.I4 e.symm).1)));have MM:=a_ A;have OO:=a_ (show(Value.slice x v.length c8).ownBlock=(Value.slice n l4.length c4).ownBlock∨∃b,(Value.slice x v.length c8).ownBlock=some b∧w.heap.size≤b from I.o4.imp_right (λ⟨b,h1,h2⟩=>⟨b,h1,RJ M.o.B.hK.1 h2⟩));have HW:=a_ M.o.hw;clear M A I z0 z1 z2 z3 z4 y x0 x1 x2 x3 x4 x5 x6 x7 t0 t1 t2 t3 t4 ty;obtain⟨t0,t1,t2,t3,t4,ty⟩:=T.o.c5 0 rfl);have g:St w0 w _ (d::t::o::zs) _ [⟨d,[.slice p l0.length q,.int .i64 O,.bool P,.slice l l3.length c3,.slice x v.length c8],64⟩,⟨t,[.int .i64 a,.int .i64 G,.int .i64 z,.int .i64 J,.int .i64 K,.int .i64 L,.int .i64 o3,.string o4],95⟩,⟨o,[.slice p l0.length q,.int .i64 s,.bool u,.slice l l3.length c3,.slice n l4.length c4],64⟩] _ _ _ _ _ _:=(St.mk MM.o T.o HW.o).DW 0 rfl;have E:=g.B.Ex 0 rfl;refine RH (RF rfl _ _ d 64 #[.slice p l0.length q,.int .i64 O,.bool P,.slice l l3.length c3,.slice x v.length c8] (0,0) _ rfl E RK rfl (by kernel_rfl)) rfl ?_;exact⟨_,_,rfl,g.M.mono (λk j=>by simp[j]),g.B.hK,OO.o⟩
 rw[Rz r]at m;have ab:(a==1)=false:=Dr (by omega);have ah:(a==2)=false:=Dr (by omega);have an:(a==4)=false:=Dr (by omega);by_cases k3:a=3
 ·rw[Ry k3]at m;have al:(a==3)=true:=RO.mpr (by omega);clear k3 r;cases u with
  | true =>
   rw[Ry rfl]at m
   simp only[Option.some.injEq,Wd.mk.injEq]at m
   obtain⟨rfl,rfl,rfl,rfl,rfl⟩:=m
   have W:d≠o:=M.o.B.ne (i:=0) (i':=2) rfl rfl (by decide);have af:o≠d:=λe=>W e.symm
   go_wp2
   have g:St w0 w _ (d::t::o::zs) _ [⟨d,[.slice p l0.length q,.int .i64 (l0.length:Int),.bool true,.slice l l3.length c3,.slice n l4.length c4],64⟩,⟨t,[.int .i64 a,.int .i64 G,.int .i64 z,.int .i64 J,.int .i64 K,.int .i64 L,.int .i64 o3,.string o4],95⟩,⟨o,[.slice p l0.length q,.int .i64 (l0.length:Int),.bool true,.slice l l3.length c3,.slice n l4.length c4],64⟩] _ _ _ _ _ _:=(M.o.put 2 1 (.int .i64 (l0.length:Int)) rfl).DW 0 rfl
   have E:=g.B.Ex 0 rfl
   refine RH (RF rfl _ _ d 64 #[.slice p l0.length q,.int .i64 (l0.length:Int),.bool true,.slice l l3.length c3,.slice n l4.length c4] (0,0) _ rfl E RK rfl (by kernel_rfl)) rfl ?_
   exact⟨_,_,rfl,g.M.mono (λk j=>by simp[j]),g.B.hK,.inl rfl⟩
  | false =>
   rw[Rz (by decide)]at m
   simp only[Option.some.injEq,Wd.mk.injEq]at m
   obtain⟨rfl,rfl,rfl,rfl,rfl⟩:=m
   go_wp2
   have g:St w0 w _ (d::t::o::zs) _ [⟨d,[.slice p l0.length q,.int .i64 s,.bool false,.slice l l3.length c3,.slice n l4.length c4],64⟩,⟨t,[.int .i64 a,.int .i64 G,.int .i64 z,.int .i64 J,.int .i64 K,.int .i64 L,.int .i64 o3,.string o4],95⟩,⟨o,[.slice p l0.length q,.int .i64 s,.bool false,.slice l l3.length c3,.slice n l4.length c4],64⟩] _ _ _ _ _ _:=M.o.DW 0 rfl
   have E:=g.B.Ex 0 rfl
   refine RH (RF rfl _ _ d 64 #[.slice p l0.length q,.int .i64 s,.bool false,.slice l l3.length c3,.slice n l4.length c4] (0,0) _ rfl E RK rfl (by kernel_rfl)) rfl ?_
   exact⟨_,_,rfl,g.M.mono (λk j=>by simp[j]),g.B.hK,.inl rfl⟩
 rw[Rz k3]at m;have al:(a==3)=false:=Dr (by omega);by_cases k5:a=5
 ·rw[Ry k5]at m;have ao:(a==5)=true:=RO.mpr (by omega);clear k3 r k5;by_cases c:0≤z∧z≤40
  ·rw[Ry c]at m;obtain⟨⟨p1,p2,p3⟩,hp,m⟩:=BR m;simp only[Option.some.injEq,Wd.mk.injEq]at m;obtain⟨rfl,rfl,rfl,rfl,rfl⟩:=m;have HP:=a_ hp;have IN:=a_ (K_ c);clear hp c
   go_wp2_with(first
    | (go_at_call 20;(with_reducible refine(Ar.calls z 0 40 true _ IN.o).mono ?_);rintro e w7 ⟨rfl,aa⟩;have D:=M.o.below aa.below;clear M aa z0 z1 z2 z3 z4 y x0 x1 x2 x3 x4 x5 x6 x7 t0 t1 t2 t3 t4 ty;have M:=a_ D;clear D;obtain⟨z0,z1,z2,z3,z4,y⟩:=M.o.B.c5 2 rfl;obtain⟨x0,x1,x2,x3,x4,x5,x6,x7,-⟩:=M.o.B.c8 1 rfl;obtain⟨t0,t1,t2,t3,t4,ty⟩:=M.o.B.c5 0 rfl)
    | (go_at_call 69;(with_reducible refine(Ef.calls p q l0 s u z p1 p2 p3 _ (Kd.AY M.o.M.h0).2.2 (Kd.AY M.o.M.h0).2.1 HP.o).mono ?_);rintro e w8 ⟨Y,rfl,hr,hb⟩;have HN:=MS (b:=0) M.o.M hr;obtain⟨Z,c9,e9⟩:=Kd.Cd HN;subst e9;have D:=(M.o.below hb).QN HN;clear M hr hb HN z0 z1 z2 z3 z4 y x0 x1 x2 x3 x4 x5 x6 x7 t0 t1 t2 t3 t4 ty;have M:=a_ D;clear D;obtain⟨z0,z1,z2,z3,z4,y⟩:=M.o.B.c5 2 rfl;obtain⟨x0,x1,x2,x3,x4,x5,x6,x7,-⟩:=M.o.B.c8 1 rfl;obtain⟨t0,t1,t2,t3,t4,ty⟩:=M.o.B.c5 0 rfl;have W:d≠o:=M.o.B.ne (i:=0) (i':=2) rfl rfl (by decide);have af:o≠d:=λe=>W e.symm))
   have g:St w0 w _ (d::t::o::zs) _ [⟨d,[.slice Z p1.length c9,.int .i64 p2,.bool p3,.slice l l3.length c3,.slice n l4.length c4],64⟩,⟨t,[.int .i64 a,.int .i64 G,.int .i64 z,.int .i64 J,.int .i64 K,.int .i64 L,.int .i64 o3,.string o4],95⟩,⟨o,[.slice Z p1.length c9,.int .i64 p2,.bool p3,.slice l l3.length c3,.slice n l4.length c4],64⟩] _ _ _ _ _ _:=(M.o.QP 2 rfl).DW 0 rfl;have E:=g.B.Ex 0 rfl;refine RH (RF rfl _ _ d 64 #[.slice Z p1.length c9,.int .i64 p2,.bool p3,.slice l l3.length c3,.slice n l4.length c4] (0,0) _ rfl E RK rfl (by kernel_rfl)) rfl ?_;exact⟨_,_,rfl,g.M.mono (λk j=>by simp[j]),g.B.hK,.inl rfl⟩
  rw[Rz c]at m;simp only[Option.some.injEq,Wd.mk.injEq]at m;obtain⟨rfl,rfl,rfl,rfl,rfl⟩:=m;have IN:=a_ (Nb c);clear c;go_wp2_with(go_at_call 20;(with_reducible refine(Ar.calls z 0 40 false _ IN.o).mono ?_);rintro e w7 ⟨rfl,aa⟩;have D:=M.o.below aa.below;clear M aa z0 z1 z2 z3 z4 y x0 x1 x2 x3 x4 x5 x6 x7 t0 t1 t2 t3 t4 ty;have M:=a_ D;clear D;obtain⟨z0,z1,z2,z3,z4,y⟩:=M.o.B.c5 2 rfl;obtain⟨x0,x1,x2,x3,x4,x5,x6,x7,-⟩:=M.o.B.c8 1 rfl;obtain⟨t0,t1,t2,t3,t4,ty⟩:=M.o.B.c5 0 rfl);have g:St w0 w _ (d::t::o::zs) _ [⟨d,[.slice p l0.length q,.int .i64 s,.bool u,.slice l l3.length c3,.slice n l4.length c4],64⟩,⟨t,[.int .i64 a,.int .i64 G,.int .i64 z,.int .i64 J,.int .i64 K,.int .i64 L,.int .i64 o3,.string o4],95⟩,⟨o,[.slice p l0.length q,.int .i64 s,.bool u,.slice l l3.length c3,.slice n l4.length c4],64⟩] _ _ _ _ _ _:=M.o.DW 0 rfl;have E:=g.B.Ex 0 rfl;refine RH (RF rfl _ _ d 64 #[.slice p l0.length q,.int .i64 s,.bool u,.slice l l3.length c3,.slice n l4.length c4] (0,0) _ rfl E RK rfl (by kernel_rfl)) rfl ?_;exact⟨_,_,rfl,g.M.mono (λk j=>by simp[j]),g.B.hK,.inl rfl⟩
 rw[Rz k5]at m;have ao:(a==5)=false:=Dr (by omega);by_cases U:a=6∨a=7
 ·rw[Ry U]at m;rcases U with k6|k6
  ·skip;have ai:(a==6)=true:=RO.mpr (by omega);have aj:(a==7)=false:=Dr (by omega);have cd:decide (a=7)=false:=C9 (by omega);rw[cd]at m;clear k3 r k5 k6 cd;simp only[Option.some.injEq,Wd.mk.injEq]at m;obtain⟨rfl,rfl,rfl,rfl,rfl⟩:=m;have W:d≠o:=M.o.B.ne (i:=0) (i':=2) rfl rfl (by decide);have af:o≠d:=λe=>W e.symm
   go_wp2;have g:St w0 w _ (d::t::o::zs) _ [⟨d,[.slice p l0.length q,.int .i64 s,.bool false,.slice l l3.length c3,.slice n l4.length c4],64⟩,⟨t,[.int .i64 a,.int .i64 G,.int .i64 z,.int .i64 J,.int .i64 K,.int .i64 L,.int .i64 o3,.string o4],95⟩,⟨o,[.slice p l0.length q,.int .i64 s,.bool false,.slice l l3.length c3,.slice n l4.length c4],64⟩] _ _ _ _ _ _:=(M.o.put 2 2 (.bool false) rfl).DW 0 rfl;have E:=g.B.Ex 0 rfl;refine RH (RF rfl _ _ d 64 #[.slice p l0.length q,.int .i64 s,.bool false,.slice l l3.length c3,.slice n l4.length c4] (0,0) _ rfl E RK rfl (by kernel_rfl)) rfl ?_;exact⟨_,_,rfl,g.M.mono (λk j=>by simp[j]),g.B.hK,.inl rfl⟩
  skip;have ai:(a==6)=false:=Dr (by omega);have aj:(a==7)=true:=RO.mpr (by omega);have cd:decide (a=7)=true:=BM k6;rw[cd]at m;clear k3 r k5 k6 cd;simp only[Option.some.injEq,Wd.mk.injEq]at m;obtain⟨rfl,rfl,rfl,rfl,rfl⟩:=m;have W:d≠o:=M.o.B.ne (i:=0) (i':=2) rfl rfl (by decide);have af:o≠d:=λe=>W e.symm
  go_wp2;have g:St w0 w _ (d::t::o::zs) _ [⟨d,[.slice p l0.length q,.int .i64 s,.bool true,.slice l l3.length c3,.slice n l4.length c4],64⟩,⟨t,[.int .i64 a,.int .i64 G,.int .i64 z,.int .i64 J,.int .i64 K,.int .i64 L,.int .i64 o3,.string o4],95⟩,⟨o,[.slice p l0.length q,.int .i64 s,.bool true,.slice l l3.length c3,.slice n l4.length c4],64⟩] _ _ _ _ _ _:=(M.o.put 2 2 (.bool true) rfl).DW 0 rfl;have E:=g.B.Ex 0 rfl;refine RH (RF rfl _ _ d 64 #[.slice p l0.length q,.int .i64 s,.bool true,.slice l l3.length c3,.slice n l4.length c4] (0,0) _ rfl E RK rfl (by kernel_rfl)) rfl ?_;exact⟨_,_,rfl,g.M.mono (λk j=>by simp[j]),g.B.hK,.inl rfl⟩
 rw[Rz U]at m;have ai:(a==6)=false:=Dr (by omega);have aj:(a==7)=false:=Dr (by omega);by_cases k8:a=8∨a=9∨a=10
 ·rw[Ry k8]at m;rcases k8 with k8|k8|k8
  ·skip;have ae:(a==8)=true:=RO.mpr (by omega);clear k3 r k5 U k8;have HF:=a_ m;clear m;go_wp2_with(go_at_call 70;(with_reducible refine(DQ.calls k (d::t::o::zs) (.slice p l0.length q) (.slice l l3.length c3) (.slice n l4.length c4) l0 s u l3 l4 a G z J K L o3 o4 X O P r3 v w0 _ M.o.M HF.o).mono ?_);rintro e w7 ⟨Y,Gv,rfl,A,I⟩;obtain⟨Z,c9,e9⟩:=Kd.Cd A.h0;subst e9;obtain⟨x,c8,e8⟩:=Kd.C3 A.h4;subst e8;have T:=a_ (M.o.B.kept I.hK (λk j=>.inl j) (λk j=>j.elim (λe=>(M.o.M.Hz e.symm).1) (λe=>(M.o.M.I4 e.symm).1)));have MM:=a_ A;have OO:=a_ (show(Value.slice x v.length c8).ownBlock=(Value.slice n l4.length c4).ownBlock∨∃b,(Value.slice x v.length c8).ownBlock=some b∧w.heap.size≤b from I.o4.imp_right (λ⟨b,h1,h2⟩=>⟨b,h1,RJ M.o.B.hK.1 h2⟩));have HW:=a_ M.o.hw;clear M A I z0 z1 z2 z3 z4 y x0 x1 x2 x3 x4 x5 x6 x7 t0 t1 t2 t3 t4 ty;obtain⟨t0,t1,t2,t3,t4,ty⟩:=T.o.c5 0 rfl);have g:St w0 w _ (d::t::o::zs) _ [⟨d,[.slice Z X.length c9,.int .i64 O,.bool P,.slice l l3.length c3,.slice x v.length c8],64⟩,⟨t,[.int .i64 a,.int .i64 G,.int .i64 z,.int .i64 J,.int .i64 K,.int .i64 L,.int .i64 o3,.string o4],95⟩,⟨o,[.slice p l0.length q,.int .i64 s,.bool u,.slice l l3.length c3,.slice n l4.length c4],64⟩] _ _ _ _ _ _:=(St.mk MM.o T.o HW.o).DW 0 rfl;have E:=g.B.Ex 0 rfl;refine RH (RF rfl _ _ d 64 #[.slice Z X.length c9,.int .i64 O,.bool P,.slice l l3.length c3,.slice x v.length c8] (0,0) _ rfl E RK rfl (by kernel_rfl)) rfl ?_;exact⟨_,_,rfl,g.M.mono (λk j=>by simp[j]),g.B.hK,OO.o⟩
  ·skip;have ae:(a==8)=false:=Dr (by omega);have ak:(a==9)=true:=RO.mpr (by omega);clear k3 r k5 U k8;have HF:=a_ m;clear m;go_wp2_with(go_at_call 70;(with_reducible refine(DQ.calls k (d::t::o::zs) (.slice p l0.length q) (.slice l l3.length c3) (.slice n l4.length c4) l0 s u l3 l4 a G z J K L o3 o4 X O P r3 v w0 _ M.o.M HF.o).mono ?_);rintro e w7 ⟨Y,Gv,rfl,A,I⟩;obtain⟨Z,c9,e9⟩:=Kd.Cd A.h0;subst e9;obtain⟨x,c8,e8⟩:=Kd.C3 A.h4;subst e8;have T:=a_ (M.o.B.kept I.hK (λk j=>.inl j) (λk j=>j.elim (λe=>(M.o.M.Hz e.symm).1) (λe=>(M.o.M.I4 e.symm).1)));have MM:=a_ A;have OO:=a_ (show(Value.slice x v.length c8).ownBlock=(Value.slice n l4.length c4).ownBlock∨∃b,(Value.slice x v.length c8).ownBlock=some b∧w.heap.size≤b from I.o4.imp_right (λ⟨b,h1,h2⟩=>⟨b,h1,RJ M.o.B.hK.1 h2⟩));have HW:=a_ M.o.hw;clear M A I z0 z1 z2 z3 z4 y x0 x1 x2 x3 x4 x5 x6 x7 t0 t1 t2 t3 t4 ty;obtain⟨t0,t1,t2,t3,t4,ty⟩:=T.o.c5 0 rfl);have g:St w0 w _ (d::t::o::zs) _ [⟨d,[.slice Z X.length c9,.int .i64 O,.bool P,.slice l l3.length c3,.slice x v.length c8],64⟩,⟨t,[.int .i64 a,.int .i64 G,.int .i64 z,.int .i64 J,.int .i64 K,.int .i64 L,.int .i64 o3,.string o4],95⟩,⟨o,[.slice p l0.length q,.int .i64 s,.bool u,.slice l l3.length c3,.slice n l4.length c4],64⟩] _ _ _ _ _ _:=(St.mk MM.o T.o HW.o).DW 0 rfl;have E:=g.B.Ex 0 rfl;refine RH (RF rfl _ _ d 64 #[.slice Z X.length c9,.int .i64 O,.bool P,.slice l l3.length c3,.slice x v.length c8] (0,0) _ rfl E RK rfl (by kernel_rfl)) rfl ?_;exact⟨_,_,rfl,g.M.mono (λk j=>by simp[j]),g.B.hK,OO.o⟩
  skip;have ae:(a==8)=false:=Dr (by omega);have ak:(a==9)=false:=Dr (by omega);have ag:(a==10)=true:=RO.mpr (by omega);clear k3 r k5 U k8;have HF:=a_ m;clear m;go_wp2_with(go_at_call 70;(with_reducible refine(DQ.calls k (d::t::o::zs) (.slice p l0.length q) (.slice l l3.length c3) (.slice n l4.length c4) l0 s u l3 l4 a G z J K L o3 o4 X O P r3 v w0 _ M.o.M HF.o).mono ?_);rintro e w7 ⟨Y,Gv,rfl,A,I⟩;obtain⟨Z,c9,e9⟩:=Kd.Cd A.h0;subst e9;obtain⟨x,c8,e8⟩:=Kd.C3 A.h4;subst e8;have T:=a_ (M.o.B.kept I.hK (λk j=>.inl j) (λk j=>j.elim (λe=>(M.o.M.Hz e.symm).1) (λe=>(M.o.M.I4 e.symm).1)));have MM:=a_ A;have OO:=a_ (show(Value.slice x v.length c8).ownBlock=(Value.slice n l4.length c4).ownBlock∨∃b,(Value.slice x v.length c8).ownBlock=some b∧w.heap.size≤b from I.o4.imp_right (λ⟨b,h1,h2⟩=>⟨b,h1,RJ M.o.B.hK.1 h2⟩));have HW:=a_ M.o.hw;clear M A I z0 z1 z2 z3 z4 y x0 x1 x2 x3 x4 x5 x6 x7 t0 t1 t2 t3 t4 ty;obtain⟨t0,t1,t2,t3,t4,ty⟩:=T.o.c5 0 rfl);have g:St w0 w _ (d::t::o::zs) _ [⟨d,[.slice Z X.length c9,.int .i64 O,.bool P,.slice l l3.length c3,.slice x v.length c8],64⟩,⟨t,[.int .i64 a,.int .i64 G,.int .i64 z,.int .i64 J,.int .i64 K,.int .i64 L,.int .i64 o3,.string o4],95⟩,⟨o,[.slice p l0.length q,.int .i64 s,.bool u,.slice l l3.length c3,.slice n l4.length c4],64⟩] _ _ _ _ _ _:=(St.mk MM.o T.o HW.o).DW 0 rfl;have E:=g.B.Ex 0 rfl;refine RH (RF rfl _ _ d 64 #[.slice Z X.length c9,.int .i64 O,.bool P,.slice l l3.length c3,.slice x v.length c8] (0,0) _ rfl E RK rfl (by kernel_rfl)) rfl ?_;exact⟨_,_,rfl,g.M.mono (λk j=>by simp[j]),g.B.hK,OO.o⟩
 rw[Rz k8]at m;have ae:(a==8)=false:=Dr (by omega);have ak:(a==9)=false:=Dr (by omega);have ag:(a==10)=false:=Dr (by omega);clear k3 r k5 U k8;simp only[Option.some.injEq,Wd.mk.injEq]at m;obtain⟨rfl,rfl,rfl,rfl,rfl⟩:=m;go_wp2;have g:St w0 w _ (d::t::o::zs) _ [⟨d,[.slice p l0.length q,.int .i64 s,.bool u,.slice l l3.length c3,.slice n l4.length c4],64⟩,⟨t,[.int .i64 a,.int .i64 G,.int .i64 z,.int .i64 J,.int .i64 K,.int .i64 L,.int .i64 o3,.string o4],95⟩,⟨o,[.slice p l0.length q,.int .i64 s,.bool u,.slice l l3.length c3,.slice n l4.length c4],64⟩] _ _ _ _ _ _:=M.o.DW 0 rfl;have E:=g.B.Ex 0 rfl;refine RH (RF rfl _ _ d 64 #[.slice p l0.length q,.int .i64 s,.bool u,.slice l l3.length c3,.slice n l4.length c4] (0,0) _ rfl E RK rfl (by kernel_rfl)) rfl ?_;exact⟨_,_,rfl,g.M.mono (λk j=>by simp[j]),g.B.hK,.inl rfl⟩
theorem DY.calls(k:Nat)(g:Nat)(b:List Int)(p:Int)(zs:List Nat)(v0 v3 v4:Value)(l0:Dy)(s:Int)(u:Bool)(l3:En)(l4:Dz)(ek ew en o0 o1 o2 o3:Int)(o4:ByteArray)(p':Int)(w0 w:World)(hI:Ad w0 w g b p)(hz:g∈zs)(h:WM w0 w zs v0 v3 v4 l0 l3 l4)
  (a:DY.f k b p ⟨l0,s,u,l3,l4⟩=some (⟨ek,ew,en,⟨o0,o1,o2,o3,o4⟩⟩,p')) :
  Calls Tryd.prog 59 #[.pointer (some ⟨g,0,none⟩),.agg #[v0,.int .i64 s,.bool u,v3,v4]] w λe w'=>e=.returned (.agg #[.int .i64 ek,.int .i64 ew,.int .i64 en,.int .i64 o0,.int .i64 o1,.int .i64 o2,.int .i64 o3,.string o4])∧Ad w0 w' g b p'∧Below w0.heap.size w0 w'∧Ah w w' g none:=by
 have aF:=RK;have aG:=Sn;have aE:=Sh;have aC:=RP;have aD:=RW;obtain⟨A0,c0,rfl⟩:=Kd.Cd h.h0;obtain⟨W,c4,rfl⟩:=Kd.C3 h.h4;unfold DY.f at a;dsimp only at a;replace a:=BR a;obtain⟨⟨j,p1⟩,av,a⟩:=a;dsimp only at a;by_cases c1:0≤j
 ·rw[Ry c1]at a;by_cases c2:j<(l3.length:Int)
  ·rw[Ry c2]at a;replace a:=BR a;obtain⟨⟨q,p2⟩,aw,a⟩:=a;dsimp only at a;have ay:=a_ av;have az:=a_ aw;have CC:=a_ (And.intro c1 c2);clear av aw c1 c2;obtain⟨g3,c3,rfl,-⟩:=Kd.JO h.h3 (by have:=CC.o;omega);have hlen:l3.length≤9223372036854775807:=(Kd.Fp h.h3).2.2.2.1;obtain⟨CR,ab⟩:∃x,x=1+j:=⟨_,rfl⟩
   have aI:wrap64 (1+j)=CR:=by have:=CC.o;rw[ab];unfold wrap64;omega
   have aJ:wrap64 (CR-1)=j:=by have:=CC.o;rw[ab];unfold wrap64;omega
   rw[<-ab]at a;have q2:=RA CC.o.1;have q3:=RA CC.o.2;obtain⟨d,ak⟩:∃c:EZ,c=AE l3 j:=⟨_,rfl⟩
   rw[<-ak]at a;have HC:=a_ ak;have M:=a_ (Sg.start h hI hz);clear h hI hz ak ab hlen;go_enter Tryd.func59,Tryd.ntmps59
   go_upto_region 4 with(first
    | ((with_reducible refine BV (N:=3) rfl ?_);refine Cy 3 (#[.slice A0 l0.length c0,.int .i64 s,.bool u,.slice (some ⟨g3,0,none⟩) l3.length c3,.slice W l4.length c4]) 64 ?_;intro O hg w1 P U;have D:=M.o.box (cs:=[.slice A0 l0.length c0,.int .i64 s,.bool u,.slice (some ⟨g3,0,none⟩) l3.length c3,.slice W l4.length c4]) hg U P;clear M P U hg;have M:=a_ D;clear D)
    | ((with_reducible refine BV (N:=4) rfl ?_);refine Cy 4 (#[.int .i64 0,.int .i64 0,.int .i64 0,.int .i64 0,.int .i64 0,.int .i64 0,.int .i64 0,.string ⟨#[]⟩]) 95 ?_;intro J hg w3 P U;have D:=M.o.box (cs:=[.int .i64 0,.int .i64 0,.int .i64 0,.int .i64 0,.int .i64 0,.int .i64 0,.int .i64 0,.string ⟨#[]⟩]) hg U P;clear M P U hg;have M:=a_ D;clear D;obtain⟨z,o,A,B,E,y⟩:=M.o.st.B.c5 1 rfl;obtain⟨t0,t1,t2,t3,t4,t5,t6,t7,ty⟩:=M.o.st.B.c8 0 rfl)
    | (go_at_call 16;(with_reducible refine(Ab.calls k g b p 3 j p1 w0 _ M.o.hI M.o.st.M.hB ay.o).mono ?_);rintro e w4 ⟨rfl,hI,hB,l⟩;have D:=M.o.pick hI hB l;clear M hI hB l z o A B E y t0 t1 t2 t3 t4 t5 t6 t7 ty;have M:=a_ D;clear D;obtain⟨z,o,A,B,E,y⟩:=M.o.st.B.c5 1 rfl;obtain⟨t0,t1,t2,t3,t4,t5,t6,t7,ty⟩:=M.o.st.B.c8 0 rfl;obtain⟨X,b2,B3,b3,⟨f0,f1,f2,f3,f4,f5⟩,g2,aj,-⟩:=M.o.st.elem j CC.o.1 CC.o.2;rw[<-HC.o]at f0 f1 f2 f3 f4 f5 g2 aj;have H2:=a_ g2;have Z:=a_ aj;clear g2 aj)
    | ((with_reducible refine BV (N:=6) rfl ?_);refine Cy 6 (#[.int .i64 0,.int .i64 0,.slice none 0 0,.slice none 0 0,.int .i64 0,.int .i64 0]) 26 ?_;intro L hg w5 P U;have D:=M.o.box (cs:=[.int .i64 0,.int .i64 0,.slice none 0 0,.slice none 0 0,.int .i64 0,.int .i64 0]) hg U P;have Y:=a_ (Gq H2.o hg U);have aa:=a_ (Gq Z.o hg U);replace f0:=(U.cell (FV _ _ f0)).trans f0;replace f1:=(U.cell (FV _ _ f1)).trans f1;replace f2:=(U.cell (FV _ _ f2)).trans f2;replace f3:=(U.cell (FV _ _ f3)).trans f3;replace f4:=(U.cell (FV _ _ f4)).trans f4;replace f5:=(U.cell (FV _ _ f5)).trans f5;clear M H2 Z z o A B E y t0 t1 t2 t3 t4 t5 t6 t7 ty P U hg;have M:=a_ D;clear D;have H2:=Y;have Z:=aa;clear Y aa;obtain⟨d0,d1,d2,d3,d4,d5,G⟩:=M.o.st.B.c6 0 rfl)
    | ((with_reducible refine Dc (t:=26) (p:=6) rfl ?_);refine CY (t:=26) (p:=6) (v:=?q') (w1:=((((((w5.setCell ⟨L,0,none⟩ (.int .i64 d.f0)).setCell ⟨L,1,none⟩ (.int .i64 d.f1)).setCell ⟨L,2,none⟩ (.slice X d.f2.length b2)).setCell ⟨L,3,none⟩ (.slice B3 d.f3.length b3)).setCell ⟨L,4,none⟩ (.int .i64 d.f4)).setCell ⟨L,5,none⟩ (.int .i64 d.f5))) ?hg ?ho ?hn ?hr ?_;(case ho=>rfl);(case hg=>rfl);(case hn=>rfl);(case hr=>first|(go_simp;done)|(go_simp;rfl));intro w6 hw;have D:Sg w0 w _ g b _ (L::J::O::zs) [⟨L,[.int .i64 d.f0,.int .i64 d.f1,.slice X d.f2.length b2,.slice B3 d.f3.length b3,.int .i64 d.f4,.int .i64 d.f5],26⟩,⟨J,[.int .i64 0,.int .i64 0,.int .i64 0,.int .i64 0,.int .i64 0,.int .i64 0,.int .i64 0,.string ⟨#[]⟩],95⟩,⟨O,[.slice A0 l0.length c0,.int .i64 s,.bool u,.slice (some ⟨g3,0,none⟩) l3.length c3,.slice W l4.length c4],64⟩] _ _ _ _ _ _:=M.o.ID 0 rfl;rw[<-hw]at D;have Y:=a_ (show Kd.V Dd 68 w6 w0.heap.size (Dt (L::J::O::zs) (.slice (some ⟨g3,0,none⟩) l3.length c3) (.slice W l4.length c4)) (.slice X d.f2.length b2) d.f2 by rw[hw];exact(DO (DO (DO (DO (DO (DO H2.o RI 0 _) RI 1 _) RI 2 _) RI 3 _) RI 4 _) RI 5 _));have aa:=a_ (show Kd.V Ck 32 w6 w0.heap.size (Dt (L::J::O::zs) (.slice (some ⟨g3,0,none⟩) l3.length c3) (.slice W l4.length c4)) (.slice B3 d.f3.length b3) d.f3 by rw[hw];exact(DO (DO (DO (DO (DO (DO Z.o RI 0 _) RI 1 _) RI 2 _) RI 3 _) RI 4 _) RI 5 _));clear M H2 Z hw f0 f1 f2 f3 f4 f5 d0 d1 d2 d3 d4 d5 G;have M:=a_ D;have H2:=Y;have Z:=aa;clear D Y aa;obtain⟨z,o,A,B,E,y⟩:=M.o.st.B.c5 2 rfl;obtain⟨t0,t1,t2,t3,t4,t5,t6,t7,ty⟩:=M.o.st.B.c8 1 rfl;obtain⟨d0,d1,d2,d3,d4,d5,G⟩:=M.o.st.B.c6 0 rfl)
    | (go_at_call 16;(with_reducible refine(Ab.calls k g b p1 14 q p2 w0 _ M.o.hI M.o.st.M.hB az.o).mono ?_);rintro e w7 ⟨rfl,hI,hB,l⟩;have D:=M.o.pick hI hB l;have Y:=a_ (Ly H2.o M.o.hz l);have aa:=a_ (Ly Z.o M.o.hz l);clear H2 Z;have H2:=Y;have Z:=aa;clear Y aa;clear M hI hB l z o A B E y t0 t1 t2 t3 t4 t5 t6 t7 ty d0 d1 d2 d3 d4 d5 G;have M:=a_ D;clear D;obtain⟨z,o,A,B,E,y⟩:=M.o.st.B.c5 2 rfl;obtain⟨t0,t1,t2,t3,t4,t5,t6,t7,ty⟩:=M.o.st.B.c8 1 rfl;obtain⟨d0,d1,d2,d3,d4,d5,G⟩:=M.o.st.B.c6 0 rfl))
   by_cases k0:q=0∨q=1∨q=2∨q=3
   ·rw[Ry k0]at a;replace a:=BR a;obtain⟨t,ht,a⟩:=a;replace a:=BR a;obtain⟨⟨q0,q1,an,ao,q4,p3⟩,ho,a⟩:=a;simp only[Option.some.injEq,Prod.mk.injEq,Jp.mk.injEq,E0.mk.injEq]at a;obtain⟨⟨rfl,rfl,rfl,rfl,rfl,rfl,rfl,rfl⟩,rfl⟩:=a;have HT:=a_ ht;have HO:=a_ ho;clear ht ho;rcases k0 with rfl|rfl|rfl|rfl;all_goals(
     go_upto_region 8 with(fail)
     have ar:=a_ (Kd.BO H2.o);have au:=a_ (Kd.BO Z.o);have Md:=a_ M.o.drew;clear M H2 Z;have M:=Md;have H2:=ar;have Z:=au;clear Md ar au;refine Cl (n:=13) (S:=λw'=>w'.cell? ⟨L,2,none⟩=some (.slice X d.f2.length b2)∧w'.cell? ⟨L,3,none⟩=some (.slice B3 d.f3.length b3)∧w'.cell? ⟨L,5,none⟩=some (.int .i64 d.f5)) (ds:=[12]) #[false,false,false,false,false,false,false,false,false,false,false,false,false] (by kernel_rfl) rfl rfl ⟨d2,d3,d5⟩ (λI=>?_);refine Bf 0 23 ?_;refine Bf 1 24 ?_;refine Bf 2 25 ?_;refine Bf 4 27 ?_;refine Bf 7 30 ?_;refine Bf 8 31 ?_;refine NH 3 26 I ?_;refine NH 5 28 I ?_;refine NH 9 32 I ?_;refine E7 6 29 (λK hK=>?_);refine C7 Tryd.func25 (by kernel_rfl) rfl #[.slice X d.f2.length b2,.slice B3 d.f3.length b3] (by rfl) rfl rfl (by simp only[List.map_toArray,List.map_cons,List.map_nil];rfl) ?_;with_reducible refine(BS.calls k (Dt (L::J::O::zs) (.slice (some ⟨g3,0,none⟩) l3.length c3) (.slice W l4.length c4)) X b2 d.f2 B3 b3 d.f3 t _ (show Kd.V _ _ _ _ _ _ _ from H2.o) (Kd.AY Z.o).2.2 (Kd.AY Z.o).2.1 HT.o).mono ?_
     rintro e w9 ⟨aL,rfl,hr,U⟩;refine⟨_,rfl,?_⟩;have HN:=a_ (Kd.AD (Kd.MH hr (Ew:=w0.heap.size)) (λk l=>M.o.st.M.dt l));obtain⟨aq,DM,aA⟩:=Kd.Cd HN.o;subst aA;have D:=M.o.below U;clear M hr U H2 Z z o A B E y t0 t1 t2 t3 t4 t5 t6 t7 ty d0 d1 d2 d3 d4 d5 G;have M:=a_ D;clear D;obtain⟨z,o,A,B,E,y⟩:=M.o.st.B.c5 2 rfl;obtain⟨t0,t1,t2,t3,t4,t5,t6,t7,ty⟩:=M.o.st.B.c8 1 rfl;obtain⟨d0,d1,d2,d3,d4,d5,G⟩:=M.o.st.B.c6 0 rfl;refine hK.out _ _ ⟨d2,d3,d5⟩ (λI=>?_);clear hK K;refine Er 29 ?_;refine E7 10 33 (λK hK=>?_);refine C7 Tryd.func24 (by kernel_rfl) rfl #[.pointer (some ⟨g,0,none⟩),.slice aq t.length DM,.int .i64 CR,.int .i64 d.f5] (by rfl) rfl rfl (by simp only[List.map_toArray,List.map_cons,List.map_nil];rfl) ?_;with_reducible refine(Aw.calls k g b p2 aq DM t CR d.f5 q0 q1 an ao q4 p3 w0 _ M.o.hI M.o.st.M.hB (Kd.Kn HN.o (QK M.o.hz)) (Kd.AY HN.o).2.1 HO.o).mono ?_
     rintro e ax ⟨rfl,hI,hB,l⟩;refine⟨_,rfl,?_⟩;have D:=M.o.pick hI hB l;clear M hI hB l HN z o A B E y t0 t1 t2 t3 t4 t5 t6 t7 ty d0 d1 d2 d3 d4 d5 G;have M:=a_ D;clear D;obtain⟨z,o,A,B,E,y⟩:=M.o.st.B.c5 2 rfl;obtain⟨t0,t1,t2,t3,t4,t5,t6,t7,ty⟩:=M.o.st.B.c8 1 rfl;obtain⟨d0,d1,d2,d3,d4,d5,G⟩:=M.o.st.B.c6 0 rfl;refine hK.out _ _ ⟨d2,d3,d5⟩ (λI=>?_);clear hK K;refine Er 33 ?_;refine Bf 11 34 ?_;refine Fe (i:=12) (N:=none) #[true,true,true,true,true,true,true,true,true,true,true,true,true] rfl rfl (by kernel_rfl) (by decide) (λK hK=>?_);refine EL (w1:=?_) (by rfl) rfl ?_ ?_;rotate_left
     ·go_simp;rfl
     refine hK.out _ _ ?_;clear hK K;refine CV (by kernel_rfl) ?_;go_wp2;have m:Sg w0 w _ g b _ (L::J::O::zs) [⟨L,[.int .i64 d.f0,.int .i64 d.f1,.slice X d.f2.length b2,.slice B3 d.f3.length b3,.int .i64 d.f4,.int .i64 d.f5],26⟩,⟨J,[.int .i64 1,.int .i64 CR,.int .i64 0,.int .i64 q0,.int .i64 q1,.int .i64 an,.int .i64 ao,.string q4],95⟩,⟨O,[.slice A0 l0.length c0,.int .i64 s,.bool u,.slice (some ⟨g3,0,none⟩) l3.length c3,.slice W l4.length c4],64⟩] _ _ _ _ _ _:=M.o.Io 1 rfl;have T:=m.st.B.Ex 1 rfl;refine RH (RF rfl _ _ J 95 #[.int .i64 1,.int .i64 CR,.int .i64 0,.int .i64 q0,.int .i64 q1,.int .i64 an,.int .i64 ao,.string q4] (0,0) _ rfl T Sn rfl (by kernel_rfl)) rfl ?_;exact⟨rfl,m.hI,m.st.M.hB,m.CU⟩)
   rw[Rz k0]at a;have n0:(q==0)=false:=Dr (by omega);have n1:(q==1)=false:=Dr (by omega);have n2:(q==2)=false:=Dr (by omega);have n3:(q==3)=false:=Dr (by omega);by_cases k4:q=4
   ·rw[Ry k4]at a;simp only[Option.some.injEq,Prod.mk.injEq,Jp.mk.injEq,Jk,E0.mk.injEq]at a;obtain⟨⟨rfl,rfl,rfl,rfl,rfl,rfl,rfl,rfl⟩,rfl⟩:=a;subst k4;clear k0 n0 n1 n2 n3;go_wp2;have m:Sg w0 w _ g b _ (L::J::O::zs) [⟨L,[.int .i64 d.f0,.int .i64 d.f1,.slice X d.f2.length b2,.slice B3 d.f3.length b3,.int .i64 d.f4,.int .i64 d.f5],26⟩,⟨J,[.int .i64 2,.int .i64 CR,.int .i64 0,.int .i64 0,.int .i64 0,.int .i64 0,.int .i64 0,.string ⟨#[]⟩],95⟩,⟨O,[.slice A0 l0.length c0,.int .i64 s,.bool u,.slice (some ⟨g3,0,none⟩) l3.length c3,.slice W l4.length c4],64⟩] _ _ _ _ _ _:=M.o.Io 1 rfl;have T:=m.st.B.Ex 1 rfl;refine RH (RF rfl _ _ J 95 #[.int .i64 2,.int .i64 CR,.int .i64 0,.int .i64 0,.int .i64 0,.int .i64 0,.int .i64 0,.string ⟨#[]⟩] (0,0) _ rfl T Sn rfl (by kernel_rfl)) rfl ?_;exact⟨rfl,m.hI,m.st.M.hB,m.CU⟩
   rw[Rz k4]at a;have n4:(q==4)=false:=Dr (by omega);by_cases k5:q=5∨q=6
   ·rw[Ry k5]at a;simp only[Option.some.injEq,Prod.mk.injEq,Jp.mk.injEq,Jk,E0.mk.injEq]at a;obtain⟨⟨rfl,rfl,rfl,rfl,rfl,rfl,rfl,rfl⟩,rfl⟩:=a;clear k0 k4 n0 n1 n2 n3 n4;rcases k5 with rfl|rfl;all_goals(
     go_wp2;have m:Sg w0 w _ g b _ (L::J::O::zs) [⟨L,[.int .i64 d.f0,.int .i64 d.f1,.slice X d.f2.length b2,.slice B3 d.f3.length b3,.int .i64 d.f4,.int .i64 d.f5],26⟩,⟨J,[.int .i64 3,.int .i64 0,.int .i64 0,.int .i64 0,.int .i64 0,.int .i64 0,.int .i64 0,.string ⟨#[]⟩],95⟩,⟨O,[.slice A0 l0.length c0,.int .i64 s,.bool u,.slice (some ⟨g3,0,none⟩) l3.length c3,.slice W l4.length c4],64⟩] _ _ _ _ _ _:=M.o.Io 1 rfl;have T:=m.st.B.Ex 1 rfl;refine RH (RF rfl _ _ J 95 #[.int .i64 3,.int .i64 0,.int .i64 0,.int .i64 0,.int .i64 0,.int .i64 0,.int .i64 0,.string ⟨#[]⟩] (0,0) _ rfl T Sn rfl (by kernel_rfl)) rfl ?_;exact⟨rfl,m.hI,m.st.M.hB,m.CU⟩)
   rw[Rz k5]at a;have n5:(q==5)=false:=Dr (by omega);have n6:(q==6)=false:=Dr (by omega);by_cases k7:q=7∨q=8
   ·rw[Ry k7]at a;obtain⟨mm,al⟩:∃x,mn d.f1 s=x:=⟨_,rfl⟩
    rw[al]at a;have aH:(if s<d.f1 then s else d.f1)=mm:=al;clear al;replace a:=BR a;obtain⟨⟨r,p3⟩,hr,a⟩:=a;simp only[Option.some.injEq,Prod.mk.injEq,Jp.mk.injEq,Jk,E0.mk.injEq]at a;obtain⟨⟨rfl,rfl,rfl,rfl,rfl,rfl,rfl,rfl⟩,rfl⟩:=a;have HR:=a_ hr;clear hr k0 k4 k5 n0 n1 n2 n3 n4 n5 n6;rcases k7 with rfl|rfl;all_goals(
     go_upto_region 16 with(fail)
     have Md:=a_ M.o.drew;clear M H2 Z;have M:=Md;clear Md;refine Cl (n:=13) (S:=λw'=>w'.cell? ⟨L,1,none⟩=some (.int .i64 d.f1)∧w'.cell? ⟨O,1,none⟩=some (.int .i64 s)) (ds:=[12]) #[false,false,false,false,false,false,false,false,false,false,false,false,false] (by kernel_rfl) rfl rfl ⟨d1,o⟩ (λI=>?_);refine Bf 0 46 ?_;refine Bf 1 47 ?_;refine Bf 3 49 ?_;refine Bf 4 50 ?_;refine Bf 7 53 ?_;refine KQ 2 48 I ?_;refine KQ 5 51 I ?_;refine Bf 6 52 ?_;refine E7 8 54 (λK hK=>?_);refine C7 R0 (by kernel_rfl) rfl #[.pointer (some ⟨g,0,none⟩),.int .i64 4] (by rfl) rfl rfl (by simp only[List.map_toArray,List.map_cons,List.map_nil];rfl) ?_;with_reducible refine(Ab.calls k g b p2 4 r p3 w0 _ M.o.hI M.o.st.M.hB HR.o).mono ?_
     rintro e w9 ⟨rfl,hI,hB,l⟩;refine⟨_,rfl,?_⟩;have D:=M.o.pick hI hB l;clear M hI hB l z o A B E y t0 t1 t2 t3 t4 t5 t6 t7 ty d0 d1 d2 d3 d4 d5 G;have M:=a_ D;clear D;obtain⟨z,o,A,B,E,y⟩:=M.o.st.B.c5 2 rfl;obtain⟨t0,t1,t2,t3,t4,t5,t6,t7,ty⟩:=M.o.st.B.c8 1 rfl;obtain⟨d0,d1,d2,d3,d4,d5,G⟩:=M.o.st.B.c6 0 rfl;refine hK.out _ _ ⟨d1,o⟩ (λI=>?_);clear hK K;refine Er 54 ?_;refine Bf 9 55 ?_;refine Bf 10 56 ?_;refine Bf 11 57 ?_;refine Fe (i:=12) (N:=none) #[true,true,true,true,true,true,true,true,true,true,true,true,true] rfl rfl (by kernel_rfl) (by decide) (λK hK=>?_);refine EL (w1:=?_) (by rfl) rfl ?_ ?_;rotate_left
     ·go_simp;rfl
     refine hK.out _ _ ?_;clear hK K;refine CV (by kernel_rfl) ?_;go_wp2;have m:Sg w0 w _ g b _ (L::J::O::zs) [⟨L,[.int .i64 d.f0,.int .i64 d.f1,.slice X d.f2.length b2,.slice B3 d.f3.length b3,.int .i64 d.f4,.int .i64 d.f5],26⟩,⟨J,[.int .i64 4,.int .i64 CR,.int .i64 (wrap64 (Int.tdiv (wrap64 (mm*r)) 3)),.int .i64 0,.int .i64 0,.int .i64 0,.int .i64 0,.string ⟨#[]⟩],95⟩,⟨O,[.slice A0 l0.length c0,.int .i64 s,.bool u,.slice (some ⟨g3,0,none⟩) l3.length c3,.slice W l4.length c4],64⟩] _ _ _ _ _ _:=M.o.Io 1 rfl;have T:=m.st.B.Ex 1 rfl;refine RH (RF rfl _ _ J 95 #[.int .i64 4,.int .i64 CR,.int .i64 (wrap64 (Int.tdiv (wrap64 (mm*r)) 3)),.int .i64 0,.int .i64 0,.int .i64 0,.int .i64 0,.string ⟨#[]⟩] (0,0) _ rfl T Sn rfl (by kernel_rfl)) rfl ?_;exact⟨rfl,m.hI,m.st.M.hB,m.CU⟩)
   rw[Rz k7]at a;have n7:(q==7)=false:=Dr (by omega);have n8:(q==8)=false:=Dr (by omega);clear H2 Z;by_cases k9:q=9
   ·rw[Ry k9]at a;subst k9;clear k0 k4 k5 k7 n0 n1 n2 n3 n4 n5 n6 n7 n8;replace a:=BR a;obtain⟨⟨r,p3⟩,hr,a⟩:=a;dsimp only at a;have HR:=a_ hr;clear hr;by_cases kr:r=0
    ·rw[Ry kr]at a;subst kr;replace a:=BR a;obtain⟨⟨v,p4⟩,hv,a⟩:=a;simp only[Option.some.injEq,Prod.mk.injEq,Jp.mk.injEq,Jk,E0.mk.injEq]at a;obtain⟨⟨rfl,rfl,rfl,rfl,rfl,rfl,rfl,rfl⟩,rfl⟩:=a;have HV:=a_ hv;clear hv
     go_wp2_with(first
      | (go_at_call 16;(with_reducible refine(Ab.calls k g b p2 3 0 p3 w0 _ M.o.hI M.o.st.M.hB HR.o).mono ?_);rintro e w8 ⟨rfl,hI,hB,l⟩;have D:=M.o.pick hI hB l;clear M hI hB l z o A B E y t0 t1 t2 t3 t4 t5 t6 t7 ty d0 d1 d2 d3 d4 d5 G;have M:=a_ D;clear D;obtain⟨z,o,A,B,E,y⟩:=M.o.st.B.c5 2 rfl;obtain⟨t0,t1,t2,t3,t4,t5,t6,t7,ty⟩:=M.o.st.B.c8 1 rfl;obtain⟨d0,d1,d2,d3,d4,d5,G⟩:=M.o.st.B.c6 0 rfl)
      | (go_at_call 16;(with_reducible refine(Ab.calls k g b p3 3 v p4 w0 _ M.o.hI M.o.st.M.hB HV.o).mono ?_);rintro e w9 ⟨rfl,hI,hB,l⟩;have D:=M.o.pick hI hB l;clear M hI hB l z o A B E y t0 t1 t2 t3 t4 t5 t6 t7 ty d0 d1 d2 d3 d4 d5 G;have M:=a_ D;clear D;obtain⟨z,o,A,B,E,y⟩:=M.o.st.B.c5 2 rfl;obtain⟨t0,t1,t2,t3,t4,t5,t6,t7,ty⟩:=M.o.st.B.c8 1 rfl;obtain⟨d0,d1,d2,d3,d4,d5,G⟩:=M.o.st.B.c6 0 rfl))
     have m:Sg w0 w _ g b _ (L::J::O::zs) [⟨L,[.int .i64 d.f0,.int .i64 d.f1,.slice X d.f2.length b2,.slice B3 d.f3.length b3,.int .i64 d.f4,.int .i64 d.f5],26⟩,⟨J,[.int .i64 5,.int .i64 0,.int .i64 v,.int .i64 0,.int .i64 0,.int .i64 0,.int .i64 0,.string ⟨#[]⟩],95⟩,⟨O,[.slice A0 l0.length c0,.int .i64 s,.bool u,.slice (some ⟨g3,0,none⟩) l3.length c3,.slice W l4.length c4],64⟩] _ _ _ _ _ _:=M.o.Io 1 rfl;have T:=m.st.B.Ex 1 rfl;refine RH (RF rfl _ _ J 95 #[.int .i64 5,.int .i64 0,.int .i64 v,.int .i64 0,.int .i64 0,.int .i64 0,.int .i64 0,.string ⟨#[]⟩] (0,0) _ rfl T Sn rfl (by kernel_rfl)) rfl ?_;exact⟨rfl,m.hI,m.st.M.hB,m.CU⟩
    rw[Rz kr]at a;have nr:(r==0)=false:=Dr kr;clear kr;cases u with
    | true =>
     rw[Ry rfl]at a
     replace a:=BR a;obtain⟨⟨v,p4⟩,hv,a⟩:=a
     dsimp only at a
     have HV:=a_ hv
     clear hv
     by_cases kv:v=0
     ·rw[Ry kv]at a
      subst kv
      simp only[Option.some.injEq,Prod.mk.injEq,Jp.mk.injEq,Jk,E0.mk.injEq]at a
      obtain⟨⟨rfl,rfl,rfl,rfl,rfl,rfl,rfl,rfl⟩,rfl⟩:=a
      go_wp2_with(first
       | (go_at_call 16;(with_reducible refine(Ab.calls k g b p2 3 r p3 w0 _ M.o.hI M.o.st.M.hB HR.o).mono ?_);rintro e w8 ⟨rfl,hI,hB,l⟩;have D:=M.o.pick hI hB l;clear M hI hB l z o A B E y t0 t1 t2 t3 t4 t5 t6 t7 ty d0 d1 d2 d3 d4 d5 G;have M:=a_ D;clear D;obtain⟨z,o,A,B,E,y⟩:=M.o.st.B.c5 2 rfl;obtain⟨t0,t1,t2,t3,t4,t5,t6,t7,ty⟩:=M.o.st.B.c8 1 rfl;obtain⟨d0,d1,d2,d3,d4,d5,G⟩:=M.o.st.B.c6 0 rfl)
       | (go_at_call 16;(with_reducible refine(Ab.calls k g b p3 4 0 p4 w0 _ M.o.hI M.o.st.M.hB HV.o).mono ?_);rintro e w9 ⟨rfl,hI,hB,l⟩;have D:=M.o.pick hI hB l;clear M hI hB l z o A B E y t0 t1 t2 t3 t4 t5 t6 t7 ty d0 d1 d2 d3 d4 d5 G;have M:=a_ D;clear D;obtain⟨z,o,A,B,E,y⟩:=M.o.st.B.c5 2 rfl;obtain⟨t0,t1,t2,t3,t4,t5,t6,t7,ty⟩:=M.o.st.B.c8 1 rfl;obtain⟨d0,d1,d2,d3,d4,d5,G⟩:=M.o.st.B.c6 0 rfl))
      have m:Sg w0 w _ g b _ (L::J::O::zs) [⟨L,[.int .i64 d.f0,.int .i64 d.f1,.slice X d.f2.length b2,.slice B3 d.f3.length b3,.int .i64 d.f4,.int .i64 d.f5],26⟩,⟨J,[.int .i64 6,.int .i64 0,.int .i64 0,.int .i64 0,.int .i64 0,.int .i64 0,.int .i64 0,.string ⟨#[]⟩],95⟩,⟨O,[.slice A0 l0.length c0,.int .i64 s,.bool true,.slice (some ⟨g3,0,none⟩) l3.length c3,.slice W l4.length c4],64⟩] _ _ _ _ _ _:=M.o.Io 1 rfl
      have T:=m.st.B.Ex 1 rfl
      refine RH (RF rfl _ _ J 95 #[.int .i64 6,.int .i64 0,.int .i64 0,.int .i64 0,.int .i64 0,.int .i64 0,.int .i64 0,.string ⟨#[]⟩] (0,0) _ rfl T Sn rfl (by kernel_rfl)) rfl ?_
      exact⟨rfl,m.hI,m.st.M.hB,m.CU⟩
     ·rw[Rz kv]at a
      have nv:(v==0)=false:=Dr kv
      clear kv
      unfold GA at a
      dsimp only at a
      replace a:=BR a;obtain⟨⟨r1,p8⟩,ae,a⟩:=a
      replace a:=BR a;obtain⟨⟨r2,p9⟩,af,a⟩:=a
      simp only[Option.some.injEq,Prod.mk.injEq,Jp.mk.injEq,Jk,E0.mk.injEq]at a
      obtain⟨⟨rfl,rfl,rfl,rfl,rfl,rfl,rfl,rfl⟩,rfl⟩:=a
      have ah:=a_ ae
      have ai:=a_ af
      clear ae af
      go_wp2_with(first
       | (go_at_call 16;(with_reducible refine(Ab.calls k g b p2 3 r p3 w0 _ M.o.hI M.o.st.M.hB HR.o).mono ?_);rintro e w8 ⟨rfl,hI,hB,l⟩;have D:=M.o.pick hI hB l;clear M hI hB l z o A B E y t0 t1 t2 t3 t4 t5 t6 t7 ty d0 d1 d2 d3 d4 d5 G;have M:=a_ D;clear D;obtain⟨z,o,A,B,E,y⟩:=M.o.st.B.c5 2 rfl;obtain⟨t0,t1,t2,t3,t4,t5,t6,t7,ty⟩:=M.o.st.B.c8 1 rfl;obtain⟨d0,d1,d2,d3,d4,d5,G⟩:=M.o.st.B.c6 0 rfl)
       | (go_at_call 16;(with_reducible refine(Ab.calls k g b p3 4 v p4 w0 _ M.o.hI M.o.st.M.hB HV.o).mono ?_);rintro e w9 ⟨rfl,hI,hB,l⟩;have D:=M.o.pick hI hB l;clear M hI hB l z o A B E y t0 t1 t2 t3 t4 t5 t6 t7 ty d0 d1 d2 d3 d4 d5 G;have M:=a_ D;clear D;obtain⟨z,o,A,B,E,y⟩:=M.o.st.B.c5 2 rfl;obtain⟨t0,t1,t2,t3,t4,t5,t6,t7,ty⟩:=M.o.st.B.c8 1 rfl;obtain⟨d0,d1,d2,d3,d4,d5,G⟩:=M.o.st.B.c6 0 rfl)
       | (go_at_call 16;(with_reducible refine(Ab.calls k g b p4 (wrap64 ((l4.length:Int)+1)) r1 p8 w0 _ M.o.hI M.o.st.M.hB ah.o).mono ?_);rintro e ax ⟨rfl,hI,hB,l⟩;have D:=M.o.pick hI hB l;clear M hI hB l z o A B E y t0 t1 t2 t3 t4 t5 t6 t7 ty d0 d1 d2 d3 d4 d5 G;have M:=a_ D;clear D;obtain⟨z,o,A,B,E,y⟩:=M.o.st.B.c5 2 rfl;obtain⟨t0,t1,t2,t3,t4,t5,t6,t7,ty⟩:=M.o.st.B.c8 1 rfl;obtain⟨d0,d1,d2,d3,d4,d5,G⟩:=M.o.st.B.c6 0 rfl)
       | (go_at_call 16;(with_reducible refine(Ab.calls k g b p8 2 r2 p9 w0 _ M.o.hI M.o.st.M.hB ai.o).mono ?_);rintro e aB ⟨rfl,hI,hB,l⟩;have D:=M.o.pick hI hB l;clear M hI hB l z o A B E y t0 t1 t2 t3 t4 t5 t6 t7 ty d0 d1 d2 d3 d4 d5 G;have M:=a_ D;clear D;obtain⟨z,o,A,B,E,y⟩:=M.o.st.B.c5 2 rfl;obtain⟨t0,t1,t2,t3,t4,t5,t6,t7,ty⟩:=M.o.st.B.c8 1 rfl;obtain⟨d0,d1,d2,d3,d4,d5,G⟩:=M.o.st.B.c6 0 rfl))
      have m:Sg w0 w _ g b _ (L::J::O::zs) [⟨L,[.int .i64 d.f0,.int .i64 d.f1,.slice X d.f2.length b2,.slice B3 d.f3.length b3,.int .i64 d.f4,.int .i64 d.f5],26⟩,⟨J,[.int .i64 8,.int .i64 0,.int .i64 (wrap64 (r1*r2)),.int .i64 0,.int .i64 0,.int .i64 0,.int .i64 0,.string ⟨#[]⟩],95⟩,⟨O,[.slice A0 l0.length c0,.int .i64 s,.bool true,.slice (some ⟨g3,0,none⟩) l3.length c3,.slice W l4.length c4],64⟩] _ _ _ _ _ _:=M.o.Io 1 rfl
      have T:=m.st.B.Ex 1 rfl
      refine RH (RF rfl _ _ J 95 #[.int .i64 8,.int .i64 0,.int .i64 (wrap64 (r1*r2)),.int .i64 0,.int .i64 0,.int .i64 0,.int .i64 0,.string ⟨#[]⟩] (0,0) _ rfl T Sn rfl (by kernel_rfl)) rfl ?_
      exact⟨rfl,m.hI,m.st.M.hB,m.CU⟩
    | false =>
     rw[Rz (by decide)]at a
     simp only[Option.some.injEq,Prod.mk.injEq,Jp.mk.injEq,Jk,E0.mk.injEq]at a
     obtain⟨⟨rfl,rfl,rfl,rfl,rfl,rfl,rfl,rfl⟩,rfl⟩:=a
     go_wp2_with((go_at_call 16;(with_reducible refine(Ab.calls k g b p2 3 r p3 w0 _ M.o.hI M.o.st.M.hB HR.o).mono ?_);rintro e w8 ⟨rfl,hI,hB,l⟩;have D:=M.o.pick hI hB l;clear M hI hB l z o A B E y t0 t1 t2 t3 t4 t5 t6 t7 ty d0 d1 d2 d3 d4 d5 G;have M:=a_ D;clear D;obtain⟨z,o,A,B,E,y⟩:=M.o.st.B.c5 2 rfl;obtain⟨t0,t1,t2,t3,t4,t5,t6,t7,ty⟩:=M.o.st.B.c8 1 rfl;obtain⟨d0,d1,d2,d3,d4,d5,G⟩:=M.o.st.B.c6 0 rfl))
     have m:Sg w0 w _ g b _ (L::J::O::zs) [⟨L,[.int .i64 d.f0,.int .i64 d.f1,.slice X d.f2.length b2,.slice B3 d.f3.length b3,.int .i64 d.f4,.int .i64 d.f5],26⟩,⟨J,[.int .i64 7,.int .i64 0,.int .i64 0,.int .i64 0,.int .i64 0,.int .i64 0,.int .i64 0,.string ⟨#[]⟩],95⟩,⟨O,[.slice A0 l0.length c0,.int .i64 s,.bool false,.slice (some ⟨g3,0,none⟩) l3.length c3,.slice W l4.length c4],64⟩] _ _ _ _ _ _:=M.o.Io 1 rfl
     have T:=m.st.B.Ex 1 rfl
     refine RH (RF rfl _ _ J 95 #[.int .i64 7,.int .i64 0,.int .i64 0,.int .i64 0,.int .i64 0,.int .i64 0,.int .i64 0,.string ⟨#[]⟩] (0,0) _ rfl T Sn rfl (by kernel_rfl)) rfl ?_
     exact⟨rfl,m.hI,m.st.M.hB,m.CU⟩
   rw[Rz k9]at a;have n9:(q==9)=false:=Dr (by omega);by_cases ag:q=10
   ·rw[Ry ag]at a;subst ag;clear k0 k4 k5 k7 k9 n0 n1 n2 n3 n4 n5 n6 n7 n8 n9;replace a:=BR a;obtain⟨⟨r,p3⟩,hr,a⟩:=a;dsimp only at a;replace a:=BR a;obtain⟨⟨v,p4⟩,hv,a⟩:=a;dsimp only at a;have HR:=a_ hr;have HV:=a_ hv;clear hr hv;by_cases kr:r=0
    ·rw[Ry kr]at a;subst kr;simp only[Option.some.injEq,Prod.mk.injEq,Jp.mk.injEq,Jk,E0.mk.injEq]at a;obtain⟨⟨rfl,rfl,rfl,rfl,rfl,rfl,rfl,rfl⟩,rfl⟩:=a
     go_wp2_with(first
      | (go_at_call 16;(with_reducible refine(Ab.calls k g b p2 2 0 p3 w0 _ M.o.hI M.o.st.M.hB HR.o).mono ?_);rintro e w8 ⟨rfl,hI,hB,l⟩;have D:=M.o.pick hI hB l;clear M hI hB l z o A B E y t0 t1 t2 t3 t4 t5 t6 t7 ty d0 d1 d2 d3 d4 d5 G;have M:=a_ D;clear D;obtain⟨z,o,A,B,E,y⟩:=M.o.st.B.c5 2 rfl;obtain⟨t0,t1,t2,t3,t4,t5,t6,t7,ty⟩:=M.o.st.B.c8 1 rfl;obtain⟨d0,d1,d2,d3,d4,d5,G⟩:=M.o.st.B.c6 0 rfl)
      | (go_at_call 16;(with_reducible refine(Ab.calls k g b p3 (wrap64 ((l4.length:Int)+1)) v p4 w0 _ M.o.hI M.o.st.M.hB HV.o).mono ?_);rintro e w9 ⟨rfl,hI,hB,l⟩;have D:=M.o.pick hI hB l;clear M hI hB l z o A B E y t0 t1 t2 t3 t4 t5 t6 t7 ty d0 d1 d2 d3 d4 d5 G;have M:=a_ D;clear D;obtain⟨z,o,A,B,E,y⟩:=M.o.st.B.c5 2 rfl;obtain⟨t0,t1,t2,t3,t4,t5,t6,t7,ty⟩:=M.o.st.B.c8 1 rfl;obtain⟨d0,d1,d2,d3,d4,d5,G⟩:=M.o.st.B.c6 0 rfl))
     have m:Sg w0 w _ g b _ (L::J::O::zs) [⟨L,[.int .i64 d.f0,.int .i64 d.f1,.slice X d.f2.length b2,.slice B3 d.f3.length b3,.int .i64 d.f4,.int .i64 d.f5],26⟩,⟨J,[.int .i64 10,.int .i64 0,.int .i64 v,.int .i64 0,.int .i64 0,.int .i64 0,.int .i64 0,.string ⟨#[]⟩],95⟩,⟨O,[.slice A0 l0.length c0,.int .i64 s,.bool u,.slice (some ⟨g3,0,none⟩) l3.length c3,.slice W l4.length c4],64⟩] _ _ _ _ _ _:=M.o.Io 1 rfl;have T:=m.st.B.Ex 1 rfl;refine RH (RF rfl _ _ J 95 #[.int .i64 10,.int .i64 0,.int .i64 v,.int .i64 0,.int .i64 0,.int .i64 0,.int .i64 0,.string ⟨#[]⟩] (0,0) _ rfl T Sn rfl (by kernel_rfl)) rfl ?_;exact⟨rfl,m.hI,m.st.M.hB,m.CU⟩
    rw[Rz kr]at a;have nr:(r==0)=false:=Dr kr;clear kr;simp only[Option.some.injEq,Prod.mk.injEq,Jp.mk.injEq,Jk,E0.mk.injEq]at a;obtain⟨⟨rfl,rfl,rfl,rfl,rfl,rfl,rfl,rfl⟩,rfl⟩:=a
    go_wp2_with(first
     | (go_at_call 16;(with_reducible refine(Ab.calls k g b p2 2 r p3 w0 _ M.o.hI M.o.st.M.hB HR.o).mono ?_);rintro e w8 ⟨rfl,hI,hB,l⟩;have D:=M.o.pick hI hB l;clear M hI hB l z o A B E y t0 t1 t2 t3 t4 t5 t6 t7 ty d0 d1 d2 d3 d4 d5 G;have M:=a_ D;clear D;obtain⟨z,o,A,B,E,y⟩:=M.o.st.B.c5 2 rfl;obtain⟨t0,t1,t2,t3,t4,t5,t6,t7,ty⟩:=M.o.st.B.c8 1 rfl;obtain⟨d0,d1,d2,d3,d4,d5,G⟩:=M.o.st.B.c6 0 rfl)
     | (go_at_call 16;(with_reducible refine(Ab.calls k g b p3 (wrap64 ((l4.length:Int)+1)) v p4 w0 _ M.o.hI M.o.st.M.hB HV.o).mono ?_);rintro e w9 ⟨rfl,hI,hB,l⟩;have D:=M.o.pick hI hB l;clear M hI hB l z o A B E y t0 t1 t2 t3 t4 t5 t6 t7 ty d0 d1 d2 d3 d4 d5 G;have M:=a_ D;clear D;obtain⟨z,o,A,B,E,y⟩:=M.o.st.B.c5 2 rfl;obtain⟨t0,t1,t2,t3,t4,t5,t6,t7,ty⟩:=M.o.st.B.c8 1 rfl;obtain⟨d0,d1,d2,d3,d4,d5,G⟩:=M.o.st.B.c6 0 rfl))
    have m:Sg w0 w _ g b _ (L::J::O::zs) [⟨L,[.int .i64 d.f0,.int .i64 d.f1,.slice X d.f2.length b2,.slice B3 d.f3.length b3,.int .i64 d.f4,.int .i64 d.f5],26⟩,⟨J,[.int .i64 9,.int .i64 0,.int .i64 v,.int .i64 0,.int .i64 0,.int .i64 0,.int .i64 0,.string ⟨#[]⟩],95⟩,⟨O,[.slice A0 l0.length c0,.int .i64 s,.bool u,.slice (some ⟨g3,0,none⟩) l3.length c3,.slice W l4.length c4],64⟩] _ _ _ _ _ _:=M.o.Io 1 rfl;have T:=m.st.B.Ex 1 rfl;refine RH (RF rfl _ _ J 95 #[.int .i64 9,.int .i64 0,.int .i64 v,.int .i64 0,.int .i64 0,.int .i64 0,.int .i64 0,.string ⟨#[]⟩] (0,0) _ rfl T Sn rfl (by kernel_rfl)) rfl ?_;exact⟨rfl,m.hI,m.st.M.hB,m.CU⟩
   rw[Rz ag]at a;have aK:(q==10)=false:=Dr (by omega);clear k0 k4 k5 k7 k9 ag;unfold GA at a;dsimp only at a;replace a:=BR a;obtain⟨⟨r1,p8⟩,ae,a⟩:=a;replace a:=BR a;obtain⟨⟨r2,p9⟩,af,a⟩:=a;simp only[Option.some.injEq,Prod.mk.injEq,Jp.mk.injEq,Jk,E0.mk.injEq]at a;obtain⟨⟨rfl,rfl,rfl,rfl,rfl,rfl,rfl,rfl⟩,rfl⟩:=a;have ah:=a_ ae;have ai:=a_ af;clear ae af
   go_wp2_with(first
    | (go_at_call 16;(with_reducible refine(Ab.calls k g b p2 (wrap64 ((l4.length:Int)+1)) r1 p8 w0 _ M.o.hI M.o.st.M.hB ah.o).mono ?_);rintro e ax ⟨rfl,hI,hB,l⟩;have D:=M.o.pick hI hB l;clear M hI hB l z o A B E y t0 t1 t2 t3 t4 t5 t6 t7 ty d0 d1 d2 d3 d4 d5 G;have M:=a_ D;clear D;obtain⟨z,o,A,B,E,y⟩:=M.o.st.B.c5 2 rfl;obtain⟨t0,t1,t2,t3,t4,t5,t6,t7,ty⟩:=M.o.st.B.c8 1 rfl;obtain⟨d0,d1,d2,d3,d4,d5,G⟩:=M.o.st.B.c6 0 rfl)
    | (go_at_call 16;(with_reducible refine(Ab.calls k g b p8 2 r2 p9 w0 _ M.o.hI M.o.st.M.hB ai.o).mono ?_);rintro e aB ⟨rfl,hI,hB,l⟩;have D:=M.o.pick hI hB l;clear M hI hB l z o A B E y t0 t1 t2 t3 t4 t5 t6 t7 ty d0 d1 d2 d3 d4 d5 G;have M:=a_ D;clear D;obtain⟨z,o,A,B,E,y⟩:=M.o.st.B.c5 2 rfl;obtain⟨t0,t1,t2,t3,t4,t5,t6,t7,ty⟩:=M.o.st.B.c8 1 rfl;obtain⟨d0,d1,d2,d3,d4,d5,G⟩:=M.o.st.B.c6 0 rfl))
   have m:Sg w0 w _ g b _ (L::J::O::zs) [⟨L,[.int .i64 d.f0,.int .i64 d.f1,.slice X d.f2.length b2,.slice B3 d.f3.length b3,.int .i64 d.f4,.int .i64 d.f5],26⟩,⟨J,[.int .i64 8,.int .i64 0,.int .i64 (wrap64 (r1*r2)),.int .i64 0,.int .i64 0,.int .i64 0,.int .i64 0,.string ⟨#[]⟩],95⟩,⟨O,[.slice A0 l0.length c0,.int .i64 s,.bool u,.slice (some ⟨g3,0,none⟩) l3.length c3,.slice W l4.length c4],64⟩] _ _ _ _ _ _:=M.o.Io 1 rfl;have T:=m.st.B.Ex 1 rfl;refine RH (RF rfl _ _ J 95 #[.int .i64 8,.int .i64 0,.int .i64 (wrap64 (r1*r2)),.int .i64 0,.int .i64 0,.int .i64 0,.int .i64 0,.string ⟨#[]⟩] (0,0) _ rfl T Sn rfl (by kernel_rfl)) rfl ?_;exact⟨rfl,m.hI,m.st.M.hB,m.CU⟩
  rw[Rz c2]at a;exact absurd a (by simp)
 rw[Rz c1]at a;exact absurd a (by simp)
theorem Cu.calls(k:Nat)(g:Nat)(b:List Int)(p:Int)(d0:Dy)(d1:Int)(d2:Bool)(d3:En)(d4:Dz)(p':Int)(w0 w:World)(hI:Ad w0 w g b p)(hB:Below w0.heap.size w0 w)
  (j:Cu.f k b p=some (⟨d0,d1,d2,d3,d4⟩,p')) :
  Calls Tryd.prog 48 #[.pointer (some ⟨g,0,none⟩)] w λe w'=>∃(vE ao:Value) (A0:Option Addr) (m0 c0:Nat) (A4:Option Addr) (m4 c4:Nat),e=.returned (.tuple #[vE,.agg #[.slice A0 m0 c0,.int .i64 d1,.bool d2,ao,.slice A4 m4 c4]])∧Kd.S Ha 26 w' w.heap.size (λ_=>True) ao d3∧Ad w0 w' g b p'∧Below w0.heap.size w0 w'∧Ah w w' g none:=by
 have av:=RK;have ax:=Sn;have aw:=Tryd.underlying79;unfold Cu.f at j;replace j:=BR j;obtain⟨⟨n0,n1,n2,n3,n4⟩,hn,j⟩:=j;replace j:=BR j;obtain⟨⟨n,p1⟩,hp,j⟩:=j;dsimp only at j;by_cases c:n≤1000
 ·rw[Ry c]at j;replace j:=BR j;obtain⟨⟨⟨y0,y1,y2,y3,y4⟩,p2⟩,hl,j⟩:=j;replace j:=BR j;obtain⟨⟨r0,r1,r2,r3,r4⟩,hc,j⟩:=j;simp only[Option.some.injEq,Prod.mk.injEq,Wd.mk.injEq]at j;obtain⟨⟨rfl,rfl,rfl,rfl,rfl⟩,rfl⟩:=j;have HN:=a_ hn;have HP:=a_ hp;have HL:=a_ hl;have HC:=a_ (show AM.f k y0 y1 y2 y3 y4=some (r0,r1,r2,r3,r4)from hc);have HI:=a_ hI;have HB:=a_ hB;have CN:=a_ c;clear hn hp hl hc hI hB c;go_enter Tryd.func48,Tryd.ntmps48
  go_wp2_with(first
   | ((with_reducible refine BV (N:=3) rfl ?_);refine Cy 3 (#[.slice none 0 0,.int .i64 0,.bool false,.slice none 0 0,.slice none 0 0]) 64 ?_;intro o hg w1 a l;have af:=a_ a;have BL:=a_ l;have BG:=a_ hg;clear a l hg)
   | (go_at_call 58;(with_reducible refine(Bl.calls k n0 n1 n2 n3 n4 _ HN.o).mono ?_);rintro e w2 ⟨v0,v3,v4,rfl,L,r,A,l⟩;obtain⟨A0,c0,rfl⟩:=Kd.Be L;obtain⟨X,ak⟩:∃x,x=n3.length:=⟨_,rfl⟩;obtain⟨P,c3,e3⟩:=Kd.Ep r;rw[<-ak]at e3;subst e3;clear ak;obtain⟨A4,c4,rfl⟩:=Kd.Ep A;have M:=a_ (Sg.made (cs:=[.slice none 0 0,.int .i64 0,.bool false,.slice none 0 0,.slice none 0 0]) HI.o HB.o BG.o BL.o af.o l L r A);have O3:=a_ (show ∀k,(Value.slice P X c3).ownBlock=some k->w.heap.size≤k from λk d=>RJ BL.o.size (Kd.MK r k d));have O4:=a_ (show ∀k,(Value.slice A4 n4.length c4).ownBlock=some k->w.heap.size≤k from λk d=>RJ BL.o.size (Kd.MK A k d));clear L r A l af BL BG HI HB)
   | ((with_reducible refine BV (N:=4) rfl ?_);refine Cy 4 (#[.slice none 0 0,.int .i64 0,.bool false,.slice none 0 0,.slice none 0 0]) 64 ?_;intro z hg w3 a l;have D:=M.o.box (cs:=[.slice none 0 0,.int .i64 0,.bool false,.slice none 0 0,.slice none 0 0]) hg l a;clear M a l hg;have M:=a_ D;clear D;obtain⟨E,G,I,J,K,y⟩:=M.o.st.B.c5 0 rfl)
   | ((with_reducible refine Dc (t:=64) (p:=4) rfl ?_);refine CY (t:=64) (p:=4) (v:=?q') (w1:=(((((w3.setCell ⟨z,0,none⟩ (.slice A0 n0.length c0)).setCell ⟨z,1,none⟩ (.int .i64 n1)).setCell ⟨z,2,none⟩ (.bool n2)).setCell ⟨z,3,none⟩ (.slice P X c3)).setCell ⟨z,4,none⟩ (.slice A4 n4.length c4))) ?hg ?ho ?hn ?hr ?_;(case ho=>rfl);(case hg=>rfl);(case hn=>rfl);(case hr=>first|(go_simp;done)|(go_simp;rfl));intro w4 hw;have D:Sg w0 w _ g b _ [z,o,g] [⟨z,[.slice A0 n0.length c0,.int .i64 n1,.bool n2,.slice P X c3,.slice A4 n4.length c4],64⟩,⟨o,[.slice none 0 0,.int .i64 0,.bool false,.slice none 0 0,.slice none 0 0],64⟩] _ _ _ _ _ _:=M.o.DW 0 rfl;rw[<-hw]at D;clear M hw E G I J K y;have M:=a_ D;clear D)
   | ((with_reducible refine BV (N:=9) rfl ?_);refine Kd.DG (Kd.raw 8) (w0:=w0) w0.heap.size 95 ?hg (N:=9) ?hd (xs:=([]:List (List Value))) (inner:=[]) (ok:=λ_=>True) (okp:=λ_=>True) ?hr ?hp (λ_ d=>d) trivial M.o.st.M.hB M.o.st.M.hB.size (by simp) ?_;(case hd=>rfl);(case hg=>rfl);(case hr=>first|(go_simp;done)|(go_simp;rfl));(case hp=>exact(Bn.none _ _));intro vE w5 ho l hg T;obtain⟨eb,D⟩:=Gk.Rw M.o ho l hg T O3.o O4.o;clear M ho l hg T O3 O4;have M:=a_ D;clear D)
   | (go_at_call 16;(with_reducible refine(Ab.calls k g b p 46 n p1 w0 _ M.o.hI M.o.M.hB HP.o).mono ?_);rintro e w6 ⟨rfl,hI,hB,d⟩;have D:=M.o.pick hI hB d;clear M hI hB d;have M:=a_ D;clear D))
  go_loopg [5,6] k (λkq v5 v6 w'=>∃(O pc:Int) (U:Dy) (s:Int) (u:Bool) (x3:En) (W:Dz) (q0 q4:Value) (eb m:Nat),v6=.int .i64 O∧Ac (Cu.l0 kq b pc O ⟨U,s,u,x3,W⟩=some (⟨y0,y1,y2,y3,y4⟩,p2))∧Ac (kq≤k∧O≤1000∧(m:Int)+O≤1000∧(m=0∨0≤O))∧Ac (Gk w0 w w' g b pc eb [z,o,g] [⟨z,[q0,.int .i64 s,.bool u,.slice P X c3,q4],64⟩,⟨o,[.slice none 0 0,.int .i64 0,.bool false,.slice none 0 0,.slice none 0 0],64⟩] q0 (.slice P X c3) q4 U x3 W v5 m))
  case atStart=>exact⟨n,p1,n0,n1,n2,n3,n4,.slice A0 n0.length c0,.slice A4 n4.length c4,eb,0,rfl,HL,⟨RB _,CN.o,by have:=CN.o;omega,.inl rfl⟩,M⟩
  clear M HL HP HN CN;obtain⟨O,pc,U,s,u,x3,W,q0,q4,eb,m,rfl,HL,HM,M⟩:=hrel;cases gk with
  | zero=>exact absurd HL.o (by simp[Cu.l0])
  | succ k1 =>
   have hl:=HL.o
   clear HL
   simp only[Cu.l0]at hl
   obtain⟨B0,b0,rfl⟩:=Kd.Cd M.o.M.h0
   obtain⟨B4,b4,rfl⟩:=Kd.C3 M.o.M.h4
   by_cases c:O>0
   ·rw[Ry c]at hl
    replace hl:=BR hl;obtain⟨⟨⟨Y,ew,Z,⟨o0,o1,o2,o3,o4⟩⟩,pe⟩,he,hl⟩:=hl
    replace hl:=BR hl;obtain⟨⟨f0,f1,f2,f3,f4⟩,hd,hl⟩:=hl
    dsimp only at hl
    have HE:=a_ he
    have HD:=a_ (show EF.f k1 ⟨U,s,u,x3,W⟩ ⟨Y,ew,Z,⟨o0,o1,o2,o3,o4⟩⟩=some ⟨f0,f1,f2,f3,f4⟩from hd)
    have au:wrap64 (O-1)=O-1:=by have:=HM.o;unfold wrap64;omega
    rw[au]at hl
    have HL:=a_ hl
    have cb:decide (O>0)=true:=BM c
    have CP:=a_ c
    clear he hd hl c
    obtain⟨E,G,I,J,K,y⟩:=M.o.B.c5 0 rfl
    go_wp2_with(first
     | (go_at_call 59;(with_reducible refine(DY.calls k1 g b pc (eb::[z,o,g]) (.slice B0 U.length b0) (.slice P X c3) (.slice B4 W.length b4) U s u x3 W Y ew Z o0 o1 o2 o3 o4 pe w0 _ M.o.hI (by simp) M.o.M HE.o).mono ?_);rintro e w7 ⟨rfl,hI,hB,d⟩;have D:=M.o.pick hI hB d;clear M hI hB d E G I J K y;have M:=a_ D;clear D;obtain⟨E,G,I,J,K,y⟩:=M.o.B.c5 0 rfl)
     | ((with_reducible refine BV (N:=7) rfl ?_);refine Cy 7 (#[.int .i64 0,.int .i64 0,.int .i64 0,.int .i64 0,.int .i64 0,.int .i64 0,.int .i64 0,.string ⟨#[]⟩]) 95 ?_;intro B hg w8 a l;have D:=M.o.box (cs:=[.int .i64 0,.int .i64 0,.int .i64 0,.int .i64 0,.int .i64 0,.int .i64 0,.int .i64 0,.string ⟨#[]⟩]) hg l a;clear E G I J K y M a l hg;have M:=a_ D;clear D;obtain⟨E,G,I,J,K,y⟩:=M.o.B.c5 1 rfl;obtain⟨e0,e1,e2,e3,e4,e5,e6,e7,ye⟩:=M.o.B.c8 0 rfl)
     | ((with_reducible refine Dc (t:=95) (p:=7) rfl ?_);refine CY (t:=95) (p:=7) (v:=?z') (w1:=((((((((w8.setCell ⟨B,0,none⟩ (.int .i64 Y)).setCell ⟨B,1,none⟩ (.int .i64 ew)).setCell ⟨B,2,none⟩ (.int .i64 Z)).setCell ⟨B,3,none⟩ (.int .i64 o0)).setCell ⟨B,4,none⟩ (.int .i64 o1)).setCell ⟨B,5,none⟩ (.int .i64 o2)).setCell ⟨B,6,none⟩ (.int .i64 o3)).setCell ⟨B,7,none⟩ (.string o4))) ?hg ?ho ?hn ?hr ?_;(case ho=>rfl);(case hg=>rfl);(case hn=>rfl);(case hr=>first|(go_simp;done)|(go_simp;rfl));intro w9 hw;have D:Gk w0 w _ g b _ eb [B,z,o,g] [⟨B,[.int .i64 Y,.int .i64 ew,.int .i64 Z,.int .i64 o0,.int .i64 o1,.int .i64 o2,.int .i64 o3,.string o4],95⟩,⟨z,[.slice B0 U.length b0,.int .i64 s,.bool u,.slice P X c3,.slice B4 W.length b4],64⟩,⟨o,[.slice none 0 0,.int .i64 0,.bool false,.slice none 0 0,.slice none 0 0],64⟩] _ _ _ _ _ _ _ _:=M.o.Io 0 rfl;rw[<-hw]at D;clear M hw E G I J K y e0 e1 e2 e3 e4 e5 e6 e7 ye;have M:=a_ D;clear D;obtain⟨E,G,I,J,K,y⟩:=M.o.B.c5 1 rfl;obtain⟨e0,e1,e2,e3,e4,e5,e6,e7,ye⟩:=M.o.B.c8 0 rfl)
     | ((with_reducible refine Bo (b:=.append) (xs:=#[.tmp 19,.tmp 21]) rfl ?_);at_builtin;obtain⟨rows,al,an⟩:=M.o.hR;refine Kd.ES (Kd.raw 8) (w0:=w0) w0.heap.size rfl (.tmp 19) (.tmp 21) 79 95 (.agg #[.int .i64 0,.int .i64 0,.int .i64 0,.int .i64 0,.int .i64 0,.int .i64 0,.int .i64 0,.string ⟨#[]⟩]) 72 rfl Tryd.underlying79 PO rfl (by decide) (by omega) _ rows [.int .i64 Y,.int .i64 ew,.int .i64 Z,.int .i64 o0,.int .i64 o1,.int .i64 o2,.int .i64 o3,.string o4] [.int .i64 Y,.int .i64 ew,.int .i64 Z,.int .i64 o0,.int .i64 o1,.int .i64 o2,.int .i64 o3,.string o4] (λ_=>True) (λ_=>False) rfl rfl ?aP (λ_ d=>d.elim) (λ_ _=>trivial) (Kd.Ai an (λ_ _=>trivial)) M.o.M.hB M.o.M.hB.size (by have:=HM.o;omega) ?_;(case aP=>exact⟨rfl,rfl,by simp[Value.oneCell']⟩);intro az aA ho l hg T;obtain⟨aa,D⟩:=M.o.app ho (by rw[Sc,al];rfl) l hg T;clear M ho l hg T an al E G I J K y e0 e1 e2 e3 e4 e5 e6 e7 ye;have M:=a_ D;clear D;obtain⟨E,G,I,J,K,y⟩:=M.o.B.c5 1 rfl;obtain⟨e0,e1,e2,e3,e4,e5,e6,e7,ye⟩:=M.o.B.c8 0 rfl)
     | (go_at_call 60;(with_reducible refine(EF.calls k1 (aa::[B,z,o,g]) (.slice B0 U.length b0) (.slice P X c3) (.slice B4 W.length b4) U s u x3 W Y ew Z o0 o1 o2 o3 o4 f0 f1 f2 f3 f4 w0 _ M.o.M HD.o).mono ?_);rintro e aB ⟨ay,Gv,rfl,hM,hO⟩;have D:=M.o.Ru hM hO;obtain⟨ab,ai,aq⟩:=Kd.Cd hM.h0;obtain⟨ae,aj,ar⟩:=Kd.C3 hM.h4;subst aq;subst ar;clear M hM hO E G I J K y e0 e1 e2 e3 e4 e5 e6 e7 ye;have M:=a_ D;clear D;obtain⟨E,G,I,J,K,y⟩:=M.o.B.c5 1 rfl))
    have D:Gk w0 w _ g b _ aa [B,z,o,g] [⟨B,[.int .i64 Y,.int .i64 ew,.int .i64 Z,.int .i64 o0,.int .i64 o1,.int .i64 o2,.int .i64 o3,.string o4],95⟩,⟨z,[.slice ab f0.length ai,.int .i64 f1,.bool f2,.slice P X c3,.slice ae f4.length aj],64⟩,⟨o,[.slice none 0 0,.int .i64 0,.bool false,.slice none 0 0,.slice none 0 0],64⟩] _ _ _ _ _ _ _ _:=M.o.DW 1 rfl
    have D1:=Gk.drop (q:=⟨B,[.int .i64 Y,.int .i64 ew,.int .i64 Z,.int .i64 o0,.int .i64 o1,.int .i64 o2,.int .i64 o3,.string o4],95⟩) D
    go_roundg k1
    case measure=>have:=HM.o;omega
    case rel=>exact⟨O-1,pe,f0,f1,f2,f3,f4,.slice ab f0.length ai,.slice ae f4.length aj,aa,m+1,(by first|rfl|(simp[*];done)),HL,⟨by have:=HM.o;omega,by have:=HM.o;omega,by have:=HM.o;omega,by have:=CP.o;omega⟩,⟨D1⟩⟩
   ·rw[Rz c]at hl
    simp only[Option.some.injEq,Prod.mk.injEq,Wd.mk.injEq]at hl
    obtain⟨⟨rfl,rfl,rfl,rfl,rfl⟩,rfl⟩:=hl
    have cb:decide (O>0)=false:=C9 c
    clear c
    obtain⟨E,G,I,J,K,y⟩:=M.o.B.c5 0 rfl
    have hL:X=x3.length:=(Kd.Fp M.o.M.h3).1
    subst hL
    have ah:=a_ (Kd.Fp M.o.M.h3).2.2
    have ag:=a_ (Kd.Fp M.o.M.h3).2.1
    go_wp2_with((go_at_call 61;(with_reducible refine(AM.calls k B0 b0 U s u P c3 x3 B4 b4 W r0 r1 r2 r3 r4 _ (Kd.AY M.o.M.h0).2.2 (Kd.AY M.o.M.h0).2.1 (ah.o) (ag.o) (Kd.Fp M.o.M.h4).2.2 (Kd.Fp M.o.M.h4).2.1 HC.o).mono ?_);rintro e aC ⟨k0,k3,k4,rfl,L,r,A,l⟩;obtain⟨K0,q0,rfl⟩:=Kd.Be L;obtain⟨K3,q3,rfl⟩:=Kd.Ep r;obtain⟨K4,q4,rfl⟩:=Kd.Ep A;have D:=M.o.below l;have G3:=a_ (Kd.Ea (Kd.CM (Kd.F7 r) (Fi:=λk_=>k_≠o) (λk_ d=>λe=>by have:=M.o.B.lt (b:=⟨o,[.slice none 0 0,.int .i64 0,.bool false,.slice none 0 0,.slice none 0 0],64⟩) (by simp);have:=d.2.1;simp only at *;omega)) M.o.B.hK.1);clear M L r A l E G I J K y ah ag;have M:=a_ D;clear D;obtain⟨t0,t1,t2,t3,t4,ty⟩:=M.o.B.c5 1 rfl))
    have D2:Gk w0 w _ g b _ eb _ [⟨z,[.slice B0 U.length b0,.int .i64 s,.bool u,.slice P x3.length c3,.slice B4 W.length b4],64⟩,⟨o,[.slice K0 r0.length q0,.int .i64 r1,.bool r2,.slice K3 r3.length q3,.slice K4 r4.length q4],64⟩] _ _ _ _ _ _ _ _:=M.o.DW 1 rfl
    have DB:=D2.B.Ex 1 rfl
    refine RH (KN rfl _ _ o 64 #[.slice K0 r0.length q0,.int .i64 r1,.bool r2,.slice K3 r3.length q3,.slice K4 r4.length q4] (0,0) _ rfl DB RK rfl (by kernel_rfl)) rfl ?_
    exact⟨_,_,_,_,_,_,_,_,rfl,Kd.CM (Kd.Cj (p:=⟨o,4,none⟩) (Kd.Cj (p:=⟨o,3,none⟩) (Kd.Cj (p:=⟨o,2,none⟩) (Kd.Cj (p:=⟨o,1,none⟩) (Kd.Cj (p:=⟨o,0,none⟩) G3.o (λ_ d=>d) _) (λ_ d=>d) _) (λ_ d=>d) _) (λ_ d=>d) _) (λ_ d=>d) _) (λ_ _=>trivial),D2.hI,D2.M.hB,⟨D2.B.hK.1,λi h1 h2 _=>D2.B.hK.2 i h1 h2⟩⟩
 rw[Rz c]at j;exact absurd j (by simp)
structure Gx (w0 w W:World) (g:Nat) (b:List Int) (p:Int) (zs:List Nat) (bs:List Bx) (D:World->Prop):Prop where
 hB:Below w0.heap.size w0 W
 B:BX w W zs (λk=>k=g) bs
 hw:w0.heap.size≤w.heap.size
 hI:Ad w0 W g b p
 hz:g∈zs
 hg:g<w.heap.size
 hl:∀k,k∈zs->k<W.heap.size
 hD:Cx D W (λk=>k∉zs)
section
variable {w0 w W W1:World} {g:Nat} {b:List Int} {p:Int} {zs zs':List Nat} {bs:List Bx} {D D':World->Prop}
theorem Gx.start(hI:Ad w0 w g b p)(hB:Below w0.heap.size w0 w):Gx w0 w w g b p [g] [] (λ_=>True) :=
 ⟨hB,BX.start _ _ _,hB.size,hI,by simp,hI.lt,λk a=>by rw[List.mem_singleton.1 a];exact hI.lt,λ_ _=>trivial⟩
theorem Gx.Ja(h:Gx w0 w W g b p zs bs D)(hD:Cx D' W (λk=>k∉zs)):Gx w0 w W g b p zs bs D':=⟨h.hB,h.B,h.hw,h.hI,h.hz,h.hg,h.hl,hD⟩
theorem Gx.now(h:Gx w0 w W g b p zs bs D):D W:=Cx.now h.hD
theorem Gx.drew(h:Gx w0 w W g b p zs bs D):Gx w0 w W.drew g b p zs bs D :=
 ⟨E2 h.hB,⟨h.B.at_,h.B.nd,h.B.ge,h.B.mem,Kept.drew h.B.hK⟩,h.hw,h.hI.drew,h.hz,h.hg,h.hl,Cx.step h.hD (λ_ _ _=>rfl)⟩
theorem Gx.box(h:Gx w0 w W g b p zs bs D){a:Nat}{cs:List Value}{t:Nat}(l:a=W.heap.size)(i:Below W.heap.size W W1)(c:W1.heap[a]?=some (.cells cs.toArray t (0,0))):Gx w0 w W1 g b p (a::zs) (⟨a,cs,t⟩::bs) D :=
  ⟨IY h.hB i,h.B.new l i c,h.hw,h.hI.below i,RU _ h.hz,h.hg,λk d=>(Sl.1 d).elim (λe=>e ▸ Av c) (λd=>R_ (h.hl k d) i.size),
   Cx.mono (Cx.step (Cx.bound h.hD) (λk _ j=>i.block k j)) (λk d=>not_cons d.1 (by have:=d.2;omega))⟩
theorem Gx.pick{i:Int}(h:Gx w0 w W g b p zs bs D)(hI:Ad w0 W1 g b i)(hB:Below w0.heap.size w0 W1)(a:Ah W W1 g none):Gx w0 w W1 g b i zs bs D :=
 ⟨hB,h.B.KD a h.hg rfl,h.hw,hI,h.hz,h.hg,λk c=>R_ (h.hl k c) a.1,Cx.step h.hD (λk j d=>a.2 k d (λe=>j (e ▸ h.hz)) (by simp))⟩
theorem Gx.put(h:Gx w0 w W g b p zs bs D)(i j:Nat){a t:Nat}{cs:List Value}(x:Value)(d:bs[i]?=some ⟨a,cs,t⟩):Gx w0 w (W.setCell ⟨a,j,none⟩ x) g b p zs (bs.set i ⟨a,cs.set j x,t⟩) D:=by have hm:=So d;have c:w.heap.size≤a:=h.B.ge _ hm;have hz:a∈zs:=h.B.mem _ hm;exact⟨DK h.hB (RJ h.hw c),h.B.set i j x d,h.hw,h.hI.ER (p:=⟨a,j,none⟩) (λe=>by have:=h.hg;have n:g=a:=e;omega) x,h.hz,h.hg,λk l=>by simpa[World.setCell]using h.hl k l,Cx.step h.hD (λk m _=>Su W ⟨a,j,none⟩ x k (λe=>m (by rw[e];exact hz)))⟩
theorem Gx.write{row:Nat}(h:Gx w0 w W g b p zs bs D)(hg:W.grownBy W1 (some row))(hB:Below w0.heap.size w0 W1)(d:row∉zs)(i:w.heap.size≤row)(hD:Cx D' W1 (λk=>k∉zs)):Gx w0 w W1 g b p zs bs D' :=
 ⟨hB,⟨λq c=>AO (h.B.at_ q c) hg (λe=>d (by injection e with e;exact e ▸ h.B.mem q c)),h.B.nd,h.B.ge,h.B.mem,h.B.hK.DJ hg (λk a=>by injection a with a;exact .inr (a ▸ i))⟩,h.hw,h.hI.grown hg (λe=>d (by injection e with e;exact e ▸ h.hz)),h.hz,h.hg,λk a=>R_ (h.hl k a) hg.size,hD⟩
theorem Gx.CU(h:Gx w0 w W g b p zs bs D):Ah w W g none:=⟨h.B.hK.1,λi h1 a _=>h.B.hK.2 i h1 a⟩
theorem Gx.OZ(h:Gx w0 w W g b p zs bs D){k:Nat}(a:W.heap.size≤k):k∉zs:=λe=>by have:=h.hl k e;omega
theorem Gx.DW(h:Gx w0 w W g b p zs bs D)(i:Nat){q t:Nat}{n j e d c b0 b1 b2 b3 b4:Value}(m:bs[i]?=some ⟨q,[n,j,e,d,c],t⟩):Gx w0 w (((((W.setCell ⟨q,0,none⟩ b0).setCell ⟨q,1,none⟩ b1).setCell ⟨q,2,none⟩ b2).setCell ⟨q,3,none⟩ b3).setCell ⟨q,4,none⟩ b4) g b p zs (bs.set i ⟨q,[b0,b1,b2,b3,b4],t⟩) D:=by have hl:i<bs.length:=(RL.1 m).1;have h1:=h.put i 0 b0 m;have k:=h1.put i 1 (a:=q) (cs:=[b0,j,e,d,c]) (t:=t) b1 (by rw[RC hl];rfl);rw[RQ]at k;have h3:=k.put i 2 (a:=q) (cs:=[b0,b1,e,d,c]) (t:=t) b2 (by rw[RC hl];rfl);rw[RQ]at h3;have h4:=h3.put i 3 (a:=q) (cs:=[b0,b1,b2,d,c]) (t:=t) b3 (by rw[RC hl];rfl);rw[RQ]at h4;have l:=h4.put i 4 (a:=q) (cs:=[b0,b1,b2,b3,c]) (t:=t) b4 (by rw[RC hl];rfl);rw[RQ]at l;exact l
theorem Gx.ID(h:Gx w0 w W g b p zs bs D)(i:Nat){q t:Nat}{r k j e d c b0 b1 b2 b3 b4 b5:Value}(o:bs[i]?=some ⟨q,[r,k,j,e,d,c],t⟩):Gx w0 w ((((((W.setCell ⟨q,0,none⟩ b0).setCell ⟨q,1,none⟩ b1).setCell ⟨q,2,none⟩ b2).setCell ⟨q,3,none⟩ b3).setCell ⟨q,4,none⟩ b4).setCell ⟨q,5,none⟩ b5) g b p zs (bs.set i ⟨q,[b0,b1,b2,b3,b4,b5],t⟩) D:=by have hl:i<bs.length:=(RL.1 o).1;have h1:=h.put i 0 b0 o;have l:=h1.put i 1 (a:=q) (cs:=[b0,k,j,e,d,c]) (t:=t) b1 (by rw[RC hl];rfl);rw[RQ]at l;have h3:=l.put i 2 (a:=q) (cs:=[b0,b1,j,e,d,c]) (t:=t) b2 (by rw[RC hl];rfl);rw[RQ]at h3;have h4:=h3.put i 3 (a:=q) (cs:=[b0,b1,b2,e,d,c]) (t:=t) b3 (by rw[RC hl];rfl);rw[RQ]at h4;have m:=h4.put i 4 (a:=q) (cs:=[b0,b1,b2,b3,d,c]) (t:=t) b4 (by rw[RC hl];rfl);rw[RQ]at m;have n:=m.put i 5 (a:=q) (cs:=[b0,b1,b2,b3,b4,c]) (t:=t) b5 (by rw[RC hl];rfl);rw[RQ]at n;exact n
def El(base:Nat)(v:Value)(xs:En)(W:World):Prop:=∃A c,v=.slice A xs.length c∧(0<xs.length->∃ad,A=some ad∧base≤ad.block∧∀i:Int,0≤i->i<xs.length->∃cs,cs.length=6∧Ha.M W base (λ_=>True) (AE xs i) cs∧∀j u,cs[j]?=some u->W.cell? (ad.add (i.toNat*6+j))=some u)
theorem IX{base:Nat}{ok:Nat->Prop}{v:Value}{xs:En}(h:Kd.S Ha 26 W base ok v xs):El base v xs W:=by obtain⟨A,c,rfl⟩:=Kd.Ep h;refine⟨A,c,rfl,λj=>?_⟩;obtain⟨gc,cap,e,-⟩:=Kd.KZ h j;injection e with d k l;subst d;refine⟨_,rfl,((Kd.C4 (Kd.L_ h)).1 gc (by simp[Value.ownBlock])).2.1,λi h0 h1=>?_⟩;obtain⟨cs,b,g,a⟩:=Kd.Pu (Kd.L_ h) P8 i h0 h1;exact⟨cs,b,Ha.Cv (λ_ _=>trivial) g,a⟩
theorem E1{base:Nat}{ok:Nat->Prop}{v:Value}{xs:En}(h:Kd.S Ha 26 W base ok v xs):Cx (λW=>Kd.S Ha 26 W base ok v xs) W ok:=λ_ a=>Kd.K2 h a
theorem NU{base c:Nat}{A:Option Addr}{xs:En}(h:El base (.slice A xs.length c) xs W)(h1:1≤xs.length)(v:xs.length≤c):El base (.slice (if c=(1:Int).toNat then A else A.map (·.add ((1:Int).toNat*6))) (xs.drop 1).length (c-(1:Int).toNat)) (xs.drop 1) W:=by
 obtain⟨A',r,e,o⟩:=h;injection e with l t m;subst l;subst m;refine⟨_,_,rfl,λp=>?_⟩;rw[R9]at p;obtain⟨ad,rfl,a,k⟩:=o (by omega);have b:¬ c=(1:Int).toNat:=by have:(1:Int).toNat=1:=rfl;omega
 rw[Rz b];refine⟨_,rfl,a,λi h0 hi=>?_⟩;rw[R9]at hi;obtain⟨cs,g,n,d⟩:=k (i+1) (by omega) (by omega);have q:AE (xs.drop 1) i=AE xs (i+1):=by unfold AE;rw[RS,RS,Sq,show 1+i.toNat=(i+1).toNat by omega]
 rw[q];refine⟨cs,g,n,λj u hu=>?_⟩;have:=d j u hu;rw[show(i+1).toNat*6+j=(1:Int).toNat*6+(i.toNat*6+j) by have:(1:Int).toNat=1:=rfl;omega]at this;rw[show(ad.add ((1:Int).toNat*6)).add (i.toNat*6+j)=ad.add ((1:Int).toNat*6+(i.toNat*6+j)) by simp[Addr.add,Nat.add_assoc]];exact this
def Ec(base top:Nat)(ad:Addr)(i:Int)(c:EZ)(u2 u3:Value)(W:World):Prop :=
 (W.cell? (ad.add (i.toNat*6))=some (.int .i64 c.f0)∧W.cell? ⟨(ad.add (i.toNat*6)).block,(ad.add (i.toNat*6)).off+1,none⟩=some (.int .i64 c.f1)∧W.cell? ⟨(ad.add (i.toNat*6)).block,(ad.add (i.toNat*6)).off+2,none⟩=some u2∧W.cell? ⟨(ad.add (i.toNat*6)).block,(ad.add (i.toNat*6)).off+3,none⟩=some u3∧W.cell? ⟨(ad.add (i.toNat*6)).block,(ad.add (i.toNat*6)).off+4,none⟩=some (.int .i64 c.f4)∧W.cell? ⟨(ad.add (i.toNat*6)).block,(ad.add (i.toNat*6)).off+5,none⟩=some (.int .i64 c.f5)) ∧
 Kd.R Dd 68 W base (λk=>base≤k∧k<top) u2 c.f2∧Kd.R Ck 32 W base (λk=>base≤k∧k<top) u3 c.f3
theorem Qd{base:Nat}{v:Value}{xs:En}(h:El base v xs W)(i:Int)(h0:0≤i)(h1:i<(xs.length:Int)):∃ad c u2 u3,v=.slice (some ad) xs.length c∧Cx (Ec base W.heap.size ad i (AE xs i) u2 u3) W (λk=>base≤k∧k<W.heap.size):=by
 obtain⟨A,c,rfl,z⟩:=h;obtain⟨ad,rfl,l,m⟩:=z (by omega);obtain⟨cs,y,x,n⟩:=m i h0 (by omega);obtain⟨u2,u3,rfl,r,t⟩:=Ij x;have B:=n 0 _ rfl;have e:ad.block<W.heap.size:=by have:=FV W (ad.add (i.toNat*6+0)) B;rwa[FB]at this
 have o:Kd.R Dd 68 W base (λk=>base≤k∧k<W.heap.size) u2 (AE xs i).f2:=Kd.Ai (Kd.C4 r) (λk d=>⟨d.2.1,d.2.2.1⟩);have p:Kd.R Ck 32 W base (λk=>base≤k∧k<W.heap.size) u3 (AE xs i).f3:=Kd.Ai (Kd.C4 t) (λk d=>⟨d.2.1,d.2.2.1⟩);refine⟨ad,c,u2,u3,rfl,λq g=>⟨?_,Kd.Eo o g,Kd.Eo p g⟩⟩;have b:∀j u,([.int .i64 (AE xs i).f0,.int .i64 (AE xs i).f1,u2,u3,.int .i64 (AE xs i).f4,.int .i64 (AE xs i).f5]:List Value)[j]?=some u->q.cell? (ad.add (i.toNat*6+j))=some u:=λj u hu=>(World.cell?_of_block (w:=W) (a:=ad.add (i.toNat*6+j)) (by rw[FB];exact g ad.block ⟨l,e⟩ e)).trans (n j u hu)
 exact⟨b 0 _ rfl,by rw[<-CL _ _ 1 (by omega)];exact b 1 _ rfl,by rw[<-CL _ _ 2 (by omega)];exact b 2 _ rfl,by rw[<-CL _ _ 3 (by omega)];exact b 3 _ rfl,by rw[<-CL _ _ 4 (by omega)];exact b 4 _ rfl,by rw[<-CL _ _ 5 (by omega)];exact b 5 _ rfl⟩
end
end Go.Proofs.YtlhlpfnljglhoaaDoor.P
