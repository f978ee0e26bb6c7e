/- Joined by programs (wip/shake.py, wip/mini.py). -/
import Derived.Test.YtlhlpfnljglhoaaDoorZCr4
set_option linter.unusedVariables false
set_option linter.unusedSimpArgs false
set_option linter.unusedSectionVars false
set_option maxHeartbeats 8000000
set_option maxRecDepth 100000
open Go.Proofs.YtlhlpfnljglhoaaDoorW
namespace Go.Proofs.YtlhlpfnljglhoaaDoor.P
open Go.RowKit Go.Proofs.YtlhlpfnljglhoaaDoorW.PrintWords Go.Proofs.YtlhlpfnljglhoaaDoorW.Bb
def AW.l0:Nat->List (AQ)->List (Ba)->List Int->Int->List Int->Int->Option ((List (AQ))×Int)
 | 0,_,_,_,_,_,_=>none
 | k+1,i,u,t,v,d,n=>if v>0 then((Ab.f k d n 3).bind λb=>(if 0≤(wrap64 ((wrap64 (1+b.1))-1))then(if(wrap64 ((wrap64 (1+b.1))-1))<(t.length:Int)then((Aw.f k d b.2 u (wrap64 (1+b.1)) (rd t (wrap64 ((wrap64 (1+b.1))-1)))).bind λa=>(if a.1=1 then((Bj.f k i (wrap64 (1+b.1))).bind λo=>(if i.length<2199023255552 then((BC.f k u a.1 a.2.1 a.2.2.1 a.2.2.2.1 a.2.2.2.2.1).bind λp=>(AW.l0 k (i++[(⟨wrap64 (1+b.1),wrap64 (o+1),(⟨a.1,a.2.1,a.2.2.1,a.2.2.2.1,a.2.2.2.2.1⟩:E0)⟩:AQ)]) p (t.set ((wrap64 ((wrap64 (1+b.1))-1)):Int).toNat (wrap64 ((rd t (wrap64 ((wrap64 (1+b.1))-1)))+1))) (wrap64 (v-1)) d a.2.2.2.2.2))else(none)))else((Bj.f k i (wrap64 (1+b.1))).bind λq=>(if i.length<2199023255552 then((BC.f k u a.1 a.2.1 a.2.2.1 a.2.2.2.1 a.2.2.2.2.1).bind λr=>(AW.l0 k (i++[(⟨wrap64 (1+b.1),wrap64 (q+1),(⟨a.1,a.2.1,a.2.2.1,a.2.2.2.1,a.2.2.2.2.1⟩:E0)⟩:AQ)]) r t (wrap64 (v-1)) d a.2.2.2.2.2))else(none)))))else(none))else(none)))else((Ab.f k d n 24).bind λe=>(if e.1=0 then((Ab.f k d e.2 3).bind λj=>((Ab.f k d j.2 4).bind λl=>((AX.f k d l.2).bind λg=>(if i.length<2199023255552 then(some ((i++[(⟨wrap64 (1+j.1),wrap64 (1+l.1),(⟨g.1,g.2.1,g.2.2.1,g.2.2.2.1,g.2.2.2.2.1⟩:E0)⟩:AQ)]),g.2.2.2.2.2))else(none)))))else(if e.1=1 then(if(i.length:Int)>0 then((Ab.f k d e.2 (i.length:Int)).bind λc=>((Ab.f k d c.2 4).bind λm=>(if 0≤c.1 then(if c.1<(i.length:Int)then(some ((i.set (c.1:Int).toNat (⟨(Aa i c.1).f0,m.1,(⟨(Aa i c.1).f2.f0,(Aa i c.1).f2.f1,(Aa i c.1).f2.f2,(Aa i c.1).f2.f3,(Aa i c.1).f2.f4⟩:E0)⟩:AQ)),m.2))else(none))else(none))))else(some (i,e.2)))else(some (i,e.2)))))
def AW.f(k:Nat)(b:List Int)(c:Int):Option ((List (AQ))×Int):=(Dp.f).bind λd=>((Ab.f k b c 14).bind λa=>(AW.l0 k (([]:List (AQ))) d (([0,0,0]:List Int)) a.1 b a.2))
def AW.Rh:Bool×List (List Nat×List Nat):=(true,[([],[]),([],[]),([],[]),([],[]),([2,3],[2,3]),([4],[4]),([],[]),([1,5,6],[1,5,6]),([7],[7]),([0,8,4],[0,8]),([9,9,0,1,2,3,4,5,6,7,8,9],[0,2,9])])
def AW.Rn:List Nat:=[0,0,0,0,12,28,0,126,254,511,1023]
theorem AW.Pa:EK .any (opsOf Tryd.f49 11)=AW.Rh:=by kernel_rfl
theorem AW.MV:DS AW.Rh.2 AW.Rn=true:=by kernel_rfl
theorem AW.calls(k:Nat)(g:Nat)(i:List Int)(ah:Int)(r1:List (AQ))(r2:Int)(w0 w:World)(hI:Ad w0 w g i ah)(hB:Below w0.heap.size w0 w)(h:AW.f k i ah=some (r1,r2)) :
  Calls Tryd.prog 49 #[.pointer (some ⟨g,0,none⟩)] w λe w'=>∃dz:Value,e=.returned (dz)∧Kd.R Ck 32 w' w.heap.size (λ_=>True) dz r1∧Ad w0 w' g i r2∧Below w0.heap.size w0 w'∧Ah w w' g none:=by
 have fy:=RW;have fz:=Sk;have HI0:=a_ hI;have HK:=a_ (Ah.refl w g none);have HL:=a_ hB.size;clear hI;have dk:=a_ hB.size;have HB:=a_ hB;clear hB;unfold AW.f at h;have H:=h;clear h;obtain⟨bB,hy_⟩:=EM (([]:List (AQ)));replace H:((Dp.f).bind λaK=>((Ab.f k i ah 14).bind λan=>(AW.l0 k bB aK (([0,0,0]:List Int)) an.1 i an.2)))=some (r1,r2):=EN;have bg:=a_ hy_;clear hy_;replace H:=BR H;obtain⟨aK,bC,H⟩:=H;try dsimp only at H
 have A2:=a_ bC;clear bC;obtain⟨cv,hy_⟩:=EM (([0,0,0]:List Int));replace H:((Ab.f k i ah 14).bind λan=>(AW.l0 k bB aK cv an.1 i an.2))=some (r1,r2):=EN;have bh:=a_ hy_;clear hy_;replace H:=BR H;obtain⟨⟨cq,cr⟩,dh,H⟩:=H;try dsimp only at H
 have A3:=a_ dh;clear dh;have H':=a_ H;clear H;go_enter Tryd.func49,Tryd.ntmps49;go_wp2_with(first|((with_reducible refine BV (N:=9) rfl ?_);refine Kd.DG Ck _ 32 ?hg (N:=9) ?hd (xs:=([]:List (AQ))) (inner:=[]) (ok:=λ_=>True) (okp:=λ_=>True) ?hr ?hp (λ_ D=>D) trivial (RG _ _) (RB _) (by simp) ?_;(case hd=>rfl);(case hg=>rfl);(case hr=>first|(go_simp;done)|(go_simp;rfl));(case hp=>exact(Bn.none _ _));intro fA w4 br E DN a7;clear DN a7;(first|rw[<-bg.o]at br|(simp only[Int.reduceToNat]at br;rw[<-bg.o]at br));have ae:=a_ (Kd.AU br (Cw (w:=w) (g:=g) (row:=none) (E4)));replace HK:=a_ (Ah.trans (E4) (Ah.Dl E g none) (.inl rfl));replace HB:=Bw E;replace HI0:=a_ (Ad.below (An) E);clear E br)|((with_reducible refine BQ (f:=62) rfl ?_);refine BW 10 Tryd.func62 #[] ?_;(with_reducible refine(Dp.calls  aK _ A2.o).mono ?_);rintro e w6 ⟨fB,rfl,au,E⟩;refine⟨_,rfl,?_⟩;replace ae:=a_ (Kd.AJ (AV ae.o) E);have aj:=a_ (Kd.AU au (Cw (w:=w) (g:=g) (row:=none) (E4)));replace HK:=a_ (Ah.trans (E4) (Ah.Dl E g none) (.inl rfl));replace HB:=Bw E;replace HI0:=a_ (Ad.below (An) E);(try clear E au))|((with_reducible refine BV (N:=11) rfl ?_);refine Kd.DG (Kd.int .i64) _ 3 ?hg (N:=11) ?hd (xs:=([0,0,0]:List Int)) (inner:=[.int .i64 0,.int .i64 0,.int .i64 0]) (ok:=λ_=>True) (okp:=λ_=>True) ?hr ?hp (λ_ D=>D) trivial (RG _ _) (RB _) (by simp) ?_;(case hd=>rfl);(case hg=>rfl);(case hr=>first|(go_simp;done)|(go_simp;rfl));(case hp=>exact(Bn.one (show Kd.M (Kd.int .i64) _ _ _ 0 [.int .i64 0]from rfl) (Bn.one (show Kd.M (Kd.int .i64) _ _ _ 0 [.int .i64 0]from rfl) (Bn.one (show Kd.M (Kd.int .i64) _ _ _ 0 [.int .i64 0]from rfl) (Bn.none _ _)))));intro dA w7 bu E DN a7;clear DN a7;(first|rw[<-bh.o]at bu|(simp only[Int.reduceToNat]at bu;rw[<-bh.o]at bu));replace ae:=a_ (Kd.AJ (AV ae.o) E);replace aj:=a_ (Kd.AJ (AV aj.o) E);have a0:=a_ (Kd.AU bu (Cw (w:=w) (g:=g) (row:=none) (E4)));replace HK:=a_ (Ah.trans (E4) (Ah.Dl E g none) (.inl rfl));replace HB:=Bw E;replace HI0:=a_ (Ad.below (An) E);clear E bu)|((with_reducible refine BQ (f:=16) rfl ?_);refine BW 13 R0 #[.pointer (some ⟨g,0,none⟩),.int .i64 14] ?_;(with_reducible refine(Ab.calls k g i ah 14 cq cr w0 _ ?q' ?z' A3.o).mono ?_);(case q'=>exact An);(case z'=>exact Ag);rintro e w9 ⟨rfl,hi,E,D⟩;refine⟨_,rfl,?_⟩;replace ae:=a_ (Kd.Ai (Kd.Br (Ad.apart (show Ad w0 _ g i ah from An) (AV ae.o) (by decide)) D (λ_ h=>h.2)) (λ_ h=>h.1));replace aj:=a_ (Kd.Ai (Kd.Br (Ad.apart (show Ad w0 _ g i ah from An) (AV aj.o) (by decide)) D (λ_ h=>h.2)) (λ_ h=>h.1));replace a0:=a_ (Kd.Ai (Kd.Br (Ad.apart (show Ad w0 _ g i ah from An) (AV a0.o) (by decide)) D (λ_ h=>h.2)) (λ_ h=>h.1));replace HK:=a_ (Ah.trans (E4) D (.inl rfl));replace HB:=a_ (E);replace HI0:=a_ (hi);(try clear E D hi)));go_loopg [3,4,6] k (λkq v3 v4 v6 w'=>∃(m:List (AQ)) (M:List (Ba)) (J:List Int) (X:Int) (r:Int),v6=.int .i64 X∧Ac (AW.l0 kq m M J X i r=some (r1,r2))∧Ac (kq≤k)∧Ac (Kd.R Ck 32 w' w.heap.size (λ_=>True) v3 m)∧Ac (Kd.R Dd 68 w' w.heap.size (λ_=>True) v4 M)∧Ac (Kd.R (Kd.int .i64) 3 w' w.heap.size (λ_=>True) dA J)∧Ac (Ad w0 w' g i r)∧Ac (Ah w w' g none)∧Ac (Below w0.heap.size w0 w'))
 case atStart=>exact⟨(bB),(aK),(cv),(cq),(cr),(CA),H',⟨RB _⟩,⟨by refine AV ?_;exact ae.o⟩,⟨by refine AV ?_;exact aj.o⟩,⟨by refine AV ?_;exact a0.o⟩,⟨An⟩,⟨E4⟩,⟨Ag⟩⟩
 clear H';try clear c1
 obtain⟨m,M,J,X,r,rfl,HA,bE,d,q,l,HI0,HK,HB⟩:=hrel;cases gk with
 | zero=>exact absurd HA.o (by simp[AW.l0])
 | succ k1 =>
  have H:=HA.o
  clear HA
  simp only[AW.l0]at H
  by_cases DM:X>0
  ·rw[Ry DM]at H
   have cO:decide (0<X)=true:=BM DM
   clear DM
   replace H:=BR H
   obtain⟨⟨L,U⟩,bP,H⟩:=H
   try dsimp only at H
   have cz:=a_ bP
   clear bP
   obtain⟨G,ag⟩:∃j_:Int,(wrap64 ((wrap64 (1+L))-1))=j_:=⟨_,rfl⟩
   replace H:(if 0≤(G)then(if(G)<(J.length:Int)then((Aw.f k1 i U M (wrap64 (1+L)) (rd J (G))).bind λI=>(if I.1=1 then((Bj.f k1 m (wrap64 (1+L))).bind λaf=>(if m.length<2199023255552 then((BC.f k1 M I.1 I.2.1 I.2.2.1 I.2.2.2.1 I.2.2.2.2.1).bind λai=>(AW.l0 k1 (m++[(⟨wrap64 (1+L),wrap64 (af+1),(⟨I.1,I.2.1,I.2.2.1,I.2.2.2.1,I.2.2.2.2.1⟩:E0)⟩:AQ)]) ai (J.set ((G):Int).toNat (wrap64 ((rd J (G))+1))) (wrap64 (X-1)) i I.2.2.2.2.2))else(none)))else((Bj.f k1 m (wrap64 (1+L))).bind λar=>(if m.length<2199023255552 then((BC.f k1 M I.1 I.2.1 I.2.2.1 I.2.2.2.1 I.2.2.2.2.1).bind λav=>(AW.l0 k1 (m++[(⟨wrap64 (1+L),wrap64 (ar+1),(⟨I.1,I.2.1,I.2.2.1,I.2.2.2.1,I.2.2.2.2.1⟩:E0)⟩:AQ)]) av J (wrap64 (X-1)) i I.2.2.2.2.2))else(none)))))else(none))else(none))=some (r1,r2):=by first|(rw[ag]at H;exact H)|(simp only[ag]at H⊢;exact H)
   (try rw[ag]at cz)
   have dK:(IntKind.i64.wrap ((wrap64 (1+L))-1))=G:=(BJ _).trans ag
   by_cases bF:0≤(G)
   ·rw[Ry bF]at H
    have e4:decide (0≤(G))=true:=BM bF
    clear bF
    by_cases bG:(G)<(J.length:Int)
    ·rw[Ry bG]at H
     have e5:decide ((G)<(J.length:Int))=true:=BM bG
     clear bG
     replace H:=BR H
     obtain⟨⟨x,y,z,A,B,W⟩,bQ,H⟩:=H
     try dsimp only at H
     have dg:=a_ bQ
     clear bQ
     by_cases a3:x=1
     ·rw[Ry a3]at H
      have cP:(x==1)=true:=RO.mpr a3
      have cQ:(x != 1)=false:=Fc a3
      clear a3
      obtain⟨ba,hy_⟩:=EM (J.set ((G):Int).toNat (wrap64 ((rd J (G))+1)))
      replace H:((Bj.f k1 m (wrap64 (1+L))).bind λaf=>(if m.length<2199023255552 then((BC.f k1 M x y z A B).bind λai=>(AW.l0 k1 (m++[(⟨wrap64 (1+L),wrap64 (af+1),(⟨x,y,z,A,B⟩:E0)⟩:AQ)]) ai ba (wrap64 (X-1)) i W))else(none)))=some (r1,r2):=EN
      have cI:=a_ hy_
      clear hy_
      replace H:=BR H
      obtain⟨af,bR,H⟩:=H
      try dsimp only at H
      have dT:=a_ bR
      clear bR
      by_cases bH:m.length<2199023255552
      ·rw[Ry bH]at H
       have cF:=a_ bH
       clear bH
       obtain⟨cw,hy_⟩:=EM (m++[(⟨wrap64 (1+L),wrap64 (af+1),(⟨x,y,z,A,B⟩:E0)⟩:AQ)])
       replace H:((BC.f k1 M x y z A B).bind λai=>(AW.l0 k1 cw ai ba (wrap64 (X-1)) i W))=some (r1,r2):=EN
       have cJ:=a_ hy_
       clear hy_
       replace H:=BR H
       obtain⟨ai,bS,H⟩:=H
       try dsimp only at H
       have bC:=a_ bS
       clear bS
       have H':=a_ H
       clear H
       try go_wp2_with(first|((with_reducible refine BQ (f:=16) rfl ?_);refine BW 19 R0 #[.pointer (some ⟨g,0,none⟩),.int .i64 3] ?_;(with_reducible refine(Ab.calls k1 g i r 3 L U w0 _ ?q' ?z' cz.o).mono ?_);(case q'=>exact An);(case z'=>exact Ag);rintro e fH ⟨rfl,hi,E,D⟩;refine⟨_,rfl,?_⟩;replace d:=a_ (Kd.Ai (Kd.Br (Ad.apart (show Ad w0 _ g i r from An) (AV d.o) (by decide)) D (λ_ h=>h.2)) (λ_ h=>h.1));replace q:=a_ (Kd.Ai (Kd.Br (Ad.apart (show Ad w0 _ g i r from An) (AV q.o) (by decide)) D (λ_ h=>h.2)) (λ_ h=>h.1));replace l:=a_ (Kd.Ai (Kd.Br (Ad.apart (show Ad w0 _ g i r from An) (AV l.o) (by decide)) D (λ_ h=>h.2)) (λ_ h=>h.1));replace HK:=a_ (Ah.trans (E4) D (.inl rfl));replace HB:=a_ (E);replace HI0:=a_ (hi);(try clear E D hi);obtain⟨fi,a8,dp⟩:=Kd.Be l.o;subst dp;have ao:0≤((G):Int):=Bv;have aq:(G)<(J.length:Int):=Bv;obtain⟨ax,bl,aJ⟩:=Kd.Fu (Kd.At l.o).2.2 (G) ao aq;cases bl;replace ao:=RA ao;replace aq:=RA aq;obtain⟨bc,bj,dq⟩:=Kd.Be q.o;subst dq)|((with_reducible refine BQ (f:=24) rfl ?_);refine G1 (some 29) rfl rfl Tryd.func24 (by kernel_rfl) rfl #[.pointer (some ⟨g,0,none⟩),.slice bc M.length bj,.int .i64 (wrap64 (1+L)),.int .i64 (rd J (G))] rfl (by(try simp only[List.map_toArray,List.map_cons,List.map_nil]);first|done|(simp only[ag];rfl)|rfl|(simp only[List.length_drop,List.length_take];rfl)) ?_;(with_reducible refine(Aw.calls k1 g i U _ _ M (wrap64 (1+L)) (rd J (G)) x y z A B W w0 _ ?q' ?z' ?y' ?v' dg.o).mono ?_);(case q'=>exact An);(case z'=>exact Ag);(case y'=>exact Kd.GS (Ad.apart (show Ad w0 _ g i U from An) (AV q.o) (by decide)) (λ_ h_=>h_.2));(case v'=>exact(Kd.At q.o).2.1);rintro e fI ⟨rfl,hi,E,D⟩;refine⟨_,rfl,?_⟩;replace d:=a_ (Kd.Ai (Kd.Br (Ad.apart (show Ad w0 _ g i U from An) (AV d.o) (by decide)) D (λ_ h=>h.2)) (λ_ h=>h.1));replace q:=a_ (Kd.Ai (Kd.Br (Ad.apart (show Ad w0 _ g i U from An) (AV q.o) (by decide)) D (λ_ h=>h.2)) (λ_ h=>h.1));replace l:=a_ (Kd.Ai (Kd.Br (Ad.apart (show Ad w0 _ g i U from An) (AV l.o) (by decide)) D (λ_ h=>h.2)) (λ_ h=>h.1));replace HK:=a_ (Ah.trans (E4) D (.inl rfl));replace HB:=a_ (E);replace HI0:=a_ (hi);(try clear E D hi))|((with_reducible refine BV (N:=8) rfl ?_);refine Cy 8 (#[.int .i64 0,.int .i64 0,.int .i64 0,.int .i64 0,.string (⟨#[]⟩:ByteArray)]) 30 ?_;intro c hg fg aI E;have a:=a_ (aI);have cB:=a_ ((by rw[hg];exact(Cw (w:=w) (g:=g) (row:=none) (E4)):w.heap.size≤c));have cA:=a_ ((RJ dk.o (by rw[hg];exact(Cw (w:=w) (g:=g) (row:=none) (E4)):w.heap.size≤c):w0.heap.size≤c));have ak:=a_ ((by rw[hg];exact RN (Ad.lt (show Ad w0 _ g i W from An)):g≠c));have al:=a_ ((by rw[hg];exact RM (Ad.lt (show Ad w0 _ g i W from An)):c≠g));replace d:=a_ (Kd.AJ (AV d.o) E);replace q:=a_ (Kd.AJ (AV q.o) E);replace l:=a_ (Kd.AJ (AV l.o) E);replace HI0:=a_ (Ad.below (An) E);replace HK:=a_ (Ah.trans (E4) (Ah.Dl E g none) (.inl rfl));replace HB:=Bw E;clear E aI hg;have e8:=al.o;have fa:=ak.o;obtain⟨eF,eG,eH,eI,eJ,ea,ec,ed,ee,ef⟩:=CI a.o)|((with_reducible refine Dc (t:=30) (p:=8) rfl ?_);refine CY (t:=30) (p:=8) (v:=?m') (w1:=(((((fg.setCell ⟨c,0,none⟩ (.int .i64 x)).setCell ⟨c,1,none⟩ (.int .i64 y)).setCell ⟨c,2,none⟩ (.int .i64 z)).setCell ⟨c,3,none⟩ (.int .i64 A)).setCell ⟨c,4,none⟩ (.string B))) ?hg ?ho ?hn ?hr ?_;(case ho=>rfl);(case hg=>rfl);(case hn=>rfl);(case hr=>first|(go_simp;done)|(go_simp;rfl));intro aG hw;replace d:Ac (Kd.R Ck 32 aG w.heap.size (λ_=>True) u3 m):=⟨(by rw[hw];exact(by refine AV ?_;exact Kd.Ai (FL (g:=c) (Kd.Aj d.o a.o (by decide)) (λ_ D=>D.2) (.int .i64 x) (.int .i64 y) (.int .i64 z) (.int .i64 A) (.string B)) (λ_ D=>trivial)))⟩;replace q:Ac (Kd.R Dd 68 aG w.heap.size (λ_=>True) (.slice bc M.length bj) M):=⟨(by rw[hw];exact(by refine AV ?_;exact Kd.Ai (FL (g:=c) (Kd.Aj q.o a.o (by decide)) (λ_ D=>D.2) (.int .i64 x) (.int .i64 y) (.int .i64 z) (.int .i64 A) (.string B)) (λ_ D=>trivial)))⟩;replace l:Ac (Kd.R (Kd.int .i64) 3 aG w.heap.size (λ_=>True) (.slice (some ax) J.length a8) J):=⟨(by rw[hw];exact(by refine AV ?_;exact Kd.Ai (FL (g:=c) (Kd.Aj l.o a.o (by decide)) (λ_ D=>D.2) (.int .i64 x) (.int .i64 y) (.int .i64 z) (.int .i64 A) (.string B)) (λ_ D=>trivial)))⟩;replace a:Ac (aG.heap[c]?=some (.cells #[.int .i64 x,.int .i64 y,.int .i64 z,.int .i64 A,.string B] 30 (0,0))):=⟨(by rw[hw];exact(GN a.o))⟩;replace HI0:Ac (Ad w0 aG g i W):=⟨(by rw[hw];exact(An))⟩;replace HK:Ac (Ah w aG g none):=⟨(by rw[hw];exact(D4 HK.o))⟩;replace HB:Ac (Below w0.heap.size w0 aG):=⟨(by rw[hw];exact(Ag))⟩;clear hw;obtain⟨eK,eL,eM,eN,eO,eg,eh,ei,ej,ek⟩:=CI a.o;have bz:0≤((G):Int):=Bv;have bA:(G)<(J.length:Int):=Bv;obtain⟨cN,dn,bx⟩:=Kd.Fu (Kd.At l.o).2.2 (G) bz bA;obtain rfl:ax=cN:=(by injection dn);replace bz:=RA bz;replace bA:=RA bA;have db:0≤((G):Int):=Bv;have dd:((G):Int)<((J.length:Int):Int):=Bv;obtain⟨aH,fv,cf,cl,dx,ft,b9⟩:=Kd.IV l.o (by omega);(first|cases cf|(injection cf with ay cY cX;(first|subst ay|(injection ay with ay;subst ay));subst cX;clear cY));have di:=a_ cl;have fm:=a_ b9;clear cl dx b9;(first|simp only[add_plain]at aJ|skip);(first|simp only[add_plain]at bx|skip);obtain⟨dL,dC⟩:=Kd.Lu 0 l.o ((G):Int) db dd;replace db:=RA db;replace dd:=RA dd;obtain⟨fc,fe⟩:=Kd.Lu 0 l.o ((G):Int) (Bv) (Bv);have be:=Kd.Px l.o ((G):Int) (wrap64 ((rd J (G))+1)))|((with_reducible refine Dc (t:=3) (p:=42) rfl ?_);refine CY (t:=3) (p:=42) (v:=?vo_w31) (w1:=(aG.setCell ⟨aH,((G):Int).toNat,none⟩ (.int .i64 (wrap64 ((rd J (G))+1))))) ?hg ?ho ?hn ?hr ?_;(case ho=>rfl);(case hg=>rfl);(case hn=>rfl);(case hr=>first|(go_simp;done)|(go_simp;rfl));intro bO hw;have hg:aG.grownBy bO (some aH):=(by rw[hw];exact be.2);have bw:Kd.R (Kd.int .i64) 3 bO w.heap.size (λ_=>True) (.slice (some ⟨aH,0,none⟩) J.length a8) ba:=(by rw[hw,cI.o];exact be.1);clear be;replace d:=a_ (Kd.DL (v:=(.slice (some ⟨aH,0,none⟩) J.length a8)) (AV d.o) (Kd.Ca l.o) (by decide) hg);replace q:=a_ (Kd.DL (v:=(.slice (some ⟨aH,0,none⟩) J.length a8)) (AV q.o) (Kd.Ca l.o) (by decide) hg);replace HI0:=a_ (Ad.grown (An) hg (Ad.Gd HI0.o l.o (by decide)));replace a:=a_ (AO (g:=c) (o:=.cells #[.int .i64 x,.int .i64 y,.int .i64 z,.int .i64 A,.string B] 30 (0,0)) (Bc a.o) hg (Kd.EY l.o a.o (by decide)));replace HB:=a_ ((by rw[hw];exact DK (HB.o) (RJ HL.o di.o):Below w0.heap.size w0 bO));replace HK:=a_ (Ah.trans (D4 HK.o) (Ah.DJ hg g) (Kd.Hd l.o));replace l:=a_ (bw);clear hg hw bw))
       replace d:=a_ (Kd.D_ d.o)
       replace q:=a_ (Kd.D_ q.o)
       replace l:=a_ (Kd.D_ l.o)
       replace a:=a_ (Du a.o)
       replace HI0:=a_ (Ad.drew HI0.o)
       replace HK:=a_ (GH HK.o)
       replace HB:=a_ (Ay HB.o)
       obtain⟨b7,cb,cg⟩:=Kd.Be d.o
       (first|subst cg|(injection cg with bm cZ bn;have c0:=bm.symm;have c_:=bn.symm;clear bm cZ bn;subst c0;subst c_))
       refine Cl (n:=11) (S:=λw'=>w'.cell? ⟨c,0,none⟩=some (.int .i64 x)∧w'.cell? ⟨c,1,none⟩=some (.int .i64 y)∧w'.cell? ⟨c,2,none⟩=some (.int .i64 z)∧w'.cell? ⟨c,3,none⟩=some (.int .i64 A)∧w'.cell? ⟨c,4,none⟩=some (.string B)) (ds:=[]) #[false,false,false,false,false,false,false,false,false,false,false] (by kernel_rfl) rfl rfl ⟨(Ax a.o 0).trans rfl,(Ax a.o 1).trans rfl,(Ax a.o 2).trans rfl,(Ax a.o 3).trans rfl,(Ax a.o 4).trans rfl⟩ (λP=>?_);refine B1 AW.Pa AW.MV (λHT_ HW_=>?_)
       generalize bO.drew=fJ at d q l a HI0 HK HB P⊢
       refine Bf 0 43 ?_
       refine Bf 1 44 ?_
       refine Bf 2 45 ?_
       refine Bf 3 46 ?_
       refine QS 6 49 P ?_
       refine E7 4 47 (λK hK=>?_)
       refine C7 To (by kernel_rfl) rfl #[.slice b7 m.length cb,.int .i64 (wrap64 (1+L))] (by rfl) rfl rfl JV ?_
       with_reducible refine(Bj.calls k1 _ _ m (wrap64 (1+L)) af _ ?q' ?z' dT.o).mono ?_
       (case q'=>exact E9 (Kd.At d.o).2.2)
       (case z'=>exact(Kd.At d.o).2.1)
       rintro e w' ⟨rfl,⟨nd,rfl⟩⟩
       refine⟨_,rfl,?_⟩
       refine hK.out _ _ ⟨(Ax a.o 0).trans rfl,(Ax a.o 1).trans rfl,(Ax a.o 2).trans rfl,(Ax a.o 3).trans rfl,(Ax a.o 4).trans rfl⟩ (λP=>?_)
       clear hK K
       refine Er 47 ?_
       refine Bf 5 48 ?_
       refine Bf 7 50 ?_
       refine E7 8 51 (λK hK=>?_)
       refine Gi (w1:=?_) (v:=?_) (by rfl) rfl ?_ ?_
       rotate_left 2
       ·go_simp
        constructor
        ·rfl
        ·rfl
       refine hK.out _ _ ⟨(Ax (EG a.o _) 0).trans rfl,(Ax (EG a.o _) 1).trans rfl,(Ax (EG a.o _) 2).trans rfl,(Ax (EG a.o _) 3).trans rfl,(Ax (EG a.o _) 4).trans rfl⟩ (λP=>?_)
       clear hK K
       refine Er 51 ?_
       refine E7 9 52 (λK hK=>?_)
       refine Kd.Fl Ck w.heap.size (by rfl) (.tmp 43) (.tmp 51) 24 32 (.agg #[(.int .i64 0),(.int .i64 0),(.int .i64 0),(.int .i64 0),(.int .i64 0),(.int .i64 0),(.string ⟨#[]⟩)]) 64 rfl R8 Dv rfl (by decide) (by omega) (.slice b7 m.length cb) m (⟨wrap64 (1+L),wrap64 (af+1),(⟨x,y,z,A,B⟩:E0)⟩:AQ) [.int .i64 (wrap64 (1+L)),.int .i64 (wrap64 (af+1)),.int .i64 x,.int .i64 y,.int .i64 z,.int .i64 A,.string B] (λ_=>True) (λ_=>False) rfl rfl ?aP (λ_ D=>D.elim) ?aF ?aO (RG _ _) ?aS ?aL ?_
       (case aP=>exact EX _ _ _ (⟨wrap64 (1+L),wrap64 (af+1),(⟨x,y,z,A,B⟩:E0)⟩:AQ))
       (case aF=>exact(λ_ _=>trivial))
       (case aO=>exact(AV d.o))
       (case aS=>exact(Cw (w:=w) (g:=g) (row:=none) (D4 HK.o)))
       (case aL=>have:=cF.o;omega)
       intro fC fK ho E hg bo
       rw[<-cJ.o]at ho
       have n0_:=a_ (Kd.DL (AV q.o) (Kd.Ca (AV d.o)) (by decide) hg)
       have az:=a_ (Kd.DL (AV l.o) (Kd.Ca (AV d.o)) (by decide) hg)
       have aA:=a_ (Ad.grown (An) hg (Ad.Gd HI0.o d.o (by decide)))
       have aB:=a_ (AO (g:=c) (o:=.cells #[.int .i64 x,.int .i64 y,.int .i64 z,.int .i64 A,.string B] 30 (0,0)) (Bc a.o) hg (Kd.EY d.o a.o (by decide)))
       have aC:=a_ (F_ (Ag) HL.o E)
       have aD:=a_ (Ah.trans (D4 HK.o) (Ah.DJ hg g) (Kd.Hd d.o))
       have aE:=a_ (ho)
       clear q
       clear l
       clear HI0
       clear a
       clear HB
       clear HK
       clear d
       have q:=n0_
       have l:=az
       have HI0:=aA
       have a:=aB
       have HB:=aC
       have HK:=aD
       have a1:=aE
       clear n0_ az aA aB aC aD aE
       clear ho E hg bo
       refine hK.out _ _ ⟨(Ax a.o 0).trans rfl,(Ax a.o 1).trans rfl,(Ax a.o 2).trans rfl,(Ax a.o 3).trans rfl,(Ax a.o 4).trans rfl⟩ (λP=>?_)
       clear hK K
       refine Er 52 ?_
       refine Bf 10 3 ?_
       refine CV (CT HT_.o (by kernel_rfl)) ?_
       obtain⟨eP,eQ,eR,eS,eT,en,eo,ep,er,et⟩:=CI a.o
       try go_wp2_with(first|((with_reducible refine BQ (f:=45) rfl ?_);refine BW 55 TU #[.slice bc M.length bj,.agg #[.int .i64 x,.int .i64 y,.int .i64 z,.int .i64 A,.string B]] ?_;(with_reducible refine(BC.calls k1 _ _ M x y z A B ai _ ?q' ?z' bC.o).mono ?_);(case q'=>exact E9 (Kd.At q.o).2.2);(case z'=>exact(Kd.At q.o).2.1);rintro e fL ⟨fD,rfl,au,E⟩;refine⟨_,rfl,?_⟩;replace l:=a_ (Kd.AJ (AV l.o) E);replace a1:=a_ (Kd.AJ (AV a1.o) E);have cC:=a_ (Kd.AU (Kd.Et au (Kd.EH (AV q.o))) (Cw (w:=w) (g:=g) (row:=none) (D4 HK.o)));replace q:=a_ (Kd.Dq (AV q.o) (Kd.Ch au) E);replace HK:=a_ (Ah.trans (D4 HK.o) (Ah.Dl E g none) (.inl rfl));replace HB:=Bw E;replace HI0:=a_ (Ad.below (An) E);replace a:=a_ (Cr a.o E);(try clear E au)))
       go_roundg k1
       case measure=>have:=bE.o;omega
       case rel=>exact⟨(cw),(ai),(ba),(wrap64 (X-1)),(W),(CA),H',⟨by have:=bE.o;omega⟩,⟨by refine AV ?_;exact a1.o⟩,⟨by refine AV ?_;exact Kd.Ai cC.o (λ_ D=>trivial)⟩,⟨by refine AV ?_;exact l.o⟩,⟨An⟩,⟨D4 HK.o⟩,⟨Ag⟩⟩
      ·rw[Rz bH]at H
       exact absurd H (by simp)
     ·rw[Rz a3]at H
      have cP:(x==1)=false:=Dr a3
      have cQ:(x != 1)=true:=RX.mpr a3
      replace H:=BR H
      obtain⟨ar,bT,H⟩:=H
      try dsimp only at H
      have dU:=a_ bT
      clear bT
      by_cases bI:m.length<2199023255552
      ·rw[Ry bI]at H
       have cG:=a_ bI
       clear bI
       obtain⟨cx,hy_⟩:=EM (m++[(⟨wrap64 (1+L),wrap64 (ar+1),(⟨x,y,z,A,B⟩:E0)⟩:AQ)])
       replace H:((BC.f k1 M x y z A B).bind λav=>(AW.l0 k1 cx av J (wrap64 (X-1)) i W))=some (r1,r2):=EN
       have cK:=a_ hy_
       clear hy_
       replace H:=BR H
       obtain⟨av,bU,H⟩:=H
       try dsimp only at H
       have dV:=a_ bU
       clear bU
       have H':=a_ H
       clear H
       try go_wp2_with(first|((with_reducible refine BQ (f:=16) rfl ?_);refine BW 19 R0 #[.pointer (some ⟨g,0,none⟩),.int .i64 3] ?_;(with_reducible refine(Ab.calls k1 g i r 3 L U w0 _ ?q' ?z' cz.o).mono ?_);(case q'=>exact An);(case z'=>exact Ag);rintro e fM ⟨rfl,hi,E,D⟩;refine⟨_,rfl,?_⟩;replace d:=a_ (Kd.Ai (Kd.Br (Ad.apart (show Ad w0 _ g i r from An) (AV d.o) (by decide)) D (λ_ h=>h.2)) (λ_ h=>h.1));replace q:=a_ (Kd.Ai (Kd.Br (Ad.apart (show Ad w0 _ g i r from An) (AV q.o) (by decide)) D (λ_ h=>h.2)) (λ_ h=>h.1));replace l:=a_ (Kd.Ai (Kd.Br (Ad.apart (show Ad w0 _ g i r from An) (AV l.o) (by decide)) D (λ_ h=>h.2)) (λ_ h=>h.1));replace HK:=a_ (Ah.trans (E4) D (.inl rfl));replace HB:=a_ (E);replace HI0:=a_ (hi);(try clear E D hi);obtain⟨fj,dm,dr⟩:=Kd.Be l.o;subst dr;have ao:0≤((G):Int):=Bv;have aq:(G)<(J.length:Int):=Bv;obtain⟨ax,bl,aJ⟩:=Kd.Fu (Kd.At l.o).2.2 (G) ao aq;cases bl;replace ao:=RA ao;replace aq:=RA aq;obtain⟨bd,bk,du⟩:=Kd.Be q.o;subst du)|((with_reducible refine BQ (f:=24) rfl ?_);refine G1 (some 29) rfl rfl Tryd.func24 (by kernel_rfl) rfl #[.pointer (some ⟨g,0,none⟩),.slice bd M.length bk,.int .i64 (wrap64 (1+L)),.int .i64 (rd J (G))] rfl (by(try simp only[List.map_toArray,List.map_cons,List.map_nil]);first|done|(simp only[ag];rfl)|rfl|(simp only[List.length_drop,List.length_take];rfl)) ?_;(with_reducible refine(Aw.calls k1 g i U _ _ M (wrap64 (1+L)) (rd J (G)) x y z A B W w0 _ ?q' ?z' ?y' ?v' dg.o).mono ?_);(case q'=>exact An);(case z'=>exact Ag);(case y'=>exact Kd.GS (Ad.apart (show Ad w0 _ g i U from An) (AV q.o) (by decide)) (λ_ h_=>h_.2));(case v'=>exact(Kd.At q.o).2.1);rintro e fN ⟨rfl,hi,E,D⟩;refine⟨_,rfl,?_⟩;replace d:=a_ (Kd.Ai (Kd.Br (Ad.apart (show Ad w0 _ g i U from An) (AV d.o) (by decide)) D (λ_ h=>h.2)) (λ_ h=>h.1));replace q:=a_ (Kd.Ai (Kd.Br (Ad.apart (show Ad w0 _ g i U from An) (AV q.o) (by decide)) D (λ_ h=>h.2)) (λ_ h=>h.1));replace l:=a_ (Kd.Ai (Kd.Br (Ad.apart (show Ad w0 _ g i U from An) (AV l.o) (by decide)) D (λ_ h=>h.2)) (λ_ h=>h.1));replace HK:=a_ (Ah.trans (E4) D (.inl rfl));replace HB:=a_ (E);replace HI0:=a_ (hi);(try clear E D hi))|((with_reducible refine BV (N:=8) rfl ?_);refine Cy 8 (#[.int .i64 0,.int .i64 0,.int .i64 0,.int .i64 0,.string (⟨#[]⟩:ByteArray)]) 30 ?_;intro c hg aZ aI E;have a:=a_ (aI);have cB:=a_ ((by rw[hg];exact(Cw (w:=w) (g:=g) (row:=none) (E4)):w.heap.size≤c));have cA:=a_ ((RJ dk.o (by rw[hg];exact(Cw (w:=w) (g:=g) (row:=none) (E4)):w.heap.size≤c):w0.heap.size≤c));have ak:=a_ ((by rw[hg];exact RN (Ad.lt (show Ad w0 _ g i W from An)):g≠c));have al:=a_ ((by rw[hg];exact RM (Ad.lt (show Ad w0 _ g i W from An)):c≠g));replace d:=a_ (Kd.AJ (AV d.o) E);replace q:=a_ (Kd.AJ (AV q.o) E);replace l:=a_ (Kd.AJ (AV l.o) E);replace HI0:=a_ (Ad.below (An) E);replace HK:=a_ (Ah.trans (E4) (Ah.Dl E g none) (.inl rfl));replace HB:=Bw E;clear E aI hg;have e9:=al.o;have fb:=ak.o;obtain⟨eU,eV,eW,eX,eY,eu,ev,ew,ey,ez⟩:=CI a.o))
       have n0_:Ac (Kd.R Ck 32 (((((aZ.setCell ⟨c,0,none⟩ (.int .i64 x)).setCell ⟨c,1,none⟩ (.int .i64 y)).setCell ⟨c,2,none⟩ (.int .i64 z)).setCell ⟨c,3,none⟩ (.int .i64 A)).setCell ⟨c,4,none⟩ (.string B)) w.heap.size (λ_=>True) u3 m):=⟨by refine AV ?_;exact Kd.Ai (FL (g:=c) (Kd.Aj d.o a.o (by decide)) (λ_ D=>D.2) (.int .i64 x) (.int .i64 y) (.int .i64 z) (.int .i64 A) (.string B)) (λ_ D=>trivial)⟩
       have az:Ac (Kd.R Dd 68 (((((aZ.setCell ⟨c,0,none⟩ (.int .i64 x)).setCell ⟨c,1,none⟩ (.int .i64 y)).setCell ⟨c,2,none⟩ (.int .i64 z)).setCell ⟨c,3,none⟩ (.int .i64 A)).setCell ⟨c,4,none⟩ (.string B)) w.heap.size (λ_=>True) (.slice bd M.length bk) M):=⟨by refine AV ?_;exact Kd.Ai (FL (g:=c) (Kd.Aj q.o a.o (by decide)) (λ_ D=>D.2) (.int .i64 x) (.int .i64 y) (.int .i64 z) (.int .i64 A) (.string B)) (λ_ D=>trivial)⟩
       have aA:Ac (Kd.R (Kd.int .i64) 3 (((((aZ.setCell ⟨c,0,none⟩ (.int .i64 x)).setCell ⟨c,1,none⟩ (.int .i64 y)).setCell ⟨c,2,none⟩ (.int .i64 z)).setCell ⟨c,3,none⟩ (.int .i64 A)).setCell ⟨c,4,none⟩ (.string B)) w.heap.size (λ_=>True) (.slice (some ax) J.length dm) J):=⟨by refine AV ?_;exact Kd.Ai (FL (g:=c) (Kd.Aj l.o a.o (by decide)) (λ_ D=>D.2) (.int .i64 x) (.int .i64 y) (.int .i64 z) (.int .i64 A) (.string B)) (λ_ D=>trivial)⟩
       have aB:Ac ((((((aZ.setCell ⟨c,0,none⟩ (.int .i64 x)).setCell ⟨c,1,none⟩ (.int .i64 y)).setCell ⟨c,2,none⟩ (.int .i64 z)).setCell ⟨c,3,none⟩ (.int .i64 A)).setCell ⟨c,4,none⟩ (.string B)).heap[c]?=some (.cells #[.int .i64 x,.int .i64 y,.int .i64 z,.int .i64 A,.string B] 30 (0,0))):=⟨GN a.o⟩
       have aC:Ac (Ad w0 (((((aZ.setCell ⟨c,0,none⟩ (.int .i64 x)).setCell ⟨c,1,none⟩ (.int .i64 y)).setCell ⟨c,2,none⟩ (.int .i64 z)).setCell ⟨c,3,none⟩ (.int .i64 A)).setCell ⟨c,4,none⟩ (.string B)) g i W):=⟨An⟩
       have aD:Ac (Ah w (((((aZ.setCell ⟨c,0,none⟩ (.int .i64 x)).setCell ⟨c,1,none⟩ (.int .i64 y)).setCell ⟨c,2,none⟩ (.int .i64 z)).setCell ⟨c,3,none⟩ (.int .i64 A)).setCell ⟨c,4,none⟩ (.string B)) g none):=⟨D4 HK.o⟩
       have aE:Ac (Below w0.heap.size w0 (((((aZ.setCell ⟨c,0,none⟩ (.int .i64 x)).setCell ⟨c,1,none⟩ (.int .i64 y)).setCell ⟨c,2,none⟩ (.int .i64 z)).setCell ⟨c,3,none⟩ (.int .i64 A)).setCell ⟨c,4,none⟩ (.string B))):=⟨Ag⟩
       (try clear d)
       (try clear q)
       (try clear l)
       (try clear a)
       (try clear HI0)
       (try clear HK)
       (try clear HB)
       generalize (((((aZ.setCell ⟨c,0,none⟩ (.int .i64 x)).setCell ⟨c,1,none⟩ (.int .i64 y)).setCell ⟨c,2,none⟩ (.int .i64 z)).setCell ⟨c,3,none⟩ (.int .i64 A)).setCell ⟨c,4,none⟩ (.string B))=fh at n0_ az aA aB aC aD aE⊢
       have d:=n0_
       have q:=az
       have l:=aA
       have a:=aB
       have HI0:=aC
       have HK:=aD
       have HB:=aE
       clear n0_ az aA aB aC aD aE
       replace d:=a_ (Kd.D_ d.o)
       replace q:=a_ (Kd.D_ q.o)
       replace l:=a_ (Kd.D_ l.o)
       replace a:=a_ (Du a.o)
       replace HI0:=a_ (Ad.drew HI0.o)
       replace HK:=a_ (GH HK.o)
       replace HB:=a_ (Ay HB.o)
       obtain⟨b8,cd,cj⟩:=Kd.Be d.o
       (first|subst cj|(injection cj with bm cZ bn;have c0:=bm.symm;have c_:=bn.symm;clear bm cZ bn;subst c0;subst c_))
       refine Cl (n:=11) (S:=λw'=>w'.cell? ⟨c,0,none⟩=some (.int .i64 x)∧w'.cell? ⟨c,1,none⟩=some (.int .i64 y)∧w'.cell? ⟨c,2,none⟩=some (.int .i64 z)∧w'.cell? ⟨c,3,none⟩=some (.int .i64 A)∧w'.cell? ⟨c,4,none⟩=some (.string B)) (ds:=[]) #[false,false,false,false,false,false,false,false,false,false,false] (by kernel_rfl) rfl rfl ⟨(Ax a.o 0).trans rfl,(Ax a.o 1).trans rfl,(Ax a.o 2).trans rfl,(Ax a.o 3).trans rfl,(Ax a.o 4).trans rfl⟩ (λP=>?_);refine B1 AW.Pa AW.MV (λHT_ HW_=>?_)
       generalize fh.drew=fO at d q l a HI0 HK HB P⊢
       refine Bf 0 43 ?_
       refine Bf 1 44 ?_
       refine Bf 2 45 ?_
       refine Bf 3 46 ?_
       refine QS 6 49 P ?_
       refine E7 4 47 (λK hK=>?_)
       refine C7 To (by kernel_rfl) rfl #[.slice b8 m.length cd,.int .i64 (wrap64 (1+L))] (by rfl) rfl rfl JV ?_
       with_reducible refine(Bj.calls k1 _ _ m (wrap64 (1+L)) ar _ ?q' ?z' dU.o).mono ?_
       (case q'=>exact E9 (Kd.At d.o).2.2)
       (case z'=>exact(Kd.At d.o).2.1)
       rintro e w' ⟨rfl,⟨nd,rfl⟩⟩
       refine⟨_,rfl,?_⟩
       refine hK.out _ _ ⟨(Ax a.o 0).trans rfl,(Ax a.o 1).trans rfl,(Ax a.o 2).trans rfl,(Ax a.o 3).trans rfl,(Ax a.o 4).trans rfl⟩ (λP=>?_)
       clear hK K
       refine Er 47 ?_
       refine Bf 5 48 ?_
       refine Bf 7 50 ?_
       refine E7 8 51 (λK hK=>?_)
       refine Gi (w1:=?_) (v:=?_) (by rfl) rfl ?_ ?_
       rotate_left 2
       ·go_simp
        constructor
        ·rfl
        ·rfl
       refine hK.out _ _ ⟨(Ax (EG a.o _) 0).trans rfl,(Ax (EG a.o _) 1).trans rfl,(Ax (EG a.o _) 2).trans rfl,(Ax (EG a.o _) 3).trans rfl,(Ax (EG a.o _) 4).trans rfl⟩ (λP=>?_)
       clear hK K
       refine Er 51 ?_
       refine E7 9 52 (λK hK=>?_)
       refine Kd.Fl Ck w.heap.size (by rfl) (.tmp 43) (.tmp 51) 24 32 (.agg #[(.int .i64 0),(.int .i64 0),(.int .i64 0),(.int .i64 0),(.int .i64 0),(.int .i64 0),(.string ⟨#[]⟩)]) 64 rfl R8 Dv rfl (by decide) (by omega) (.slice b8 m.length cd) m (⟨wrap64 (1+L),wrap64 (ar+1),(⟨x,y,z,A,B⟩:E0)⟩:AQ) [.int .i64 (wrap64 (1+L)),.int .i64 (wrap64 (ar+1)),.int .i64 x,.int .i64 y,.int .i64 z,.int .i64 A,.string B] (λ_=>True) (λ_=>False) rfl rfl ?aP (λ_ D=>D.elim) ?aF ?aO (RG _ _) ?aS ?aL ?_
       (case aP=>exact EX _ _ _ (⟨wrap64 (1+L),wrap64 (ar+1),(⟨x,y,z,A,B⟩:E0)⟩:AQ))
       (case aF=>exact(λ_ _=>trivial))
       (case aO=>exact(AV d.o))
       (case aS=>exact(Cw (w:=w) (g:=g) (row:=none) (D4 HK.o)))
       (case aL=>have:=cG.o;omega)
       intro fE fP ho E hg bo
       rw[<-cK.o]at ho
       have n0_:=a_ (Kd.DL (AV q.o) (Kd.Ca (AV d.o)) (by decide) hg)
       have az:=a_ (Kd.DL (AV l.o) (Kd.Ca (AV d.o)) (by decide) hg)
       have aA:=a_ (Ad.grown (An) hg (Ad.Gd HI0.o d.o (by decide)))
       have aB:=a_ (AO (g:=c) (o:=.cells #[.int .i64 x,.int .i64 y,.int .i64 z,.int .i64 A,.string B] 30 (0,0)) (Bc a.o) hg (Kd.EY d.o a.o (by decide)))
       have aC:=a_ (F_ (Ag) HL.o E)
       have aD:=a_ (Ah.trans (D4 HK.o) (Ah.DJ hg g) (Kd.Hd d.o))
       have aE:=a_ (ho)
       clear q
       clear l
       clear HI0
       clear a
       clear HB
       clear HK
       clear d
       have q:=n0_
       have l:=az
       have HI0:=aA
       have a:=aB
       have HB:=aC
       have HK:=aD
       have a2:=aE
       clear n0_ az aA aB aC aD aE
       clear ho E hg bo
       refine hK.out _ _ ⟨(Ax a.o 0).trans rfl,(Ax a.o 1).trans rfl,(Ax a.o 2).trans rfl,(Ax a.o 3).trans rfl,(Ax a.o 4).trans rfl⟩ (λP=>?_)
       clear hK K
       refine Er 52 ?_
       refine Bf 10 3 ?_
       refine CV (CT HT_.o (by kernel_rfl)) ?_
       obtain⟨eZ,e0,e1,e2,e3,eA,eB,eC,eD,eE⟩:=CI a.o
       try go_wp2_with(first|((with_reducible refine BQ (f:=45) rfl ?_);refine BW 55 TU #[.slice bd M.length bk,.agg #[.int .i64 x,.int .i64 y,.int .i64 z,.int .i64 A,.string B]] ?_;(with_reducible refine(BC.calls k1 _ _ M x y z A B av _ ?q' ?z' dV.o).mono ?_);(case q'=>exact E9 (Kd.At q.o).2.2);(case z'=>exact(Kd.At q.o).2.1);rintro e fQ ⟨fF,rfl,au,E⟩;refine⟨_,rfl,?_⟩;replace l:=a_ (Kd.AJ (AV l.o) E);replace a2:=a_ (Kd.AJ (AV a2.o) E);have cD:=a_ (Kd.AU (Kd.Et au (Kd.EH (AV q.o))) (Cw (w:=w) (g:=g) (row:=none) (D4 HK.o)));replace q:=a_ (Kd.Dq (AV q.o) (Kd.Ch au) E);replace HK:=a_ (Ah.trans (D4 HK.o) (Ah.Dl E g none) (.inl rfl));replace HB:=Bw E;replace HI0:=a_ (Ad.below (An) E);replace a:=a_ (Cr a.o E);(try clear E au)))
       go_roundg k1
       case measure=>have:=bE.o;omega
       case rel=>exact⟨(cx),(av),(J),(wrap64 (X-1)),(W),(CA),H',⟨by have:=bE.o;omega⟩,⟨by refine AV ?_;exact a2.o⟩,⟨by refine AV ?_;exact Kd.Ai cD.o (λ_ D=>trivial)⟩,⟨by refine AV ?_;exact l.o⟩,⟨An⟩,⟨D4 HK.o⟩,⟨Ag⟩⟩
      ·rw[Rz bI]at H
       exact absurd H (by simp)
    ·rw[Rz bG]at H
     exact absurd H (by simp)
   ·rw[Rz bF]at H
    exact absurd H (by simp)
  ·rw[Rz DM]at H
   have cO:decide (0<X)=false:=C9 DM
   clear DM
   replace H:=BR H
   obtain⟨⟨T,Y⟩,bV,H⟩:=H
   try dsimp only at H
   have bD:=a_ bV
   clear bV
   by_cases a4:T=0
   ·rw[Ry a4]at H
    have cR:(T==0)=true:=RO.mpr a4
    have cS:(T != 0)=false:=Fc a4
    clear a4
    replace H:=BR H
    obtain⟨⟨aM,aN⟩,bW,H⟩:=H
    try dsimp only at H
    have dW:=a_ bW
    clear bW
    replace H:=BR H
    obtain⟨⟨aQ,aR⟩,bX,H⟩:=H
    try dsimp only at H
    have dX:=a_ bX
    clear bX
    replace H:=BR H
    obtain⟨⟨aT,aU,aV,aW,aX,ct⟩,bY,H⟩:=H
    try dsimp only at H
    have dY:=a_ bY
    clear bY
    by_cases bJ:m.length<2199023255552
    ·rw[Ry bJ]at H
     have cH:=a_ bJ
     clear bJ
     obtain⟨dB,hy_⟩:=EM (m++[(⟨wrap64 (1+aM),wrap64 (1+aQ),(⟨aT,aU,aV,aW,aX⟩:E0)⟩:AQ)])
     replace H:(some (dB,ct))=some (r1,r2):=EN
     have cL:=a_ hy_
     clear hy_
     simp only[Option.some.injEq,Prod.mk.injEq]at H
     obtain⟨rfl,rfl⟩:=H
     go_wp2_with(first|((with_reducible refine BQ (f:=16) rfl ?_);refine BW 57 R0 #[.pointer (some ⟨g,0,none⟩),.int .i64 24] ?_;(with_reducible refine(Ab.calls k1 g i r 24 T Y w0 _ ?q' ?z' bD.o).mono ?_);(case q'=>exact An);(case z'=>exact Ag);rintro e fR ⟨rfl,hi,E,D⟩;refine⟨_,rfl,?_⟩;replace d:=a_ (Kd.Ai (Kd.Br (Ad.apart (show Ad w0 _ g i r from An) (AV d.o) (by decide)) D (λ_ h=>h.2)) (λ_ h=>h.1));replace q:=a_ (Kd.Ai (Kd.Br (Ad.apart (show Ad w0 _ g i r from An) (AV q.o) (by decide)) D (λ_ h=>h.2)) (λ_ h=>h.1));replace l:=a_ (Kd.Ai (Kd.Br (Ad.apart (show Ad w0 _ g i r from An) (AV l.o) (by decide)) D (λ_ h=>h.2)) (λ_ h=>h.1));replace HK:=a_ (Ah.trans (E4) D (.inl rfl));replace HB:=a_ (E);replace HI0:=a_ (hi);(try clear E D hi))|((with_reducible refine BQ (f:=16) rfl ?_);refine BW 62 R0 #[.pointer (some ⟨g,0,none⟩),.int .i64 3] ?_;(with_reducible refine(Ab.calls k1 g i Y 3 aM aN w0 _ ?q' ?z' dW.o).mono ?_);(case q'=>exact An);(case z'=>exact Ag);rintro e fS ⟨rfl,hi,E,D⟩;refine⟨_,rfl,?_⟩;replace d:=a_ (Kd.Ai (Kd.Br (Ad.apart (show Ad w0 _ g i Y from An) (AV d.o) (by decide)) D (λ_ h=>h.2)) (λ_ h=>h.1));replace q:=a_ (Kd.Ai (Kd.Br (Ad.apart (show Ad w0 _ g i Y from An) (AV q.o) (by decide)) D (λ_ h=>h.2)) (λ_ h=>h.1));replace l:=a_ (Kd.Ai (Kd.Br (Ad.apart (show Ad w0 _ g i Y from An) (AV l.o) (by decide)) D (λ_ h=>h.2)) (λ_ h=>h.1));replace HK:=a_ (Ah.trans (E4) D (.inl rfl));replace HB:=a_ (E);replace HI0:=a_ (hi);(try clear E D hi))|((with_reducible refine BQ (f:=16) rfl ?_);refine BW 65 R0 #[.pointer (some ⟨g,0,none⟩),.int .i64 4] ?_;(with_reducible refine(Ab.calls k1 g i aN 4 aQ aR w0 _ ?q' ?z' dX.o).mono ?_);(case q'=>exact An);(case z'=>exact Ag);rintro e fT ⟨rfl,hi,E,D⟩;refine⟨_,rfl,?_⟩;replace d:=a_ (Kd.Ai (Kd.Br (Ad.apart (show Ad w0 _ g i aN from An) (AV d.o) (by decide)) D (λ_ h=>h.2)) (λ_ h=>h.1));replace q:=a_ (Kd.Ai (Kd.Br (Ad.apart (show Ad w0 _ g i aN from An) (AV q.o) (by decide)) D (λ_ h=>h.2)) (λ_ h=>h.1));replace l:=a_ (Kd.Ai (Kd.Br (Ad.apart (show Ad w0 _ g i aN from An) (AV l.o) (by decide)) D (λ_ h=>h.2)) (λ_ h=>h.1));replace HK:=a_ (Ah.trans (E4) D (.inl rfl));replace HB:=a_ (E);replace HI0:=a_ (hi);(try clear E D hi))|((with_reducible refine BQ (f:=23) rfl ?_);refine BW 68 Tryd.func23 #[.pointer (some ⟨g,0,none⟩)] ?_;(with_reducible refine(AX.calls k1 g i aR aT aU aV aW aX ct w0 _ ?q' ?z' dY.o).mono ?_);(case q'=>exact An);(case z'=>exact Ag);rintro e fU ⟨rfl,hi,E,D⟩;refine⟨_,rfl,?_⟩;replace d:=a_ (Kd.Ai (Kd.Br (Ad.apart (show Ad w0 _ g i aR from An) (AV d.o) (by decide)) D (λ_ h=>h.2)) (λ_ h=>h.1));replace q:=a_ (Kd.Ai (Kd.Br (Ad.apart (show Ad w0 _ g i aR from An) (AV q.o) (by decide)) D (λ_ h=>h.2)) (λ_ h=>h.1));replace l:=a_ (Kd.Ai (Kd.Br (Ad.apart (show Ad w0 _ g i aR from An) (AV l.o) (by decide)) D (λ_ h=>h.2)) (λ_ h=>h.1));replace HK:=a_ (Ah.trans (E4) D (.inl rfl));replace HB:=a_ (E);replace HI0:=a_ (hi);(try clear E D hi))|((with_reducible refine Bo (b:=.append) (xs:=#[.tmp 60,.tmp 70]) rfl ?_);at_builtin;refine Kd.ES Ck w.heap.size rfl (.tmp 60) (.tmp 70) 24 32 (.agg #[(.int .i64 0),(.int .i64 0),(.int .i64 0),(.int .i64 0),(.int .i64 0),(.int .i64 0),(.string ⟨#[]⟩)]) 64 rfl R8 Dv rfl (by decide) (by omega) u3 m (⟨wrap64 (1+aM),wrap64 (1+aQ),(⟨aT,aU,aV,aW,aX⟩:E0)⟩:AQ) [.int .i64 (wrap64 (1+aM)),.int .i64 (wrap64 (1+aQ)),.int .i64 aT,.int .i64 aU,.int .i64 aV,.int .i64 aW,.string aX] (λ_=>True) (λ_=>False) rfl rfl ?aP (λ_ D=>D.elim) ?aF ?aO (RG _ _) ?aS ?aL ?_;(case aP=>exact EX _ _ _ (⟨wrap64 (1+aM),wrap64 (1+aQ),(⟨aT,aU,aV,aW,aX⟩:E0)⟩:AQ));(case aF=>exact(λ_ _=>trivial));(case aO=>exact(AV d.o));(case aS=>exact(Cw (w:=w) (g:=g) (row:=none) (E4)));(case aL=>have:=cH.o;omega);intro fG fV ho E hg bo;rw[<-cL.o]at ho;replace q:=a_ (Kd.DL (AV q.o) (Kd.Ca (AV d.o)) (by decide) hg);replace l:=a_ (Kd.DL (AV l.o) (Kd.Ca (AV d.o)) (by decide) hg);replace HB:=a_ (F_ (Ag) HL.o E);replace HI0:=a_ (Ad.grown (An) hg (Ad.Gd HI0.o d.o (by decide)));replace HK:=a_ (Ah.trans (E4) (Ah.DJ hg g) (Kd.Hd d.o));have cE:=a_ (ho);clear d;clear ho E hg bo))
     go_ret
     exact⟨_,C8,by refine AV ?_;exact cE.o,An,Ag,E4⟩
    ·rw[Rz bJ]at H
     exact absurd H (by simp)
   ·rw[Rz a4]at H
    have cR:(T==0)=false:=Dr a4
    have cS:(T != 0)=true:=RX.mpr a4
    by_cases a5:T=1
    ·rw[Ry a5]at H
     have cT:(T==1)=true:=RO.mpr a5
     have cU:(T != 1)=false:=Fc a5
     clear a5
     by_cases bb:(m.length:Int)>0
     ·rw[Ry bb]at H
      have cV:decide (0<(m.length:Int))=true:=BM bb
      have cW:decide (0<m.length)=true:=BM (by omega)
      clear bb
      replace H:=BR H
      obtain⟨⟨u,aY⟩,bZ,H⟩:=H
      try dsimp only at H
      have dZ:=a_ bZ
      clear bZ
      replace H:=BR H
      obtain⟨⟨aw,cu⟩,b6,H⟩:=H
      try dsimp only at H
      have d_:=a_ b6
      clear b6
      by_cases bK:0≤u
      ·rw[Ry bK]at H
       have e6:decide (0≤u)=true:=BM bK
       clear bK
       by_cases bL:u<(m.length:Int)
       ·rw[Ry bL]at H
        have e7:decide (u<(m.length:Int))=true:=BM bL
        clear bL
        obtain⟨cy,hy_⟩:=EM (m.set (u:Int).toNat (⟨(Aa m u).f0,aw,(⟨(Aa m u).f2.f0,(Aa m u).f2.f1,(Aa m u).f2.f2,(Aa m u).f2.f3,(Aa m u).f2.f4⟩:E0)⟩:AQ))
        replace H:(some (cy,cu))=some (r1,r2):=EN
        have cM:=a_ hy_
        clear hy_
        simp only[Option.some.injEq,Prod.mk.injEq]at H
        obtain⟨rfl,rfl⟩:=H
        go_wp2_with(first|((with_reducible refine BQ (f:=16) rfl ?_);refine BW 57 R0 #[.pointer (some ⟨g,0,none⟩),.int .i64 24] ?_;(with_reducible refine(Ab.calls k1 g i r 24 T Y w0 _ ?q' ?z' bD.o).mono ?_);(case q'=>exact An);(case z'=>exact Ag);rintro e fW ⟨rfl,hi,E,D⟩;refine⟨_,rfl,?_⟩;replace d:=a_ (Kd.Ai (Kd.Br (Ad.apart (show Ad w0 _ g i r from An) (AV d.o) (by decide)) D (λ_ h=>h.2)) (λ_ h=>h.1));replace q:=a_ (Kd.Ai (Kd.Br (Ad.apart (show Ad w0 _ g i r from An) (AV q.o) (by decide)) D (λ_ h=>h.2)) (λ_ h=>h.1));replace l:=a_ (Kd.Ai (Kd.Br (Ad.apart (show Ad w0 _ g i r from An) (AV l.o) (by decide)) D (λ_ h=>h.2)) (λ_ h=>h.1));replace HK:=a_ (Ah.trans (E4) D (.inl rfl));replace HB:=a_ (E);replace HI0:=a_ (hi);(try clear E D hi);obtain⟨fk,a9,dv⟩:=Kd.Be d.o;subst dv)|((with_reducible refine BQ (f:=16) rfl ?_);refine BW 81 R0 #[.pointer (some ⟨g,0,none⟩),.int .i64 (m.length:Int)] ?_;(with_reducible refine(Ab.calls k1 g i Y (m.length:Int) u aY w0 _ ?q' ?z' dZ.o).mono ?_);(case q'=>exact An);(case z'=>exact Ag);rintro e fX ⟨rfl,hi,E,D⟩;refine⟨_,rfl,?_⟩;replace d:=a_ (Kd.Ai (Kd.Br (Ad.apart (show Ad w0 _ g i Y from An) (AV d.o) (by decide)) D (λ_ h=>h.2)) (λ_ h=>h.1));replace q:=a_ (Kd.Ai (Kd.Br (Ad.apart (show Ad w0 _ g i Y from An) (AV q.o) (by decide)) D (λ_ h=>h.2)) (λ_ h=>h.1));replace l:=a_ (Kd.Ai (Kd.Br (Ad.apart (show Ad w0 _ g i Y from An) (AV l.o) (by decide)) D (λ_ h=>h.2)) (λ_ h=>h.1));replace HK:=a_ (Ah.trans (E4) D (.inl rfl));replace HB:=a_ (E);replace HI0:=a_ (hi);(try clear E D hi))|((with_reducible refine BQ (f:=16) rfl ?_);refine BW 83 R0 #[.pointer (some ⟨g,0,none⟩),.int .i64 4] ?_;(with_reducible refine(Ab.calls k1 g i aY 4 aw cu w0 _ ?q' ?z' d_.o).mono ?_);(case q'=>exact An);(case z'=>exact Ag);rintro e ab ⟨rfl,hi,E,D⟩;refine⟨_,rfl,?_⟩;replace d:=a_ (Kd.Ai (Kd.Br (Ad.apart (show Ad w0 _ g i aY from An) (AV d.o) (by decide)) D (λ_ h=>h.2)) (λ_ h=>h.1));replace q:=a_ (Kd.Ai (Kd.Br (Ad.apart (show Ad w0 _ g i aY from An) (AV q.o) (by decide)) D (λ_ h=>h.2)) (λ_ h=>h.1));replace l:=a_ (Kd.Ai (Kd.Br (Ad.apart (show Ad w0 _ g i aY from An) (AV l.o) (by decide)) D (λ_ h=>h.2)) (λ_ h=>h.1));replace HK:=a_ (Ah.trans (E4) D (.inl rfl));replace HB:=a_ (E);replace HI0:=a_ (hi);(try clear E D hi);have dc:0≤(u:Int):=Bv;have de:(u:Int)<((m.length:Int):Int):=Bv;obtain⟨O,fw,ck,cm,dy,fu,b_⟩:=Kd.IV d.o (by omega);(first|cases ck|(injection ck with ay cY cX;(first|subst ay|(injection ay with ay;subst ay));subst cX;clear cY));have dj:=a_ cm;have fo:=a_ b_;clear cm dy b_;obtain⟨fp,da,cn,Z,aa⟩:=Kd.GW d.o QY (u:Int) dc de;obtain rfl:=Jw cn;have dM:ab.cell? ⟨O,(u:Int).toNat*7,none⟩=some (.int .i64 ((Aa m u).f0)):=Z 0 _ rfl;have dN:ab.cell? ⟨O,(u:Int).toNat*7+1,none⟩=some (.int .i64 ((Aa m u).f1)):=Z 1 _ rfl;have dO:ab.cell? ⟨O,(u:Int).toNat*7+2,none⟩=some (.int .i64 ((Aa m u).f2.f0)):=Z 2 _ rfl;have dP:ab.cell? ⟨O,(u:Int).toNat*7+3,none⟩=some (.int .i64 ((Aa m u).f2.f1)):=Z 3 _ rfl;have dQ:ab.cell? ⟨O,(u:Int).toNat*7+4,none⟩=some (.int .i64 ((Aa m u).f2.f2)):=Z 4 _ rfl;have dR:ab.cell? ⟨O,(u:Int).toNat*7+5,none⟩=some (.int .i64 ((Aa m u).f2.f3)):=Z 5 _ rfl;have dS:ab.cell? ⟨O,(u:Int).toNat*7+6,none⟩=some (.string ((Aa m u).f2.f4)):=Z 6 _ rfl;have dD:ab.frozen? ⟨O,(u:Int).toNat*7,none⟩=false:=aa 0;have dE:ab.frozen? ⟨O,(u:Int).toNat*7+1,none⟩=false:=aa 1;have dF:ab.frozen? ⟨O,(u:Int).toNat*7+2,none⟩=false:=aa 2;have dG:ab.frozen? ⟨O,(u:Int).toNat*7+3,none⟩=false:=aa 3;have dH:ab.frozen? ⟨O,(u:Int).toNat*7+4,none⟩=false:=aa 4;have dI:ab.frozen? ⟨O,(u:Int).toNat*7+5,none⟩=false:=aa 5;have dJ:ab.frozen? ⟨O,(u:Int).toNat*7+6,none⟩=false:=aa 6;clear da Z aa cn;replace dc:=RA dc;replace de:=RA de;have ca:=a_ (show Kd.R Ck 32 ab w.heap.size (λ_=>True) (.slice (some ⟨O,0,none⟩) m.length a9) m from(AV d.o));obtain⟨fq,bp,cp,a6,bq⟩:=Kd.GW ca.o QY (u:Int) (Bv) (by have h_:(u:Int)<((m.length:Int):Int):=Bv;first|exact h_|(have e_:=(Kd.At d.o).1;omega)|simpa using h_);obtain rfl:=Jw cp;have bf:=Kd.Lv ca.o (u:Int) (Bv) (by have h_:(u:Int)<((m.length:Int):Int):=Bv;first|exact h_|(have e_:=(Kd.At d.o).1;omega)|simpa using h_) (seg:=[.int .i64 aw]) (j:=1) bp a6 (show 2≤7 from by decide) (x':=(⟨(Aa m u).f0,aw,(⟨(Aa m u).f2.f0,(Aa m u).f2.f1,(Aa m u).f2.f2,(Aa m u).f2.f3,(Aa m u).f2.f4⟩:E0)⟩:AQ)) (EX _ _ _ (⟨(Aa m u).f0,aw,(⟨(Aa m u).f2.f0,(Aa m u).f2.f1,(Aa m u).f2.f2,(Aa m u).f2.f3,(Aa m u).f2.f4⟩:E0)⟩:AQ) ) (λ_ D=>D);have bN:=a6 1 _ rfl;(try simp only[show(Ck).sz=7 from rfl,Nat.mul_one,Nat.add_zero]at bN);have bM:=bq 1;(try simp only[show(Ck).sz=7 from rfl,Nat.mul_one,Nat.add_zero]at bM);clear bp a6 bq cp)|((with_reducible refine Dc (t:=3) (p:=85) rfl ?_);refine CY (t:=3) (p:=85) (v:=?vo_w76) (w1:=(ab.setCell ⟨O,(u:Int).toNat*7+1,none⟩ (.int .i64 aw))) ?hg ?ho ?hn ?hr ?_;(case ho=>rfl);(case hg=>rfl);(case hn=>rfl);(case hr=>first|(go_simp;done)|(go_simp;rfl));intro df hw;have hg:ab.grownBy df (some O):=(by rw[hw];exact bf.2);have bw:Kd.R Ck 32 df w.heap.size (λ_=>True) (.slice (some ⟨O,0,none⟩) m.length a9) cy:=(by rw[hw,cM.o];exact bf.1);clear bf;replace q:=a_ (Kd.DL (v:=(.slice (some ⟨O,0,none⟩) m.length a9)) (AV q.o) (Kd.Ca d.o) (by decide) hg);replace l:=a_ (Kd.DL (v:=(.slice (some ⟨O,0,none⟩) m.length a9)) (AV l.o) (Kd.Ca d.o) (by decide) hg);replace HI0:=a_ (Ad.grown (An) hg (Ad.Gd HI0.o d.o (by decide)));replace HB:=a_ ((by rw[hw];exact DK (HB.o) (RJ HL.o dj.o):Below w0.heap.size w0 df));replace HK:=a_ (Ah.trans (E4) (Ah.DJ hg g) (Kd.Hd d.o));replace d:=a_ (bw);clear hg hw bw))
        go_ret
        exact⟨_,C8,by refine AV ?_;exact d.o,An,Ag,E4⟩
       ·rw[Rz bL]at H
        exact absurd H (by simp)
      ·rw[Rz bK]at H
       exact absurd H (by simp)
     ·rw[Rz bb]at H
      have cV:decide (0<(m.length:Int))=false:=C9 bb
      have cW:decide (0<m.length)=false:=C9 (by omega)
      clear bb
      simp only[Option.some.injEq,Prod.mk.injEq]at H
      obtain⟨rfl,rfl⟩:=H
      go_wp2_with(first|((with_reducible refine BQ (f:=16) rfl ?_);refine BW 57 R0 #[.pointer (some ⟨g,0,none⟩),.int .i64 24] ?_;(with_reducible refine(Ab.calls k1 g i r 24 T Y w0 _ ?q' ?z' bD.o).mono ?_);(case q'=>exact An);(case z'=>exact Ag);rintro e fY ⟨rfl,hi,E,D⟩;refine⟨_,rfl,?_⟩;replace d:=a_ (Kd.Ai (Kd.Br (Ad.apart (show Ad w0 _ g i r from An) (AV d.o) (by decide)) D (λ_ h=>h.2)) (λ_ h=>h.1));replace q:=a_ (Kd.Ai (Kd.Br (Ad.apart (show Ad w0 _ g i r from An) (AV q.o) (by decide)) D (λ_ h=>h.2)) (λ_ h=>h.1));replace l:=a_ (Kd.Ai (Kd.Br (Ad.apart (show Ad w0 _ g i r from An) (AV l.o) (by decide)) D (λ_ h=>h.2)) (λ_ h=>h.1));replace HK:=a_ (Ah.trans (E4) D (.inl rfl));replace HB:=a_ (E);replace HI0:=a_ (hi);(try clear E D hi);obtain⟨fl,fx,dw⟩:=Kd.Be d.o;subst dw))
      go_ret
      exact⟨_,C8,by refine AV ?_;exact d.o,An,Ag,E4⟩
    ·rw[Rz a5]at H
     have cT:(T==1)=false:=Dr a5
     have cU:(T != 1)=true:=RX.mpr a5
     simp only[Option.some.injEq,Prod.mk.injEq]at H
     obtain⟨rfl,rfl⟩:=H
     go_wp2_with(first|((with_reducible refine BQ (f:=16) rfl ?_);refine BW 57 R0 #[.pointer (some ⟨g,0,none⟩),.int .i64 24] ?_;(with_reducible refine(Ab.calls k1 g i r 24 T Y w0 _ ?q' ?z' bD.o).mono ?_);(case q'=>exact An);(case z'=>exact Ag);rintro e fZ ⟨rfl,hi,E,D⟩;refine⟨_,rfl,?_⟩;replace d:=a_ (Kd.Ai (Kd.Br (Ad.apart (show Ad w0 _ g i r from An) (AV d.o) (by decide)) D (λ_ h=>h.2)) (λ_ h=>h.1));replace q:=a_ (Kd.Ai (Kd.Br (Ad.apart (show Ad w0 _ g i r from An) (AV q.o) (by decide)) D (λ_ h=>h.2)) (λ_ h=>h.1));replace l:=a_ (Kd.Ai (Kd.Br (Ad.apart (show Ad w0 _ g i r from An) (AV l.o) (by decide)) D (λ_ h=>h.2)) (λ_ h=>h.1));replace HK:=a_ (Ah.trans (E4) D (.inl rfl));replace HB:=a_ (E);replace HI0:=a_ (hi);(try clear E D hi)))
     go_ret
     exact⟨_,C8,by refine AV ?_;exact d.o,An,Ag,E4⟩
def C6.f(e:Int)(g:Int)(a:List (Ba))(b:List (AQ))(i:Int)(j:Int):Option (Int×Int×(List (Ba))×(List (AQ))×Int×Int):=(some (([]:List (Ba)):List (Ba))).bind λc=>(if c.length+a.length<4398046511104 then((some (([]:List (AQ)):List (AQ))).bind λd=>(if d.length+b.length<2199023255552 then(some (e,g,(c++a),(d++b),i,j))else(none)))else(none))
theorem C6.calls(i:Int)(j:Int)(z:Option Addr)(B:Nat)(m:List (Ba))(u:Option Addr)(v:Nat)(c:List (AQ))(k:Int)(l:Int)(r1:Int)(r2:Int)(r3:List (Ba))(r4:List (AQ))(r5:Int)(r6:Int)(w:World)(af:Kd.C Dd w z m.length m)(aa:m.length≤B)(ag:Kd.C Ck w u c.length c)(ab:c.length≤v)(h:C6.f i j m c k l=some (r1,r2,r3,r4,r5,r6)) :
  Calls Tryd.prog 27 #[.agg #[.int .i64 i,.int .i64 j,.slice z m.length B,.slice u c.length v,.int .i64 k,.int .i64 l]] w λe w'=>∃au av:Value,e=.returned (.agg #[.int .i64 r1,.int .i64 r2,au,av,.int .i64 r5,.int .i64 r6])∧Kd.R Dd 68 w' w.heap.size (λ_=>True) au r3∧Kd.R Ck 32 w' w.heap.size (λ_=>True) av r4∧Below w.heap.size w w':=by
 have bP:=RP;have ah:=a_ af;have aD:=a_ aa;clear af aa;have ai:=a_ ag;have aE:=a_ ab;clear ag ab;have HB:=a_ (RG w.heap.size w);unfold C6.f at h;have H:=h;clear h;obtain⟨P,hy_⟩:=EM (([]:List (Ba)));replace H:(if P.length+m.length<4398046511104 then((some (([]:List (AQ)):List (AQ))).bind λr=>(if r.length+c.length<2199023255552 then(some (i,j,(P++m),(r++c),k,l))else(none)))else(none))=some (r1,r2,r3,r4,r5,r6):=EN;have Y:=a_ hy_;clear hy_;by_cases c2:P.length+m.length<4398046511104
 ·rw[Ry c2]at H;have an:=a_ c2;clear c2;obtain⟨x,hy_⟩:=EM (P++m);replace H:((some (([]:List (AQ)):List (AQ))).bind λr=>(if r.length+c.length<2199023255552 then(some (i,j,x,(r++c),k,l))else(none)))=some (r1,r2,r3,r4,r5,r6):=EN;have aj:=a_ hy_;clear hy_;obtain⟨r,hy_⟩:=EM (([]:List (AQ)));replace H:(if r.length+c.length<2199023255552 then(some (i,j,x,(r++c),k,l))else(none))=some (r1,r2,r3,r4,r5,r6):=EN;have Z:=a_ hy_;clear hy_;by_cases c3:r.length+c.length<2199023255552
  ·rw[Ry c3]at H;have ao:=a_ c3;clear c3;obtain⟨I,hy_⟩:=EM (r++c);replace H:(some (i,j,x,I,k,l))=some (r1,r2,r3,r4,r5,r6):=EN;have ak:=a_ hy_;clear hy_;simp only[Option.some.injEq,Prod.mk.injEq]at H;obtain⟨rfl,rfl,rfl,rfl,rfl,rfl⟩:=H;go_enter Tryd.func27,Tryd.ntmps27;go_wp2_with(first|((with_reducible refine BV (N:=1) rfl ?_);refine Cy 1 (#[.int .i64 i,.int .i64 j,.slice z m.length B,.slice u c.length v,.int .i64 k,.int .i64 l]) 26 ?_;intro n hg w4 M D;have a:=a_ (M);have aA:=BD w hg;have ay:=BD w hg;replace HB:=Bw D;clear D M hg)|((with_reducible refine BV (N:=2) rfl ?_);refine Cy 2 (#[.int .i64 0,.int .i64 0,.slice none 0 0,.slice none 0 0,.int .i64 0,.int .i64 0]) 26 ?_;intro q hg w5 M D;have d:=a_ (M);have aC:=BD w hg;have az:=BD w hg;have T:=a_ ((by rw[hg];exact RN (Av (g:=n) (o:=.cells #[.int .i64 i,.int .i64 j,.slice z m.length B,.slice u c.length v,.int .i64 k,.int .i64 l] 26 (0,0)) (Bc a.o)):n≠q));have t:=a_ ((by rw[hg];exact RM (Av (g:=n) (o:=.cells #[.int .i64 i,.int .i64 j,.slice z m.length B,.slice u c.length v,.int .i64 k,.int .i64 l] 26 (0,0)) (Bc a.o)):q≠n));replace a:=a_ (Cr a.o D);replace HB:=Bw D;clear D M hg)|((with_reducible refine BV (N:=3) rfl ?_);refine Kd.DG Dd _ 68 ?hg (N:=3) ?hd (xs:=([]:List (Ba))) (inner:=[]) (ok:=λ_=>True) (okp:=λ_=>True) ?hr ?hp (λ_ U=>U) trivial (RG _ _) (RB _) (by simp) ?_;(case hd=>rfl);(case hg=>rfl);(case hr=>first|(go_simp;done)|(go_simp;rfl));(case hp=>exact(Bn.none _ _));intro aw w6 ae D DN W;clear DN W;(first|rw[<-Y.o]at ae|(simp only[Int.reduceToNat]at ae;rw[<-Y.o]at ae));have J:=a_ (Kd.AU ae (Af (Ag)));replace HB:=Bw D;replace a:=a_ (Cr a.o D);replace d:=a_ (Cr d.o D);clear D ae;have bN:=T.o;have bO:=t.o;obtain⟨bH,bI,bJ,bK,bL,bM,bB,bC,bD,bE,bF,bG⟩:=BT a.o)|((with_reducible refine Bo (b:=.append) (xs:=#[.tmp 3,.tmp 5]) rfl ?_);at_builtin;refine Kd.Cn Dd (w0:=w) w.heap.size rfl (.tmp 3) (.tmp 5) 23 68 (.agg #[(.int .i64 0),(.int .i64 0),(.string ⟨#[]⟩)]) 32 rfl Sf EA rfl (by decide) (by omega) aw P m _ _ _ (λ_=>True) (λ_=>False) rfl rfl ?aO ?aR (λ_ _ h=>h) (λ_ h=>h.elim) ?aF ?aB ?aS ?aL ?_;(case aR=>exact E9 (Kd.Bu ah.o HB.o));(case aB=>exact(Ag));(case aF=>exact(λ_ _=>trivial));(case aO=>exact(AV J.o));(case aS=>exact(Af (Ag)));(case aL=>have:=an.o;omega);intro bQ bS ho D hg al;rw[<-aj.o]at ho;replace a:=a_ (AO (g:=n) (o:=.cells #[.int .i64 i,.int .i64 j,.slice z m.length B,.slice u c.length v,.int .i64 k,.int .i64 l] 26 (0,0)) (Bc a.o) hg (Kd.EY J.o a.o (by decide)));replace d:=a_ (AO (g:=q) (o:=.cells #[.int .i64 0,.int .i64 0,.slice none 0 0,.slice none 0 0,.int .i64 0,.int .i64 0] 26 (0,0)) (Bc d.o) hg (Kd.EY J.o d.o (by decide)));replace HB:=a_ (D);have y:=a_ (ho);clear J;clear ho D hg al;obtain⟨E,G,aq⟩:=Kd.Be y.o;subst aq;obtain⟨a8,a9,ba,bb,bc,bd,aG,aH,aI,aJ,aK,aM⟩:=BT a.o)|((with_reducible refine BV (N:=8) rfl ?_);refine Kd.DG Ck _ 32 ?hg (N:=8) ?hd (xs:=([]:List (AQ))) (inner:=[]) (ok:=λ_=>True) (okp:=λ_=>True) ?hr ?hp (λ_ U=>U) trivial (RG _ _) (RB _) (by simp) ?_;(case hd=>rfl);(case hg=>rfl);(case hr=>first|(go_simp;done)|(go_simp;rfl));(case hp=>exact(Bn.none _ _));intro ax bT O D DN W;clear DN W;(first|rw[<-Z.o]at O|(simp only[Int.reduceToNat]at O;rw[<-Z.o]at O));have A:=a_ (Kd.AU O (Af (Ag)));replace y:=a_ (Kd.AJ (by refine AV ?_;exact(Kd.Ai (Kd.CS (p:=⟨n,2,none⟩) (Kd.Aj y.o a.o (by decide)) (λ_ U=>U.2) (.slice E x.length G)) (λ_ h_=>h_.1))) D);replace a:=a_ (Ao (g:=n) (o:=.cells #[.int .i64 i,.int .i64 j,.slice E x.length G,.slice u c.length v,.int .i64 k,.int .i64 l] 26 (0,0)) (by(with_reducible repeat(first|refine Fz ?_ _|refine Du ?_|refine EG ?_ _));refine BF (cs:=#[.int .i64 i,.int .i64 j,.slice z m.length B,.slice u c.length v,.int .i64 k,.int .i64 l]) ?_ 2 _ rfl;(with_reducible repeat(first|refine Fz ?_ _|refine Du ?_|refine EG ?_ _));exact a.o) D);replace d:=a_ (Ao (g:=q) (o:=.cells #[.int .i64 0,.int .i64 0,.slice none 0 0,.slice none 0 0,.int .i64 0,.int .i64 0] 26 (0,0)) (CZ t.o d.o) D);replace HB:=Bw D;clear D O;obtain⟨be,bf,bg,bh,bj,bk,aN,aP,aQ,aT,aU,aV⟩:=BT a.o)|((with_reducible refine Bo (b:=.append) (xs:=#[.tmp 8,.tmp 10]) rfl ?_);at_builtin;refine Kd.Cn Ck (w0:=w) w.heap.size rfl (.tmp 8) (.tmp 10) 24 32 (.agg #[(.int .i64 0),(.int .i64 0),(.int .i64 0),(.int .i64 0),(.int .i64 0),(.int .i64 0),(.string ⟨#[]⟩)]) 64 rfl R8 Dv rfl (by decide) (by omega) ax r c _ _ _ (λ_=>True) (λ_=>False) rfl rfl ?aO ?aR (λ_ _ h=>h) (λ_ h=>h.elim) ?aF ?aB ?aS ?aL ?_;(case aR=>exact E9 (Kd.Bu ai.o HB.o));(case aB=>exact(Ag));(case aF=>exact(λ_ _=>trivial));(case aO=>exact(AV A.o));(case aS=>exact(Af (Ag)));(case aL=>have:=ao.o;omega);intro bR bU ho D hg al;rw[<-ak.o]at ho;replace a:=a_ (AO (g:=n) (o:=.cells #[.int .i64 i,.int .i64 j,.slice E x.length G,.slice u c.length v,.int .i64 k,.int .i64 l] 26 (0,0)) (Bc a.o) hg (Kd.EY A.o a.o (by decide)));replace d:=a_ (AO (g:=q) (o:=.cells #[.int .i64 0,.int .i64 0,.slice none 0 0,.slice none 0 0,.int .i64 0,.int .i64 0] 26 (0,0)) (Bc d.o) hg (Kd.EY A.o d.o (by decide)));replace y:=a_ (Kd.DL (AV y.o) (Kd.Ca (AV A.o)) (by decide) hg);replace HB:=a_ (D);have X:=a_ (ho);clear A;clear ho D hg al;obtain⟨K,L,ar⟩:=Kd.Be X.o;subst ar;obtain⟨bl,bm,bn,bo,bp,bq,aW,aX,aY,aZ,a0,a1⟩:=BT a.o;obtain⟨br,bu,bw,bx,bz,bA,a2,a3,a4,a5,a6,a7⟩:=BT d.o));refine RH (RF rfl _ _ q 26 #[.int .i64 i,.int .i64 j,.slice E x.length G,.slice K I.length L,.int .i64 k,.int .i64 l] (0,0) _ rfl (Hu t.o d.o) RP rfl (by kernel_rfl)) rfl ?_;exact⟨_,_,C8,by refine AV ?_;exact Kd.Ai (Dw (g:=q) (Kd.CS (p:=⟨n,3,none⟩) (Kd.Aj (Kd.Aj y.o a.o (by decide)) d.o (by decide)) (λ_ U=>U.1.2) (.slice K I.length L)) (λ_ U=>U.2) (.int .i64 i) (.int .i64 j) (.slice E x.length G) (.slice K I.length L) (.int .i64 k) (.int .i64 l)) (λ_ U=>trivial),by refine AV ?_;exact Kd.Ai (Dw (g:=q) (Kd.CS (p:=⟨n,3,none⟩) (Kd.Aj (Kd.Aj X.o a.o (by decide)) d.o (by decide)) (λ_ U=>U.1.2) (.slice K I.length L)) (λ_ U=>U.2) (.int .i64 i) (.int .i64 j) (.slice E x.length G) (.slice K I.length L) (.int .i64 k) (.int .i64 l)) (λ_ U=>trivial),Ag⟩
  rw[Rz c3]at H;exact absurd H (by simp)
 rw[Rz c2]at H;exact absurd H (by simp)
def Ee.f(a:List (AQ))(c:Int)(d:Bool):Option ((List (AQ))×Int×Bool):=(some (([]:List (AQ)):List (AQ))).bind λb=>(if b.length+a.length<2199023255552 then(some ((b++a),c,d))else(none))
theorem Ee.calls(n:Option Addr)(q:Nat)(c:List (AQ))(i:Int)(j:Bool)(W:List (AQ))(X:Int)(Y:Bool)(w:World)(I:Kd.C Ck w n c.length c)(E:c.length≤q)(h:Ee.f c i j=some (W,X,Y)) :
  Calls Tryd.prog 71 #[.agg #[.slice n c.length q,.int .i64 i,.bool j]] w λe w'=>∃T:Value,e=.returned (.agg #[T,.int .i64 X,.bool Y])∧Kd.R Ck 32 w' w.heap.size (λ_=>True) T W∧Below w.heap.size w w':=by
 have aH:=Sh;have J:=a_ I;have af:=a_ E;clear I E;have HB:=a_ (RG w.heap.size w);unfold Ee.f at h;have H:=h;clear h;obtain⟨u,hy_⟩:=EM (([]:List (AQ)));replace H:(if u.length+c.length<2199023255552 then(some ((u++c),i,j))else(none))=some (W,X,Y):=EN;have B:=a_ hy_;clear hy_;by_cases c2:u.length+c.length<2199023255552
 ·rw[Ry c2]at H;have O:=a_ c2;clear c2;obtain⟨y,hy_⟩:=EM (u++c);replace H:(some (y,i,j))=some (W,X,Y):=EN;have K:=a_ hy_;clear hy_;simp only[Option.some.injEq,Prod.mk.injEq]at H;obtain⟨rfl,rfl,rfl⟩:=H;go_enter Tryd.func71,Tryd.ntmps71;go_wp2_with(first|((with_reducible refine BV (N:=1) rfl ?_);refine Cy 1 (#[.slice n c.length q,.int .i64 i,.bool j]) 60 ?_;intro k hg w3 t x;have a:=a_ (t);have ab:=BD w hg;have Z:=BD w hg;replace HB:=Bw x;clear x t hg)|((with_reducible refine BV (N:=2) rfl ?_);refine Cy 2 (#[.slice none 0 0,.int .i64 0,.bool false]) 60 ?_;intro m hg w4 t x;have d:=a_ (t);have ae:=BD w hg;have aa:=BD w hg;have v:=a_ ((by rw[hg];exact RN (Av (g:=k) (o:=.cells #[.slice n c.length q,.int .i64 i,.bool j] 60 (0,0)) (Bc a.o)):k≠m));have l:=a_ ((by rw[hg];exact RM (Av (g:=k) (o:=.cells #[.slice n c.length q,.int .i64 i,.bool j] 60 (0,0)) (Bc a.o)):m≠k));replace a:=a_ (Cr a.o x);replace HB:=Bw x;clear x t hg)|((with_reducible refine BV (N:=3) rfl ?_);refine Kd.DG Ck _ 32 ?hg (N:=3) ?hd (xs:=([]:List (AQ))) (inner:=[]) (ok:=λ_=>True) (okp:=λ_=>True) ?hr ?hp (λ_ M=>M) trivial (RG _ _) (RB _) (by simp) ?_;(case hd=>rfl);(case hg=>rfl);(case hr=>first|(go_simp;done)|(go_simp;rfl));(case hp=>exact(Bn.none _ _));intro U w5 G x DN L;clear DN L;(first|rw[<-B.o]at G|(simp only[Int.reduceToNat]at G;rw[<-B.o]at G));have r:=a_ (Kd.AU G (Af (Ag)));replace HB:=Bw x;replace a:=a_ (Cr a.o x);replace d:=a_ (Cr d.o x);clear x G;have aE:=v.o;have aG:=l.o;obtain⟨aA,aC,aD,ax,ay,az⟩:=DV a.o)|((with_reducible refine Bo (b:=.append) (xs:=#[.tmp 3,.tmp 5]) rfl ?_);at_builtin;refine Kd.Cn Ck (w0:=w) w.heap.size rfl (.tmp 3) (.tmp 5) 24 32 (.agg #[(.int .i64 0),(.int .i64 0),(.int .i64 0),(.int .i64 0),(.int .i64 0),(.int .i64 0),(.string ⟨#[]⟩)]) 64 rfl R8 Dv rfl (by decide) (by omega) U u c _ _ _ (λ_=>True) (λ_=>False) rfl rfl ?aO ?aR (λ_ _ h=>h) (λ_ h=>h.elim) ?aF ?aB ?aS ?aL ?_;(case aR=>exact E9 (Kd.Bu J.o HB.o));(case aB=>exact(Ag));(case aF=>exact(λ_ _=>trivial));(case aO=>exact(AV r.o));(case aS=>exact(Af (Ag)));(case aL=>have:=O.o;omega);intro aI w9 ho x hg aw;rw[<-K.o]at ho;replace a:=a_ (AO (g:=k) (o:=.cells #[.slice n c.length q,.int .i64 i,.bool j] 60 (0,0)) (Bc a.o) hg (Kd.EY r.o a.o (by decide)));replace d:=a_ (AO (g:=m) (o:=.cells #[.slice none 0 0,.int .i64 0,.bool false] 60 (0,0)) (Bc d.o) hg (Kd.EY r.o d.o (by decide)));replace HB:=a_ (x);have A:=a_ (ho);clear r;clear ho x hg aw;obtain⟨z,D,P⟩:=Kd.Be A.o;subst P;obtain⟨an,ao,aq,ag,ah,ai⟩:=DV a.o;obtain⟨ar,au,av,aj,ak,al⟩:=DV d.o));refine RH (RF rfl _ _ m 60 #[.slice z y.length D,.int .i64 i,.bool j] (0,0) _ rfl (Nl l.o d.o) Sh rfl (by kernel_rfl)) rfl ?_;exact⟨_,C8,by refine AV ?_;exact Kd.Ai (Mu (g:=m) (Kd.CS (p:=⟨k,0,none⟩) (Kd.Aj (Kd.Aj A.o a.o (by decide)) d.o (by decide)) (λ_ M=>M.1.2) (.slice z y.length D)) (λ_ M=>M.2) (.slice z y.length D) (.int .i64 i) (.bool j)) (λ_ M=>trivial),Ag⟩
 rw[Rz c2]at H;exact absurd H (by simp)
mutual
def AM.l0:Nat->Int->List (AQ)->Int->Bool->List (EZ)->List (DH)->List (AQ)->Int->Bool->List (EZ)->List (DH)->Option ((List (AQ))×Int×Bool×(List (EZ))×(List (DH)))
 | 0,_,_,_,_,_,_,_,_,_,_,_=>none
 | k+1,o,d,e,g,a,i,j,l,m,c,n=>if o<(a.length:Int)then(if 0≤o then((C6.f ((AE a o).f0) ((AE a o).f1) ((AE a o).f2) ((AE a o).f3) ((AE a o).f4) ((AE a o).f5)).bind λb=>(if c.length<1759218604441 then(AM.l0 k (wrap64 (o+1)) d e g a i j l m (c++[(⟨b.1,b.2.1,b.2.2.1,b.2.2.2.1,b.2.2.2.2.1,b.2.2.2.2.2⟩:EZ)]) n)else(none)))else(none))else(AM.l1 k 0 d e g a i j l m c n)
def AM.l1:Nat->Int->List (AQ)->Int->Bool->List (EZ)->List (DH)->List (AQ)->Int->Bool->List (EZ)->List (DH)->Option ((List (AQ))×Int×Bool×(List (EZ))×(List (DH)))
 | 0,_,_,_,_,_,_,_,_,_,_,_=>none
 | k+1,o,i,j,l,m,a,c,d,e,g,b=>if o<(a.length:Int)then(if 0≤o then((some (([]:List (AQ)):List (AQ))).bind λn=>(if n.length+((AG a o).f2).length<2199023255552 then(if b.length<3518437208883 then(AM.l1 k (wrap64 (o+1)) i j l m a c d e g (b++[(⟨(AG a o).f0,(AG a o).f1,(n++((AG a o).f2))⟩:DH)]))else(none))else(none)))else(none))else(some (c,d,e,g,b))
end
def AM.f(k:Nat)(d:List (AQ))(b:Int)(c:Bool)(e:List (EZ))(g:List (DH)):Option ((List (AQ))×Int×Bool×(List (EZ))×(List (DH))):=(Ee.f d b c).bind λa=>(AM.l0 k 0 d b c e g a.1 a.2.1 a.2.2 ([]:List (EZ)) (([]:List (DH))))
def AM.T5:Bool×List (List Nat×List Nat):=(true,[([],[]),([0],[0]),([],[]),([2],[2]),([],[]),([3,4],[3,4]),([5],[5]),([6],[6]),([7],[7]),([1,8,7],[1,8]),([0,1,2,3,4,5,6,7,8,9],[]),([10,9,9,0,1,2,3,4,5,6,7,8,9],[9,10])])
def AM.B5:List Nat:=[0,1,0,4,0,28,60,124,252,511,1023,2047]
theorem AM.I8:EK .any (opsOf Tryd.f61 5)=AM.T5:=by kernel_rfl
theorem AM.Gr:DS AM.T5.2 AM.B5=true:=by kernel_rfl
theorem AM.calls(k:Nat)(ae:Option Addr)(af:Nat)(P:List (AQ))(T:Int)(U:Bool)(ak:Option Addr)(ai:Nat)(x:List (EZ))(ax:Option Addr)(aj:Nat)(m:List (DH))(r1:List (AQ))(r2:Int)(r3:Bool)(r4:List (EZ))(r5:List (DH))(w:World)(cx:Kd.C Ck w ae P.length P)(cr:P.length≤af)(cy:Kd.C Ha w ak x.length x)(ct:x.length≤ai)(cz:Kd.C Fh w ax m.length m)(cu:m.length≤aj)(h:AM.f k P T U x m=some (r1,r2,r3,r4,r5)) :
  Calls Tryd.prog 61 #[.agg #[.slice ae P.length af,.int .i64 T,.bool U,.slice ak x.length ai,.slice ax m.length aj]] w λe w'=>∃cG dX dY:Value,e=.returned (.agg #[cG,.int .i64 r2,.bool r3,dX,dY])∧Kd.R Ck 32 w' w.heap.size (λ_=>True) cG r1∧Kd.S Ha 26 w' w.heap.size (λM=>some M≠(cG:Value).ownBlock) dX r4∧Kd.S Fh 114 w' w.heap.size (λM=>some M≠(cG:Value).ownBlock) dY r5∧Below w.heap.size w w':=by
 have gL:=RK;have gK:=Sh;have gJ:=RP;have gD:=Ti;have c0:=a_ cx;have cZ:=a_ cr;clear cx cr;have c_:=a_ cy;have ej:=a_ ct;clear cy ct;have da:=a_ cz;have ek:=a_ cu;clear cz cu;have HB:=a_ (RG w.heap.size w);unfold AM.f at h;have H:=h;clear h;replace H:=BR H;obtain⟨⟨u,X,Y⟩,dI,H⟩:=H;try dsimp only at H
 have A2:=a_ dI;clear dI;obtain⟨ar,hy_⟩:=EM (([]:List (DH)));replace H:(AM.l0 k 0 P T U x m u X Y ([]:List (EZ)) ar)=some (r1,r2,r3,r4,r5):=EN;have bZ:=a_ hy_;clear hy_;have H':=a_ H;clear H;go_enter Tryd.func61,Tryd.ntmps61;go_wp2_with(first|((with_reducible refine BV (N:=1) rfl ?_);refine Cy 1 (#[.slice ae P.length af,.int .i64 T,.bool U,.slice ak x.length ai,.slice ax m.length aj]) 64 ?_;intro L hg w3 ay hb;have a:=a_ (ay);have ef:=BD w hg;have ea:=BD w hg;replace HB:=Bw hb;clear hb ay hg)|((with_reducible refine BV (N:=2) rfl ?_);refine Cy 2 (#[.slice none 0 0,.int .i64 0,.bool false,.slice none 0 0,.slice none 0 0]) 64 ?_;intro J hg w4 ay hb;have r:=a_ (ay);have eg:=BD w hg;have ec:=BD w hg;have al:=a_ ((by rw[hg];exact RN (Av (g:=L) (o:=.cells #[.slice ae P.length af,.int .i64 T,.bool U,.slice ak x.length ai,.slice ax m.length aj] 64 (0,0)) (Bc a.o)):L≠J));have an:=a_ ((by rw[hg];exact RM (Av (g:=L) (o:=.cells #[.slice ae P.length af,.int .i64 T,.bool U,.slice ak x.length ai,.slice ax m.length aj] 64 (0,0)) (Bc a.o)):J≠L));replace a:=a_ (Cr a.o hb);replace HB:=Bw hb;clear hb ay hg;have gG:=al.o;have gH:=an.o;obtain⟨cP,cQ,cR,cS,cT,cK,cL,cM,cN,cO⟩:=CI a.o)|((with_reducible refine BQ (f:=71) rfl ?_);refine BW 9 Tryd.func71 #[.agg #[.slice ae P.length af,.int .i64 T,.bool U]] ?_;(with_reducible refine(Ee.calls _ _ P T U u X Y _ ?q' ?z' A2.o).mono ?_);(case q'=>exact F0 c0.o);(case z'=>exact cZ.o);rintro e w7 ⟨gM,rfl,bT,hb⟩;refine⟨_,rfl,?_⟩;have aQ:=a_ (Kd.AU bT (Af (Ag)));replace HB:=Bw hb;replace a:=a_ (Cr a.o hb);replace r:=a_ (Cr r.o hb);(try clear hb bT))|((with_reducible refine BV (N:=10) rfl ?_);refine Kd.OQ Fh _ 114 ?hg (N:=10) ?hd (xs:=([]:List (DH))) (inner:=[]) (ok:=λ_=>True) (okp:=λ_=>True) ?hr ?hp (λ_ y=>y) trivial (RG _ _) (RB _) (by simp) ?_;(case hd=>rfl);(case hg=>rfl);(case hr=>first|(go_simp;done)|(go_simp;rfl));(case hp=>exact(Bn.none _ _));intro gN w8 cw hb DN bD;clear DN bD;(first|rw[<-bZ.o]at cw|(simp only[Int.reduceToNat]at cw;rw[<-bZ.o]at cw));have a7:=a_ (Kd.Ea (Kd.MN cw (Kd.EH (AV aQ.o))) (Af (Ag)));replace aQ:=a_ (Kd.AJ (AV aQ.o) hb);replace HB:=Bw hb;replace a:=a_ (Cr a.o hb);replace r:=a_ (Cr r.o hb);clear hb cw;obtain⟨a0,a1,dN⟩:=Kd.Ep a7.o;subst dN;obtain⟨G,I,dO⟩:=Kd.Be aQ.o;subst dO)|((with_reducible refine BV (N:=3) rfl ?_);refine Cy 3 (#[.slice none 0 0,.int .i64 0,.bool false,.slice none 0 0,.slice none 0 0]) 64 ?_;intro z hg gT ay hb;have d:=a_ (ay);have eh:=BD w hg;have ed:=BD w hg;have Z:=a_ ((by rw[hg];exact RN (Av (g:=L) (o:=.cells #[.slice ae P.length af,.int .i64 T,.bool U,.slice ak x.length ai,.slice ax m.length aj] 64 (0,0)) (Bc a.o)):L≠z));have ag:=a_ ((by rw[hg];exact RM (Av (g:=L) (o:=.cells #[.slice ae P.length af,.int .i64 T,.bool U,.slice ak x.length ai,.slice ax m.length aj] 64 (0,0)) (Bc a.o)):z≠L));have aa:=a_ ((by rw[hg];exact RN (Av (g:=J) (o:=.cells #[.slice none 0 0,.int .i64 0,.bool false,.slice none 0 0,.slice none 0 0] 64 (0,0)) (Bc r.o)):J≠z));have av:=a_ ((by rw[hg];exact RM (Av (g:=J) (o:=.cells #[.slice none 0 0,.int .i64 0,.bool false,.slice none 0 0,.slice none 0 0] 64 (0,0)) (Bc r.o)):z≠J));replace aQ:=a_ (Kd.AJ (AV aQ.o) hb);replace a7:=a_ (Kd.FN (FR a7.o) hb);replace a:=a_ (Cr a.o hb);replace r:=a_ (Cr r.o hb);replace HB:=Bw hb;clear hb ay hg;have fT:=ag.o;have gl:=Z.o;have fU:=av.o;have gm:=aa.o;obtain⟨cb,cd,cf,cg,cj,b7,b8,b9,b_,ca⟩:=CI d.o));go_loopg [4] k (λkq v4 w'=>∃(D:Int) (A:List (EZ)) (u584003:Value),v4=.int .i64 D∧Ac (AM.l0 kq D P T U x m u X Y A ar=some (r1,r2,r3,r4,r5))∧Ac (kq≤k)∧Ac (Kd.R Ck 32 w' w.heap.size (λ_=>True) (.slice G u.length I) u)∧Ac (Kd.S Ha 26 w' w.heap.size (λM=>some M≠((.slice G u.length I):Value).ownBlock) u584003 A)∧Ac (Kd.S Fh 114 w' w.heap.size (λM=>some M≠((.slice G u.length I):Value).ownBlock) (.slice a0 ar.length a1) ar)∧Ac (w'.heap[L]?=some (.cells #[(.slice ae P.length af),.int .i64 T,.bool U,(.slice ak x.length ai),(.slice ax m.length aj)] 64 (0,0)))∧Ac (w'.heap[J]?=some (.cells #[(.slice none 0 0),.int .i64 0,.bool false,(.slice none 0 0),(.slice none 0 0)] 64 (0,0)))∧Ac (w'.heap[z]?=some (.cells #[(.slice G u.length I),.int .i64 X,.bool Y,u584003,(.slice a0 ar.length a1)] 64 (0,0)))∧Ac (Below w.heap.size w w'))
 case atStart=>exact⟨(0),(([]:List (EZ))),(.slice none 0 0),(CA),H',⟨RB _⟩,⟨by refine AV ?_;exact Kd.Ai (FL (g:=z) (Kd.Aj aQ.o d.o (by decide)) (λ_ y=>y.2) (.slice G u.length I) (.int .i64 X) (.bool Y) (.slice none 0 0) (.slice a0 ar.length a1)) (λ_ y=>trivial)⟩,⟨by first|exact Kd.Jq _ _ _ _ _|exact Kd.N_nil _ _ _ _ _|exact Kd.Ip _ _ _ _ _|exact Kd.Q_nil _ _ _ _ _|exact Kd.He _ _ _ _ _⟩,⟨by refine FR ?_;exact Kd.CM (Kd.Cj (p:=⟨z,4,none⟩) (Kd.Cj (p:=⟨z,3,none⟩) (Kd.Cj (p:=⟨z,2,none⟩) (Kd.Cj (p:=⟨z,1,none⟩) (Kd.Cj (p:=⟨z,0,none⟩) (Kd.Eb a7.o d.o (by decide)) (λ_ y=>y.2) (.slice G u.length I)) (λ_ y=>y.2) (.int .i64 X)) (λ_ y=>y.2) (.bool Y)) (λ_ y=>y.2) (.slice none 0 0)) (λ_ y=>y.2) (.slice a0 ar.length a1)) (λ_ y=>y.1.2)⟩,⟨CZ Z.o a.o⟩,⟨CZ aa.o r.o⟩,⟨GN d.o⟩,⟨Ag⟩⟩
 clear H';try clear c1
 try clear cb cd cf cg cj b7 b8 b9 b_ ca
 try clear cP cQ cR cS cT cK cL cM cN cO
 obtain⟨D,A,u584003,rfl,HA,cC,l,c,j,a,r,d,HB⟩:=hrel;cases gk with
 | zero=>exact absurd HA.o (by simp[AM.l0])
 | succ k1 =>
  have H:=HA.o
  clear HA
  simp only[AM.l0]at H
  by_cases bC:D<(x.length:Int)
  ·rw[Ry bC]at H
   have ck:decide (D<(x.length:Int))=true:=BM bC
   clear bC
   by_cases cl:0≤D
   ·rw[Ry cl]at H
    have dF:decide (0≤D)=true:=BM cl
    clear cl
    replace H:=BR H
    obtain⟨⟨bq,br,a3,a4,bu,bw⟩,cH,H⟩:=H
    try dsimp only at H
    have d_:=a_ cH
    clear cH
    by_cases cm:A.length<1759218604441
    ·rw[Ry cm]at H
     have db:=a_ cm
     clear cm
     obtain⟨a5,hy_⟩:=EM (A++[(⟨bq,br,a3,a4,bu,bw⟩:EZ)])
     replace H:(AM.l0 k1 (wrap64 (D+1)) P T U x m u X Y a5 ar)=some (r1,r2,r3,r4,r5):=EN
     have de:=a_ hy_
     clear hy_
     have H':=a_ H
     clear H
     have fV:=al.o
     have gn:=an.o
     have fW:=Z.o
     have gp:=ag.o
     obtain⟨dv,dw,dx,dy,dz,dh,di,dj,dk,dm⟩:=CI (W:=wr) a.o
     try go_wp2
     replace l:=a_ (Kd.D_ l.o)
     replace c:=a_ (Kd.KY c.o)
     replace j:=a_ (Kd.KY j.o)
     replace a:=a_ (Du a.o)
     replace r:=a_ (Du r.o)
     replace d:=a_ (Du d.o)
     replace HB:=a_ (Ay HB.o)
     have bQ:0≤(D:Int):=Bv
     have bR:D<(x.length:Int):=Bv
     obtain⟨ah,bE,bK,bF,bL,dL,aH,aI,aJ,aK,aM,aN,bk,bg,bl,bh⟩:=PE c_.o D bQ bR
     have aG:=aN
     have aE:=aM
     have aD:=aK
     have aC:=aJ
     have aA:=aI
     have az:=aH
     cases dL
     replace aH:=(Az HB.o aH:)
     replace aI:=(Az HB.o aI:)
     replace aJ:=(Az HB.o aJ:)
     replace aK:=(Az HB.o aK:)
     replace aM:=(Az HB.o aM:)
     replace aN:=(Az HB.o aN:)
     have bb:=a_ bg
     have bU:=a_ bk
     clear bg bk
     have bc:=a_ bh
     have bV:=a_ bl
     clear bh bl
     replace bQ:=RA bQ
     replace bR:=RA bR
     refine Cl (n:=12) (S:=λw'=>w'.cell? ⟨z,0,none⟩=some (.slice G u.length I)∧w'.cell? ⟨z,1,none⟩=some (.int .i64 X)∧w'.cell? ⟨z,2,none⟩=some (.bool Y)∧w'.cell? ⟨z,3,none⟩=some (u584003)∧w'.cell? ⟨z,4,none⟩=some (.slice a0 ar.length a1)∧w'.cell? ⟨L,0,none⟩=some (.slice ae P.length af)∧w'.cell? ⟨L,1,none⟩=some (.int .i64 T)∧w'.cell? ⟨L,2,none⟩=some (.bool U)∧w'.cell? ⟨L,3,none⟩=some (.slice (some ah) x.length ai)∧w'.cell? ⟨L,4,none⟩=some (.slice ax m.length aj)∧w'.cell? (ah.add ((D).toNat*6))=some (.int .i64 ((AE x D).f0))∧w'.cell? ⟨(ah.add ((D).toNat*6)).block,(ah.add ((D).toNat*6)).off+1,none⟩=some (.int .i64 ((AE x D).f1))∧w'.cell? ⟨(ah.add ((D).toNat*6)).block,(ah.add ((D).toNat*6)).off+2,none⟩=some (.slice bE ((AE x D).f2).length bK)∧w'.cell? ⟨(ah.add ((D).toNat*6)).block,(ah.add ((D).toNat*6)).off+3,none⟩=some (.slice bF ((AE x D).f3).length bL)∧w'.cell? ⟨(ah.add ((D).toNat*6)).block,(ah.add ((D).toNat*6)).off+4,none⟩=some (.int .i64 ((AE x D).f4))∧w'.cell? ⟨(ah.add ((D).toNat*6)).block,(ah.add ((D).toNat*6)).off+5,none⟩=some (.int .i64 ((AE x D).f5))) (ds:=[11]) #[false,false,false,false,false,false,false,false,false,false,false,false] (by kernel_rfl) rfl rfl ⟨(Ax d.o 0).trans rfl,(Ax d.o 1).trans rfl,(Ax d.o 2).trans rfl,(Ax d.o 3).trans rfl,(Ax d.o 4).trans rfl,(Ax a.o 0).trans rfl,(Ax a.o 1).trans rfl,(Ax a.o 2).trans rfl,(Ax a.o 3).trans rfl,(Ax a.o 4).trans rfl,((Az HB.o az:)),((Az HB.o aA:)),((Az HB.o aC:)),((Az HB.o aD:)),((Az HB.o aE:)),((Az HB.o aG:))⟩ (λaW=>?_);refine B1 AM.I8 AM.Gr (λHT_ HW_=>?_)
     generalize wr.drew=gU at l c j a r d HB bb bc aH aI aJ aK aM aN aW⊢
     refine Bf 0 19 ?_
     refine Bf 2 21 ?_
     refine Bf 4 23 ?_
     refine NG 1 20 aW ?_
     refine NG 3 22 aW ?_
     refine Bf 5 24 ?_
     refine NG 6 25 aW ?_
     refine E7 7 26 (λK hK=>?_)
     refine C7 Tryd.func27 (by kernel_rfl) rfl #[.agg #[.int .i64 ((AE x D).f0),.int .i64 ((AE x D).f1),.slice bE ((AE x D).f2).length bK,.slice bF ((AE x D).f3).length bL,.int .i64 ((AE x D).f4),.int .i64 ((AE x D).f5)]] (by rfl) rfl rfl JV ?_
     with_reducible refine(C6.calls ((AE x D).f0) ((AE x D).f1) _ _ ((AE x D).f2) _ _ ((AE x D).f3) ((AE x D).f4) ((AE x D).f5) bq br a3 a4 bu bw _ ?q' ?z' ?y' ?v' d_.o).mono ?_
     (case q'=>exact F0 bb.o)
     (case z'=>exact bU.o)
     (case y'=>exact E9 (Kd.Bu bc.o HB.o))
     (case v'=>exact bV.o)
     rintro e gV ⟨gO,gP,rfl,bT,cv,hb⟩
     refine⟨_,rfl,?_⟩
     replace c:=a_ (Kd.CM (Kd.JS (Kd.JS (Kd.OR (FR c.o) hb) (Kd.Ch bT)) (Kd.Ch cv)) (λ_ h_=>h_.1))
     replace j:=a_ (Kd.Hf (FR j.o) (Kd.Ch cv) hb)
     have a8:=a_ (Kd.AU bT (Af (Ag)))
     have a9:=a_ (Kd.AU (Kd.Et cv (Kd.EH (AV l.o))) (Af (Ag)))
     replace l:=a_ (Kd.Dq (AV l.o) (Kd.Ch cv) hb)
     replace HB:=Bw hb
     replace a:=a_ (Cr a.o hb)
     replace r:=a_ (Cr r.o hb)
     replace d:=a_ (Cr d.o hb)
     try clear hb bT cv
     obtain⟨cI,cU,cW⟩:=Kd.Be a8.o
     (first|subst cW|(injection cW with bd cn be;have cp:=bd.symm;have cq:=be.symm;clear bd cn be;subst cp;subst cq))
     obtain⟨cJ,cV,cX⟩:=Kd.Be a9.o
     (first|subst cX|(injection cX with bd cn be;have cp:=bd.symm;have cq:=be.symm;clear bd cn be;subst cp;subst cq))
     refine hK.out _ _ ⟨(Ax d.o 0).trans rfl,(Ax d.o 1).trans rfl,(Ax d.o 2).trans rfl,(Ax d.o 3).trans rfl,(Ax d.o 4).trans rfl,(Ax a.o 0).trans rfl,(Ax a.o 1).trans rfl,(Ax a.o 2).trans rfl,(Ax a.o 3).trans rfl,(Ax a.o 4).trans rfl,((Az HB.o az:)),((Az HB.o aA:)),((Az HB.o aC:)),((Az HB.o aD:)),((Az HB.o aE:)),((Az HB.o aG:))⟩ (λaW=>?_)
     clear hK K
     refine Er 26 ?_
     refine E7 8 27 (λK hK=>?_)
     refine Gi (w1:=?_) (v:=?_) (by rfl) rfl ?_ ?_
     rotate_left 2
     ·go_simp
      constructor
      ·rfl
      ·rfl
     refine hK.out _ _ ⟨(Ax (EG d.o _) 0).trans rfl,(Ax (EG d.o _) 1).trans rfl,(Ax (EG d.o _) 2).trans rfl,(Ax (EG d.o _) 3).trans rfl,(Ax (EG d.o _) 4).trans rfl,(Ax (EG a.o _) 0).trans rfl,(Ax (EG a.o _) 1).trans rfl,(Ax (EG a.o _) 2).trans rfl,(Ax (EG a.o _) 3).trans rfl,(Ax (EG a.o _) 4).trans rfl,(SX _ _ _ (FV _ _ (((Az HB.o az:))))).trans (((Az HB.o az:))),(SX _ _ _ (FV _ _ (((Az HB.o aA:))))).trans (((Az HB.o aA:))),(SX _ _ _ (FV _ _ (((Az HB.o aC:))))).trans (((Az HB.o aC:))),(SX _ _ _ (FV _ _ (((Az HB.o aD:))))).trans (((Az HB.o aD:))),(SX _ _ _ (FV _ _ (((Az HB.o aE:))))).trans (((Az HB.o aE:))),(SX _ _ _ (FV _ _ (((Az HB.o aG:))))).trans (((Az HB.o aG:)))⟩ (λaW=>?_)
     clear hK K
     refine Er 27 ?_
     refine E7 9 28 (λK hK=>?_)
     refine Kd.Je Ha (w0:=w) w.heap.size (by rfl) (.tmp 20) (.tmp 27) 61 26 (.agg #[(.int .i64 0),(.int .i64 0),(.slice none 0 0),(.slice none 0 0),(.int .i64 0),(.int .i64 0)]) 80 rfl Tryd.underlying61 La rfl (by decide) (by omega) u584003 A (⟨bq,br,a3,a4,bu,bw⟩:EZ) [.int .i64 bq,.int .i64 br,.slice cI a3.length cU,.slice cJ a4.length cV,.int .i64 bu,.int .i64 bw] (λM=>some M≠(.slice G u.length I:Value).ownBlock) (λM=>some M=(.slice cI a3.length cU:Value).ownBlock∨some M=(.slice cJ a4.length cV:Value).ownBlock) rfl rfl ?aP (λM dH=>dH.elim (λh_=>((Kd.Ai (Fi:=λM=>((λM=>some M≠(.slice G u.length I:Value).ownBlock)) M∧some M≠(u584003:Value).ownBlock) (Kd.BE (Kd.BE (a8.o) (Kd.Ca l.o) (by decide)) (Kd.Ds c.o) (by decide)) (λM y=>⟨y.1.2,y.2⟩))).1 M h_.symm) (λh_=>((Kd.Ai (Fi:=λM=>((λM=>some M≠(.slice G u.length I:Value).ownBlock)) M∧some M≠(u584003:Value).ownBlock) (Kd.BE (a9.o) (Kd.Ds c.o) (by decide)) (λM y=>⟨y.1.2,y.2⟩))).1 M h_.symm)) ?aF ?aO ?aB ?aS ?aL ?_
     (case aP=>exact IJ _ _ _ (⟨bq,br,a3,a4,bu,bw⟩:EZ) (Kd.Ai (Kd.E_ rfl (Kd.Ai (Fi:=λM=>((λM=>some M≠(.slice G u.length I:Value).ownBlock)) M∧some M≠(u584003:Value).ownBlock) (Kd.BE (Kd.BE (a8.o) (Kd.Ca l.o) (by decide)) (Kd.Ds c.o) (by decide)) (λM y=>⟨y.1.2,y.2⟩))) (λ_ h_=>Or.inl h_)) (Kd.Ai (Kd.E_ rfl (Kd.Ai (Fi:=λM=>((λM=>some M≠(.slice G u.length I:Value).ownBlock)) M∧some M≠(u584003:Value).ownBlock) (Kd.BE (a9.o) (Kd.Ds c.o) (by decide)) (λM y=>⟨y.1.2,y.2⟩))) (λ_ h_=>Or.inr (h_))))
     (case aB=>exact(Ag))
     (case aF=>exact(λM y=>Kd.Fk (Kd.EH (AV l.o)) M y))
     (case aO=>exact(by refine FR ?_;exact Kd.CM c.o (λM y=>⟨y.1.1,λe_=>e_.elim (λh_=>y.1.2 h_) (λh_=>y.2 h_)⟩)))
     (case aS=>exact(Af (Ag)))
     (case aL=>have:=db.o;omega)
     intro gQ gE ho hb hg bf
     rw[<-de.o]at ho
     replace l:=a_ (Kd.DL (AV l.o) (Kd.Ds (FR c.o)) (by decide) hg)
     replace j:=a_ (Kd.JR (FR j.o) (Kd.Ds (FR c.o)) (by decide) hg)
     replace a:=a_ (AO (g:=L) (o:=.cells #[.slice ae P.length af,.int .i64 T,.bool U,.slice (some ah) x.length ai,.slice ax m.length aj] 64 (0,0)) (Bc a.o) hg (Kd.Ku c.o a.o (by decide)))
     replace r:=a_ (AO (g:=J) (o:=.cells #[.slice none 0 0,.int .i64 0,.bool false,.slice none 0 0,.slice none 0 0] 64 (0,0)) (Bc r.o) hg (Kd.Ku c.o r.o (by decide)))
     replace d:=a_ (AO (g:=z) (o:=.cells #[.slice G u.length I,.int .i64 X,.bool Y,u584003,.slice a0 ar.length a1] 64 (0,0)) (Bc d.o) hg (Kd.Ku c.o d.o (by decide)))
     replace HB:=a_ (hb)
     have bW:=a_ (ho)
     clear c a8 a9
     clear ho hb hg bf
     obtain⟨bG,bM,cY⟩:=Kd.Ep bW.o
     (first|subst cY|(injection cY with bd cn be;have cp:=bd.symm;have cq:=be.symm;clear bd cn be;subst cp;subst cq))
     refine hK.out _ _ ⟨(Ax d.o 0).trans rfl,(Ax d.o 1).trans rfl,(Ax d.o 2).trans rfl,(Ax d.o 3).trans rfl,(Ax d.o 4).trans rfl,(Ax a.o 0).trans rfl,(Ax a.o 1).trans rfl,(Ax a.o 2).trans rfl,(Ax a.o 3).trans rfl,(Ax a.o 4).trans rfl,((Az HB.o az:)),((Az HB.o aA:)),((Az HB.o aC:)),((Az HB.o aD:)),((Az HB.o aE:)),((Az HB.o aG:))⟩ (λaW=>?_)
     clear hK K
     refine Er 28 ?_
     refine Bf 10 29 ?_
     refine Fe (i:=11) (N:=none) #[true,true,true,true,true,true,true,true,true,true,true,true] rfl rfl (Gc HT_.o (by kernel_rfl)) (by decide) (λK hK=>?_)
     have gI:gE.cell? ⟨z,3,none⟩=some (u584003):=(Ax d.o 3).trans rfl
     have fS:=BU d.o 3
     have dV:=Z.o
     have dW:=aa.o
     have dT:=ag.o
     have dU:=av.o
     refine EL (w1:=?_) (by rfl) rfl ?_ ?_
     rotate_left
     ·go_simp
      rfl
     refine hK.out _ _ ?_
     clear hK K
     refine CV (CT HT_.o (by kernel_rfl)) ?_
     try go_wp2
     go_roundg k1
     case measure=>have:=cC.o;omega
     case rel=>exact⟨(wrap64 (D+1)),(a5),(.slice bG a5.length bM),(CA),H',⟨by have:=cC.o;omega⟩,⟨by refine AV ?_;exact Kd.Ai (Kd.CS (p:=⟨z,3,none⟩) (Kd.Aj l.o d.o (by decide)) (λ_ y=>y.2) (.slice bG a5.length bM)) (λ_ y=>trivial)⟩,⟨by refine FR ?_;exact Kd.CM (Kd.Cj (p:=⟨z,3,none⟩) (Kd.Eb bW.o d.o (by decide)) (λ_ y=>y.2) (.slice bG a5.length bM)) (λ_ y=>y.1)⟩,⟨by refine FR ?_;exact Kd.CM (Kd.Cj (p:=⟨z,3,none⟩) (Kd.Eb j.o d.o (by decide)) (λ_ y=>y.2) (.slice bG a5.length bM)) (λ_ y=>y.1.1)⟩,⟨CZ Z.o a.o⟩,⟨CZ aa.o r.o⟩,⟨by(with_reducible repeat(first|refine Fz ?_ _|refine Du ?_|refine EG ?_ _));refine BF (cs:=#[.slice G u.length I,.int .i64 X,.bool Y,u584003,.slice a0 ar.length a1]) ?_ 3 _ rfl;(with_reducible repeat(first|refine Fz ?_ _|refine Du ?_|refine EG ?_ _));exact d.o⟩,⟨Ag⟩⟩
    ·rw[Rz cm]at H
     exact absurd H (by simp)
   ·rw[Rz cl]at H
    exact absurd H (by simp)
  ·rw[Rz bC]at H
   have ck:decide (D<(x.length:Int))=false:=C9 bC
   clear bC
   have H':=a_ H
   clear H
   have fX:=al.o
   have gq:=an.o
   have fY:=Z.o
   have gr:=ag.o
   obtain⟨dA,dB,dC,dD,dE,dn,dp,dq,dr,du⟩:=CI (W:=wr) a.o
   go_wp2
   go_loopg [5] k1 (λkq v5 w'=>∃(q:Int) (E:List (DH)) (u584004:Value),v5=.int .i64 q∧Ac (AM.l1 kq q P T U x m u X Y A E=some (r1,r2,r3,r4,r5))∧Ac (kq≤k1)∧Ac (Kd.R Ck 32 w' w.heap.size (λ_=>True) (.slice G u.length I) u)∧Ac (Kd.S Ha 26 w' w.heap.size (λM=>some M≠((.slice G u.length I):Value).ownBlock) u584003 A)∧Ac (Kd.S Fh 114 w' w.heap.size (λM=>some M≠((.slice G u.length I):Value).ownBlock) u584004 E)∧Ac (w'.heap[L]?=some (.cells #[(.slice ae P.length af),.int .i64 T,.bool U,(.slice ak x.length ai),(.slice ax m.length aj)] 64 (0,0)))∧Ac (w'.heap[J]?=some (.cells #[(.slice none 0 0),.int .i64 0,.bool false,(.slice none 0 0),(.slice none 0 0)] 64 (0,0)))∧Ac (w'.heap[z]?=some (.cells #[(.slice G u.length I),.int .i64 X,.bool Y,u584003,u584004] 64 (0,0)))∧Ac (Below w.heap.size w w'))
   case atStart=>exact⟨(0),(ar),(.slice a0 ar.length a1),(CA),H',⟨RB _⟩,⟨by refine AV ?_;exact l.o⟩,⟨by refine FR ?_;exact c.o⟩,⟨by refine FR ?_;exact j.o⟩,⟨Bc a.o⟩,⟨Bc r.o⟩,⟨Bc d.o⟩,⟨Ag⟩⟩
   case round =>
    clear H'
    try clear bC
    try clear ck
    try clear cl
    try clear dF
    try clear cm
    try clear aH
    try clear aI
    try clear aJ
    try clear aK
    try clear aM
    try clear aN
    try clear bQ
    try clear bR
    try clear cb cd cf cg cj b7 b8 b9 b_ ca
    try clear dv dw dx dy dz dh di dj dk dm
    try clear dA dB dC dD dE dn dp dq dr du
    try clear cP cQ cR cS cT cK cL cM cN cO
    obtain⟨q,E,u584004,rfl,HA,dK,l,c,j,a,r,d,HB⟩:=hrel
    cases gk with
    | zero=>exact absurd HA.o (by simp[AM.l1])
    | succ k2 =>
     have H:=HA.o
     clear HA
     simp only[AM.l1]at H
     by_cases bS:q<(m.length:Int)
     ·rw[Ry bS]at H
      have dG:decide (q<(m.length:Int))=true:=BM bS
      clear bS
      by_cases cD:0≤q
      ·rw[Ry cD]at H
       have fR:decide (0≤q)=true:=BM cD
       clear cD
       obtain⟨bx,hy_⟩:=EM (([]:List (AQ)))
       replace H:(if bx.length+((AG m q).f2).length<2199023255552 then(if E.length<3518437208883 then(AM.l1 k2 (wrap64 (q+1)) P T U x m u X Y A (E++[(⟨(AG m q).f0,(AG m q).f1,(bx++((AG m q).f2))⟩:DH)]))else(none))else(none))=some (r1,r2,r3,r4,r5):=EN
       have b6:=a_ hy_
       clear hy_
       by_cases cE:bx.length+((AG m q).f2).length<2199023255552
       ·rw[Ry cE]at H
        have dc:=a_ cE
        clear cE
        obtain⟨ab,hy_⟩:=EM (bx++((AG m q).f2))
        replace H:(if E.length<3518437208883 then(AM.l1 k2 (wrap64 (q+1)) P T U x m u X Y A (E++[(⟨(AG m q).f0,(AG m q).f1,ab⟩:DH)]))else(none))=some (r1,r2,r3,r4,r5):=EN
        have df:=a_ hy_
        clear hy_
        by_cases cF:E.length<3518437208883
        ·rw[Ry cF]at H
         have dd:=a_ cF
         clear cF
         obtain⟨a6,hy_⟩:=EM (E++[(⟨(AG m q).f0,(AG m q).f1,ab⟩:DH)])
         replace H:(AM.l1 k2 (wrap64 (q+1)) P T U x m u X Y A a6)=some (r1,r2,r3,r4,r5):=EN
         have dg:=a_ hy_
         clear hy_
         have H':=a_ H
         clear H
         have fZ:=al.o
         have gu:=an.o
         have f_:=Z.o
         have gv:=ag.o
         obtain⟨e6,e7,e8,e9,fa,en,eo,ep,er,et⟩:=CI (W:=wr) a.o
         have cA:0≤(q:Int):=Bv
         have cB:q<(m.length:Int):=Bv
         obtain⟨aZ,au,aw,dM,bn,bo,bp,bm,bj⟩:=N6 da.o q cA cB
         cases dM
         replace bn:=(Az HB.o bn:)
         replace bo:=(Az HB.o bo:)
         replace bp:=(Az HB.o bp:)
         have bY:=a_ bj
         have dJ:=a_ bm
         clear bj bm
         replace cA:=RA cA
         replace cB:=RA cB
         go_wp2_with(first|((with_reducible refine BV (N:=6) rfl ?_);refine Cy 6 (#[.int .i64 0,.int .i64 0,.slice none 0 0]) 114 ?_;intro B hg gW ay hb;have O:=a_ (ay);have ei:=BD w hg;have ee:=BD w hg;have aT:=a_ ((by rw[hg];exact RN (Av (g:=L) (o:=.cells #[.slice ae P.length af,.int .i64 T,.bool U,.slice ak x.length ai,.slice (some aZ) m.length aj] 64 (0,0)) (Bc a.o)):L≠B));have bz:=a_ ((by rw[hg];exact RM (Av (g:=L) (o:=.cells #[.slice ae P.length af,.int .i64 T,.bool U,.slice ak x.length ai,.slice (some aZ) m.length aj] 64 (0,0)) (Bc a.o)):B≠L));have aU:=a_ ((by rw[hg];exact RN (Av (g:=J) (o:=.cells #[.slice none 0 0,.int .i64 0,.bool false,.slice none 0 0,.slice none 0 0] 64 (0,0)) (Bc r.o)):J≠B));have bA:=a_ ((by rw[hg];exact RM (Av (g:=J) (o:=.cells #[.slice none 0 0,.int .i64 0,.bool false,.slice none 0 0,.slice none 0 0] 64 (0,0)) (Bc r.o)):B≠J));have aV:=a_ ((by rw[hg];exact RN (Av (g:=z) (o:=.cells #[.slice G u.length I,.int .i64 X,.bool Y,u584003,u584004] 64 (0,0)) (Bc d.o)):z≠B));have bB:=a_ ((by rw[hg];exact RM (Av (g:=z) (o:=.cells #[.slice G u.length I,.int .i64 X,.bool Y,u584003,u584004] 64 (0,0)) (Bc d.o)):B≠z));replace l:=a_ (Kd.AJ (AV l.o) hb);replace c:=a_ (Kd.FN (FR c.o) hb);replace j:=a_ (Kd.FN (Kd.Kt (FR j.o) B (Sd hg.symm)) hb);replace a:=a_ (Cr a.o hb);replace r:=a_ (Cr r.o hb);replace d:=a_ (Cr d.o hb);replace HB:=Bw hb;clear hb ay hg;have ga:=bz.o;have gw:=aT.o;have gb:=bA.o;have gx:=aU.o;have gf:=bB.o;have gy:=aV.o;obtain⟨fb,fc,fe,eu,ev,ew⟩:=DV O.o)|((with_reducible refine BV (N:=42) rfl ?_);refine Kd.DG Ck _ 32 ?hg (N:=42) ?hd (xs:=([]:List (AQ))) (inner:=[]) (ok:=λ_=>True) (okp:=λ_=>True) ?hr ?hp (λ_ y=>y) trivial (RG _ _) (RB _) (by simp) ?_;(case hd=>rfl);(case hg=>rfl);(case hr=>first|(go_simp;done)|(go_simp;rfl));(case hp=>exact(Bn.none _ _));intro dZ gX a2 hb DN bD;clear DN bD;(first|rw[<-b6.o]at a2|(simp only[Int.reduceToNat]at a2;rw[<-b6.o]at a2));have aX:=a_ (Kd.AU (Kd.Et a2 (Kd.EH (by refine AV ?_;exact(Kd.Ai (Mu (g:=B) (Kd.Aj l.o O.o (by decide)) (λ_ y=>y.2) (.int .i64 ((AG m q).f0)) (.int .i64 ((AG m q).f1)) (.slice au ((AG m q).f2).length aw)) (λ_ h_=>h_.1))))) (Af (Ag)));replace l:=a_ (Kd.Dq (by refine AV ?_;exact(Kd.Ai (Mu (g:=B) (Kd.Aj l.o O.o (by decide)) (λ_ y=>y.2) (.int .i64 ((AG m q).f0)) (.int .i64 ((AG m q).f1)) (.slice au ((AG m q).f2).length aw)) (λ_ h_=>h_.1))) (Kd.Ch a2) hb);replace c:=a_ (Kd.Hf (by refine FR ?_;exact(Kd.CM (Kd.Cj (p:=⟨B,2,none⟩) (Kd.Cj (p:=⟨B,1,none⟩) (Kd.Cj (p:=⟨B,0,none⟩) (Kd.Eb c.o O.o (by decide)) (λ_ y=>y.2) (.int .i64 ((AG m q).f0))) (λ_ y=>y.2) (.int .i64 ((AG m q).f1))) (λ_ y=>y.2) (.slice au ((AG m q).f2).length aw)) (λ_ h_=>h_.1))) (Kd.Ch a2) hb);replace j:=a_ (Kd.Hf (by refine FR ?_;exact(Kd.CM (Kd.Cj (p:=⟨B,2,none⟩) (Kd.Cj (p:=⟨B,1,none⟩) (Kd.Cj (p:=⟨B,0,none⟩) (Kd.CM j.o (λM y=>(⟨y,y.2⟩:_∧M≠B))) (λ_ y=>y.2) (.int .i64 ((AG m q).f0))) (λ_ y=>y.2) (.int .i64 ((AG m q).f1))) (λ_ y=>y.2) (.slice au ((AG m q).f2).length aw)) (λ_ h_=>h_.1))) (Kd.Ch a2) hb);replace a:=a_ (Ao (g:=L) (o:=.cells #[.slice ae P.length af,.int .i64 T,.bool U,.slice ak x.length ai,.slice (some aZ) m.length aj] 64 (0,0)) (CZ aT.o a.o) hb);replace r:=a_ (Ao (g:=J) (o:=.cells #[.slice none 0 0,.int .i64 0,.bool false,.slice none 0 0,.slice none 0 0] 64 (0,0)) (CZ aU.o r.o) hb);replace d:=a_ (Ao (g:=z) (o:=.cells #[.slice G u.length I,.int .i64 X,.bool Y,u584003,u584004] 64 (0,0)) (CZ aV.o d.o) hb);replace O:=a_ (Ao (g:=B) (o:=.cells #[.int .i64 ((AG m q).f0),.int .i64 ((AG m q).f1),.slice au ((AG m q).f2).length aw] 114 (0,0)) (Ol O.o) hb);replace HB:=Bw hb;clear hb a2;obtain⟨fg,fh,fi,ey,ez,eA⟩:=DV O.o)|((with_reducible refine Bo (b:=.append) (xs:=#[.tmp 42,.tmp 44]) rfl ?_);at_builtin;refine Kd.Cn Ck (w0:=w) w.heap.size rfl (.tmp 42) (.tmp 44) 24 32 (.agg #[(.int .i64 0),(.int .i64 0),(.int .i64 0),(.int .i64 0),(.int .i64 0),(.int .i64 0),(.string ⟨#[]⟩)]) 64 rfl R8 Dv rfl (by decide) (by omega) dZ bx ((AG m q).f2) _ _ _ (λM=>some M≠(.slice G u.length I:Value).ownBlock) (λ_=>False) rfl rfl ?aO ?aR (λ_ _ h=>h) (λ_ h=>h.elim) ?aF ?aB ?aS ?aL ?_;(case aR=>exact E9 (Kd.Bu bY.o HB.o));(case aB=>exact(Ag));(case aF=>exact(λM y=>Kd.Fk (Kd.EH (AV l.o)) M y));(case aO=>exact(by refine AV ?_;exact Kd.Ai aX.o (λ_ y=>y.2)));(case aS=>exact(Af (Ag)));(case aL=>have:=dc.o;omega);intro gR gF ho hb hg bf;rw[<-df.o]at ho;replace l:=a_ (Kd.F6 (ok:=(λ_=>True)) (AV l.o) hg bf);replace c:=a_ (Kd.Lw (ok:=(λM=>some M≠(.slice G u.length I:Value).ownBlock)) (FR c.o) hg bf);replace j:=a_ (Kd.Lw (ok:=(λM=>some M≠(.slice G u.length I:Value).ownBlock∧M≠B)) (FR j.o) hg bf);replace a:=a_ (AO (g:=L) (o:=.cells #[.slice ae P.length af,.int .i64 T,.bool U,.slice ak x.length ai,.slice (some aZ) m.length aj] 64 (0,0)) (Bc a.o) hg (Kd.EY aX.o a.o (by decide)));replace r:=a_ (AO (g:=J) (o:=.cells #[.slice none 0 0,.int .i64 0,.bool false,.slice none 0 0,.slice none 0 0] 64 (0,0)) (Bc r.o) hg (Kd.EY aX.o r.o (by decide)));replace d:=a_ (AO (g:=z) (o:=.cells #[.slice G u.length I,.int .i64 X,.bool Y,u584003,u584004] 64 (0,0)) (Bc d.o) hg (Kd.EY aX.o d.o (by decide)));replace O:=a_ (AO (g:=B) (o:=.cells #[.int .i64 ((AG m q).f0),.int .i64 ((AG m q).f1),.slice au ((AG m q).f2).length aw] 114 (0,0)) (Bc O.o) hg (Kd.EY aX.o O.o (by decide)));replace HB:=a_ (hb);have aY:=a_ (ho);clear aX;clear ho hb hg bf;obtain⟨ao,aq,dP⟩:=Kd.Be aY.o;subst dP;obtain⟨fj,fk,fl,eB,eC,eD⟩:=DV O.o)|((with_reducible refine Dc (t:=24) (p:=46) rfl ?_);refine CY (t:=24) (p:=46) (v:=?m') (w1:=(gF.setCell ⟨B,2,none⟩ (.slice ao ab.length aq))) ?hg ?ho ?hn ?hr ?_;(case ho=>rfl);(case hg=>rfl);(case hn=>rfl);(case hr=>first|(go_simp;done)|(go_simp;rfl));intro ba hw;replace l:Ac (Kd.R Ck 32 ba w.heap.size (λM=>some M≠(.slice ao ab.length aq:Value).ownBlock) (.slice G u.length I) u):=⟨(by rw[hw];exact(by refine AV ?_;exact Kd.Ai (Kd.CS (p:=⟨B,2,none⟩) (Kd.Aj l.o O.o (by decide)) (λ_ y=>y.2) (.slice ao ab.length aq)) (λ_ y=>y.1.2)))⟩;replace c:Ac (Kd.S Ha 26 ba w.heap.size (λM=>some M≠(.slice G u.length I:Value).ownBlock∧some M≠(.slice ao ab.length aq:Value).ownBlock) u584003 A):=⟨(by rw[hw];exact(by refine FR ?_;exact Kd.CM (Kd.Cj (p:=⟨B,2,none⟩) (Kd.Eb c.o O.o (by decide)) (λ_ y=>y.2) (.slice ao ab.length aq)) (λ_ y=>⟨y.1.1,y.1.2⟩)))⟩;replace j:Ac (Kd.S Fh 114 ba w.heap.size (λM=>some M≠(.slice G u.length I:Value).ownBlock∧some M≠(.slice ao ab.length aq:Value).ownBlock∧M≠B) u584004 E):=⟨(by rw[hw];exact(by refine FR ?_;exact Kd.CM (Kd.Cj (p:=⟨B,2,none⟩) (Kd.CM j.o (λM y=>(⟨y,y.1.2⟩:_∧M≠B))) (λ_ y=>y.2) (.slice ao ab.length aq)) (λ_ y=>⟨y.1.1.1,⟨y.1.2,y.1.1.2⟩⟩)))⟩;replace aY:Ac (Kd.R Ck 32 ba w.heap.size (λM=>some M≠(.slice G u.length I:Value).ownBlock) (.slice ao ab.length aq) ab):=⟨(by rw[hw];exact(by refine AV ?_;exact Kd.Ai (Kd.CS (p:=⟨B,2,none⟩) (Kd.Aj aY.o O.o (by decide)) (λ_ y=>y.2) (.slice ao ab.length aq)) (λ_ y=>y.1)))⟩;replace a:Ac (ba.heap[L]?=some (.cells #[.slice ae P.length af,.int .i64 T,.bool U,.slice ak x.length ai,.slice (some aZ) m.length aj] 64 (0,0))):=⟨(by rw[hw];exact(CZ aT.o a.o))⟩;replace r:Ac (ba.heap[J]?=some (.cells #[.slice none 0 0,.int .i64 0,.bool false,.slice none 0 0,.slice none 0 0] 64 (0,0))):=⟨(by rw[hw];exact(CZ aU.o r.o))⟩;replace d:Ac (ba.heap[z]?=some (.cells #[.slice G u.length I,.int .i64 X,.bool Y,u584003,u584004] 64 (0,0))):=⟨(by rw[hw];exact(CZ aV.o d.o))⟩;replace O:Ac (ba.heap[B]?=some (.cells #[.int .i64 ((AG m q).f0),.int .i64 ((AG m q).f1),.slice ao ab.length aq] 114 (0,0))):=⟨(by rw[hw];exact(by(with_reducible repeat(first|refine Fz ?_ _|refine Du ?_|refine EG ?_ _));refine BF (cs:=#[.int .i64 ((AG m q).f0),.int .i64 ((AG m q).f1),.slice au ((AG m q).f2).length aw]) ?_ 2 _ rfl;(with_reducible repeat(first|refine Fz ?_ _|refine Du ?_|refine EG ?_ _));exact O.o))⟩;replace HB:Ac (Below w.heap.size w ba):=⟨(by rw[hw];exact(Ag))⟩;clear hw;have gg:=av.o;have gz:=aa.o;obtain⟨fm,fo,fp,fq,ft,eE,eF,eG,eH,eI⟩:=CI d.o;obtain⟨fu,fv,fw,eJ,eK,eL⟩:=DV O.o)|((with_reducible refine Bo (b:=.append) (xs:=#[.tmp 48,.tmp 50]) rfl ?_);at_builtin;refine Kd.Ks Fh (w0:=w) w.heap.size rfl (.tmp 48) (.tmp 50) 62 114 (.agg #[(.int .i64 0),(.int .i64 0),(.slice none 0 0)]) 40 rfl Ta Hn rfl (by decide) (by omega) u584004 E (⟨(AG m q).f0,(AG m q).f1,ab⟩:DH) [.int .i64 ((AG m q).f0),.int .i64 ((AG m q).f1),.slice ao ab.length aq] (λM=>some M≠(.slice G u.length I:Value).ownBlock∧M≠B) (λM=>some M=(.slice ao ab.length aq:Value).ownBlock) rfl rfl ?aP (λM dH=>((Kd.Ai (Fi:=λM=>((λM=>some M≠(.slice G u.length I:Value).ownBlock∧M≠B)) M∧some M≠(u584004:Value).ownBlock) (Kd.Aj (Kd.BE (aY.o) (Kd.Ds j.o) (by decide)) O.o (by decide)) (λM y=>⟨⟨y.1.1,y.2⟩,y.1.2⟩))).1 M dH.symm) ?aF ?aO ?aB ?aS ?aL ?_;(case aP=>exact Ng _ _ _ (⟨(AG m q).f0,(AG m q).f1,ab⟩:DH) (Kd.Ai (Kd.E_ rfl (Kd.Ai (Fi:=λM=>((λM=>some M≠(.slice G u.length I:Value).ownBlock∧M≠B)) M∧some M≠(u584004:Value).ownBlock) (Kd.Aj (Kd.BE (aY.o) (Kd.Ds j.o) (by decide)) O.o (by decide)) (λM y=>⟨⟨y.1.1,y.2⟩,y.1.2⟩))) (λ_ h_=>h_)));(case aB=>exact(Ag));(case aF=>exact(λM y=>⟨Kd.Fk (Kd.EH (AV l.o)) M y,Kd.Dk (g:=B) (o:=.cells #[.int .i64 ((AG m q).f0),.int .i64 ((AG m q).f1),.slice ao ab.length aq] 114 (0,0)) (Bc O.o) M y⟩));(case aO=>exact(by refine FR ?_;exact Kd.CM j.o (λM y=>⟨⟨y.1,y.2.2⟩,λe_=>y.2.1 e_⟩)));(case aS=>exact(Af (Ag)));(case aL=>have:=dd.o;omega);intro gS gY ho hb hg bf;rw[<-dg.o]at ho;replace l:=a_ (Kd.DL (AV l.o) (Kd.Ds (FR j.o)) (by decide) hg);replace c:=a_ (Kd.JR (FR c.o) (Kd.Ds (FR j.o)) (by decide) hg);replace a:=a_ (AO (g:=L) (o:=.cells #[.slice ae P.length af,.int .i64 T,.bool U,.slice ak x.length ai,.slice (some aZ) m.length aj] 64 (0,0)) (Bc a.o) hg (Kd.Ku j.o a.o (by decide)));replace r:=a_ (AO (g:=J) (o:=.cells #[.slice none 0 0,.int .i64 0,.bool false,.slice none 0 0,.slice none 0 0] 64 (0,0)) (Bc r.o) hg (Kd.Ku j.o r.o (by decide)));replace d:=a_ (AO (g:=z) (o:=.cells #[.slice G u.length I,.int .i64 X,.bool Y,u584003,u584004] 64 (0,0)) (Bc d.o) hg (Kd.Ku j.o d.o (by decide)));replace O:=a_ (AO (g:=B) (o:=.cells #[.int .i64 ((AG m q).f0),.int .i64 ((AG m q).f1),.slice ao ab.length aq] 114 (0,0)) (Bc O.o) hg (Kd.MJ j.o (λ_ y=>y.2.2)));replace HB:=a_ (hb);have bX:=a_ (ho);clear j aY;clear ho hb hg bf;obtain⟨bH,bN,dQ⟩:=Kd.Ep bX.o;subst dQ;obtain⟨fx,fy,fz,fA,fB,eM,eN,eO,eP,eQ⟩:=CI d.o))
         go_roundg k2
         case measure=>have:=cC.o;have:=dK.o;omega
         case rel=>exact⟨(wrap64 (q+1)),(a6),(.slice bH a6.length bN),(CA),H',⟨by have:=cC.o;have:=dK.o;omega⟩,⟨by refine AV ?_;exact Kd.Ai (Kd.CS (p:=⟨z,4,none⟩) (Kd.Aj l.o d.o (by decide)) (λ_ y=>y.2) (.slice bH a6.length bN)) (λ_ y=>trivial)⟩,⟨by refine FR ?_;exact Kd.CM (Kd.Cj (p:=⟨z,4,none⟩) (Kd.Eb c.o d.o (by decide)) (λ_ y=>y.2) (.slice bH a6.length bN)) (λ_ y=>y.1.1)⟩,⟨by refine FR ?_;exact Kd.CM (Kd.Cj (p:=⟨z,4,none⟩) (Kd.Eb bX.o d.o (by decide)) (λ_ y=>y.2) (.slice bH a6.length bN)) (λ_ y=>y.1.1)⟩,⟨CZ Z.o a.o⟩,⟨CZ aa.o r.o⟩,⟨by(with_reducible repeat(first|refine Fz ?_ _|refine Du ?_|refine EG ?_ _));refine BF (cs:=#[.slice G u.length I,.int .i64 X,.bool Y,u584003,u584004]) ?_ 4 _ rfl;(with_reducible repeat(first|refine Fz ?_ _|refine Du ?_|refine EG ?_ _));exact d.o⟩,⟨Ag⟩⟩
        ·rw[Rz cF]at H
         exact absurd H (by simp)
       ·rw[Rz cE]at H
        exact absurd H (by simp)
      ·rw[Rz cD]at H
       exact absurd H (by simp)
     ·rw[Rz bS]at H
      have dG:decide (q<(m.length:Int))=false:=C9 bS
      clear bS
      simp only[Option.some.injEq,Prod.mk.injEq]at H
      obtain⟨rfl,rfl,rfl,rfl,rfl⟩:=H
      have gh:=al.o
      have gA:=an.o
      have gi:=Z.o
      have gB:=ag.o
      obtain⟨fC,fD,fE,fF,fG,eR,eS,eT,eU,eV⟩:=CI (W:=wr) a.o
      have gj:=av.o
      have gC:=aa.o
      obtain⟨fH,fI,fJ,fK,fL,eW,eX,eY,eZ,e0⟩:=CI (W:=wr) d.o
      obtain⟨fM,fN,fO,fP,fQ,e1,e2,e3,e4,e5⟩:=CI (W:=wr) r.o
      obtain⟨bI,bO,dR⟩:=Kd.Ep c.o
      subst dR
      obtain⟨bJ,bP,dS⟩:=Kd.Ep j.o
      subst dS
      go_wp2
      refine RH (RF rfl _ _ J 64 #[.slice G u.length I,.int .i64 X,.bool Y,.slice bI A.length bO,.slice bJ E.length bP] (0,0) _ rfl (GN r.o) RK rfl (by kernel_rfl)) rfl ?_
      exact⟨_,_,_,C8,by refine AV ?_;exact Kd.Ai (FL (g:=J) (Kd.Aj l.o r.o (by decide)) (λ_ y=>y.2) (.slice G u.length I) (.int .i64 X) (.bool Y) (.slice bI A.length bO) (.slice bJ E.length bP)) (λ_ y=>trivial),by refine FR ?_;exact Kd.CM (Kd.Cj (p:=⟨J,4,none⟩) (Kd.Cj (p:=⟨J,3,none⟩) (Kd.Cj (p:=⟨J,2,none⟩) (Kd.Cj (p:=⟨J,1,none⟩) (Kd.Cj (p:=⟨J,0,none⟩) (Kd.Eb c.o r.o (by decide)) (λ_ y=>y.2) (.slice G u.length I)) (λ_ y=>y.2) (.int .i64 X)) (λ_ y=>y.2) (.bool Y)) (λ_ y=>y.2) (.slice bI A.length bO)) (λ_ y=>y.2) (.slice bJ E.length bP)) (λ_ y=>y.1),by refine FR ?_;exact Kd.CM (Kd.Cj (p:=⟨J,4,none⟩) (Kd.Cj (p:=⟨J,3,none⟩) (Kd.Cj (p:=⟨J,2,none⟩) (Kd.Cj (p:=⟨J,1,none⟩) (Kd.Cj (p:=⟨J,0,none⟩) (Kd.Eb j.o r.o (by decide)) (λ_ y=>y.2) (.slice G u.length I)) (λ_ y=>y.2) (.int .i64 X)) (λ_ y=>y.2) (.bool Y)) (λ_ y=>y.2) (.slice bI A.length bO)) (λ_ y=>y.2) (.slice bJ E.length bP)) (λ_ y=>y.1),Ag⟩
end Go.Proofs.YtlhlpfnljglhoaaDoor.P
