/- Joined by programs (wip/shake.py, wip/mini.py). -/
import Derived.Test.YtlhlpfnljglhoaaDoorZCr0
set_option linter.unusedVariables false
set_option linter.unusedSimpArgs false
set_option linter.unusedSectionVars false
set_option maxHeartbeats 8000000
set_option maxRecDepth 100000
open Go.Proofs.YtlhlpfnljglhoaaDoorW
namespace Go.Proofs.YtlhlpfnljglhoaaDoor.P
open Go.RowKit Go.Proofs.YtlhlpfnljglhoaaDoorW.PrintWords Go.Proofs.YtlhlpfnljglhoaaDoorW.Bb
def Bz.l0:Nat->ByteArray->Int->Option (Bool)
 | 0,_,_=>none
 | k+1,b,c=>if c<(b.size:Int)then(if 0≤c then((Ar.f (wrap64 (bt b c)) 97 100).bind λa=>(if a=true then(Bz.l0 k b (wrap64 (c+1)))else(some false)))else(none))else(some (decide ((b.size:Int)≤4)))
def Bz.f(k:Nat)(a:ByteArray):Option (Bool):=Bz.l0 k a 0
theorem Bz.calls(k:Nat)(b:ByteArray)(r:Bool)(w:World)(h:Bz.f k b=some r) :
  Calls Tryd.prog 32 #[.string b] w λe w'=>e=.returned (.bool r)∧As w w':=by
 unfold Bz.f at h;have H:=h;clear h;have m:=a_ H;clear H;go_enter Tryd.func32,Tryd.ntmps32;go_wp2;go_loopg [3] k (λu v3 w'=>∃(a:Int),v3=.int .i64 a∧Ac (Bz.l0 u b a=some r)∧Ac (u≤k)∧As w w')
 case atStart=>exact⟨(0),(CA),m,⟨RB _⟩,by repeat(first|exact As.refl _|apply As.step)⟩
 clear m;obtain⟨a,rfl,n,d,⟨v,rfl⟩⟩:=hrel;cases gk with
 | zero=>exact absurd n.o (by simp[Bz.l0])
 | succ t =>
  have H:=n.o
  clear n
  simp only[Bz.l0]at H
  by_cases c2:a<(b.size:Int)
  ·rw[Ry c2]at H
   have g:decide (a<(b.size:Int))=true:=BM c2
   clear c2
   by_cases c3:0≤a
   ·rw[Ry c3]at H
    have q:decide (0≤a)=true:=BM c3
    clear c3
    replace H:=BR H
    obtain⟨l,c,H⟩:=H
    try dsimp only at H
    have p:=a_ c
    clear c
    by_cases c6:l=true
    ·subst c6
     have H1:(Bz.l0 t b (wrap64 (a+1)))=some r:=by rw[Ry rfl]at H;exact H
     clear H
     have H:=H1
     clear H1
     have m:=a_ H
     clear H
     have i:0≤(a:Int):=Bv
     have j:a<(b.size:Int):=Bv
     have o:=IZ b a
     replace i:=RA i
     replace j:=RA j
     go_wp2_with(first|((with_reducible refine BQ (f:=20) rfl ?_);refine BW 14 Sw #[.int .i64 (wrap64 (bt b a)),.int .i64 97,.int .i64 100] ?_;(with_reducible refine(Ar.calls (wrap64 (bt b a)) 97 100 true _ p.o).mono ?_);rintro e w' ⟨rfl,⟨nd,rfl⟩⟩;refine⟨_,rfl,?_⟩))
     go_roundg t
     case measure=>have:=d.o;omega
     case rel=>exact⟨(wrap64 (a+1)),(CA),m,⟨by have:=d.o;omega⟩,by repeat(first|exact As.refl _|apply As.step)⟩
    ·replace c6:=RE.mpr c6
     subst c6
     have H1:(some false)=some r:=by rw[Rz (show¬ (false=true) by decide)]at H;exact H
     clear H
     have H:=H1
     clear H1
     obtain rfl:=CW H
     have i:0≤(a:Int):=Bv
     have j:a<(b.size:Int):=Bv
     have o:=IZ b a
     replace i:=RA i
     replace j:=RA j
     go_wp2_with(first|((with_reducible refine BQ (f:=20) rfl ?_);refine BW 14 Sw #[.int .i64 (wrap64 (bt b a)),.int .i64 97,.int .i64 100] ?_;(with_reducible refine(Ar.calls (wrap64 (bt b a)) 97 100 false _ p.o).mono ?_);rintro e w' ⟨rfl,⟨nd,rfl⟩⟩;refine⟨_,rfl,?_⟩))
     go_ret
     exact⟨CA,by repeat(first|exact As.refl _|apply As.step)⟩
   ·rw[Rz c3]at H
    exact absurd H (by simp)
  ·rw[Rz c2]at H
   have g:decide (a<(b.size:Int))=false:=C9 c2
   clear c2
   obtain rfl:=CW H
   go_wp2
   go_ret
   exact⟨CA,by repeat(first|exact As.refl _|apply As.step)⟩
def Bi.l0:Nat->List (Ba)->Int->Int->Option (Int)
 | 0,_,_,_=>none
 | k+1,b,c,a=>if a<(b.length:Int)then(if 0≤a then(if((Ae b a).f0)=c then(some a)else(Bi.l0 k b c (wrap64 (a+1))))else(none))else(some (-1))
def Bi.f(k:Nat)(l0:List (Ba))(a:Int):Option (Int):=Bi.l0 k l0 a 0
theorem Bi.calls(k:Nat)(z:Option Addr)(A:Nat)(l0:List (Ba))(l:Int)(r:Int)(w:World)(v:Kd.C Dd w z l0.length l0)(u:l0.length≤A)(h:Bi.f k l0 l=some r) :
  Calls Tryd.prog 54 #[.slice z l0.length A,.int .i64 l] w λe w'=>e=.returned (.int .i64 r)∧As w w':=by
 have o:=a_ v;have E:=a_ u;clear v u;unfold Bi.f at h;have H:=h;clear h;have x:=a_ H;clear H;go_enter Tryd.func54,Tryd.ntmps54;go_wp2;go_loopg [5] k (λD I w'=>∃(a:Int),I=.int .i64 a∧Ac (Bi.l0 D l0 l a=some r)∧Ac (D≤k)∧As w w')
 case atStart=>exact⟨(0),(CA),x,⟨RB _⟩,by repeat(first|exact As.refl _|apply As.step)⟩
 clear x;try clear p2
 obtain⟨a,rfl,y,n,⟨J,rfl⟩⟩:=hrel;cases gk with
 | zero=>exact absurd y.o (by simp[Bi.l0])
 | succ G =>
  have H:=y.o
  clear y
  simp only[Bi.l0]at H
  by_cases c3:a<(l0.length:Int)
  ·rw[Ry c3]at H
   have p:decide (a<(l0.length:Int))=true:=BM c3
   clear c3
   by_cases c4:0≤a
   ·rw[Ry c4]at H
    have B:decide (0≤a)=true:=BM c4
    clear c4
    by_cases c5:((Ae l0 a).f0)=l
    ·rw[Ry c5]at H
     have q:(((Ae l0 a).f0)==l)=true:=RO.mpr c5
     have t:(((Ae l0 a).f0) != l)=false:=Fc c5
     clear c5
     obtain rfl:=CW H
     have b:0≤(a:Int):=Bv
     have c:a<(l0.length:Int):=Bv
     obtain⟨m,d,g,i,j⟩:=BZ o.o a b c
     cases d
     replace b:=RA b
     replace c:=RA c
     go_wp2
     go_ret
     exact⟨CA,by repeat(first|exact As.refl _|apply As.step)⟩
    ·rw[Rz c5]at H
     have q:(((Ae l0 a).f0)==l)=false:=Dr c5
     have t:(((Ae l0 a).f0) != l)=true:=RX.mpr c5
     have x:=a_ H
     clear H
     have b:0≤(a:Int):=Bv
     have c:a<(l0.length:Int):=Bv
     obtain⟨m,d,g,i,j⟩:=BZ o.o a b c
     cases d
     replace b:=RA b
     replace c:=RA c
     go_wp2
     go_roundg G
     case measure=>have:=n.o;omega
     case rel=>exact⟨(wrap64 (a+1)),(CA),x,⟨by have:=n.o;omega⟩,by repeat(first|exact As.refl _|apply As.step)⟩
   ·rw[Rz c4]at H
    exact absurd H (by simp)
  ·rw[Rz c3]at H
   have p:decide (a<(l0.length:Int))=false:=C9 c3
   clear c3
   obtain rfl:=CW H
   go_wp2
   go_ret
   exact⟨CA,by repeat(first|exact As.refl _|apply As.step)⟩
def Bt.l0:Nat->List (Ba)->Int->Int->Option (Int)
 | 0,_,_,_=>none
 | k+1,b,c,a=>if a<(b.length:Int)then(if 0≤a then(if 0≤c then(if c<(b.length:Int)then(if((Ae b a).f1)>((Ae b c).f1)then(Bt.l0 k b c (wrap64 (a+1)))else(some a))else(none))else(none))else(none))else(some a)
def Bt.f(k:Nat)(l0:List (Ba))(a:Int):Option (Int):=Bt.l0 k l0 a (wrap64 (a+1))
theorem Bt.calls(k:Nat)(I:Option Addr)(J:Nat)(l0:List (Ba))(i:Int)(r:Int)(w:World)(D:Kd.C Dd w I l0.length l0)(B:l0.length≤J)(h:Bt.f k l0 i=some r) :
  Calls Tryd.prog 55 #[.slice I l0.length J,.int .i64 i] w λe w'=>e=.returned (.int .i64 r)∧As w w':=by
 have x:=a_ D;have P:=a_ B;clear D B;unfold Bt.f at h;have H:=h;clear h;have E:=a_ H;clear H;go_enter Tryd.func55,Tryd.ntmps55;go_wp2;repeat(go_quiet(fail);try go_wp2)
 go_loopg [5] k (λO U w'=>∃(a:Int),U=.int .i64 a∧Ac (Bt.l0 O l0 i a=some r)∧Ac (O≤k)∧As w w')
 case atStart=>exact⟨(wrap64 (i+1)),(CA),E,⟨RB _⟩,by repeat(first|exact As.refl _|apply As.step)⟩
 clear E;try clear p2
 obtain⟨a,rfl,G,y,⟨W,rfl⟩⟩:=hrel;cases gk with
 | zero=>exact absurd G.o (by simp[Bt.l0])
 | succ T =>
  have H:=G.o
  clear G
  simp only[Bt.l0]at H
  by_cases c3:a<(l0.length:Int)
  ·rw[Ry c3]at H
   have z:decide (a<(l0.length:Int))=true:=BM c3
   clear c3
   by_cases c4:0≤a
   ·rw[Ry c4]at H
    have K:decide (0≤a)=true:=BM c4
    clear c4
    by_cases c5:0≤i
    ·rw[Ry c5]at H
     have L:decide (0≤i)=true:=BM c5
     clear c5
     by_cases c6:i<(l0.length:Int)
     ·rw[Ry c6]at H
      have M:decide (i<(l0.length:Int))=true:=BM c6
      clear c6
      by_cases c7:((Ae l0 a).f1)>((Ae l0 i).f1)
      ·rw[Ry c7]at H
       have A:decide (((Ae l0 i).f1)<((Ae l0 a).f1))=true:=BM c7
       clear c7
       have E:=a_ H
       clear H
       have b:0≤(a:Int):=Bv
       have d:a<(l0.length:Int):=Bv
       obtain⟨j,m,o,p,q⟩:=BZ x.o a b d
       cases m
       replace b:=RA b
       replace d:=RA d
       have c:0≤(i:Int):=Bv
       have g:i<(l0.length:Int):=Bv
       obtain⟨l,n,t,u,v⟩:=BZ x.o i c g
       obtain rfl:j=l:=(by injection n)
       replace c:=RA c
       replace g:=RA g
       go_wp2
       repeat(go_quiet(fail);try go_wp2)
       go_roundg T
       case measure=>have:=y.o;omega
       case rel=>exact⟨(wrap64 (a+1)),(CA),E,⟨by have:=y.o;omega⟩,by repeat(first|exact As.refl _|apply As.step)⟩
      ·rw[Rz c7]at H
       have A:decide (((Ae l0 i).f1)<((Ae l0 a).f1))=false:=C9 c7
       clear c7
       obtain rfl:=CW H
       have b:0≤(a:Int):=Bv
       have d:a<(l0.length:Int):=Bv
       obtain⟨j,m,o,p,q⟩:=BZ x.o a b d
       cases m
       replace b:=RA b
       replace d:=RA d
       have c:0≤(i:Int):=Bv
       have g:i<(l0.length:Int):=Bv
       obtain⟨l,n,t,u,v⟩:=BZ x.o i c g
       obtain rfl:j=l:=(by injection n)
       replace c:=RA c
       replace g:=RA g
       go_wp2
       repeat(go_quiet(fail);try go_wp2)
       go_ret
       exact⟨CA,by repeat(first|exact As.refl _|apply As.step)⟩
     ·rw[Rz c6]at H
      exact absurd H (by simp)
    ·rw[Rz c5]at H
     exact absurd H (by simp)
   ·rw[Rz c4]at H
    exact absurd H (by simp)
  ·rw[Rz c3]at H
   have z:decide (a<(l0.length:Int))=false:=C9 c3
   clear c3
   obtain rfl:=CW H
   go_wp2
   repeat(go_quiet(fail);try go_wp2)
   go_ret
   exact⟨CA,by repeat(first|exact As.refl _|apply As.step)⟩
def BI.l0:Nat->List (Ba)->List Int->Int->Int->Option (List Int)
 | 0,_,_,_,_=>none
 | k+1,a,e,c,b=>(Bt.f k a c).bind λd=>(if b<d then(if 0≤b then(if b<(a.length:Int)then(if 0≤c then(if c<(a.length:Int)then(if((Ae a b).f1)=(wrap64 (((Ae a c).f1)+1))then(if e.length<17592186044416 then(BI.l0 k a (e++[(Ae a b).f0]) c (wrap64 (b+1)))else(none))else(BI.l0 k a e c (wrap64 (b+1))))else(none))else(none))else(none))else(none))else(some e))
def BI.f(k:Nat)(l0:List (Ba))(c:Int):Option (List Int):=(some (([]:List Int):List Int)).bind λb=>((Bi.f k l0 c).bind λa=>(if a<0 then(some b)else(BI.l0 k l0 b a (wrap64 (a+1)))))
theorem BI.calls(k:Nat)(A0:Option Addr)(c0:Nat)(l0:List (Ba))(a1:Int)(r:List Int)(w:World)(az:Kd.C Dd w A0 l0.length l0)(ay:l0.length≤c0)(h:BI.f k l0 a1=some r) :
  Calls Tryd.prog 43 #[.slice A0 l0.length c0,.int .i64 a1] w λe w'=>∃aA:Value,e=.returned (aA)∧Kd.R (Kd.int .i64) 3 w' w.heap.size (λ_=>True) aA r∧Below w.heap.size w w':=by
 have y:=a_ az;have L:=a_ ay;clear az ay;have HB:=a_ (RG w.heap.size w);unfold BI.f at h;have H:=h;clear h;obtain⟨af,hy_⟩:=EM (([]:List Int));replace H:((Bi.f k l0 a1).bind λc=>(if c<0 then(some af)else(BI.l0 k l0 af c (wrap64 (c+1)))))=some r:=EN;have M:=a_ hy_;clear hy_;replace H:=BR H;obtain⟨c,aw,H⟩:=H;try dsimp only at H
 have A3:=a_ aw;clear aw;by_cases c4:c<0
 ·rw[Ry c4]at H;have an:decide (c<0)=true:=BM c4;clear c4;obtain rfl:=CW H;go_enter Tryd.func43,Tryd.ntmps43;go_wp2_with(first|((with_reducible refine BV (N:=8) rfl ?_);refine Kd.DG (Kd.int .i64) _ 3 ?hg (N:=8) ?hd (xs:=([]:List Int)) (inner:=[]) (ok:=λ_=>True) (okp:=λ_=>True) ?hr ?hp (λ_ hk=>hk) trivial (RG _ _) (RB _) (by simp) ?_;(case hd=>rfl);(case hg=>rfl);(case hr=>first|(go_simp;done)|(go_simp;rfl));(case hp=>exact(Bn.none _ _));intro aC w5 ab Z DN Y;clear DN Y;(first|rw[<-M.o]at ab|(simp only[Int.reduceToNat]at ab;rw[<-M.o]at ab));have P:=a_ (Kd.AU ab (Af (Ag)));replace HB:=Bw Z;clear Z ab)|(go_at_call 54;(with_reducible refine(Bi.calls k _ _ l0 a1 c _ ?q' ?z' A3.o).mono ?_);(case q'=>exact F0 y.o);(case z'=>exact L.o);rintro e w' ⟨rfl,⟨nd,rfl⟩⟩;(try first|exact⟨rfl,_,RT _ _ _⟩|exact⟨rfl,_,SU (RT _ _ _) (SJ (World.drewN _) (Sp _ _ _))⟩)));go_ret;exact⟨_,C8,by refine AV ?_;exact P.o,Ag⟩
 rw[Rz c4]at H;have an:decide (c<0)=false:=C9 c4;clear c4;have H':=a_ H;clear H;go_enter Tryd.func43,Tryd.ntmps43;go_wp2_with(first|((with_reducible refine BV (N:=8) rfl ?_);refine Kd.DG (Kd.int .i64) _ 3 ?hg (N:=8) ?hd (xs:=([]:List Int)) (inner:=[]) (ok:=λ_=>True) (okp:=λ_=>True) ?hr ?hp (λ_ hk=>hk) trivial (RG _ _) (RB _) (by simp) ?_;(case hd=>rfl);(case hg=>rfl);(case hr=>first|(go_simp;done)|(go_simp;rfl));(case hp=>exact(Bn.none _ _));intro aC w7 ae Z DN Y;clear DN Y;(first|rw[<-M.o]at ae|(simp only[Int.reduceToNat]at ae;rw[<-M.o]at ae));have P:=a_ (Kd.AU ae (Af (Ag)));replace HB:=Bw Z;clear Z ae)|(go_at_call 54;(with_reducible refine(Bi.calls k _ _ l0 a1 c _ ?q' ?z' A3.o).mono ?_);(case q'=>exact F0 y.o);(case z'=>exact L.o);rintro e w' ⟨rfl,⟨nd,rfl⟩⟩;(try first|exact⟨rfl,_,RT _ _ _⟩|exact⟨rfl,_,SU (RT _ _ _) (SJ (World.drewN _) (Sp _ _ _))⟩)));go_loopg [5,7] k (λkq v5 v7 w'=>∃(I:List Int) (a:Int),v7=.int .i64 a∧Ac (BI.l0 kq l0 I c a=some r)∧Ac (kq≤k)∧Ac (Kd.R (Kd.int .i64) 3 w' w.heap.size (λ_=>True) v5 I)∧Ac (Below w.heap.size w w'))
 case atStart=>exact⟨(af),(wrap64 (c+1)),(CA),H',⟨RB _⟩,⟨by refine AV ?_;exact P.o⟩,⟨Ag⟩⟩
 clear H';try clear p2
 try clear c4
 try clear an
 obtain⟨I,a,rfl,HA,ag,J,HB⟩:=hrel;cases gk with
 | zero=>exact absurd HA.o (by simp[BI.l0])
 | succ k1 =>
  have H:=HA.o
  clear HA
  simp only[BI.l0]at H
  replace H:=BR H
  obtain⟨G,ax,H⟩:=H
  try dsimp only at H
  have A9:=a_ ax
  clear ax
  by_cases DM:a<G
  ·rw[Ry DM]at H
   have ar:decide (a<G)=true:=BM DM
   clear DM
   by_cases ah:0≤a
   ·rw[Ry ah]at H
    have aE:decide (0≤a)=true:=BM ah
    clear ah
    by_cases ai:a<(l0.length:Int)
    ·rw[Ry ai]at H
     have aG:decide (a<(l0.length:Int))=true:=BM ai
     clear ai
     by_cases aj:0≤c
     ·rw[Ry aj]at H
      have aH:decide (0≤c)=true:=BM aj
      clear aj
      by_cases ak:c<(l0.length:Int)
      ·rw[Ry ak]at H
       have aI:decide (c<(l0.length:Int))=true:=BM ak
       clear ak
       by_cases X:((Ae l0 a).f1)=(wrap64 (((Ae l0 c).f1)+1))
       ·rw[Ry X]at H
        have au:(((Ae l0 a).f1)==(wrap64 (((Ae l0 c).f1)+1)))=true:=RO.mpr X
        have av:(((Ae l0 a).f1) != (wrap64 (((Ae l0 c).f1)+1)))=false:=Fc X
        clear X
        by_cases al:I.length<17592186044416
        ·rw[Ry al]at H
         have U:=a_ al
         clear al
         obtain⟨aq,hy_⟩:=EM (I++[(Ae l0 a).f0])
         replace H:(BI.l0 k1 l0 aq c (wrap64 (a+1)))=some r:=EN
         have W:=a_ hy_
         clear hy_
         have H':=a_ H
         clear H
         go_wp2_with(first|(go_at_call 55;(with_reducible refine(Bt.calls k1 _ _ l0 c G _ ?q' ?z' A9.o).mono ?_);(case q'=>exact F0 y.o);(case z'=>exact L.o);rintro e w' ⟨rfl,⟨nd,rfl⟩⟩;(try first|exact⟨rfl,_,RT _ _ _⟩|exact⟨rfl,_,SU (RT _ _ _) (SJ (World.drewN _) (Sp _ _ _))⟩);have n:0≤(a:Int):=Bv;have p:a<(l0.length:Int):=Bv;obtain⟨t,A,d,g,i⟩:=BZ y.o a n p;cases A;replace d:=(Az HB.o d:);replace g:=(Az HB.o g:);replace i:=(Az HB.o i:);replace n:=RA n;replace p:=RA p;have o:0≤(c:Int):=Bv;have q:c<(l0.length:Int):=Bv;obtain⟨z,B,j,l,m⟩:=BZ y.o c o q;obtain rfl:t=z:=(by injection B);replace j:=(Az HB.o j:);replace l:=(Az HB.o l:);replace m:=(Az HB.o m:);replace o:=RA o;replace q:=RA q;have D:0≤(a:Int):=Bv;have E:a<(l0.length:Int):=Bv;obtain⟨K,O,u,v,x⟩:=BZ y.o a D E;obtain rfl:t=K:=(by injection O);replace u:=(Az HB.o u:);replace v:=(Az HB.o v:);replace x:=(Az HB.o x:);replace D:=RA D;replace E:=RA E)|((with_reducible refine Bo (b:=.append) (xs:=#[.tmp 36,.tmp 42]) rfl ?_);at_builtin;refine Kd.ES (Kd.int .i64) (w0:=w) w.heap.size rfl (.tmp 36) (.tmp 42) 74 3 (.int .i64 0) 8 rfl Tryd.underlying74 Nc rfl (by decide) (by omega) u5 I ((Ae l0 a).f0) [.int .i64 ((Ae l0 a).f0)] (λ_=>True) (λ_=>False) rfl rfl ?aP (λ_ hk=>hk.elim) ?aF ?aO ?aB ?aS ?aL ?_;(case aP=>exact rfl);(case aB=>exact(Ag));(case aF=>exact(λ_ _=>trivial));(case aO=>exact(AV J.o));(case aS=>exact(Af (Ag)));(case aL=>have:=U.o;omega);intro ao aD ho Z hg aa;rw[<-W.o]at ho;replace HB:=a_ (Z);have T:=a_ (ho);clear J;clear ho Z hg aa))
         repeat(go_quiet(first|(go_at_call 55;(with_reducible refine(Bt.calls k1 _ _ l0 c G _ ?q' ?z' A9.o).mono ?_);(case q'=>exact F0 y.o);(case z'=>exact L.o);rintro e w' ⟨rfl,⟨nd,rfl⟩⟩;(try first|exact⟨rfl,_,RT _ _ _⟩|exact⟨rfl,_,SU (RT _ _ _) (SJ (World.drewN _) (Sp _ _ _))⟩);have n:0≤(a:Int):=Bv;have p:a<(l0.length:Int):=Bv;obtain⟨t,A,d,g,i⟩:=BZ y.o a n p;cases A;replace d:=(Az HB.o d:);replace g:=(Az HB.o g:);replace i:=(Az HB.o i:);replace n:=RA n;replace p:=RA p;have o:0≤(c:Int):=Bv;have q:c<(l0.length:Int):=Bv;obtain⟨z,B,j,l,m⟩:=BZ y.o c o q;obtain rfl:t=z:=(by injection B);replace j:=(Az HB.o j:);replace l:=(Az HB.o l:);replace m:=(Az HB.o m:);replace o:=RA o;replace q:=RA q;have D:0≤(a:Int):=Bv;have E:a<(l0.length:Int):=Bv;obtain⟨K,O,u,v,x⟩:=BZ y.o a D E;obtain rfl:t=K:=(by injection O);replace u:=(Az HB.o u:);replace v:=(Az HB.o v:);replace x:=(Az HB.o x:);replace D:=RA D;replace E:=RA E)|((with_reducible refine Bo (b:=.append) (xs:=#[.tmp 36,.tmp 42]) rfl ?_);at_builtin;refine Kd.ES (Kd.int .i64) (w0:=w) w.heap.size rfl (.tmp 36) (.tmp 42) 74 3 (.int .i64 0) 8 rfl Tryd.underlying74 Nc rfl (by decide) (by omega) u5 I ((Ae l0 a).f0) [.int .i64 ((Ae l0 a).f0)] (λ_=>True) (λ_=>False) rfl rfl ?aP (λ_ hk=>hk.elim) ?aF ?aO ?aB ?aS ?aL ?_;(case aP=>exact rfl);(case aB=>exact(Ag));(case aF=>exact(λ_ _=>trivial));(case aO=>exact(AV J.o));(case aS=>exact(Af (Ag)));(case aL=>have:=U.o;omega);intro ao aD ho Z hg aa;rw[<-W.o]at ho;replace HB:=a_ (Z);have T:=a_ (ho);clear J;clear ho Z hg aa));try go_wp2_with(first|(go_at_call 55;(with_reducible refine(Bt.calls k1 _ _ l0 c G _ ?q' ?z' A9.o).mono ?_);(case q'=>exact F0 y.o);(case z'=>exact L.o);rintro e w' ⟨rfl,⟨nd,rfl⟩⟩;(try first|exact⟨rfl,_,RT _ _ _⟩|exact⟨rfl,_,SU (RT _ _ _) (SJ (World.drewN _) (Sp _ _ _))⟩);have n:0≤(a:Int):=Bv;have p:a<(l0.length:Int):=Bv;obtain⟨t,A,d,g,i⟩:=BZ y.o a n p;cases A;replace d:=(Az HB.o d:);replace g:=(Az HB.o g:);replace i:=(Az HB.o i:);replace n:=RA n;replace p:=RA p;have o:0≤(c:Int):=Bv;have q:c<(l0.length:Int):=Bv;obtain⟨z,B,j,l,m⟩:=BZ y.o c o q;obtain rfl:t=z:=(by injection B);replace j:=(Az HB.o j:);replace l:=(Az HB.o l:);replace m:=(Az HB.o m:);replace o:=RA o;replace q:=RA q;have D:0≤(a:Int):=Bv;have E:a<(l0.length:Int):=Bv;obtain⟨K,O,u,v,x⟩:=BZ y.o a D E;obtain rfl:t=K:=(by injection O);replace u:=(Az HB.o u:);replace v:=(Az HB.o v:);replace x:=(Az HB.o x:);replace D:=RA D;replace E:=RA E)|((with_reducible refine Bo (b:=.append) (xs:=#[.tmp 36,.tmp 42]) rfl ?_);at_builtin;refine Kd.ES (Kd.int .i64) (w0:=w) w.heap.size rfl (.tmp 36) (.tmp 42) 74 3 (.int .i64 0) 8 rfl Tryd.underlying74 Nc rfl (by decide) (by omega) u5 I ((Ae l0 a).f0) [.int .i64 ((Ae l0 a).f0)] (λ_=>True) (λ_=>False) rfl rfl ?aP (λ_ hk=>hk.elim) ?aF ?aO ?aB ?aS ?aL ?_;(case aP=>exact rfl);(case aB=>exact(Ag));(case aF=>exact(λ_ _=>trivial));(case aO=>exact(AV J.o));(case aS=>exact(Af (Ag)));(case aL=>have:=U.o;omega);intro ao aD ho Z hg aa;rw[<-W.o]at ho;replace HB:=a_ (Z);have T:=a_ (ho);clear J;clear ho Z hg aa)))
         go_roundg k1
         case measure=>have:=ag.o;omega
         case rel=>exact⟨(aq),(wrap64 (a+1)),(CA),H',⟨by have:=ag.o;omega⟩,⟨by refine AV ?_;exact T.o⟩,⟨Ag⟩⟩
        ·rw[Rz al]at H
         exact absurd H (by simp)
       ·rw[Rz X]at H
        have au:(((Ae l0 a).f1)==(wrap64 (((Ae l0 c).f1)+1)))=false:=Dr X
        have av:(((Ae l0 a).f1) != (wrap64 (((Ae l0 c).f1)+1)))=true:=RX.mpr X
        have H':=a_ H
        clear H
        go_wp2_with(first|(go_at_call 55;(with_reducible refine(Bt.calls k1 _ _ l0 c G _ ?q' ?z' A9.o).mono ?_);(case q'=>exact F0 y.o);(case z'=>exact L.o);rintro e w' ⟨rfl,⟨nd,rfl⟩⟩;(try first|exact⟨rfl,_,RT _ _ _⟩|exact⟨rfl,_,SU (RT _ _ _) (SJ (World.drewN _) (Sp _ _ _))⟩);have n:0≤(a:Int):=Bv;have p:a<(l0.length:Int):=Bv;obtain⟨t,A,d,g,i⟩:=BZ y.o a n p;cases A;replace d:=(Az HB.o d:);replace g:=(Az HB.o g:);replace i:=(Az HB.o i:);replace n:=RA n;replace p:=RA p;have o:0≤(c:Int):=Bv;have q:c<(l0.length:Int):=Bv;obtain⟨z,B,j,l,m⟩:=BZ y.o c o q;obtain rfl:t=z:=(by injection B);replace j:=(Az HB.o j:);replace l:=(Az HB.o l:);replace m:=(Az HB.o m:);replace o:=RA o;replace q:=RA q))
        repeat(go_quiet(first|(go_at_call 55;(with_reducible refine(Bt.calls k1 _ _ l0 c G _ ?q' ?z' A9.o).mono ?_);(case q'=>exact F0 y.o);(case z'=>exact L.o);rintro e w' ⟨rfl,⟨nd,rfl⟩⟩;(try first|exact⟨rfl,_,RT _ _ _⟩|exact⟨rfl,_,SU (RT _ _ _) (SJ (World.drewN _) (Sp _ _ _))⟩);have n:0≤(a:Int):=Bv;have p:a<(l0.length:Int):=Bv;obtain⟨t,A,d,g,i⟩:=BZ y.o a n p;cases A;replace d:=(Az HB.o d:);replace g:=(Az HB.o g:);replace i:=(Az HB.o i:);replace n:=RA n;replace p:=RA p;have o:0≤(c:Int):=Bv;have q:c<(l0.length:Int):=Bv;obtain⟨z,B,j,l,m⟩:=BZ y.o c o q;obtain rfl:t=z:=(by injection B);replace j:=(Az HB.o j:);replace l:=(Az HB.o l:);replace m:=(Az HB.o m:);replace o:=RA o;replace q:=RA q));try go_wp2_with(first|(go_at_call 55;(with_reducible refine(Bt.calls k1 _ _ l0 c G _ ?q' ?z' A9.o).mono ?_);(case q'=>exact F0 y.o);(case z'=>exact L.o);rintro e w' ⟨rfl,⟨nd,rfl⟩⟩;(try first|exact⟨rfl,_,RT _ _ _⟩|exact⟨rfl,_,SU (RT _ _ _) (SJ (World.drewN _) (Sp _ _ _))⟩);have n:0≤(a:Int):=Bv;have p:a<(l0.length:Int):=Bv;obtain⟨t,A,d,g,i⟩:=BZ y.o a n p;cases A;replace d:=(Az HB.o d:);replace g:=(Az HB.o g:);replace i:=(Az HB.o i:);replace n:=RA n;replace p:=RA p;have o:0≤(c:Int):=Bv;have q:c<(l0.length:Int):=Bv;obtain⟨z,B,j,l,m⟩:=BZ y.o c o q;obtain rfl:t=z:=(by injection B);replace j:=(Az HB.o j:);replace l:=(Az HB.o l:);replace m:=(Az HB.o m:);replace o:=RA o;replace q:=RA q)))
        go_roundg k1
        case measure=>have:=ag.o;omega
        case rel=>exact⟨(I),(wrap64 (a+1)),(CA),H',⟨by have:=ag.o;omega⟩,⟨by refine AV ?_;exact J.o⟩,⟨Ag⟩⟩
      ·rw[Rz ak]at H
       exact absurd H (by simp)
     ·rw[Rz aj]at H
      exact absurd H (by simp)
    ·rw[Rz ai]at H
     exact absurd H (by simp)
   ·rw[Rz ah]at H
    exact absurd H (by simp)
  ·rw[Rz DM]at H
   have ar:decide (a<G)=false:=C9 DM
   clear DM
   obtain rfl:=CW H
   go_wp2_with(first|(go_at_call 55;(with_reducible refine(Bt.calls k1 _ _ l0 c G _ ?q' ?z' A9.o).mono ?_);(case q'=>exact F0 y.o);(case z'=>exact L.o);rintro e w' ⟨rfl,⟨nd,rfl⟩⟩;(try first|exact⟨rfl,_,RT _ _ _⟩|exact⟨rfl,_,SU (RT _ _ _) (SJ (World.drewN _) (Sp _ _ _))⟩)))
   go_ret
   exact⟨_,C8,by refine AV ?_;exact J.o,Ag⟩
def C5.f(c:Int)(d:Int):Option (Int):=(Ar.f c 1 3).bind λa=>(if a=true then((Ar.f d 1 6).bind λb=>(if b=true then(some (wrap64 ((wrap64 (10*c))+d)))else(some 0)))else(some 0))
theorem C5.calls(b:Int)(c:Int)(r:Int)(w:World)(h:C5.f b c=some r) :
  Calls Tryd.prog 44 #[.int .i64 b,.int .i64 c] w λe w'=>e=.returned (.int .i64 r)∧As w w':=by
 unfold C5.f at h;have H:=h;clear h;replace H:=BR H;obtain⟨i,d,H⟩:=H;try dsimp only at H
 have j:=a_ d;clear d;by_cases c4:i=true
 ·subst c4;have H1:((Ar.f c 1 6).bind λa=>(if a=true then(some (wrap64 ((wrap64 (10*b))+c)))else(some 0)))=some r:=by rw[Ry rfl]at H;exact H
  clear H;have H:=H1;clear H1;replace H:=BR H;obtain⟨a,g,H⟩:=H;try dsimp only at H
  have k:=a_ g;clear g;by_cases c6:a=true
  ·subst c6;have H1:(some (wrap64 ((wrap64 (10*b))+c)))=some r:=by rw[Ry rfl]at H;exact H
   clear H;have H:=H1;clear H1;obtain rfl:=CW H;go_enter Tryd.func44,Tryd.ntmps44;go_wp2_with(first|((with_reducible refine BQ (f:=20) rfl ?_);refine BW 6 Sw #[.int .i64 b,.int .i64 1,.int .i64 3] ?_;(with_reducible refine(Ar.calls b 1 3 true _ j.o).mono ?_);rintro e w' ⟨rfl,⟨nd,rfl⟩⟩;refine⟨_,rfl,?_⟩)|(go_at_call 20;(with_reducible refine(Ar.calls c 1 6 true _ k.o).mono ?_);rintro e w' ⟨rfl,⟨nd,rfl⟩⟩));go_ret;exact⟨CA,by repeat(first|exact As.refl _|apply As.step)⟩
  replace c6:=RE.mpr c6;subst c6;have H1:(some 0)=some r:=by rw[Rz (show¬ (false=true) by decide)]at H;exact H
  clear H;have H:=H1;clear H1;obtain rfl:=CW H;go_enter Tryd.func44,Tryd.ntmps44;go_wp2_with(first|((with_reducible refine BQ (f:=20) rfl ?_);refine BW 6 Sw #[.int .i64 b,.int .i64 1,.int .i64 3] ?_;(with_reducible refine(Ar.calls b 1 3 true _ j.o).mono ?_);rintro e w' ⟨rfl,⟨nd,rfl⟩⟩;refine⟨_,rfl,?_⟩)|(go_at_call 20;(with_reducible refine(Ar.calls c 1 6 false _ k.o).mono ?_);rintro e w' ⟨rfl,⟨nd,rfl⟩⟩));go_ret;exact⟨CA,by repeat(first|exact As.refl _|apply As.step)⟩
 replace c4:=RE.mpr c4;subst c4;have H1:(some 0)=some r:=by rw[Rz (show¬ (false=true) by decide)]at H;exact H
 clear H;have H:=H1;clear H1;obtain rfl:=CW H;go_enter Tryd.func44,Tryd.ntmps44;go_wp2_with(first|((with_reducible refine BQ (f:=20) rfl ?_);refine BW 6 Sw #[.int .i64 b,.int .i64 1,.int .i64 3] ?_;(with_reducible refine(Ar.calls b 1 3 false _ j.o).mono ?_);rintro e w' ⟨rfl,⟨nd,rfl⟩⟩;refine⟨_,rfl,?_⟩));go_ret;exact⟨CA,by repeat(first|exact As.refl _|apply As.step)⟩
def Eh.f(k:Nat)(l0:List (Ba))(e:Int)(g:Int):Option (Bool):=(Bi.f k l0 e).bind λb=>((Bi.f k l0 g).bind λa=>(if b≥0 then(if a≥0 then((Bt.f k l0 a).bind λc=>((Ar.f b a (wrap64 (c-1))).bind λd=>(some d)))else(some false))else(some false)))
theorem Eh.calls(k:Nat)(g:Option Addr)(l:Nat)(l0:List (Ba))(i:Int)(j:Int)(r:Bool)(w:World)(x:Kd.C Dd w g l0.length l0)(v:l0.length≤l)(h:Eh.f k l0 i j=some r) :
  Calls Tryd.prog 65 #[.slice g l0.length l,.int .i64 i,.int .i64 j] w λe w'=>e=.returned (.bool r)∧As w w':=by
 have d:=a_ x;have c:=a_ v;clear x v;unfold Eh.f at h;have H:=h;clear h;replace H:=BR H;obtain⟨b,n,H⟩:=H;try dsimp only at H
 have z:=a_ n;clear n;replace H:=BR H;obtain⟨a,o,H⟩:=H;try dsimp only at H
 have A:=a_ o;clear o;by_cases c6:b≥0
 ·rw[Ry c6]at H;have t:decide (0≤b)=true:=BM c6;clear c6;by_cases c7:a≥0
  ·rw[Ry c7]at H;have u:decide (0≤a)=true:=BM c7;clear c7;replace H:=BR H;obtain⟨m,p,H⟩:=H;try dsimp only at H
   have B:=a_ p;clear p;replace H:=BR H;obtain⟨y,q,H⟩:=H;try dsimp only at H
   have D:=a_ q;clear q;obtain rfl:=CW H;go_enter Tryd.func65,Tryd.ntmps65;go_wp2_with(first|((with_reducible refine BQ (f:=54) rfl ?_);refine BW 11 S4 #[.slice g l0.length l,.int .i64 i] ?_;(with_reducible refine(Bi.calls k _ _ l0 i b _ ?q' ?z' z.o).mono ?_);(case q'=>exact E9 d.o);(case z'=>exact c.o);rintro e w' ⟨rfl,⟨nd,rfl⟩⟩;refine⟨_,rfl,?_⟩)|((with_reducible refine BQ (f:=54) rfl ?_);refine BW 14 S4 #[.slice g l0.length l,.int .i64 j] ?_;(with_reducible refine(Bi.calls k _ _ l0 j a _ ?q' ?z' A.o).mono ?_);(case q'=>exact E9 d.o);(case z'=>exact c.o);rintro e w' ⟨rfl,⟨nd,rfl⟩⟩;refine⟨_,rfl,?_⟩)|(go_at_call 55;(with_reducible refine(Bt.calls k _ _ l0 a m _ ?q' ?z' B.o).mono ?_);(case q'=>exact E9 d.o);(case z'=>exact c.o);rintro e w' ⟨rfl,⟨nd,rfl⟩⟩)|(go_at_call 20;(with_reducible refine(Ar.calls b a (wrap64 (m-1)) y _ D.o).mono ?_);rintro e w' ⟨rfl,⟨nd,rfl⟩⟩));go_ret;exact⟨CA,by repeat(first|exact As.refl _|apply As.step)⟩
  rw[Rz c7]at H;have u:decide (0≤a)=false:=C9 c7;clear c7;obtain rfl:=CW H;go_enter Tryd.func65,Tryd.ntmps65;go_wp2_with(first|((with_reducible refine BQ (f:=54) rfl ?_);refine BW 11 S4 #[.slice g l0.length l,.int .i64 i] ?_;(with_reducible refine(Bi.calls k _ _ l0 i b _ ?q' ?z' z.o).mono ?_);(case q'=>exact E9 d.o);(case z'=>exact c.o);rintro e w' ⟨rfl,⟨nd,rfl⟩⟩;refine⟨_,rfl,?_⟩)|((with_reducible refine BQ (f:=54) rfl ?_);refine BW 14 S4 #[.slice g l0.length l,.int .i64 j] ?_;(with_reducible refine(Bi.calls k _ _ l0 j a _ ?q' ?z' A.o).mono ?_);(case q'=>exact E9 d.o);(case z'=>exact c.o);rintro e w' ⟨rfl,⟨nd,rfl⟩⟩;refine⟨_,rfl,?_⟩));go_ret;exact⟨CA,by repeat(first|exact As.refl _|apply As.step)⟩
 rw[Rz c6]at H;have t:decide (0≤b)=false:=C9 c6;clear c6;obtain rfl:=CW H;go_enter Tryd.func65,Tryd.ntmps65;go_wp2_with(first|((with_reducible refine BQ (f:=54) rfl ?_);refine BW 11 S4 #[.slice g l0.length l,.int .i64 i] ?_;(with_reducible refine(Bi.calls k _ _ l0 i b _ ?q' ?z' z.o).mono ?_);(case q'=>exact E9 d.o);(case z'=>exact c.o);rintro e w' ⟨rfl,⟨nd,rfl⟩⟩;refine⟨_,rfl,?_⟩)|((with_reducible refine BQ (f:=54) rfl ?_);refine BW 14 S4 #[.slice g l0.length l,.int .i64 j] ?_;(with_reducible refine(Bi.calls k _ _ l0 j a _ ?q' ?z' A.o).mono ?_);(case q'=>exact E9 d.o);(case z'=>exact c.o);rintro e w' ⟨rfl,⟨nd,rfl⟩⟩;refine⟨_,rfl,?_⟩));go_ret;exact⟨CA,by repeat(first|exact As.refl _|apply As.step)⟩
mutual
def A_.j0:Nat->List (Ba)->Bool->Int->Int->Int->Int->ByteArray->Option (Int×Int×Bool)
 | 0,_,_,_,_,_,_,_=>none
 | k+1,l,j,b,c,a,d,e=>if j=true then(some (0,0,false))else((Bi.f k l a).bind λg=>(if g<0 then(some (3,0,true))else((BI.f k l a).bind λi=>(A_.l0 k a 0 i 0 b c a d e))))
def A_.l0:Nat->Int->Int->List Int->Int->Int->Int->Int->Int->ByteArray->Option (Int×Int×Bool)
 | 0,_,_,_,_,_,_,_,_,_=>none
 | k+1,j,l,i,g,c,b,d,a,e=>if g<(i.length:Int)then(if 0≤g then(if(rd i g)=a then(if a=b then(A_.l0 k j l i (wrap64 (g+1)) c b d a e)else(A_.l0 k j a i (wrap64 (g+1)) c b d a e))else(A_.l0 k j l i (wrap64 (g+1)) c b d a e))else(none))else(some (j,l,true))
end
def A_.f(k:Nat)(l0:List (Ba))(a:Int)(b:Int)(c:Int)(d:Int)(e:ByteArray):Option (Int×Int×Bool):=(Bi.f k l0 b).bind λg=>(if a=2 then(A_.j0 k l0 true a b c d e)else(if((decide (g≥0)) != (a==3))=true then(A_.j0 k l0 true a b c d e)else(if g≥0 then((Eh.f k l0 c b).bind λi=>(A_.j0 k l0 i a b c d e))else(A_.j0 k l0 false a b c d e))))
theorem A_.calls(k:Nat)(A0:Option Addr)(c0:Nat)(l0:List (Ba))(c:Int)(j:Int)(g:Int)(d:Int)(p:ByteArray)(r1:Int)(r2:Int)(r3:Bool)(w:World)(bQ:Kd.C Dd w A0 l0.length l0)(bO:l0.length≤c0)(h:A_.f k l0 c j g d p=some (r1,r2,r3)) :
  Calls Tryd.prog 56 #[.slice A0 l0.length c0,.agg #[.int .i64 c,.int .i64 j,.int .i64 g,.int .i64 d,.string p]] w λe w'=>e=.returned (.tuple #[.int .i64 r1,.int .i64 r2,.bool r3])∧Below w.heap.size w w':=by
 have cN:=RW;have U:=a_ bQ;have T:=a_ bO;clear bQ bO;have HB:=a_ (RG w.heap.size w);unfold A_.f at h;have H:=h;clear h;replace H:=BR H;obtain⟨l,bJ,H⟩:=H;try dsimp only at H
 have A3:=a_ bJ;clear bJ;have bc:=a_ H;clear H;go_enter Tryd.func56,Tryd.ntmps56;go_upto_region 2 with(first|((with_reducible refine BV (N:=3) rfl ?_);refine Cy 3 (#[.int .i64 c,.int .i64 j,.int .i64 g,.int .i64 d,.string p]) 30 ?_;intro aL hg w5 ba hb;have b:=a_ (ba);have bV:=BD w hg;have bU:=BD w hg;replace HB:=Bw hb;clear hb ba hg;obtain⟨a0,a1,a2,a3,a4,aQ,aR,aS,aT,aU⟩:=CI b.o)|(go_at_call 54;(with_reducible refine(Bi.calls k _ _ l0 j l _ ?q' ?z' A3.o).mono ?_);(case q'=>exact F0 U.o);(case z'=>exact T.o);rintro e w' ⟨rfl,⟨nd,rfl⟩⟩;(try first|exact⟨rfl,_,RT _ _ _⟩|exact⟨rfl,_,SU (RT _ _ _) (SJ (World.drewN _) (Sp _ _ _))⟩)))
 (try simp only[Act.put,List.setIfInBounds_toArray,List.set_cons_zero,List.set_cons_succ]);go_cut [37]from 7 to 16 (λcD wc=>∃(kq:Nat) (v:Bool),cD=.bool v∧Ac (A_.j0 kq l0 v c j g d p=some (r1,r2,r3))∧Ac (kq≤k)∧Ac (wc.heap[aL]?=some (.cells #[.int .i64 c,.int .i64 j,.int .i64 g,.int .i64 d,.string p] 30 (0,0)))∧Ac (Below w.heap.size w wc))
 case first =>
  have H:=bc.o;clear bc;by_cases c7:c=2
  ·rw[Ry c7]at H;have q:(c==2)=true:=RO.mpr c7;have aK:(c != 2)=false:=Fc c7;clear c7;(first|rw[q]|(simp only[BJ,BP];rw[q])|skip);have G:=a_ H;clear H;obtain⟨a5,a6,a7,a8,a9,aV,aW,aX,aY,aZ⟩:=CI b.o;go_wp2;repeat(go_quiet(fail);try go_wp2)
   go_meet
   exact⟨_,(true),(CA),G,⟨by first|omega|exact RB _⟩,⟨Bc b.o⟩,⟨Ag⟩⟩
  rw[Rz c7]at H;have q:(c==2)=false:=Dr c7;have aK:(c != 2)=true:=RX.mpr c7;(first|rw[q]|(simp only[BJ,BP];rw[q])|skip);by_cases c9:((decide (l≥0)) != (c==3))=true
  ·rw[Ry c9]at H;have r:((decide (l≥0)) != (c==3))=true:=c9;(try(have x:decide ((decide (l≥0))=(c==3))=false:=by simpa using c9));(try(have y:((decide (l≥0))==(c==3))=false:=by simpa using c9));(try(have cI:¬ ((decide (l≥0))=(c==3)):=by simpa using c9));clear c9;have G:=a_ H;clear H;obtain⟨aq,ar,au,av,aw,X,Y,Z,aa,ab⟩:=CI b.o;go_wp2;repeat(go_quiet(fail);try go_wp2)
   go_meet
   exact⟨_,(true),(CA),G,⟨by first|omega|exact RB _⟩,⟨Bc b.o⟩,⟨Ag⟩⟩
  rw[Rz c9]at H;have r:((decide (l≥0)) != (c==3))=false:=by simpa using c9
  (try(have x:decide ((decide (l≥0))=(c==3))=true:=by simpa using c9));(try(have y:((decide (l≥0))==(c==3))=true:=by simpa using c9));clear c9;by_cases u:l≥0
  ·rw[Ry u]at H;have cC:(c==3)=true:=by have h_:=r;rw[show decide (l≥0)=true from BM u]at h_;generalize (c==3)=z at h_;cases z;all_goals first|rfl|cases h_
   clear r;(try clear x);(try clear y);have I:decide (0≤l)=true:=BM u;clear u;replace H:=BR H;obtain⟨bb,aN,H⟩:=H;try dsimp only at H
   have bS:=a_ aN;clear aN;have G:=a_ H;clear H;obtain⟨ax,ay,az,aA,aB,ae,af,ag,ah,ai⟩:=CI b.o;go_wp2_with(first|(go_at_call 65;(with_reducible refine(Eh.calls k _ _ l0 g j bb _ ?q' ?z' bS.o).mono ?_);(case q'=>exact F0 U.o);(case z'=>exact T.o);rintro e w' ⟨rfl,⟨nd,rfl⟩⟩;(try first|exact⟨rfl,_,RT _ _ _⟩|exact⟨rfl,_,SU (RT _ _ _) (SJ (World.drewN _) (Sp _ _ _))⟩)));go_meet
   exact⟨_,(bb),(CA),G,⟨by first|omega|exact RB _⟩,⟨Bc b.o⟩,⟨Ag⟩⟩
  rw[Rz u]at H;have cC:(c==3)=false:=by have h_:=r;rw[show decide (l≥0)=false from C9 u]at h_;generalize (c==3)=z at h_;cases z;all_goals first|rfl|cases h_
  clear r;(try clear x);(try clear y);have I:decide (0≤l)=false:=C9 u;clear u;have G:=a_ H;clear H;obtain⟨aC,aD,aE,aF,aG,aj,ak,al,an,ao⟩:=CI b.o;go_wp2;repeat(go_quiet(fail);try go_wp2)
  go_meet
  exact⟨_,(false),(CA),G,⟨by first|omega|exact RB _⟩,⟨Bc b.o⟩,⟨Ag⟩⟩
 clear bc;try clear c1
 try clear c7
 try clear q
 try clear aK
 try clear c9
 try clear r
 try clear x
 try clear y
 try clear u
 try clear I
 try clear aq ar au av aw X Y Z aa ab
 try clear ax ay az aA aB ae af ag ah ai
 try clear aC aD aE aF aG aj ak al an ao
 try clear a0 a1 a2 a3 a4 aQ aR aS aT aU
 try clear a5 a6 a7 a8 a9 aV aW aX aY aZ
 obtain⟨kq,v,rfl,HA,M,b,HB⟩:=hcut;cases kq with
 | zero=>exact absurd HA.o (by simp[A_.j0])
 | succ D =>
  have H:=HA.o
  clear HA
  simp only[A_.j0]at H
  by_cases aI:v=true
  ·subst aI
   have H1:(some (0,0,false))=some (r1,r2,r3):=by rw[Ry rfl]at H;exact H
   clear H
   have H:=H1
   clear H1
   simp only[Option.some.injEq,Prod.mk.injEq]at H
   obtain⟨rfl,rfl,rfl⟩:=H
   go_wp2
   repeat(go_quiet(fail);try go_wp2)
   go_ret3
   exact⟨C8,Ag⟩
  ·replace aI:=RE.mpr aI
   subst aI
   have H1:((Bi.f D l0 g).bind λt=>(if t<0 then(some (3,0,true))else((BI.f D l0 g).bind λi=>(A_.l0 D g 0 i 0 c j g d p))))=some (r1,r2,r3):=by rw[Rz (show¬ (false=true) by decide)]at H;exact H
   clear H
   have H:=H1
   clear H1
   replace H:=BR H
   obtain⟨t,aO,H⟩:=H
   try dsimp only at H
   have bI:=a_ aO
   clear aO
   by_cases J:t<0
   ·rw[Ry J]at H
    have aJ:decide (t<0)=true:=BM J
    clear J
    simp only[Option.some.injEq,Prod.mk.injEq]at H
    obtain⟨rfl,rfl,rfl⟩:=H
    obtain⟨bp,bq,br,bu,bw,be,bf,bg,bh,bj⟩:=CI (W:=wc) b.o
    go_wp2_with(first|(go_at_call 54;(with_reducible refine(Bi.calls D _ _ l0 g t _ ?q' ?z' bI.o).mono ?_);(case q'=>exact F0 U.o);(case z'=>exact T.o);rintro e w' ⟨rfl,⟨nd,rfl⟩⟩;(try first|exact⟨rfl,_,RT _ _ _⟩|exact⟨rfl,_,SU (RT _ _ _) (SJ (World.drewN _) (Sp _ _ _))⟩)))
    go_ret3
    exact⟨C8,Ag⟩
   ·rw[Rz J]at H
    have aJ:decide (t<0)=false:=C9 J
    clear J
    replace H:=BR H
    obtain⟨i,aP,H⟩:=H
    try dsimp only at H
    have bT:=a_ aP
    clear aP
    have G:=a_ H
    clear H
    obtain⟨bx,bz,bA,bB,bC,bk,bl,bm,bn,bo⟩:=CI (W:=wc) b.o
    go_wp2_with(first|(go_at_call 54;(with_reducible refine(Bi.calls D _ _ l0 g t _ ?q' ?z' bI.o).mono ?_);(case q'=>exact F0 U.o);(case z'=>exact T.o);rintro e w' ⟨rfl,⟨nd,rfl⟩⟩;(try first|exact⟨rfl,_,RT _ _ _⟩|exact⟨rfl,_,SU (RT _ _ _) (SJ (World.drewN _) (Sp _ _ _))⟩))|(go_at_call 43;(with_reducible refine(BI.calls D _ _ l0 g i _ ?q' ?z' bT.o).mono ?_);(case q'=>repeat(first|exact(Kd.Bu U.o (Ag))|(with_reducible refine Kd.C_alloc ?_ _)|(with_reducible refine Kd.B_ ?_ _)|(with_reducible refine Kd.C_drew ?_)));(case z'=>exact T.o);rintro e cO ⟨bR,rfl,bP,hb⟩;have bd:=a_ (Kd.AU bP (Af (Ag)));replace HB:=Bw hb;replace b:=a_ (Cr b.o hb);(try clear hb bP)))
    go_loopg [9,11] D (λkq v9 v11 w'=>∃(E:Int) (a:Int),v9=.int .i64 E∧v11=.int .i64 a∧Ac (A_.l0 kq g E i a c j g d p=some (r1,r2,r3))∧Ac (kq≤D)∧Ac (Kd.R (Kd.int .i64) 3 w' w.heap.size (λ_=>True) bR i)∧Ac (w'.heap[aL]?=some (.cells #[.int .i64 c,.int .i64 j,.int .i64 g,.int .i64 d,.string p] 30 (0,0)))∧Ac (Below w.heap.size w w'))
    case atStart=>exact⟨(0),(0),(CA),(CA),G,⟨RB _⟩,⟨by refine AV ?_;exact bd.o⟩,⟨Bc b.o⟩,⟨Ag⟩⟩
    case round =>
     clear G
     try clear c7
     try clear q
     try clear aK
     try clear c9
     try clear r
     try clear x
     try clear y
     try clear u
     try clear I
     try clear aI
     try clear J
     try clear aJ
     try clear aq ar au av aw X Y Z aa ab
     try clear ax ay az aA aB ae af ag ah ai
     try clear aC aD aE aF aG aj ak al an ao
     try clear bp bq br bu bw be bf bg bh bj
     try clear bx bz bA bB bC bk bl bm bn bo
     try clear a0 a1 a2 a3 a4 aQ aR aS aT aU
     try clear a5 a6 a7 a8 a9 aV aW aX aY aZ
     obtain⟨E,a,rfl,rfl,HA,O,m,b,HB⟩:=hrel
     cases gk with
     | zero=>exact absurd HA.o (by simp[A_.l0])
     | succ k2 =>
      have H:=HA.o
      clear HA
      simp only[A_.l0]at H
      by_cases P:a<(i.length:Int)
      ·rw[Ry P]at H
       have bD:decide (a<(i.length:Int))=true:=BM P
       clear P
       by_cases aM:0≤a
       ·rw[Ry aM]at H
        have cB:decide (0≤a)=true:=BM aM
        clear aM
        by_cases K:(rd i a)=d
        ·rw[Ry K]at H
         have bE:((rd i a)==d)=true:=RO.mpr K
         have bF:((rd i a) != d)=false:=Fc K
         clear K
         by_cases L:d=j
         ·rw[Ry L]at H
          have bG:(d==j)=true:=RO.mpr L
          have bH:(d != j)=false:=Fc L
          clear L
          have G:=a_ H
          clear H
          obtain⟨cE,cJ,bK⟩:=Kd.Be m.o
          subst bK
          have n:0≤(a:Int):=Bv
          have o:a<(i.length:Int):=Bv
          obtain⟨aH,A,B⟩:=Kd.Fu (Kd.At m.o).2.2 a n o
          cases A
          replace n:=RA n
          replace o:=RA o
          obtain⟨ck,cl,cm,cn,cp,bW,bX,bY,bZ,b6⟩:=CI (W:=wr) b.o
          go_wp2
          repeat(go_quiet(fail);try go_wp2)
          go_roundg k2
          case measure=>have:=M.o;have:=O.o;omega
          case rel=>exact⟨(E),(wrap64 (a+1)),(CA),(CA),G,⟨by have:=M.o;have:=O.o;omega⟩,⟨by refine AV ?_;exact m.o⟩,⟨Bc b.o⟩,⟨Ag⟩⟩
         ·rw[Rz L]at H
          have bG:(d==j)=false:=Dr L
          have bH:(d != j)=true:=RX.mpr L
          have G:=a_ H
          clear H
          obtain⟨cF,cK,bL⟩:=Kd.Be m.o
          subst bL
          have n:0≤(a:Int):=Bv
          have o:a<(i.length:Int):=Bv
          obtain⟨aH,A,B⟩:=Kd.Fu (Kd.At m.o).2.2 a n o
          cases A
          replace n:=RA n
          replace o:=RA o
          obtain⟨cq,cr,ct,cu,cv,b7,b8,b9,b_,ca⟩:=CI (W:=wr) b.o
          go_wp2
          repeat(go_quiet(fail);try go_wp2)
          go_roundg k2
          case measure=>have:=M.o;have:=O.o;omega
          case rel=>exact⟨(d),(wrap64 (a+1)),(CA),(CA),G,⟨by have:=M.o;have:=O.o;omega⟩,⟨by refine AV ?_;exact m.o⟩,⟨Bc b.o⟩,⟨Ag⟩⟩
        ·rw[Rz K]at H
         have bE:((rd i a)==d)=false:=Dr K
         have bF:((rd i a) != d)=true:=RX.mpr K
         have G:=a_ H
         clear H
         obtain⟨cG,cL,bM⟩:=Kd.Be m.o
         subst bM
         have n:0≤(a:Int):=Bv
         have o:a<(i.length:Int):=Bv
         obtain⟨aH,A,B⟩:=Kd.Fu (Kd.At m.o).2.2 a n o
         cases A
         replace n:=RA n
         replace o:=RA o
         obtain⟨cw,cx,cy,cz,cA,cb,cd,cf,cg,cj⟩:=CI (W:=wr) b.o
         go_wp2
         repeat(go_quiet(fail);try go_wp2)
         go_roundg k2
         case measure=>have:=M.o;have:=O.o;omega
         case rel=>exact⟨(E),(wrap64 (a+1)),(CA),(CA),G,⟨by have:=M.o;have:=O.o;omega⟩,⟨by refine AV ?_;exact m.o⟩,⟨Bc b.o⟩,⟨Ag⟩⟩
       ·rw[Rz aM]at H
        exact absurd H (by simp)
      ·rw[Rz P]at H
       have bD:decide (a<(i.length:Int))=false:=C9 P
       clear P
       simp only[Option.some.injEq,Prod.mk.injEq]at H
       obtain⟨rfl,rfl,rfl⟩:=H
       obtain⟨cH,cM,bN⟩:=Kd.Be m.o
       subst bN
       go_wp2
       repeat(go_quiet(fail);try go_wp2)
       go_ret3
       exact⟨C8,Ag⟩
mutual
def Bd.j0:Nat->List (Ba)->List (Ba)->Int->Int->Option ((List (Ba)))
 | 0,_,_,_,_=>none
 | k+1,d,g,e,a=>(some (([]:List (Ba)):List (Ba))).bind λb=>(if 0≤a then(if a≤(d.length:Int)then((some (d.take (a:Int).toNat:List (Ba))).bind λc=>(if b.length+c.length<4398046511104 then(Bd.l0 k d g e a (b++c) 0)else(none)))else(none))else(none))
def Bd.l0:Nat->List (Ba)->List (Ba)->Int->Int->List (Ba)->Int->Option ((List (Ba)))
 | 0,_,_,_,_,_,_=>none
 | k+1,i,e,g,b,c,a=>if a<(e.length:Int)then(if 0≤a then(if c.length<4398046511104 then(Bd.l0 k i e g b (c++[(⟨(Ae e a).f0,wrap64 (((Ae e a).f1)+g),(Ae e a).f2⟩:Ba)]) (wrap64 (a+1)))else(none))else(none))else(if 0≤b then(if b≤(i.length:Int)then((some (i.drop (b:Int).toNat:List (Ba))).bind λd=>(if c.length+d.length<4398046511104 then(some (c++d))else(none)))else(none))else(none))
end
def Bd.f(k:Nat)(l0:List (Ba))(l1:List (Ba))(e:Int)(d:Int):Option ((List (Ba))):=(Bi.f k l0 e).bind λa=>(if 0≤a then(if a<(l0.length:Int)then(if 0<(l1.length:Int)then(if d>0 then((Bi.f k l0 d).bind λb=>((Bt.f k l0 b).bind λc=>(Bd.j0 k l0 l1 (wrap64 ((wrap64 (((Ae l0 a).f1)+1))-((Ae l1 0).f1))) c)))else(Bd.j0 k l0 l1 (wrap64 ((wrap64 (((Ae l0 a).f1)+1))-((Ae l1 0).f1))) (wrap64 (a+1))))else(none))else(none))else(none))
theorem Bd.calls(k:Nat)(A0:Option Addr)(c0:Nat)(l0:List (Ba))(A1:Option Addr)(c1:Nat)(l1:List (Ba))(a2:Int)(a3:Int)(r:List (Ba))(w:World)(bI:Kd.C Dd w A0 l0.length l0)(bG:l0.length≤c0)(bJ:Kd.C Dd w A1 l1.length l1)(bH:l1.length≤c1)(h:Bd.f k l0 l1 a2 a3=some r) :
  Calls Tryd.prog 57 #[.slice A0 l0.length c0,.slice A1 l1.length c1,.int .i64 a2,.int .i64 a3] w λe w'=>∃bL:Value,e=.returned (bL)∧Kd.R Dd 68 w' w.heap.size (λ_=>True) bL r∧Below w.heap.size w w':=by
 have cp:=SI;have O:=a_ bI;have af:=a_ bG;clear bI bG;have aK:=a_ bJ;have cw:=a_ bH;clear bJ bH;have HB:=a_ (RG w.heap.size w);unfold Bd.f at h;have H:=h;clear h;replace H:=BR H;obtain⟨j,bC,H⟩:=H;try dsimp only at H
 have A5:=a_ bC;clear bC;by_cases c6:0≤j
 ·rw[Ry c6]at H;have aZ:decide (0≤j)=true:=BM c6;clear c6;by_cases c7:j<(l0.length:Int)
  ·rw[Ry c7]at H;have a0:decide (j<(l0.length:Int))=true:=BM c7;clear c7;by_cases c8:0<(l1.length:Int)
   ·rw[Ry c8]at H;have a1:decide (0<(l1.length:Int))=true:=BM c8;have a4:decide (0<l1.length)=true:=BM (by omega);clear c8;have bc:=a_ H;clear H;go_enter Tryd.func57,Tryd.ntmps57;go_upto_if 32 with(first|(go_at_call 54;(with_reducible refine(Bi.calls k _ _ l0 a2 j _ ?q' ?z' A5.o).mono ?_);(case q'=>exact E9 O.o);(case z'=>exact af.o);rintro e w' ⟨rfl,⟨nd,rfl⟩⟩;(try first|exact⟨rfl,_,RT _ _ _⟩|exact⟨rfl,_,SU (RT _ _ _) (SJ (World.drewN _) (Sp _ _ _))⟩);have u:0≤(j:Int):=Bv;have x:j<(l0.length:Int):=Bv;obtain⟨z,T,G,I,J⟩:=BZ O.o j u x;cases T;replace u:=RA u;replace x:=RA x;have v:0≤(0:Int):=(by omega);have y:0<(l1.length:Int):=Bv;obtain⟨ag,U,l,n,q⟩:=BZ aK.o 0 v y;cases U;have aJ:(0<l1.length)=True:=RA (by omega);(try rw[show((0:Int)).toNat=0 from rfl]at l);(try rw[show 0*3=0 from rfl]at l);(try rw[Sa]at l);(try rw[show((0:Int)).toNat=0 from rfl]at n);(try rw[show 0*3=0 from rfl]at n);(try rw[Sa]at n);(try rw[show((0:Int)).toNat=0 from rfl]at q);(try rw[show 0*3=0 from rfl]at q);(try rw[Sa]at q);replace v:=RA v;replace y:=RA y))
    repeat(go_quiet(first|(go_at_call 54;(with_reducible refine(Bi.calls k _ _ l0 a2 j _ ?q' ?z' A5.o).mono ?_);(case q'=>exact E9 O.o);(case z'=>exact af.o);rintro e w' ⟨rfl,⟨nd,rfl⟩⟩;(try first|exact⟨rfl,_,RT _ _ _⟩|exact⟨rfl,_,SU (RT _ _ _) (SJ (World.drewN _) (Sp _ _ _))⟩);have u:0≤(j:Int):=Bv;have x:j<(l0.length:Int):=Bv;obtain⟨z,T,G,I,J⟩:=BZ O.o j u x;cases T;replace u:=RA u;replace x:=RA x;have v:0≤(0:Int):=(by omega);have y:0<(l1.length:Int):=Bv;obtain⟨ag,U,l,n,q⟩:=BZ aK.o 0 v y;cases U;have aJ:(0<l1.length)=True:=RA (by omega);(try rw[show((0:Int)).toNat=0 from rfl]at l);(try rw[show 0*3=0 from rfl]at l);(try rw[Sa]at l);(try rw[show((0:Int)).toNat=0 from rfl]at n);(try rw[show 0*3=0 from rfl]at n);(try rw[Sa]at n);(try rw[show((0:Int)).toNat=0 from rfl]at q);(try rw[show 0*3=0 from rfl]at q);(try rw[Sa]at q);replace v:=RA v;replace y:=RA y));go_upto_if 32 with(first|(go_at_call 54;(with_reducible refine(Bi.calls k _ _ l0 a2 j _ ?q' ?z' A5.o).mono ?_);(case q'=>exact E9 O.o);(case z'=>exact af.o);rintro e w' ⟨rfl,⟨nd,rfl⟩⟩;(try first|exact⟨rfl,_,RT _ _ _⟩|exact⟨rfl,_,SU (RT _ _ _) (SJ (World.drewN _) (Sp _ _ _))⟩);have u:0≤(j:Int):=Bv;have x:j<(l0.length:Int):=Bv;obtain⟨z,T,G,I,J⟩:=BZ O.o j u x;cases T;replace u:=RA u;replace x:=RA x;have v:0≤(0:Int):=(by omega);have y:0<(l1.length:Int):=Bv;obtain⟨ag,U,l,n,q⟩:=BZ aK.o 0 v y;cases U;have aJ:(0<l1.length)=True:=RA (by omega);(try rw[show((0:Int)).toNat=0 from rfl]at l);(try rw[show 0*3=0 from rfl]at l);(try rw[Sa]at l);(try rw[show((0:Int)).toNat=0 from rfl]at n);(try rw[show 0*3=0 from rfl]at n);(try rw[Sa]at n);(try rw[show((0:Int)).toNat=0 from rfl]at q);(try rw[show 0*3=0 from rfl]at q);(try rw[Sa]at q);replace v:=RA v;replace y:=RA y)))
    (try simp only[Act.put,List.setIfInBounds_toArray,List.set_cons_zero,List.set_cons_succ]);go_cut [11] (λv11 wc=>∃(kq:Nat) (d:Int),v11=.int .i64 d∧Ac (Bd.j0 kq l0 l1 (wrap64 ((wrap64 (((Ae l0 j).f1)+1))-((Ae l1 0).f1))) d=some r)∧Ac (kq≤k)∧Ac (Below w.heap.size w wc))
    case first =>
     have H:=bc.o;clear bc;by_cases DM:a3>0
     ·rw[Ry DM]at H;have E:decide (0<a3)=true:=BM DM;clear DM;(first|rw[E]|(simp only[BJ,BP];rw[E])|skip);replace H:=BR H;obtain⟨a8,aX,H⟩:=H;try dsimp only at H
      have bO:=a_ aX;clear aX;replace H:=BR H;obtain⟨a9,aY,H⟩:=H;try dsimp only at H
      have bP:=a_ aY;clear aY;have H':=a_ H;clear H;go_wp2_with(first|(go_at_call 54;(with_reducible refine(Bi.calls k _ _ l0 a3 a8 _ ?q' ?z' bO.o).mono ?_);(case q'=>exact F0 O.o);(case z'=>exact af.o);rintro e w' ⟨rfl,⟨nd,rfl⟩⟩;(try first|exact⟨rfl,_,RT _ _ _⟩|exact⟨rfl,_,SU (RT _ _ _) (SJ (World.drewN _) (Sp _ _ _))⟩))|(go_at_call 55;(with_reducible refine(Bt.calls k _ _ l0 a8 a9 _ ?q' ?z' bP.o).mono ?_);(case q'=>repeat(first|exact(Kd.Bu O.o (Ag))|(with_reducible refine Kd.C_alloc ?_ _)|(with_reducible refine Kd.B_ ?_ _)|(with_reducible refine Kd.C_drew ?_)));(case z'=>exact af.o);rintro e w' ⟨rfl,⟨nd,rfl⟩⟩;(try first|exact⟨rfl,_,RT _ _ _⟩|exact⟨rfl,_,SU (RT _ _ _) (SJ (World.drewN _) (Sp _ _ _))⟩)));go_meet
      exact⟨_,(a9),(CA),H',⟨by first|omega|exact RB _⟩,⟨Ag⟩⟩
     rw[Rz DM]at H;have E:decide (0<a3)=false:=C9 DM;clear DM;(first|rw[E]|(simp only[BJ,BP];rw[E])|skip);have H':=a_ H;clear H;go_wp2;repeat(go_quiet(fail);try go_wp2)
     go_meet
     exact⟨_,(wrap64 (j+1)),(CA),H',⟨by first|omega|exact RB _⟩,⟨Ag⟩⟩
    clear bc;try clear c1
    try clear c6
    try clear aZ
    try clear c7
    try clear a0
    try clear c8
    try clear a1
    try clear a4
    try clear DM
    try clear E
    try clear G
    try clear I
    try clear J
    try clear l
    try clear n
    try clear q
    try clear u
    try clear v
    try clear x
    try clear y
    obtain⟨kq,d,rfl,HA,bD,HB⟩:=hcut;cases kq with
    | zero=>exact absurd HA.o (by simp[Bd.j0])
    | succ aE =>
     have H:=HA.o
     clear HA
     simp only[Bd.j0]at H
     obtain⟨M,hy_⟩:=EM (([]:List (Ba)))
     replace H:(if 0≤d then(if d≤(l0.length:Int)then((some (l0.take (d:Int).toNat:List (Ba))).bind λA=>(if M.length+A.length<4398046511104 then(Bd.l0 aE l0 l1 (wrap64 ((wrap64 (((Ae l0 j).f1)+1))-((Ae l1 0).f1))) d (M++A) 0)else(none)))else(none))else(none))=some r:=EN
     have an:=a_ hy_
     clear hy_
     by_cases ai:0≤d
     ·rw[Ry ai]at H
      have bq:=RA ai
      have br:decide (0≤d)=true:=BM ai
      clear ai
      by_cases aj:d≤(l0.length:Int)
      ·rw[Ry aj]at H
       have bu:=RA aj
       have bw:decide (d≤(l0.length:Int))=true:=BM aj
       clear aj
       obtain⟨A,hy_⟩:=EM (l0.take (d:Int).toNat)
       replace H:(if M.length+A.length<4398046511104 then(Bd.l0 aE l0 l1 (wrap64 ((wrap64 (((Ae l0 j).f1)+1))-((Ae l1 0).f1))) d (M++A) 0)else(none))=some r:=EN
       have ao:=a_ hy_
       clear hy_
       by_cases ar:M.length+A.length<4398046511104
       ·rw[Ry ar]at H
        have bj:=a_ ar
        clear ar
        obtain⟨ba,hy_⟩:=EM (M++A)
        replace H:(Bd.l0 aE l0 l1 (wrap64 ((wrap64 (((Ae l0 j).f1)+1))-((Ae l1 0).f1))) d ba 0)=some r:=EN
        have bm:=a_ hy_
        clear hy_
        have H':=a_ H
        clear H
        go_wp2_with(first|((with_reducible refine BV (N:=38) rfl ?_);refine Kd.DG Dd _ 68 ?hg (N:=38) ?hd (xs:=([]:List (Ba))) (inner:=[]) (ok:=λ_=>True) (okp:=λ_=>True) ?hr ?hp (λ_ W=>W) trivial (RG _ _) (RB _) (by simp) ?_;(case hd=>rfl);(case hg=>rfl);(case hr=>first|(go_simp;done)|(go_simp;rfl));(case hp=>exact(Bn.none _ _));intro bM cx X hb DN bz;clear DN bz;(first|rw[<-an.o]at X|(simp only[Int.reduceToNat]at X;rw[<-an.o]at X));have al:=a_ (Kd.AU X (Af (Ag)));replace HB:=Bw hb;clear hb X;have aH:(d:Int)≤((l0.length:Int):Int):=Bv;obtain⟨cq,ay,_,bA,_⟩:=S3 EA;have Z:l0.length≤c0:=af.o;have a5:Kd.C Dd _ (some z) l0.length l0:=O.o;have aT:=Ih (P:=Tryd.prog) 23 68 .i64 Sf ay (some z) l0.length c0 d (Bv) aH Z;have aA:=Kd.GU (m:=(d:Int).toNat) a5 (by omega);have aD:A.length=(d:Int).toNat:=(by rw[ao.o,RV];omega);rw[<-ao.o]at aA;rw[<-aD]at aT;have bg:=a_ aA;have bT:=a_ (show A.length≤c0 from by omega);clear aA a5 Z ay bA;have cj:=a_ aD;clear aD;replace aH:=RA aH)|((with_reducible refine Bo (b:=.append) (xs:=#[.tmp 38,.tmp 41]) rfl ?_);at_builtin;refine Kd.Cn Dd (w0:=w) w.heap.size rfl (.tmp 38) (.tmp 41) 23 68 (.agg #[(.int .i64 0),(.int .i64 0),(.string ⟨#[]⟩)]) 32 rfl Sf EA rfl (by decide) (by omega) bM M A _ _ _ (λ_=>True) (λ_=>False) rfl rfl ?aO ?aR (λ_ _ h=>h) (λ_ h=>h.elim) ?aF ?aB ?aS ?aL ?_;(case aR=>exact E9 (Kd.Bu bg.o HB.o));(case aB=>exact(Ag));(case aF=>exact(λ_ _=>trivial));(case aO=>exact(AV al.o));(case aS=>exact(Af (Ag)));(case aL=>have:=bj.o;omega);intro ct cy ho hb hg aw;rw[<-bm.o]at ho;replace HB:=a_ (hb);have bd:=a_ (ho);clear al;clear ho hb hg aw))
        go_loopg [12,13] aE (λkq cd cf w'=>∃(t:List (Ba)) (a:Int),cf=.int .i64 a∧Ac (Bd.l0 kq l0 l1 (wrap64 ((wrap64 (((Ae l0 j).f1)+1))-((Ae l1 0).f1))) d t a=some r)∧Ac (kq≤aE)∧Ac (Kd.R Dd 68 w' w.heap.size (λ_=>True) cd t)∧Ac (Below w.heap.size w w'))
        case atStart=>exact⟨(ba),(0),(CA),H',⟨RB _⟩,⟨by refine AV ?_;exact bd.o⟩,⟨Ag⟩⟩
        case round =>
         clear H'
         try clear c1
         try clear c6
         try clear aZ
         try clear c7
         try clear a0
         try clear c8
         try clear a1
         try clear a4
         try clear DM
         try clear E
         try clear ai
         try clear bq
         try clear br
         try clear aj
         try clear bu
         try clear bw
         try clear ar
         try clear aH
         try clear G
         try clear I
         try clear J
         try clear l
         try clear n
         try clear q
         try clear u
         try clear v
         try clear aH
         try clear x
         try clear y
         obtain⟨t,a,rfl,HA,bE,D,HB⟩:=hrel
         cases gk with
         | zero=>exact absurd HA.o (by simp[Bd.l0])
         | succ k2 =>
          have H:=HA.o
          clear HA
          simp only[Bd.l0]at H
          by_cases ak:a<(l1.length:Int)
          ·rw[Ry ak]at H
           have bx:decide (a<(l1.length:Int))=true:=BM ak
           clear ak
           by_cases aM:0≤a
           ·rw[Ry aM]at H
            have b7:decide (0≤a)=true:=BM aM
            clear aM
            by_cases aN:t.length<4398046511104
            ·rw[Ry aN]at H
             have bk:=a_ aN
             clear aN
             obtain⟨bb,hy_⟩:=EM (t++[(⟨(Ae l1 a).f0,wrap64 (((Ae l1 a).f1)+(wrap64 ((wrap64 (((Ae l0 j).f1)+1))-((Ae l1 0).f1)))),(Ae l1 a).f2⟩:Ba)])
             replace H:(Bd.l0 k2 l0 l1 (wrap64 ((wrap64 (((Ae l0 j).f1)+1))-((Ae l1 0).f1))) d bb (wrap64 (a+1)))=some r:=EN
             have bn:=a_ hy_
             clear hy_
             have H':=a_ H
             clear H
             have aG:0≤(a:Int):=Bv
             have aI:a<(l1.length:Int):=Bv
             obtain⟨bp,bF,aa,ab,ae⟩:=BZ aK.o a aG aI
             obtain rfl:ag=bp:=(by injection bF)
             replace aa:=(Az HB.o aa:)
             replace ab:=(Az HB.o ab:)
             replace ae:=(Az HB.o ae:)
             replace aG:=RA aG
             replace aI:=RA aI
             go_wp2_with(first|((with_reducible refine BV (N:=14) rfl ?_);refine Cy 14 (#[.int .i64 0,.int .i64 0,.string (⟨#[]⟩:ByteArray)]) 68 ?_;intro i hg aW a7 hb;have K:=a_ (a7);have bS:=BD w hg;have bR:=BD w hg;replace D:=a_ (Kd.AJ (Kd.Kp (AV D.o) i (Sd hg.symm)) hb);replace HB:=Bw hb;clear hb a7 hg;obtain⟨bY,bZ,b6,bV,bW,bX⟩:=DV K.o;have aV:((((aW.setCell ⟨i,0,none⟩ (.int .i64 ((Ae l1 a).f0))).setCell ⟨i,1,none⟩ (.int .i64 ((Ae l1 a).f1))).setCell ⟨i,2,none⟩ (.string ((Ae l1 a).f2))).setCell ⟨i,1,none⟩ (.int .i64 (wrap64 (((Ae l1 a).f1)+(wrap64 ((wrap64 (((Ae l0 j).f1)+1))-((Ae l1 0).f1))))))).heap[i]?=some (.cells #[.int .i64 ((Ae l1 a).f0),.int .i64 (wrap64 (((Ae l1 a).f1)+(wrap64 ((wrap64 (((Ae l0 j).f1)+1))-((Ae l1 0).f1))))),.string ((Ae l1 a).f2)] 68 (0,0)):=(Fm (Fm (Fm (Fm K.o 0 _) 1 _) 2 _) 1 _).trans rfl;have cl:((((aW.setCell ⟨i,0,none⟩ (.int .i64 ((Ae l1 a).f0))).setCell ⟨i,1,none⟩ (.int .i64 ((Ae l1 a).f1))).setCell ⟨i,2,none⟩ (.string ((Ae l1 a).f2))).setCell ⟨i,1,none⟩ (.int .i64 (wrap64 (((Ae l1 a).f1)+(wrap64 ((wrap64 (((Ae l0 j).f1)+1))-((Ae l1 0).f1))))))).cell? ⟨i,0,none⟩=some (.int .i64 ((Ae l1 a).f0)):=(Ax aV 0).trans rfl;have cm:((((aW.setCell ⟨i,0,none⟩ (.int .i64 ((Ae l1 a).f0))).setCell ⟨i,1,none⟩ (.int .i64 ((Ae l1 a).f1))).setCell ⟨i,2,none⟩ (.string ((Ae l1 a).f2))).setCell ⟨i,1,none⟩ (.int .i64 (wrap64 (((Ae l1 a).f1)+(wrap64 ((wrap64 (((Ae l0 j).f1)+1))-((Ae l1 0).f1))))))).cell? ⟨i,1,none⟩=some (.int .i64 (wrap64 (((Ae l1 a).f1)+(wrap64 ((wrap64 (((Ae l0 j).f1)+1))-((Ae l1 0).f1)))))):=(Ax aV 1).trans rfl;have cn:((((aW.setCell ⟨i,0,none⟩ (.int .i64 ((Ae l1 a).f0))).setCell ⟨i,1,none⟩ (.int .i64 ((Ae l1 a).f1))).setCell ⟨i,2,none⟩ (.string ((Ae l1 a).f2))).setCell ⟨i,1,none⟩ (.int .i64 (wrap64 (((Ae l1 a).f1)+(wrap64 ((wrap64 (((Ae l0 j).f1)+1))-((Ae l1 0).f1))))))).cell? ⟨i,2,none⟩=some (.string ((Ae l1 a).f2)):=(Ax aV 2).trans rfl;clear aV)|((with_reducible refine Bo (b:=.append) (xs:=#[.tmp 58,.tmp 60]) rfl ?_);at_builtin;refine Kd.ES Dd (w0:=w) w.heap.size rfl (.tmp 58) (.tmp 60) 23 68 (.agg #[(.int .i64 0),(.int .i64 0),(.string ⟨#[]⟩)]) 32 rfl Sf EA rfl (by decide) (by omega) u12 t (⟨(Ae l1 a).f0,wrap64 (((Ae l1 a).f1)+(wrap64 ((wrap64 (((Ae l0 j).f1)+1))-((Ae l1 0).f1)))),(Ae l1 a).f2⟩:Ba) [.int .i64 ((Ae l1 a).f0),.int .i64 (wrap64 (((Ae l1 a).f1)+(wrap64 ((wrap64 (((Ae l0 j).f1)+1))-((Ae l1 0).f1))))),.string ((Ae l1 a).f2)] (λk_=>k_≠i) (λ_=>False) rfl (by first|(go_simp;done)|(go_simp;rfl)) ?aP (λ_ W=>W.elim) ?aF ?aO ?aB ?aS ?aL ?_;(case aP=>exact GG _ _ _ (⟨(Ae l1 a).f0,wrap64 (((Ae l1 a).f1)+(wrap64 ((wrap64 (((Ae l0 j).f1)+1))-((Ae l1 0).f1)))),(Ae l1 a).f2⟩:Ba));(case aB=>exact(Ag));(case aF=>exact(λk_ W=>Kd.Dk (g:=i) (o:=.cells #[.int .i64 ((Ae l1 a).f0),.int .i64 (wrap64 (((Ae l1 a).f1)+(wrap64 ((wrap64 (((Ae l0 j).f1)+1))-((Ae l1 0).f1))))),.string ((Ae l1 a).f2)] 68 (0,0)) (by(with_reducible repeat(first|refine Fz ?_ _|refine Du ?_|refine EG ?_ _));refine BF (cs:=#[.int .i64 ((Ae l1 a).f0),.int .i64 ((Ae l1 a).f1),.string ((Ae l1 a).f2)]) ?_ 1 _ rfl;(with_reducible repeat(first|refine Fz ?_ _|refine Du ?_|refine EG ?_ _));refine BF (cs:=#[.int .i64 ((Ae l1 a).f0),.int .i64 ((Ae l1 a).f1),.string (⟨#[]⟩:ByteArray)]) ?_ 2 _ rfl;(with_reducible repeat(first|refine Fz ?_ _|refine Du ?_|refine EG ?_ _));refine BF (cs:=#[.int .i64 ((Ae l1 a).f0),.int .i64 0,.string (⟨#[]⟩:ByteArray)]) ?_ 1 _ rfl;(with_reducible repeat(first|refine Fz ?_ _|refine Du ?_|refine EG ?_ _));refine BF (cs:=#[.int .i64 0,.int .i64 0,.string (⟨#[]⟩:ByteArray)]) ?_ 0 _ rfl;(with_reducible repeat(first|refine Fz ?_ _|refine Du ?_|refine EG ?_ _));exact K.o) k_ W));(case aO=>exact(by refine AV ?_;exact Kd.Ai (Kd.CS (p:=⟨i,1,none⟩) (Mu (g:=i) (Kd.Ai D.o (λk_ W=>(⟨W,W.2⟩:_∧k_≠i))) (λ_ W=>W.2) (.int .i64 ((Ae l1 a).f0)) (.int .i64 ((Ae l1 a).f1)) (.string ((Ae l1 a).f2))) (λ_ W=>W.2) (.int .i64 (wrap64 (((Ae l1 a).f1)+(wrap64 ((wrap64 (((Ae l0 j).f1)+1))-((Ae l1 0).f1))))))) (λ_ W=>W.1.2)));(case aS=>exact(Af (Ag)));(case aL=>have:=bk.o;omega);intro cu cz ho hb hg aw;rw[<-bn.o]at ho;have be:=a_ (ho);replace K:=a_ (AO (g:=i) (o:=.cells #[.int .i64 ((Ae l1 a).f0),.int .i64 (wrap64 (((Ae l1 a).f1)+(wrap64 ((wrap64 (((Ae l0 j).f1)+1))-((Ae l1 0).f1))))),.string ((Ae l1 a).f2)] 68 (0,0)) (by(with_reducible repeat(first|refine Fz ?_ _|refine Du ?_|refine EG ?_ _));refine BF (cs:=#[.int .i64 ((Ae l1 a).f0),.int .i64 ((Ae l1 a).f1),.string ((Ae l1 a).f2)]) ?_ 1 _ rfl;(with_reducible repeat(first|refine Fz ?_ _|refine Du ?_|refine EG ?_ _));refine BF (cs:=#[.int .i64 ((Ae l1 a).f0),.int .i64 ((Ae l1 a).f1),.string (⟨#[]⟩:ByteArray)]) ?_ 2 _ rfl;(with_reducible repeat(first|refine Fz ?_ _|refine Du ?_|refine EG ?_ _));refine BF (cs:=#[.int .i64 ((Ae l1 a).f0),.int .i64 0,.string (⟨#[]⟩:ByteArray)]) ?_ 1 _ rfl;(with_reducible repeat(first|refine Fz ?_ _|refine Du ?_|refine EG ?_ _));refine BF (cs:=#[.int .i64 0,.int .i64 0,.string (⟨#[]⟩:ByteArray)]) ?_ 0 _ rfl;(with_reducible repeat(first|refine Fz ?_ _|refine Du ?_|refine EG ?_ _));exact K.o) hg (Kd.Gn D.o (λ_ W=>W.2)));replace HB:=a_ (hb);clear D;clear ho hb hg aw))
             go_roundg k2
             case measure=>have:=bD.o;have:=bE.o;omega
             case rel=>exact⟨(bb),(wrap64 (a+1)),(CA),H',⟨by have:=bD.o;have:=bE.o;omega⟩,⟨by refine AV ?_;exact Kd.Ai be.o (λ_ W=>trivial)⟩,⟨Ag⟩⟩
            ·rw[Rz aN]at H
             exact absurd H (by simp)
           ·rw[Rz aM]at H
            exact absurd H (by simp)
          ·rw[Rz ak]at H
           have bx:decide (a<(l1.length:Int))=false:=C9 ak
           clear ak
           by_cases au:0≤d
           ·rw[Ry au]at H
            have b8:=RA au
            have b9:decide (0≤d)=true:=BM au
            clear au
            by_cases av:d≤(l0.length:Int)
            ·rw[Ry av]at H
             have b_:=RA av
             have ca:decide (d≤(l0.length:Int))=true:=BM av
             clear av
             obtain⟨B,hy_⟩:=EM (l0.drop (d:Int).toNat)
             replace H:(if t.length+B.length<4398046511104 then(some (t++B))else(none))=some r:=EN
             have aq:=a_ hy_
             clear hy_
             by_cases aQ:t.length+B.length<4398046511104
             ·rw[Ry aQ]at H
              have bl:=a_ aQ
              clear aQ
              obtain⟨bN,hy_⟩:=EM (t++B)
              replace H:(some bN)=some r:=EN
              have bo:=a_ hy_
              clear hy_
              obtain rfl:=CW H
              have bB:(d:Int)≤((l0.length:Int):Int):=Bv
              obtain⟨cr,az,_,aC,_⟩:=S3 EA
              have L:l0.length≤c0:=af.o
              have a6:Kd.C Dd _ (some z) l0.length l0:=O.o
              have bK:(0:Int)≤(d:Int):=Bv
              have aU:=Gs (P:=Tryd.prog) 23 68 .i64 Sf az 3 aC (some z) l0.length c0 d bK bB
              have Y:=Kd.JK (m:=(d:Int).toNat) (c:=c0) a6 (by omega) L
              obtain⟨bQ,hA29⟩:∃A1,A1=(if c0=(d:Int).toNat then(some z)else((some z):Option Addr).map (·.add ((d:Int).toNat*3))):=⟨_,rfl⟩
              obtain⟨cb,ax⟩:∃c1,c1=c0-(d:Int).toNat:=⟨_,rfl⟩
              have ah:B.length=l0.length-(d:Int).toNat:=(by rw[aq.o,R9] <;> omega)
              rw[show(l0).drop (d:Int).toNat=B from aq.o.symm]at Y
              replace Y:Kd.C Dd _ bQ B.length B:=(by rw[hA29];exact Y)
              rw[<-ah,<-hA29,<-ax]at aU
              have bh:=a_ Y
              have bU:=a_ (show B.length≤cb from by rw[ah,ax];exact SV L _)
              clear Y a6 L az aC ax
              have ck:=a_ ah
              have cg:=a_ hA29
              clear ah hA29
              replace bB:=RA bB
              go_wp2_with(first|((with_reducible refine Bo (b:=.append) (xs:=#[.tmp 62,.tmp 65]) rfl ?_);at_builtin;refine Kd.Cn Dd (w0:=w) w.heap.size rfl (.tmp 62) (.tmp 65) 23 68 (.agg #[(.int .i64 0),(.int .i64 0),(.string ⟨#[]⟩)]) 32 rfl Sf EA rfl (by decide) (by omega) u12 t B _ _ _ (λ_=>True) (λ_=>False) rfl rfl ?aO ?aR (λ_ _ h=>h) (λ_ h=>h.elim) ?aF ?aB ?aS ?aL ?_;(case aR=>exact E9 (Kd.Bu bh.o HB.o));(case aB=>exact(Ag));(case aF=>exact(λ_ _=>trivial));(case aO=>exact(AV D.o));(case aS=>exact(Af (Ag)));(case aL=>have:=bl.o;omega);intro cv cA ho hb hg aw;rw[<-bo.o]at ho;replace HB:=a_ (hb);have bf:=a_ (ho);clear D;clear ho hb hg aw))
              go_ret
              exact⟨_,C8,by refine AV ?_;exact bf.o,Ag⟩
             ·rw[Rz aQ]at H
              exact absurd H (by simp)
            ·rw[Rz av]at H
             exact absurd H (by simp)
           ·rw[Rz au]at H
            exact absurd H (by simp)
       ·rw[Rz ar]at H
        exact absurd H (by simp)
      ·rw[Rz aj]at H
       exact absurd H (by simp)
     ·rw[Rz ai]at H
      exact absurd H (by simp)
   rw[Rz c8]at H;exact absurd H (by simp)
  rw[Rz c7]at H;exact absurd H (by simp)
 rw[Rz c6]at H;exact absurd H (by simp)
def BC.f(k:Nat)(l0:List (Ba))(e:Int)(g:Int)(t:Int)(u:Int)(i:ByteArray):Option ((List (Ba))):=(Bi.f k l0 g).bind λa=>(if e=2 then((some (([]:List (Ba)):List (Ba))).bind λj=>(if j.length+l0.length<4398046511104 then((some (j++l0:List (Ba))).bind λd=>(if a≥0 then(if 0≤a then(if a<(d.length:Int)then(some (d.set (a:Int).toNat (⟨(Ae d a).f0,(Ae d a).f1,i⟩:Ba)))else(none))else(none))else(some d)))else(none)))else((A_.f k l0 e g t u i).bind λb=>(if b.2.2=true then(if e=1 then((Bd.f k l0 (([(⟨g,0,i⟩:Ba)]:List (Ba))) b.1 b.2.1).bind λv=>(some v))else((Bt.f k l0 a).bind λc=>((some (([]:List (Ba)):List (Ba))).bind λm=>(if 0≤a then(if a≤c then(if c≤(l0.length:Int)then((some ((l0.take (c:Int).toNat).drop (a:Int).toNat:List (Ba))).bind λn=>(if m.length+n.length<4398046511104 then((some (([]:List (Ba)):List (Ba))).bind λo=>(if a≤(l0.length:Int)then((some (l0.take (a:Int).toNat:List (Ba))).bind λp=>(if o.length+p.length<4398046511104 then((some (o++p:List (Ba))).bind λq=>(if 0≤c then((some (l0.drop (c:Int).toNat:List (Ba))).bind λr=>(if q.length+r.length<4398046511104 then((Bd.f k (q++r) (m++n) b.1 b.2.1).bind λw=>(some w))else(none)))else(none)))else(none)))else(none)))else(none)))else(none))else(none))else(none)))))else((some (([]:List (Ba)):List (Ba))).bind λl=>(if l.length+l0.length<4398046511104 then(some (l++l0))else(none))))))
def BC.Qp:Bool×List (List Nat×List Nat):=(true,[([],[]),([],[]),([],[]),([1,2],[1,2]),([0,3],[0,3]),([],[]),([],[]),([5,6],[5,6]),([4,7,4],[4,7]),([8,8,0,1,2,3,4,5,6,7,8],[8])])
def BC.QZ:List Nat:=[0,0,0,6,15,0,0,96,255,511]
theorem BC.L6:EK .any (opsOf Tryd.f45 14)=BC.Qp:=by kernel_rfl
theorem BC.JW:DS BC.Qp.2 BC.QZ=true:=by kernel_rfl
theorem BC.calls(k:Nat)(A0:Option Addr)(c0:Nat)(l0:List (Ba))(u:Int)(l:Int)(E:Int)(G:Int)(q:ByteArray)(r:List (Ba))(w:World)(cW:Kd.C Dd w A0 l0.length l0)(cT:l0.length≤c0)(h:BC.f k l0 u l E G q=some r) :
  Calls Tryd.prog 45 #[.slice A0 l0.length c0,.agg #[.int .i64 u,.int .i64 l,.int .i64 E,.int .i64 G,.string q]] w λe w'=>∃da:Value,e=.returned (da)∧Kd.R Dd 68 w' w.heap.size (λ_=>True) da r∧Below w.heap.size w w':=by
 have fC:=RW;have fD:=SI;have Y:=a_ cW;have ae:=a_ cT;clear cW cT;have HB:=a_ (RG w.heap.size w);unfold BC.f at h;have H:=h;clear h;replace H:=BR H;obtain⟨a,cq,H⟩:=H;try dsimp only at H
 have A3:=a_ cq;clear cq;by_cases c4:u=2
 ·rw[Ry c4]at H;have cG:(u==2)=true:=RO.mpr c4;have cH:(u != 2)=false:=Fc c4;clear c4;obtain⟨ao,hy_⟩:=EM (([]:List (Ba)));replace H:(if ao.length+l0.length<4398046511104 then((some (ao++l0:List (Ba))).bind λy=>(if a≥0 then(if 0≤a then(if a<(y.length:Int)then(some (y.set (a:Int).toNat (⟨(Ae y a).f0,(Ae y a).f1,q⟩:Ba)))else(none))else(none))else(some y)))else(none))=some r:=EN;have au:=a_ hy_;clear hy_;by_cases c5:ao.length+l0.length<4398046511104
  ·rw[Ry c5]at H;have bN:=a_ c5;clear c5;obtain⟨y,hy_⟩:=EM (ao++l0);replace H:(if a≥0 then(if 0≤a then(if a<(y.length:Int)then(some (y.set (a:Int).toNat (⟨(Ae y a).f0,(Ae y a).f1,q⟩:Ba)))else(none))else(none))else(some y))=some r:=EN;have a0:=a_ hy_;clear hy_;by_cases c6:a≥0
   ·rw[Ry c6]at H;have cI:decide (0≤a)=true:=BM c6;clear c6;by_cases c7:0≤a
    ·rw[Ry c7]at H;have fz:decide (0≤a)=true:=BM c7;clear c7;by_cases c8:a<(y.length:Int)
     ·rw[Ry c8]at H;have fA:decide (a<(y.length:Int))=true:=BM c8;clear c8;obtain⟨bT,hy_⟩:=EM (y.set (a:Int).toNat (⟨(Ae y a).f0,(Ae y a).f1,q⟩:Ba));replace H:(some bT)=some r:=EN;have b9:=a_ hy_;clear hy_;obtain rfl:=CW H;go_enter Tryd.func45,Tryd.ntmps45;go_wp2_with(first|((with_reducible refine BV (N:=3) rfl ?_);refine Cy 3 (#[.int .i64 u,.int .i64 l,.int .i64 E,.int .i64 G,.string q]) 30 ?_;intro O hg bq W z;have d:=a_ (W);have ar:=BD w hg;have aq:=BD w hg;replace HB:=Bw z;clear z W hg;obtain⟨ei,ej,ek,en,eo,du,dv,dw,dx,dy⟩:=CI d.o)|((with_reducible refine BQ (f:=54) rfl ?_);refine BW 16 S4 #[.slice A0 l0.length c0,.int .i64 l] ?_;(with_reducible refine(Bi.calls k _ _ l0 l a _ ?q' ?z' A3.o).mono ?_);(case q'=>exact F0 Y.o);(case z'=>exact ae.o);rintro e w' ⟨rfl,⟨nd,rfl⟩⟩;refine⟨_,rfl,?_⟩;(try(rw[Ey bq];generalize cj:World.drewN bq _=bq;replace d:Ac (bq.heap[O]?=some (.cells #[.int .i64 u,.int .i64 l,.int .i64 E,.int .i64 G,.string q] 30 (0,0))):=⟨by rw[<-cj];exact(Bc d.o)⟩;replace HB:Ac (Below w.heap.size w bq):=⟨by rw[<-cj];exact(Ag)⟩;clear cj;obtain⟨cB,cC,cD,cE,cF,cw,cx,cy,cz,cA⟩:=CI d.o)))|((with_reducible refine BV (N:=20) rfl ?_);refine Kd.DG Dd _ 68 ?hg (N:=20) ?hd (xs:=([]:List (Ba))) (inner:=[]) (ok:=λ_=>True) (okp:=λ_=>True) ?hr ?hp (λ_ hk=>hk) trivial (RG _ _) (RB _) (by simp) ?_;(case hd=>rfl);(case hg=>rfl);(case hr=>first|(go_simp;done)|(go_simp;rfl));(case hp=>exact(Bn.none _ _));intro bp fP ay z DN U;clear DN U;(first|rw[<-au.o]at ay|(simp only[Int.reduceToNat]at ay;rw[<-au.o]at ay));have aa:=a_ (Kd.AU ay (Af (Ag)));replace HB:=Bw z;replace d:=a_ (Cr d.o z);clear z ay)|((with_reducible refine Bo (b:=.append) (xs:=#[.tmp 20,.tmp 21]) rfl ?_);at_builtin;refine Kd.Cn Dd (w0:=w) w.heap.size rfl (.tmp 20) (.tmp 21) 23 68 (.agg #[(.int .i64 0),(.int .i64 0),(.string ⟨#[]⟩)]) 32 rfl Sf EA rfl (by decide) (by omega) bp ao l0 _ _ _ (λ_=>True) (λ_=>False) rfl rfl ?aO ?aR (λ_ _ h=>h) (λ_ h=>h.elim) ?aF ?aB ?aS ?aL ?_;(case aR=>exact E9 (Kd.Bu Y.o HB.o));(case aB=>exact(Ag));(case aF=>exact(λ_ _=>trivial));(case aO=>exact(AV aa.o));(case aS=>exact(Af (Ag)));(case aL=>have:=bN.o;omega);intro db aw ho z hg ah;rw[<-a0.o]at ho;replace d:=a_ (AO (g:=O) (o:=.cells #[.int .i64 u,.int .i64 l,.int .i64 E,.int .i64 G,.string q] 30 (0,0)) (Bc d.o) hg (Kd.EY aa.o d.o (by decide)));replace HB:=a_ (z);have X:=a_ (ho);clear aa;clear ho z hg ah;obtain⟨ep,er,et,eu,ev,dz,dA,dB,dC,dD⟩:=CI d.o;have p9:0≤(a:Int):=Bv;have q9:(a:Int)<((y.length:Int):Int):=Bv;obtain⟨al,cM,cQ,cR,fj,fO,cv⟩:=Kd.IV X.o (by omega);(first|cases cQ|(injection cQ with bC fi fh;(first|subst bC|(injection bC with bC;subst bC));subst fh;clear fi));have dn:=a_ cR;have fM:=a_ cv;clear cR fj cv;obtain⟨fN,cU,cS,aT,aU⟩:=Kd.GW X.o Qb (a:Int) p9 q9;obtain rfl:=Jx cS;have fo:aw.cell? ⟨al,(a:Int).toNat*3,none⟩=some (.int .i64 ((Ae y a).f0)):=aT 0 _ rfl;have fp:aw.cell? ⟨al,(a:Int).toNat*3+1,none⟩=some (.int .i64 ((Ae y a).f1)):=aT 1 _ rfl;have fq:aw.cell? ⟨al,(a:Int).toNat*3+2,none⟩=some (.string ((Ae y a).f2)):=aT 2 _ rfl;have fk:aw.frozen? ⟨al,(a:Int).toNat*3,none⟩=false:=aU 0;have fl:aw.frozen? ⟨al,(a:Int).toNat*3+1,none⟩=false:=aU 1;have fm:aw.frozen? ⟨al,(a:Int).toNat*3+2,none⟩=false:=aU 2;clear cU aT aU cS;replace p9:=RA p9;replace q9:=RA q9;have bM:=a_ (show Kd.R Dd 68 aw w.heap.size (λ_=>True) (.slice (some ⟨al,0,none⟩) y.length cM) y from(AV X.o));obtain⟨fB,bf,bR,aQ,bg⟩:=Kd.GW bM.o Qb (a:Int) (Bv) (by have h_:(a:Int)<((y.length:Int):Int):=Bv;first|exact h_|(have e_:=(Kd.At X.o).1;omega)|simpa using h_);obtain rfl:=Jx bR;have aX:=Kd.Lv bM.o (a:Int) (Bv) (by have h_:(a:Int)<((y.length:Int):Int):=Bv;first|exact h_|(have e_:=(Kd.At X.o).1;omega)|simpa using h_) (seg:=[.string q]) (j:=2) bf aQ (show 3≤3 from by decide) (x':=(⟨(Ae y a).f0,(Ae y a).f1,q⟩:Ba)) (GG _ _ _ (⟨(Ae y a).f0,(Ae y a).f1,q⟩:Ba) ) (λ_ hk=>hk);have bH:=aQ 2 _ rfl;(try simp only[show(Dd).sz=3 from rfl,Nat.mul_one,Nat.add_zero]at bH);have bG:=bg 2;(try simp only[show(Dd).sz=3 from rfl,Nat.mul_one,Nat.add_zero]at bG);clear bf aQ bg bR)|((with_reducible refine Dc (t:=9) (p:=30) rfl ?_);refine CY (t:=9) (p:=30) (v:=?m') (w1:=(aw.setCell ⟨al,(a:Int).toNat*3+2,none⟩ (.string q))) ?hg ?ho ?hn ?hr ?_;(case ho=>rfl);(case hg=>rfl);(case hn=>rfl);(case hr=>first|(go_simp;done)|(go_simp;rfl));intro cp hw;have hg:aw.grownBy cp (some al):=(by rw[hw];exact aX.2);have cV:Kd.R Dd 68 cp w.heap.size (λ_=>True) (.slice (some ⟨al,0,none⟩) y.length cM) bT:=(by rw[hw,b9.o];exact aX.1);clear aX;replace d:=a_ (AO (g:=O) (o:=.cells #[.int .i64 u,.int .i64 l,.int .i64 E,.int .i64 G,.string q] 30 (0,0)) (Bc d.o) hg (Kd.EY X.o d.o (by decide)));replace X:=a_ (cV);replace HB:=a_ ((by rw[hw];exact DK (HB.o) dn.o:Below w.heap.size w cp));clear hg hw cV));go_ret;exact⟨_,C8,by refine AV ?_;exact X.o,Ag⟩
     rw[Rz c8]at H;exact absurd H (by simp)
    rw[Rz c7]at H;exact absurd H (by simp)
   rw[Rz c6]at H;have cI:decide (0≤a)=false:=C9 c6;clear c6;obtain rfl:=CW H;go_enter Tryd.func45,Tryd.ntmps45;go_wp2_with(first|((with_reducible refine BV (N:=3) rfl ?_);refine Cy 3 (#[.int .i64 u,.int .i64 l,.int .i64 E,.int .i64 G,.string q]) 30 ?_;intro O hg fQ W z;have d:=a_ (W);have ar:=BD w hg;have aq:=BD w hg;replace HB:=Bw z;clear z W hg;obtain⟨ew,ey,ez,eA,eB,dE,dF,dG,dH,dI⟩:=CI d.o)|((with_reducible refine BQ (f:=54) rfl ?_);refine BW 16 S4 #[.slice A0 l0.length c0,.int .i64 l] ?_;(with_reducible refine(Bi.calls k _ _ l0 l a _ ?q' ?z' A3.o).mono ?_);(case q'=>exact F0 Y.o);(case z'=>exact ae.o);rintro e w' ⟨rfl,⟨nd,rfl⟩⟩;refine⟨_,rfl,?_⟩)|((with_reducible refine BV (N:=20) rfl ?_);refine Kd.DG Dd _ 68 ?hg (N:=20) ?hd (xs:=([]:List (Ba))) (inner:=[]) (ok:=λ_=>True) (okp:=λ_=>True) ?hr ?hp (λ_ hk=>hk) trivial (RG _ _) (RB _) (by simp) ?_;(case hd=>rfl);(case hg=>rfl);(case hr=>first|(go_simp;done)|(go_simp;rfl));(case hp=>exact(Bn.none _ _));intro bp fR az z DN U;clear DN U;(first|rw[<-au.o]at az|(simp only[Int.reduceToNat]at az;rw[<-au.o]at az));have aa:=a_ (Kd.AU az (Af (Ag)));replace HB:=Bw z;replace d:=a_ (Cr d.o z);clear z az)|((with_reducible refine Bo (b:=.append) (xs:=#[.tmp 20,.tmp 21]) rfl ?_);at_builtin;refine Kd.Cn Dd (w0:=w) w.heap.size rfl (.tmp 20) (.tmp 21) 23 68 (.agg #[(.int .i64 0),(.int .i64 0),(.string ⟨#[]⟩)]) 32 rfl Sf EA rfl (by decide) (by omega) bp ao l0 _ _ _ (λ_=>True) (λ_=>False) rfl rfl ?aO ?aR (λ_ _ h=>h) (λ_ h=>h.elim) ?aF ?aB ?aS ?aL ?_;(case aR=>exact E9 (Kd.Bu Y.o HB.o));(case aB=>exact(Ag));(case aF=>exact(λ_ _=>trivial));(case aO=>exact(AV aa.o));(case aS=>exact(Af (Ag)));(case aL=>have:=bN.o;omega);intro db fS ho z hg ah;rw[<-a0.o]at ho;replace d:=a_ (AO (g:=O) (o:=.cells #[.int .i64 u,.int .i64 l,.int .i64 E,.int .i64 G,.string q] 30 (0,0)) (Bc d.o) hg (Kd.EY aa.o d.o (by decide)));replace HB:=a_ (z);have X:=a_ (ho);clear aa;clear ho z hg ah));go_ret;exact⟨_,C8,by refine AV ?_;exact X.o,Ag⟩
  rw[Rz c5]at H;exact absurd H (by simp)
 rw[Rz c4]at H;have cG:(u==2)=false:=Dr c4;have cH:(u != 2)=true:=RX.mpr c4;replace H:=BR H;obtain⟨⟨L,M,c_⟩,bI,H⟩:=H;try dsimp only at H
 have bU:=a_ bI;clear bI;by_cases bw:c_=true
 ·subst bw;have H1:(if u=1 then((Bd.f k l0 (([(⟨l,0,q⟩:Ba)]:List (Ba))) L M).bind λaI=>(some aI))else((Bt.f k l0 a).bind λi=>((some (([]:List (Ba)):List (Ba))).bind λZ=>(if 0≤a then(if a≤i then(if i≤(l0.length:Int)then((some ((l0.take (i:Int).toNat).drop (a:Int).toNat:List (Ba))).bind λT=>(if Z.length+T.length<4398046511104 then((some (([]:List (Ba)):List (Ba))).bind λJ=>(if a≤(l0.length:Int)then((some (l0.take (a:Int).toNat:List (Ba))).bind λD=>(if J.length+D.length<4398046511104 then((some (J++D:List (Ba))).bind λA=>(if 0≤i then((some (l0.drop (i:Int).toNat:List (Ba))).bind λx=>(if A.length+x.length<4398046511104 then((Bd.f k (A++x) (Z++T) L M).bind λI=>(some I))else(none)))else(none)))else(none)))else(none)))else(none)))else(none))else(none))else(none)))))=some r:=by rw[Ry rfl]at H;exact H
  clear H;have H:=H1;clear H1;by_cases aP:u=1
  ·rw[Ry aP]at H;have cf:(u==1)=true:=RO.mpr aP;have cg:(u != 1)=false:=Fc aP;clear aP;obtain⟨br,hy_⟩:=EM (([(⟨l,0,q⟩:Ba)]:List (Ba)));replace H:((Bd.f k l0 br L M).bind λaI=>(some aI))=some r:=EN;have a2:=a_ hy_;clear hy_;replace H:=BR H;obtain⟨aI,bJ,H⟩:=H;try dsimp only at H
   have dh:=a_ bJ;clear bJ;obtain rfl:=CW H;go_enter Tryd.func45,Tryd.ntmps45;go_wp2_with(first|((with_reducible refine BV (N:=3) rfl ?_);refine Cy 3 (#[.int .i64 u,.int .i64 l,.int .i64 E,.int .i64 G,.string q]) 30 ?_;intro O hg fT W z;have d:=a_ (W);have ar:=BD w hg;have aq:=BD w hg;replace HB:=Bw z;clear z W hg;obtain⟨eC,eD,eE,eF,eG,dJ,dK,dL,dM,dN⟩:=CI d.o)|((with_reducible refine BQ (f:=54) rfl ?_);refine BW 16 S4 #[.slice A0 l0.length c0,.int .i64 l] ?_;(with_reducible refine(Bi.calls k _ _ l0 l a _ ?q' ?z' A3.o).mono ?_);(case q'=>exact F0 Y.o);(case z'=>exact ae.o);rintro e w' ⟨rfl,⟨nd,rfl⟩⟩;refine⟨_,rfl,?_⟩)|((with_reducible refine BQ (f:=56) rfl ?_);refine BW 35 Tryd.func56 #[.slice A0 l0.length c0,.agg #[.int .i64 u,.int .i64 l,.int .i64 E,.int .i64 G,.string q]] ?_;(with_reducible refine(A_.calls k _ _ l0 u l E G q L M true _ ?q' ?z' bU.o).mono ?_);(case q'=>repeat(first|exact(Kd.Bu Y.o (Ag))|(with_reducible refine Kd.C_alloc ?_ _)|(with_reducible refine Kd.B_ ?_ _)|(with_reducible refine Kd.C_drew ?_)));(case z'=>exact ae.o);rintro e fU ⟨rfl,z⟩;refine⟨_,rfl,?_⟩;replace HB:=Bw z;replace d:=a_ (Cr d.o z);(try clear z);obtain⟨eH,eI,eJ,eK,eL,dO,dP,dQ,dR,dS⟩:=CI d.o)|((with_reducible refine BV (N:=53) rfl ?_);refine Kd.DG Dd _ 68 ?hg (N:=53) ?hd (xs:=([(⟨l,0,q⟩:Ba)]:List (Ba))) (inner:=[.int .i64 l,.int .i64 0,.string q]) (ok:=λ_=>True) (okp:=λ_=>True) ?hr ?hp (λ_ hk=>hk) trivial (RG _ _) (RB _) (by simp) ?_;(case hd=>rfl);(case hg=>rfl);(case hr=>first|(go_simp;done)|(go_simp;rfl));(case hp=>exact(Bn.c3 (show Kd.M Dd _ _ _ (⟨l,0,q⟩:Ba) [.int .i64 l,.int .i64 0,.string q]from(GG _ _ _ (⟨l,0,q⟩:Ba) )) (Bn.none _ _)));intro fI fV aA z DN U;clear DN U;(first|rw[<-a2.o]at aA|(simp only[Int.reduceToNat]at aA;rw[<-a2.o]at aA));have af:=a_ (Kd.AU aA (Af (Ag)));replace HB:=Bw z;replace d:=a_ (Cr d.o z);clear z aA;obtain⟨cr,cJ,cN⟩:=Kd.Be af.o;subst cN)|((with_reducible refine BQ (f:=57) rfl ?_);refine BW 56 Tryd.func57 #[.slice A0 l0.length c0,.slice cr br.length cJ,.int .i64 L,.int .i64 M] ?_;(with_reducible refine(Bd.calls k _ _ l0 _ _ br L M aI _ ?q' ?z' ?y' ?v' dh.o).mono ?_);(case q'=>exact F0 Y.o);(case z'=>exact ae.o);(case y'=>exact E9 (Kd.At af.o).2.2);(case v'=>exact(Kd.At af.o).2.1);rintro e fW ⟨fJ,rfl,ax,z⟩;refine⟨_,rfl,?_⟩;have bW:=a_ (Kd.AU (Kd.Et ax (Kd.EH (AV af.o))) (Af (Ag)));replace af:=a_ (Kd.Dq (AV af.o) (Kd.Ch ax) z);replace HB:=Bw z;replace d:=a_ (Cr d.o z);(try clear z ax)));go_ret;exact⟨_,C8,by refine AV ?_;exact Kd.Ai bW.o (λ_ hk=>trivial),Ag⟩
  rw[Rz aP]at H;have cf:(u==1)=false:=Dr aP;have cg:(u != 1)=true:=RX.mpr aP;replace H:=BR H;obtain⟨i,bK,H⟩:=H;try dsimp only at H
  have di:=a_ bK;clear bK;obtain⟨Z,hy_⟩:=EM (([]:List (Ba)));replace H:(if 0≤a then(if a≤i then(if i≤(l0.length:Int)then((some ((l0.take (i:Int).toNat).drop (a:Int).toNat:List (Ba))).bind λT=>(if Z.length+T.length<4398046511104 then((some (([]:List (Ba)):List (Ba))).bind λJ=>(if a≤(l0.length:Int)then((some (l0.take (a:Int).toNat:List (Ba))).bind λD=>(if J.length+D.length<4398046511104 then((some (J++D:List (Ba))).bind λA=>(if 0≤i then((some (l0.drop (i:Int).toNat:List (Ba))).bind λx=>(if A.length+x.length<4398046511104 then((Bd.f k (A++x) (Z++T) L M).bind λI=>(some I))else(none)))else(none)))else(none)))else(none)))else(none)))else(none))else(none))else(none))=some r:=EN;have a3:=a_ hy_;clear hy_;by_cases a8:0≤a
  ·rw[Ry a8]at H;have e1:=RA a8;have e2:decide (0≤a)=true:=BM a8;clear a8;by_cases a9:a≤i
   ·rw[Ry a9]at H;have e3:=RA a9;have e4:decide (a≤i)=true:=BM a9;clear a9;by_cases ba:i≤(l0.length:Int)
    ·rw[Ry ba]at H;have e5:=RA ba;have e6:decide (i≤(l0.length:Int))=true:=BM ba;clear ba;obtain⟨T,hy_⟩:=EM ((l0.take (i:Int).toNat).drop (a:Int).toNat);replace H:(if Z.length+T.length<4398046511104 then((some (([]:List (Ba)):List (Ba))).bind λJ=>(if a≤(l0.length:Int)then((some (l0.take (a:Int).toNat:List (Ba))).bind λD=>(if J.length+D.length<4398046511104 then((some (J++D:List (Ba))).bind λA=>(if 0≤i then((some (l0.drop (i:Int).toNat:List (Ba))).bind λx=>(if A.length+x.length<4398046511104 then((Bd.f k (A++x) (Z++T) L M).bind λI=>(some I))else(none)))else(none)))else(none)))else(none)))else(none))=some r:=EN;have a4:=a_ hy_;clear hy_;by_cases bx:Z.length+T.length<4398046511104
     ·rw[Ry bx]at H;have bZ:=a_ bx;clear bx;obtain⟨aj,hy_⟩:=EM (Z++T);replace H:((some (([]:List (Ba)):List (Ba))).bind λJ=>(if a≤(l0.length:Int)then((some (l0.take (a:Int).toNat:List (Ba))).bind λD=>(if J.length+D.length<4398046511104 then((some (J++D:List (Ba))).bind λA=>(if 0≤i then((some (l0.drop (i:Int).toNat:List (Ba))).bind λx=>(if A.length+x.length<4398046511104 then((Bd.f k (A++x) aj L M).bind λI=>(some I))else(none)))else(none)))else(none)))else(none)))=some r:=EN;have ca:=a_ hy_;clear hy_;obtain⟨J,hy_⟩:=EM (([]:List (Ba)));replace H:(if a≤(l0.length:Int)then((some (l0.take (a:Int).toNat:List (Ba))).bind λD=>(if J.length+D.length<4398046511104 then((some (J++D:List (Ba))).bind λA=>(if 0≤i then((some (l0.drop (i:Int).toNat:List (Ba))).bind λx=>(if A.length+x.length<4398046511104 then((Bd.f k (A++x) aj L M).bind λI=>(some I))else(none)))else(none)))else(none)))else(none))=some r:=EN;have a5:=a_ hy_;clear hy_;have e7:=RA (Bv:0≤a);by_cases bb:a≤(l0.length:Int)
      ·rw[Ry bb]at H;have e8:=RA bb;have e9:decide (a≤(l0.length:Int))=true:=BM bb;clear bb;obtain⟨D,hy_⟩:=EM (l0.take (a:Int).toNat);replace H:(if J.length+D.length<4398046511104 then((some (J++D:List (Ba))).bind λA=>(if 0≤i then((some (l0.drop (i:Int).toNat:List (Ba))).bind λx=>(if A.length+x.length<4398046511104 then((Bd.f k (A++x) aj L M).bind λI=>(some I))else(none)))else(none)))else(none))=some r:=EN;have a6:=a_ hy_;clear hy_;by_cases bz:J.length+D.length<4398046511104
       ·rw[Ry bz]at H;have b6:=a_ bz;clear bz;obtain⟨A,hy_⟩:=EM (J++D);replace H:(if 0≤i then((some (l0.drop (i:Int).toNat:List (Ba))).bind λx=>(if A.length+x.length<4398046511104 then((Bd.f k (A++x) aj L M).bind λI=>(some I))else(none)))else(none))=some r:=EN;have cb:=a_ hy_;clear hy_;by_cases bc:0≤i
        ·rw[Ry bc]at H;have fa:=RA bc;have fb:decide (0≤i)=true:=BM bc;clear bc;have fc:=RA (Bv:i≤(l0.length:Int));obtain⟨x,hy_⟩:=EM (l0.drop (i:Int).toNat);replace H:(if A.length+x.length<4398046511104 then((Bd.f k (A++x) aj L M).bind λI=>(some I))else(none))=some r:=EN;have a7:=a_ hy_;clear hy_;by_cases bA:A.length+x.length<4398046511104
         ·rw[Ry bA]at H;have b7:=a_ bA;clear bA;obtain⟨bu,hy_⟩:=EM (A++x);replace H:((Bd.f k bu aj L M).bind λI=>(some I))=some r:=EN;have cd:=a_ hy_;clear hy_;replace H:=BR H;obtain⟨I,bL,H⟩:=H;try dsimp only at H
          have dj:=a_ bL;clear bL;obtain rfl:=CW H;go_enter Tryd.func45,Tryd.ntmps45;try go_wp2_with(first|((with_reducible refine BV (N:=3) rfl ?_);refine Cy 3 (#[.int .i64 u,.int .i64 l,.int .i64 E,.int .i64 G,.string q]) 30 ?_;intro O hg fX W z;have d:=a_ (W);have ar:=BD w hg;have aq:=BD w hg;replace HB:=Bw z;clear z W hg;obtain⟨eM,eN,eO,eP,eQ,dT,dU,dV,dW,dX⟩:=CI d.o)|((with_reducible refine BQ (f:=54) rfl ?_);refine BW 16 S4 #[.slice A0 l0.length c0,.int .i64 l] ?_;(with_reducible refine(Bi.calls k _ _ l0 l a _ ?q' ?z' A3.o).mono ?_);(case q'=>exact F0 Y.o);(case z'=>exact ae.o);rintro e w' ⟨rfl,⟨nd,rfl⟩⟩;refine⟨_,rfl,?_⟩)|((with_reducible refine BQ (f:=56) rfl ?_);refine BW 35 Tryd.func56 #[.slice A0 l0.length c0,.agg #[.int .i64 u,.int .i64 l,.int .i64 E,.int .i64 G,.string q]] ?_;(with_reducible refine(A_.calls k _ _ l0 u l E G q L M true _ ?q' ?z' bU.o).mono ?_);(case q'=>repeat(first|exact(Kd.Bu Y.o (Ag))|(with_reducible refine Kd.C_alloc ?_ _)|(with_reducible refine Kd.B_ ?_ _)|(with_reducible refine Kd.C_drew ?_)));(case z'=>exact ae.o);rintro e fY ⟨rfl,z⟩;refine⟨_,rfl,?_⟩;replace HB:=Bw z;replace d:=a_ (Cr d.o z);(try clear z);obtain⟨eR,eS,eT,eU,eV,dY,dZ,d_,ea,ec⟩:=CI d.o)|((with_reducible refine BQ (f:=55) rfl ?_);refine BW 59 Tryd.func55 #[.slice A0 l0.length c0,.int .i64 a] ?_;(with_reducible refine(Bt.calls k _ _ l0 a i _ ?q' ?z' di.o).mono ?_);(case q'=>exact F0 Y.o);(case z'=>exact ae.o);rintro e w' ⟨rfl,⟨nd,rfl⟩⟩;refine⟨_,rfl,?_⟩)|((with_reducible refine BV (N:=60) rfl ?_);refine Kd.DG Dd _ 68 ?hg (N:=60) ?hd (xs:=([]:List (Ba))) (inner:=[]) (ok:=λ_=>True) (okp:=λ_=>True) ?hr ?hp (λ_ hk=>hk) trivial (RG _ _) (RB _) (by simp) ?_;(case hd=>rfl);(case hg=>rfl);(case hr=>first|(go_simp;done)|(go_simp;rfl));(case hp=>exact(Bn.none _ _));intro dd fZ aC z DN U;clear DN U;(first|rw[<-a3.o]at aC|(simp only[Int.reduceToNat]at aC;rw[<-a3.o]at aC));have aK:=a_ (Kd.AU aC (Af (Ag)));replace HB:=Bw z;replace d:=a_ (Cr d.o z);clear z aC;have cl:(i:Int)≤((l0.length:Int):Int):=Bv;obtain⟨fE,bh,_,bm,_⟩:=S3 EA;have ab:l0.length≤c0:=ae.o;have bO:Kd.C Dd _ A0 l0.length l0:=Y.o;have cZ:(a:Int)≤(i:Int):=Bv;have cX:(0:Int)≤(a:Int):=Bv;have bD:=LK (P:=Tryd.prog) 23 68 .i64 .i64 Sf bh 3 bm A0 l0.length c0 a i cX cZ cl ab;have aE:=Kd.OK (lo:=(a:Int).toNat) (hi:=(i:Int).toNat) (c:=c0) bO (by omega) (by omega) ab;obtain⟨dk,hA53⟩:∃A1,A1=(if c0=(a:Int).toNat then A0 else(A0:Option Addr).map (·.add ((a:Int).toNat*3))):=⟨_,rfl⟩;obtain⟨fe,bd⟩:∃c1,c1=c0-(a:Int).toNat:=⟨_,rfl⟩;have aV:T.length=(i:Int).toNat-(a:Int).toNat:=(by rw[a4.o,R9,RV] <;> omega);rw[show((l0).take (i:Int).toNat).drop (a:Int).toNat=T from a4.o.symm]at aE;replace aE:Kd.C Dd _ dk T.length T:=(by rw[hA53];exact aE);rw[<-aV,<-hA53,<-bd]at bD;have bY:=a_ aE;have dp:=a_ (show T.length≤fe from by rw[aV,bd];exact SV (RJ (by omega) ab) _);clear aE bO ab bh bm bd;have fw:=a_ aV;have fu:=a_ hA53;clear aV hA53;replace cl:=RA cl)|((with_reducible refine Bo (b:=.append) (xs:=#[.tmp 60,.tmp 64]) rfl ?_);at_builtin;refine Kd.Cn Dd (w0:=w) w.heap.size rfl (.tmp 60) (.tmp 64) 23 68 (.agg #[(.int .i64 0),(.int .i64 0),(.string ⟨#[]⟩)]) 32 rfl Sf EA rfl (by decide) (by omega) dd Z T _ _ _ (λ_=>True) (λ_=>False) rfl rfl ?aO ?aR (λ_ _ h=>h) (λ_ h=>h.elim) ?aF ?aB ?aS ?aL ?_;(case aR=>exact E9 (Kd.Bu bY.o HB.o));(case aB=>exact(Ag));(case aF=>exact(λ_ _=>trivial));(case aO=>exact(AV aK.o));(case aS=>exact(Af (Ag)));(case aL=>have:=bZ.o;omega);intro bS ft ho z hg ah;rw[<-ca.o]at ho;replace d:=a_ (AO (g:=O) (o:=.cells #[.int .i64 u,.int .i64 l,.int .i64 E,.int .i64 G,.string q] 30 (0,0)) (Bc d.o) hg (Kd.EY aK.o d.o (by decide)));replace HB:=a_ (z);have B:=a_ (ho);clear aK;clear ho z hg ah))
          replace B:=a_ (Kd.D_ B.o);replace d:=a_ (Du d.o);replace HB:=a_ (Ay HB.o);have cm:(a:Int)≤((l0.length:Int):Int):=Bv;obtain⟨fF,bj,_,ck,_⟩:=S3 EA;have aH:l0.length≤c0:=ae.o;have bP:Kd.C Dd _ A0 l0.length l0:=Y.o;have bE:=Ih (P:=Tryd.prog) 23 68 .i64 Sf bj A0 l0.length c0 a (Bv) cm aH;have bl:=Kd.GU (m:=(a:Int).toNat) bP (by omega);have bo:D.length=(a:Int).toNat:=(by rw[a6.o,RV];omega)
          rw[<-a6.o]at bl;rw[<-bo]at bE;have aY:=a_ bl;have dq:=a_ (show D.length≤c0 from by omega);clear bl bP aH bj ck;have fx:=a_ bo;clear bo;replace cm:=RA cm;have cn:(i:Int)≤((l0.length:Int):Int):=Bv;obtain⟨fG,bk,_,bn,_⟩:=S3 EA;have ak:l0.length≤c0:=ae.o;have bQ:Kd.C Dd _ A0 l0.length l0:=Y.o;have cY:(0:Int)≤(i:Int):=Bv;have bF:=Gs (P:=Tryd.prog) 23 68 .i64 Sf bk 3 bn A0 l0.length c0 i cY cn;have aG:=Kd.JK (m:=(i:Int).toNat) (c:=c0) bQ (by omega) ak;obtain⟨dm,hA57⟩:∃A1,A1=(if c0=(i:Int).toNat then A0 else(A0:Option Addr).map (·.add ((i:Int).toNat*3))):=⟨_,rfl⟩
          obtain⟨fg,be⟩:∃c1,c1=c0-(i:Int).toNat:=⟨_,rfl⟩
          have aW:x.length=l0.length-(i:Int).toNat:=(by rw[a7.o,R9] <;> omega)
          rw[show(l0).drop (i:Int).toNat=x from a7.o.symm]at aG;replace aG:Kd.C Dd _ dm x.length x:=(by rw[hA57];exact aG)
          rw[<-aW,<-hA57,<-be]at bF;have aZ:=a_ aG;have dr:=a_ (show x.length≤fg from by rw[aW,be];exact SV ak _);clear aG bQ ak bk bn be;have fy:=a_ aW;have fv:=a_ hA57;clear aW hA57;replace cn:=RA cn;refine Cl (n:=10) (S:=λw'=>True) (ds:=[]) #[false,false,false,false,false,false,false,false,false,false] (by kernel_rfl) rfl rfl trivial (λav=>?_);refine B1 BC.L6 BC.JW (λHT_ HW_=>?_);generalize ft.drew=f_ at B d HB aY aZ av⊢;refine Bf 1 67 ?_;refine Bf 2 68 ?_;refine Bf 3 69 ?_;refine Bf 5 71 ?_;refine Bf 6 72 ?_;refine Bf 7 73 ?_;refine E7 0 66 (λK hK=>?_);refine Kd.DU Dd _ 68 ?hg (N:=66) ?hd (xs:=([]:List (Ba))) (inner:=[]) (ok:=λ_=>True) (okp:=λ_=>True) ?hr ?hp (λ_ hk=>hk) trivial (RG _ _) (RB _) (by simp) ?_;(case hd=>rfl);(case hg=>rfl);(case hr=>first|(go_simp;done)|(go_simp;rfl));(case hp=>exact(Bn.none _ _));intro de ga an z DN U;clear DN U;(first|rw[<-a5.o]at an|(simp only[Int.reduceToNat]at an;rw[<-a5.o]at an));have aM:=a_ (Kd.AU (Kd.Et an (Kd.EH (AV B.o))) (Af (Ag)));replace B:=a_ (Kd.Dq (AV B.o) (Kd.Ch an) z);replace HB:=Bw z;replace d:=a_ (Cr d.o z);clear z an;refine hK.out _ _ trivial (λav=>?_);clear hK K;refine Er 66 ?_;refine E7 4 70 (λK hK=>?_);refine Kd.Cb Dd (w0:=w) w.heap.size (by rfl) (.tmp 66) (.tmp 69) 23 68 (.agg #[(.int .i64 0),(.int .i64 0),(.string ⟨#[]⟩)]) 32 rfl Sf EA rfl (by decide) (by omega) de J D _ _ _ (λk_=>some k_≠(bS:Value).ownBlock) (λ_=>False) rfl rfl ?aO ?aR (λ_ _ h=>h) (λ_ h=>h.elim) ?aF ?aB ?aS ?aL ?_;(case aR=>exact E9 (Kd.Bu aY.o HB.o));(case aB=>exact(Ag));(case aF=>exact(λk_ hk=>Kd.Fk (Kd.EH (AV B.o)) k_ hk));(case aO=>exact(by refine AV ?_;exact Kd.Ai aM.o (λ_ hk=>hk.2)));(case aS=>exact(Af (Ag)));(case aL=>have:=b6.o;omega);intro df gb ho z hg ah;rw[<-cb.o]at ho;replace d:=a_ (AO (g:=O) (o:=.cells #[.int .i64 u,.int .i64 l,.int .i64 E,.int .i64 G,.string q] 30 (0,0)) (Bc d.o) hg (Kd.EY aM.o d.o (by decide)));replace B:=a_ (Kd.F6 (ok:=(λ_=>True)) (AV B.o) hg ah);replace HB:=a_ (z);have aN:=a_ (ho);clear aM;clear ho z hg ah;refine hK.out _ _ trivial (λav=>?_);clear hK K;refine Er 70 ?_;refine E7 8 74 (λK hK=>?_);refine Kd.Cb Dd (w0:=w) w.heap.size (by rfl) (.tmp 70) (.tmp 73) 23 68 (.agg #[(.int .i64 0),(.int .i64 0),(.string ⟨#[]⟩)]) 32 rfl Sf EA rfl (by decide) (by omega) df A x _ _ _ (λk_=>some k_≠(bS:Value).ownBlock) (λ_=>False) rfl rfl ?aO ?aR (λ_ _ h=>h) (λ_ h=>h.elim) ?aF ?aB ?aS ?aL ?_;(case aR=>exact E9 (Kd.Bu aZ.o HB.o));(case aB=>exact(Ag));(case aF=>exact(λk_ hk=>Kd.Fk (Kd.EH (AV B.o)) k_ hk));(case aO=>exact(AV aN.o));(case aS=>exact(Af (Ag)));(case aL=>have:=b7.o;omega);intro fK gf ho z hg ah;rw[<-cd.o]at ho;replace d:=a_ (AO (g:=O) (o:=.cells #[.int .i64 u,.int .i64 l,.int .i64 E,.int .i64 G,.string q] 30 (0,0)) (Bc d.o) hg (Kd.EY aN.o d.o (by decide)));replace B:=a_ (Kd.F6 (ok:=(λ_=>True)) (AV B.o) hg ah);replace HB:=a_ (z);have ag:=a_ (ho);clear aN;clear ho z hg ah;refine hK.out _ _ trivial (λav=>?_);clear hK K;refine Er 74 ?_;refine Bf 9 12 ?_;refine CV (CT HT_.o (by kernel_rfl)) ?_;obtain⟨ct,cK,cO⟩:=Kd.Be ag.o;subst cO;obtain⟨cu,cL,cP⟩:=Kd.Be B.o;subst cP;try go_wp2_with(first|((with_reducible refine BQ (f:=57) rfl ?_);refine BW 79 Tryd.func57 #[.slice ct bu.length cK,.slice cu aj.length cL,.int .i64 L,.int .i64 M] ?_;(with_reducible refine(Bd.calls k _ _ bu _ _ aj L M I _ ?q' ?z' ?y' ?v' dj.o).mono ?_);(case q'=>exact E9 (Kd.At ag.o).2.2);(case z'=>exact(Kd.At ag.o).2.1);(case y'=>exact E9 (Kd.At B.o).2.2);(case v'=>exact(Kd.At B.o).2.1);rintro e gg ⟨fL,rfl,ax,z⟩;refine⟨_,rfl,?_⟩;have bX:=a_ (Kd.AU (Kd.Et (Kd.Et ax (Kd.EH (AV B.o))) (Kd.EH (AV ag.o))) (Af (Ag)));replace B:=a_ (Kd.Dq (AV B.o) (Kd.Ch ax) z);replace ag:=a_ (Kd.Dq (AV ag.o) (Kd.Ch ax) z);replace HB:=Bw z;replace d:=a_ (Cr d.o z);(try clear z ax)))
          go_ret;exact⟨_,C8,by refine AV ?_;exact Kd.Ai bX.o (λ_ hk=>trivial),Ag⟩
         rw[Rz bA]at H;exact absurd H (by simp)
        rw[Rz bc]at H;exact absurd H (by simp)
       rw[Rz bz]at H;exact absurd H (by simp)
      rw[Rz bb]at H;exact absurd H (by simp)
     rw[Rz bx]at H;exact absurd H (by simp)
    rw[Rz ba]at H;exact absurd H (by simp)
   rw[Rz a9]at H;exact absurd H (by simp)
  rw[Rz a8]at H;exact absurd H (by simp)
 replace bw:=RE.mpr bw;subst bw;have H1:((some (([]:List (Ba)):List (Ba))).bind λai=>(if ai.length+l0.length<4398046511104 then(some (ai++l0))else(none)))=some r:=by rw[Rz (show¬ (false=true) by decide)]at H;exact H
 clear H;have H:=H1;clear H1;obtain⟨ai,hy_⟩:=EM (([]:List (Ba)));replace H:(if ai.length+l0.length<4398046511104 then(some (ai++l0))else(none))=some r:=EN;have a1:=a_ hy_;clear hy_;by_cases bB:ai.length+l0.length<4398046511104
 ·rw[Ry bB]at H;have b8:=a_ bB;clear bB;obtain⟨dg,hy_⟩:=EM (ai++l0);replace H:(some dg)=some r:=EN;have b_:=a_ hy_;clear hy_;obtain rfl:=CW H;go_enter Tryd.func45,Tryd.ntmps45;go_wp2_with(first|((with_reducible refine BV (N:=3) rfl ?_);refine Cy 3 (#[.int .i64 u,.int .i64 l,.int .i64 E,.int .i64 G,.string q]) 30 ?_;intro O hg gh W z;have d:=a_ (W);have ar:=BD w hg;have aq:=BD w hg;replace HB:=Bw z;clear z W hg;obtain⟨eW,eX,eY,eZ,e0,ed,ee,ef,eg,eh⟩:=CI d.o)|((with_reducible refine BQ (f:=54) rfl ?_);refine BW 16 S4 #[.slice A0 l0.length c0,.int .i64 l] ?_;(with_reducible refine(Bi.calls k _ _ l0 l a _ ?q' ?z' A3.o).mono ?_);(case q'=>exact F0 Y.o);(case z'=>exact ae.o);rintro e w' ⟨rfl,⟨nd,rfl⟩⟩;refine⟨_,rfl,?_⟩)|((with_reducible refine BQ (f:=56) rfl ?_);refine BW 35 Tryd.func56 #[.slice A0 l0.length c0,.agg #[.int .i64 u,.int .i64 l,.int .i64 E,.int .i64 G,.string q]] ?_;(with_reducible refine(A_.calls k _ _ l0 u l E G q L M false _ ?q' ?z' bU.o).mono ?_);(case q'=>repeat(first|exact(Kd.Bu Y.o (Ag))|(with_reducible refine Kd.C_alloc ?_ _)|(with_reducible refine Kd.B_ ?_ _)|(with_reducible refine Kd.C_drew ?_)));(case z'=>exact ae.o);rintro e gi ⟨rfl,z⟩;refine⟨_,rfl,?_⟩;replace HB:=Bw z;replace d:=a_ (Cr d.o z);(try clear z))|((with_reducible refine BV (N:=41) rfl ?_);refine Kd.DG Dd _ 68 ?hg (N:=41) ?hd (xs:=([]:List (Ba))) (inner:=[]) (ok:=λ_=>True) (okp:=λ_=>True) ?hr ?hp (λ_ hk=>hk) trivial (RG _ _) (RB _) (by simp) ?_;(case hd=>rfl);(case hg=>rfl);(case hr=>first|(go_simp;done)|(go_simp;rfl));(case hp=>exact(Bn.none _ _));intro dc gj aD z DN U;clear DN U;(first|rw[<-a1.o]at aD|(simp only[Int.reduceToNat]at aD;rw[<-a1.o]at aD));have aJ:=a_ (Kd.AU aD (Af (Ag)));replace HB:=Bw z;replace d:=a_ (Cr d.o z);clear z aD)|((with_reducible refine Bo (b:=.append) (xs:=#[.tmp 41,.tmp 42]) rfl ?_);at_builtin;refine Kd.Cn Dd (w0:=w) w.heap.size rfl (.tmp 41) (.tmp 42) 23 68 (.agg #[(.int .i64 0),(.int .i64 0),(.string ⟨#[]⟩)]) 32 rfl Sf EA rfl (by decide) (by omega) dc ai l0 _ _ _ (λ_=>True) (λ_=>False) rfl rfl ?aO ?aR (λ_ _ h=>h) (λ_ h=>h.elim) ?aF ?aB ?aS ?aL ?_;(case aR=>exact E9 (Kd.Bu Y.o HB.o));(case aB=>exact(Ag));(case aF=>exact(λ_ _=>trivial));(case aO=>exact(AV aJ.o));(case aS=>exact(Af (Ag)));(case aL=>have:=b8.o;omega);intro fH gl ho z hg ah;rw[<-b_.o]at ho;replace d:=a_ (AO (g:=O) (o:=.cells #[.int .i64 u,.int .i64 l,.int .i64 E,.int .i64 G,.string q] 30 (0,0)) (Bc d.o) hg (Kd.EY aJ.o d.o (by decide)));replace HB:=a_ (z);have bV:=a_ (ho);clear aJ;clear ho z hg ah));go_ret;exact⟨_,C8,by refine AV ?_;exact bV.o,Ag⟩
 rw[Rz bB]at H;exact absurd H (by simp)
def BS.l0:Nat->List (Ba)->List (AQ)->Int->Option ((List (Ba)))
 | 0,_,_,_=>none
 | k+1,e,c,a=>if a<(c.length:Int)then(if 0≤a then((BC.f k e ((Aa c a).f2.f0) ((Aa c a).f2.f1) ((Aa c a).f2.f2) ((Aa c a).f2.f3) ((Aa c a).f2.f4)).bind λd=>(BS.l0 k d c (wrap64 (a+1))))else(none))else((some (([]:List (Ba)):List (Ba))).bind λb=>(if b.length+e.length<4398046511104 then(some (b++e))else(none)))
def BS.f(k:Nat)(l0:List (Ba))(l1:List (AQ)):Option ((List (Ba))):=BS.l0 k l0 l1 0
theorem BS.calls(k:Nat)(B:Nat->Prop)(A0:Option Addr)(c0:Nat)(l0:List (Ba))(A1:Option Addr)(c1:Nat)(l1:List (AQ))(r:List (Ba))(w:World)(al:Kd.V Dd 68 w w.heap.size (λg=>B g) (.slice A0 l0.length c0) l0)(Z:Kd.C Ck w A1 l1.length l1)(Y:l1.length≤c1)(h:BS.f k l0 l1=some r) :
  Calls Tryd.prog 25 #[.slice A0 l0.length c0,.slice A1 l1.length c1] w λe w'=>∃aa:Value,e=.returned (aa)∧Kd.R Dd 68 w' w.heap.size (λg=>(w.heap.size≤g)) aa r∧Below w.heap.size w w':=by
 have ar:=RW;have ag:=a_ (show Kd.V Dd 68 w w.heap.size (λg=>(B g∨w.heap.size≤g)) (.slice A0 l0.length c0) l0 from Kd.AD al (λg u=>.inl u));have ah:=a_ Z;have aw:=a_ Y;clear Z Y;have HB:=a_ (RG w.heap.size w);unfold BS.f at h;have H:=h;clear h;have H':=a_ H;clear H;go_enter Tryd.func25,Tryd.ntmps25;go_wp2;go_loopg [0,5] k (λkq v0 v5 w'=>∃(d:List (Ba)) (a:Int),v5=.int .i64 a∧Ac (BS.l0 kq d l1 a=some r)∧Ac (kq≤k)∧Ac (Kd.V Dd 68 w' w.heap.size (λg=>(B g∨w.heap.size≤g)) v0 d)∧Ac (Below w.heap.size w w'))
 case atStart=>exact⟨(l0),(0),(CA),H',⟨RB _⟩,⟨by refine Dj ?_;exact ag.o⟩,⟨Ag⟩⟩
 clear H';try clear c1
 obtain⟨d,a,rfl,HA,O,c,HB⟩:=hrel;cases gk with
 | zero=>exact absurd HA.o (by simp[BS.l0])
 | succ k1 =>
  have H:=HA.o
  clear HA
  simp only[BS.l0]at H
  by_cases c3:a<(l1.length:Int)
  ·rw[Ry c3]at H
   have T:decide (a<(l1.length:Int))=true:=BM c3
   clear c3
   by_cases c4:0≤a
   ·rw[Ry c4]at H
    have ao:decide (0≤a)=true:=BM c4
    clear c4
    replace H:=BR H
    obtain⟨D,L,H⟩:=H
    try dsimp only at H
    have A5:=a_ L
    clear L
    have H':=a_ H
    clear H
    have y:0≤(a:Int):=Bv
    have z:a<(l1.length:Int):=Bv
    obtain⟨ai,U,j,l,m,n,o,p,q⟩:=CQ ah.o a y z
    cases U
    replace j:=(Az HB.o j:)
    replace l:=(Az HB.o l:)
    replace m:=(Az HB.o m:)
    replace n:=(Az HB.o n:)
    replace o:=(Az HB.o o:)
    replace p:=(Az HB.o p:)
    replace q:=(Az HB.o q:)
    replace y:=RA y
    replace z:=RA z
    obtain⟨af,aj,ak⟩:=Kd.Cd c.o
    subst ak
    go_wp2_with(first|((with_reducible refine BQ (f:=45) rfl ?_);refine BW 18 TU #[.slice af d.length aj,.agg #[.int .i64 ((Aa l1 a).f2.f0),.int .i64 ((Aa l1 a).f2.f1),.int .i64 ((Aa l1 a).f2.f2),.int .i64 ((Aa l1 a).f2.f3),.string ((Aa l1 a).f2.f4)]] ?_;(with_reducible refine(BC.calls k1 _ _ d ((Aa l1 a).f2.f0) ((Aa l1 a).f2.f1) ((Aa l1 a).f2.f2) ((Aa l1 a).f2.f3) ((Aa l1 a).f2.f4) D _ ?q' ?z' A5.o).mono ?_);(case q'=>repeat(first|exact(Kd.AY c.o).2.2|(with_reducible refine Kd.C_alloc ?_ _)|(with_reducible refine Kd.B_ ?_ _)|(with_reducible refine Kd.C_drew ?_)));(case z'=>exact(Kd.AY c.o).2.1);rintro e w7 ⟨au,rfl,K,A⟩;refine⟨_,rfl,?_⟩;replace c:=a_ (Kd.DA (Dj c.o) (Kd.Ch K) A);have E:=a_ (Kd.AU (Kd.FE (M:=λg=>(w.heap.size≤g)) K (Af (Ag)) (λg h_=>h_)) (Af (Ag)));replace HB:=Bw A;(try clear A K)))
    go_roundg k1
    case measure=>have:=O.o;omega
    case rel=>exact⟨(D),(wrap64 (a+1)),(CA),H',⟨by have:=O.o;omega⟩,⟨Kd.AD (Kd.MH (by refine AV ?_;exact Kd.Ai E.o (λ_ u=>u.1))) (λg u=>by first|exact⟨(.inr (u.1)),u.2⟩|exact(.inr (u)))⟩,⟨Ag⟩⟩
   ·rw[Rz c4]at H
    exact absurd H (by simp)
  ·rw[Rz c3]at H
   have T:decide (a<(l1.length:Int))=false:=C9 c3
   clear c3
   obtain⟨t,hy_⟩:=EM (([]:List (Ba)))
   replace H:(if t.length+d.length<4398046511104 then(some (t++d))else(none))=some r:=EN
   have x:=a_ hy_
   clear hy_
   by_cases c8:t.length+d.length<4398046511104
   ·rw[Ry c8]at H
    have P:=a_ c8
    clear c8
    obtain⟨ae,hy_⟩:=EM (t++d)
    replace H:(some ae)=some r:=EN
    have I:=a_ hy_
    clear hy_
    obtain rfl:=CW H
    go_wp2_with(first|((with_reducible refine BV (N:=19) rfl ?_);refine Kd.DG Dd _ 68 ?hg (N:=19) ?hd (xs:=([]:List (Ba))) (inner:=[]) (ok:=λ_=>True) (okp:=λ_=>True) ?hr ?hp (λ_ u=>u) trivial (RG _ _) (RB _) (by simp) ?_;(case hd=>rfl);(case hg=>rfl);(case hr=>first|(go_simp;done)|(go_simp;rfl));(case hp=>exact(Bn.none _ _));intro ab w9 i A DN J;clear DN J;(first|rw[<-x.o]at i|(simp only[Int.reduceToNat]at i;rw[<-x.o]at i));replace c:=a_ (Kd.DA (Dj c.o) (Kd.Ch i) A);have v:=a_ (Kd.AU (Kd.FE (M:=λg=>(w.heap.size≤g)) i (Af (Ag)) (λg h_=>h_)) (Af (Ag)));replace HB:=Bw A;clear A i;obtain⟨an,aq,W⟩:=Kd.Cd c.o;subst W)|((with_reducible refine Bo (b:=.append) (xs:=#[.tmp 19,.tmp 20]) rfl ?_);at_builtin;refine Kd.Cn Dd (w0:=w) w.heap.size rfl (.tmp 19) (.tmp 20) 23 68 (.agg #[(.int .i64 0),(.int .i64 0),(.string ⟨#[]⟩)]) 32 rfl Sf EA rfl (by decide) (by omega) ab t d _ _ _ (λg=>(w.heap.size≤g)) (λ_=>False) rfl rfl ?aO ?aR (λ_ _ h=>h) (λ_ h=>h.elim) ?aF ?aB ?aS ?aL ?_;(case aR=>repeat(first|exact(Kd.AY c.o).2.2|(with_reducible refine Kd.C_alloc ?_ _)|(with_reducible refine Kd.B_ ?_ _)|(with_reducible refine Kd.C_drew ?_)));(case aB=>exact(Ag));(case aF=>exact(λg u=>(RJ (Af (Ag)) u)));(case aO=>exact(by refine AV ?_;exact Kd.Ai v.o (λ_ u=>u.1)));(case aS=>exact(Af (Ag)));(case aL=>have:=P.o;omega);intro av ax ho A hg X;rw[<-I.o]at ho;replace c:=a_ (Kd.Gp (ok:=(λg=>(B g∨w.heap.size≤g))) (Dj c.o) hg X);replace HB:=a_ (A);have G:=a_ (ho);clear v;clear ho A hg X))
    go_ret
    exact⟨_,C8,by refine AV ?_;exact G.o,Ag⟩
   ·rw[Rz c8]at H
    exact absurd H (by simp)
def CB.f(b:Int):Option (Bool):=(Ar.f b 1 3).bind λa=>(some a)
theorem CB.calls(c:Int)(r:Bool)(w:World)(h:CB.f c=some r) :
  Calls Tryd.prog 40 #[.int .i64 c] w λe w'=>e=.returned (.bool r)∧As w w':=by
 unfold CB.f at h;have H:=h;clear h;replace H:=BR H;obtain⟨b,a,H⟩:=H;try dsimp only at H
 have d:=a_ a;clear a;obtain rfl:=CW H;go_enter Tryd.func40,Tryd.ntmps40;go_wp2_with(first|((with_reducible refine BQ (f:=20) rfl ?_);refine BW 4 Sw #[.int .i64 c,.int .i64 1,.int .i64 3] ?_;(with_reducible refine(Ar.calls c 1 3 b _ d.o).mono ?_);rintro e w' ⟨rfl,⟨nd,rfl⟩⟩;refine⟨_,rfl,?_⟩));go_ret;exact⟨CA,by repeat(first|exact As.refl _|apply As.step)⟩
def Dh.f(c:Int):Option (Bool):=(CB.f c).bind λa=>(if a=true then(some true)else((Bk.f c).bind λb=>(some b)))
theorem Dh.calls(b:Int)(r:Bool)(w:World)(h:Dh.f b=some r) :
  Calls Tryd.prog 33 #[.int .i64 b] w λe w'=>e=.returned (.bool r)∧As w w':=by
 unfold Dh.f at h;have H:=h;clear h;replace H:=BR H;obtain⟨g,c,H⟩:=H;try dsimp only at H
 have i:=a_ c;clear c;by_cases c3:g=true
 ·subst c3;have H1:(some true)=some r:=by rw[Ry rfl]at H;exact H
  clear H;have H:=H1;clear H1;obtain rfl:=CW H;go_enter Tryd.func33,Tryd.ntmps33;go_wp2_with(first|((with_reducible refine BQ (f:=40) rfl ?_);refine BW 4 Tn #[.int .i64 b] ?_;(with_reducible refine(CB.calls b true _ i.o).mono ?_);rintro e w' ⟨rfl,⟨nd,rfl⟩⟩;refine⟨_,rfl,?_⟩));go_ret;exact⟨CA,by repeat(first|exact As.refl _|apply As.step)⟩
 replace c3:=RE.mpr c3;subst c3;have H1:((Bk.f b).bind λa=>(some a))=some r:=by rw[Rz (show¬ (false=true) by decide)]at H;exact H
 clear H;have H:=H1;clear H1;replace H:=BR H;obtain⟨a,d,H⟩:=H;try dsimp only at H
 have j:=a_ d;clear d;obtain rfl:=CW H;go_enter Tryd.func33,Tryd.ntmps33;go_wp2_with(first|((with_reducible refine BQ (f:=40) rfl ?_);refine BW 4 Tn #[.int .i64 b] ?_;(with_reducible refine(CB.calls b false _ i.o).mono ?_);rintro e w' ⟨rfl,⟨nd,rfl⟩⟩;refine⟨_,rfl,?_⟩)|(go_at_call 31;(with_reducible refine(Bk.calls b a _ j.o).mono ?_);rintro e w' ⟨rfl,⟨nd,rfl⟩⟩));go_ret;exact⟨CA,by repeat(first|exact As.refl _|apply As.step)⟩
def Cf.j0:Nat->Bool->Int->Int->Int->Int->ByteArray->Option (Bool)
 | 0,_,_,_,_,_,_=>none
 | k+1,m,b,l,c,a,d=>if m=true then(some false)else(if b=1 then((Dh.f c).bind λe=>(if e=true then(if a=0 then(some true)else((Bk.f a).bind λg=>(some g)))else(some false)))else(if b=2 then(if c=0 then(some (a==0))else(some false))else(if b=3 then((Dh.f c).bind λi=>(if i=true then(if a=0 then(some (d.toList==([]:List UInt8)))else((Bk.f a).bind λj=>(if j=true then(some (d.toList==([]:List UInt8)))else(some false))))else(some false)))else(some false))))
def Cf.f(k:Nat)(c:Int)(a:Int)(d:Int)(e:Int)(b:ByteArray):Option (Bool):=(Bk.f a).bind λg=>(if g=true then((Bz.f k b).bind λi=>(Cf.j0 k (!i) c a d e b))else(Cf.j0 k true c a d e b))
theorem Cf.calls(k:Nat)(c:Int)(i:Int)(a:Int)(b:Int)(g:ByteArray)(r:Bool)(w:World)(h:Cf.f k c i a b g=some r) :
  Calls Tryd.prog 12 #[.agg #[.int .i64 c,.int .i64 i,.int .i64 a,.int .i64 b,.string g]] w λe w'=>e=.returned (.bool r)∧Below w.heap.size w w':=by
 have cF:=RW;have HB:=a_ (RG w.heap.size w);unfold Cf.f at h;have H:=h;clear h;have L:=a_ H;clear H;go_enter Tryd.func12,Tryd.ntmps12;go_upto_region 1 with(first|((with_reducible refine BV (N:=1) rfl ?_);refine Cy 1 (#[.int .i64 c,.int .i64 i,.int .i64 a,.int .i64 b,.string g]) 30 ?_;intro ag hg w3 J hb;have d:=a_ (J);have aL:=BD w hg;have aK:=BD w hg;replace HB:=Bw hb;clear hb J hg))
 (try simp only[Act.put,List.setIfInBounds_toArray,List.set_cons_zero,List.set_cons_succ]);go_cut [12] (λcE wc=>∃(kq:Nat) (j:Bool),cE=.bool j∧Ac (Cf.j0 kq j c i a b g=some r)∧Ac (kq≤k)∧Ac (wc.heap[ag]?=some (.cells #[.int .i64 c,.int .i64 i,.int .i64 a,.int .i64 b,.string g] 30 (0,0)))∧Ac (Below w.heap.size w wc))
 case first =>
  have H:=L.o;clear L;replace H:=BR H;obtain⟨aI,ai,H⟩:=H;try dsimp only at H
  have A4:=a_ ai;clear ai;by_cases c5:aI=true
  ·subst c5;have H1:((Bz.f k g).bind λu=>(Cf.j0 k (!u) c i a b g))=some r:=by rw[Ry rfl]at H;exact H
   clear H;have H:=H1;clear H1;replace H:=BR H;obtain⟨u,aj,H⟩:=H;try dsimp only at H
   have A6:=a_ aj;clear aj;have H':=a_ H;clear H;obtain⟨ay,az,aA,aB,aC,ak,al,an,ao,aq⟩:=CI d.o;go_wp2_with(first|((with_reducible refine BQ (f:=31) rfl ?_);refine BW 5 Tf #[.int .i64 i] ?_;(with_reducible refine(Bk.calls i true _ A4.o).mono ?_);rintro e w' ⟨rfl,⟨nd,rfl⟩⟩;refine⟨_,rfl,?_⟩)|(go_at_call 32;(with_reducible refine(Bz.calls k g u _ A6.o).mono ?_);rintro e w' ⟨rfl,⟨nd,rfl⟩⟩));go_meet
   exact⟨_,(!u),(CA),H',⟨by first|omega|exact RB _⟩,⟨Bc d.o⟩,⟨Ag⟩⟩
  replace c5:=RE.mpr c5;subst c5;have H1:(Cf.j0 k true c i a b g)=some r:=by rw[Rz (show¬ (false=true) by decide)]at H;exact H
  clear H;have H:=H1;clear H1;have H':=a_ H;clear H;obtain⟨aD,aE,aF,aG,aH,ar,au,av,aw,ax⟩:=CI d.o;go_wp2_with(first|((with_reducible refine BQ (f:=31) rfl ?_);refine BW 5 Tf #[.int .i64 i] ?_;(with_reducible refine(Bk.calls i false _ A4.o).mono ?_);rintro e w' ⟨rfl,⟨nd,rfl⟩⟩;refine⟨_,rfl,?_⟩));go_meet
  exact⟨_,(true),(CA),H',⟨by first|omega|exact RB _⟩,⟨Bc d.o⟩,⟨Ag⟩⟩
 clear L;try clear c1
 try clear c5
 try clear ay az aA aB aC ak al an ao aq
 try clear aD aE aF aG aH ar au av aw ax
 obtain⟨kq,j,rfl,HA,cG,d,HB⟩:=hcut;cases kq with
 | zero=>exact absurd HA.o (by simp[Cf.j0])
 | succ cH =>
  have H:=HA.o
  clear HA
  simp only[Cf.j0]at H
  by_cases c9:j=true
  ·subst c9
   have H1:(some false)=some r:=by rw[Ry rfl]at H;exact H
   clear H
   have H:=H1
   clear H1
   obtain rfl:=CW H
   go_wp2
   go_ret
   exact⟨C8,Ag⟩
  ·replace c9:=RE.mpr c9
   subst c9
   have H1:(if c=1 then((Dh.f a).bind λv=>(if v=true then(if b=0 then(some true)else((Bk.f b).bind λl=>(some l)))else(some false)))else(if c=2 then(if a=0 then(some (b==0))else(some false))else(if c=3 then((Dh.f a).bind λx=>(if x=true then(if b=0 then(some (g.toList==([]:List UInt8)))else((Bk.f b).bind λm=>(if m=true then(some (g.toList==([]:List UInt8)))else(some false))))else(some false)))else(some false))))=some r:=by rw[Rz (show¬ (false=true) by decide)]at H;exact H
   clear H
   have H:=H1
   clear H1
   by_cases DM:c=1
   ·rw[Ry DM]at H
    have M:(c==1)=true:=RO.mpr DM
    have O:(c != 1)=false:=Fc DM
    clear DM
    replace H:=BR H
    obtain⟨v,D,H⟩:=H
    try dsimp only at H
    have K:=a_ D
    clear D
    by_cases z:v=true
    ·subst z
     have H1:(if b=0 then(some true)else((Bk.f b).bind λl=>(some l)))=some r:=by rw[Ry rfl]at H;exact H
     clear H
     have H:=H1
     clear H1
     by_cases n:b=0
     ·rw[Ry n]at H
      have P:(b==0)=true:=RO.mpr n
      have T:(b != 0)=false:=Fc n
      clear n
      obtain rfl:=CW H
      obtain⟨bF,bG,bH,bI,bJ,aM,aN,aO,aP,aQ⟩:=CI (W:=wc) d.o
      go_wp2_with(first|((with_reducible refine BQ (f:=33) rfl ?_);refine BW 19 Ts #[.int .i64 a] ?_;(with_reducible refine(Dh.calls a true _ K.o).mono ?_);rintro e w' ⟨rfl,⟨nd,rfl⟩⟩;refine⟨_,rfl,?_⟩))
      go_ret
      exact⟨C8,Ag⟩
     ·rw[Rz n]at H
      have P:(b==0)=false:=Dr n
      have T:(b != 0)=true:=RX.mpr n
      replace H:=BR H
      obtain⟨l,E,H⟩:=H
      try dsimp only at H
      have aJ:=a_ E
      clear E
      obtain rfl:=CW H
      obtain⟨bK,bL,bM,bN,bO,aR,aS,aT,aU,aV⟩:=CI (W:=wc) d.o
      go_wp2_with(first|((with_reducible refine BQ (f:=33) rfl ?_);refine BW 19 Ts #[.int .i64 a] ?_;(with_reducible refine(Dh.calls a true _ K.o).mono ?_);rintro e w' ⟨rfl,⟨nd,rfl⟩⟩;refine⟨_,rfl,?_⟩)|(go_at_call 31;(with_reducible refine(Bk.calls b l _ aJ.o).mono ?_);rintro e w' ⟨rfl,⟨nd,rfl⟩⟩))
      go_ret
      exact⟨C8,Ag⟩
    ·replace z:=RE.mpr z
     subst z
     have H1:(some false)=some r:=by rw[Rz (show¬ (false=true) by decide)]at H;exact H
     clear H
     have H:=H1
     clear H1
     obtain rfl:=CW H
     obtain⟨bP,bQ,bR,bS,bT,aW,aX,aY,aZ,a0⟩:=CI (W:=wc) d.o
     go_wp2_with(first|((with_reducible refine BQ (f:=33) rfl ?_);refine BW 19 Ts #[.int .i64 a] ?_;(with_reducible refine(Dh.calls a false _ K.o).mono ?_);rintro e w' ⟨rfl,⟨nd,rfl⟩⟩;refine⟨_,rfl,?_⟩))
     go_ret
     exact⟨C8,Ag⟩
   ·rw[Rz DM]at H
    have M:(c==1)=false:=Dr DM
    have O:(c != 1)=true:=RX.mpr DM
    by_cases o:c=2
    ·rw[Ry o]at H
     have U:(c==2)=true:=RO.mpr o
     have X:(c != 2)=false:=Fc o
     clear o
     by_cases p:a=0
     ·rw[Ry p]at H
      have Y:(a==0)=true:=RO.mpr p
      have Z:(a != 0)=false:=Fc p
      clear p
      obtain rfl:=CW H
      obtain⟨bU,bV,bW,bX,bY,a1,a2,a3,a4,a5⟩:=CI (W:=wc) d.o
      go_wp2
      go_ret
      exact⟨C8,Ag⟩
     ·rw[Rz p]at H
      have Y:(a==0)=false:=Dr p
      have Z:(a != 0)=true:=RX.mpr p
      obtain rfl:=CW H
      obtain⟨bZ,b6,b7,b8,b9,a6,a7,a8,a9,ba⟩:=CI (W:=wc) d.o
      go_wp2
      go_ret
      exact⟨C8,Ag⟩
    ·rw[Rz o]at H
     have U:(c==2)=false:=Dr o
     have X:(c != 2)=true:=RX.mpr o
     by_cases q:c=3
     ·rw[Ry q]at H
      have aa:(c==3)=true:=RO.mpr q
      have ab:(c != 3)=false:=Fc q
      clear q
      replace H:=BR H
      obtain⟨x,G,H⟩:=H
      try dsimp only at H
      have y:=a_ G
      clear G
      by_cases A:x=true
      ·subst A
       have H1:(if b=0 then(some (g.toList==([]:List UInt8)))else((Bk.f b).bind λm=>(if m=true then(some (g.toList==([]:List UInt8)))else(some false))))=some r:=by rw[Ry rfl]at H;exact H
       clear H
       have H:=H1
       clear H1
       by_cases t:b=0
       ·rw[Ry t]at H
        have ae:(b==0)=true:=RO.mpr t
        have af:(b != 0)=false:=Fc t
        clear t
        obtain rfl:=CW H
        obtain⟨b_,ca,cb,cd,cf,bb,bc,bd,be,bf⟩:=CI (W:=wc) d.o
        go_wp2_with(first|((with_reducible refine BQ (f:=33) rfl ?_);refine BW 44 Ts #[.int .i64 a] ?_;(with_reducible refine(Dh.calls a true _ y.o).mono ?_);rintro e w' ⟨rfl,⟨nd,rfl⟩⟩;refine⟨_,rfl,?_⟩))
        go_ret
        exact⟨C8,Ag⟩
       ·rw[Rz t]at H
        have ae:(b==0)=false:=Dr t
        have af:(b != 0)=true:=RX.mpr t
        replace H:=BR H
        obtain⟨m,I,H⟩:=H
        try dsimp only at H
        have ah:=a_ I
        clear I
        by_cases B:m=true
        ·subst B
         have H1:(some (g.toList==([]:List UInt8)))=some r:=by rw[Ry rfl]at H;exact H
         clear H
         have H:=H1
         clear H1
         obtain rfl:=CW H
         obtain⟨cg,cj,ck,cl,cm,bg,bh,bj,bk,bl⟩:=CI (W:=wc) d.o
         go_wp2_with(first|((with_reducible refine BQ (f:=33) rfl ?_);refine BW 44 Ts #[.int .i64 a] ?_;(with_reducible refine(Dh.calls a true _ y.o).mono ?_);rintro e w' ⟨rfl,⟨nd,rfl⟩⟩;refine⟨_,rfl,?_⟩)|(go_at_call 31;(with_reducible refine(Bk.calls b true _ ah.o).mono ?_);rintro e w' ⟨rfl,⟨nd,rfl⟩⟩))
         go_ret
         exact⟨C8,Ag⟩
        ·replace B:=RE.mpr B
         subst B
         have H1:(some false)=some r:=by rw[Rz (show¬ (false=true) by decide)]at H;exact H
         clear H
         have H:=H1
         clear H1
         obtain rfl:=CW H
         obtain⟨cn,cp,cq,cr,ct,bm,bn,bo,bp,bq⟩:=CI (W:=wc) d.o
         go_wp2_with(first|((with_reducible refine BQ (f:=33) rfl ?_);refine BW 44 Ts #[.int .i64 a] ?_;(with_reducible refine(Dh.calls a true _ y.o).mono ?_);rintro e w' ⟨rfl,⟨nd,rfl⟩⟩;refine⟨_,rfl,?_⟩)|(go_at_call 31;(with_reducible refine(Bk.calls b false _ ah.o).mono ?_);rintro e w' ⟨rfl,⟨nd,rfl⟩⟩))
         go_ret
         exact⟨C8,Ag⟩
      ·replace A:=RE.mpr A
       subst A
       have H1:(some false)=some r:=by rw[Rz (show¬ (false=true) by decide)]at H;exact H
       clear H
       have H:=H1
       clear H1
       obtain rfl:=CW H
       obtain⟨cu,cv,cw,cx,cy,br,bu,bw,bx,bz⟩:=CI (W:=wc) d.o
       go_wp2_with(first|((with_reducible refine BQ (f:=33) rfl ?_);refine BW 44 Ts #[.int .i64 a] ?_;(with_reducible refine(Dh.calls a false _ y.o).mono ?_);rintro e w' ⟨rfl,⟨nd,rfl⟩⟩;refine⟨_,rfl,?_⟩))
       go_ret
       exact⟨C8,Ag⟩
     ·rw[Rz q]at H
      have aa:(c==3)=false:=Dr q
      have ab:(c != 3)=true:=RX.mpr q
      obtain rfl:=CW H
      obtain⟨cz,cA,cB,cC,cD,bA,bB,bC,bD,bE⟩:=CI (W:=wc) d.o
      go_wp2
      go_ret
      exact⟨C8,Ag⟩
def BA.f(k:Nat)(a:Int)(d:Int)(b:Int)(c:Int)(e:Int)(g:Int)(i:ByteArray):Option (Bool):=(Ar.f a 1 3).bind λj=>(if j=true then((Ar.f d 1 40).bind λl=>(if l=true then((Cf.f k b c e g i).bind λm=>(if m=true then(if b=1 then(some ((wrap64 (Int.tdiv c 10))==a))else(some true))else(some false)))else(some false)))else(some false))
end Go.Proofs.YtlhlpfnljglhoaaDoor.P
