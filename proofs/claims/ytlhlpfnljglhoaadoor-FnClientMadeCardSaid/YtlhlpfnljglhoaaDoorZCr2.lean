/- Joined by programs (wip/shake.py, wip/mini.py). -/
import Derived.Test.YtlhlpfnljglhoaaDoorZCr1
set_option linter.unusedVariables false
set_option linter.unusedSimpArgs false
set_option linter.unusedSectionVars false
set_option maxHeartbeats 8000000
set_option maxRecDepth 100000
open Go.Proofs.YtlhlpfnljglhoaaDoorW
namespace Go.Proofs.YtlhlpfnljglhoaaDoor.P
open Go.RowKit Go.Proofs.YtlhlpfnljglhoaaDoorW.PrintWords Go.Proofs.YtlhlpfnljglhoaaDoorW.Bb
theorem BA.calls(k:Nat)(b:Int)(i:Int)(c:Int)(d:Int)(j:Int)(l:Int)(m:ByteArray)(r:Bool)(w:World)(h:BA.f k b i c d j l m=some r) :
  Calls Tryd.prog 22 #[.agg #[.int .i64 b,.int .i64 i,.int .i64 c,.int .i64 d,.int .i64 j,.int .i64 l,.string m]] w λe w'=>e=.returned (.bool r)∧Below w.heap.size w w':=by
 have bJ:=Sk;have bI:=RW;have HB:=a_ (RG w.heap.size w);unfold BA.f at h;have H:=h;clear h;replace H:=BR H;obtain⟨D,x,H⟩:=H;try dsimp only at H
 have v:=a_ x;clear x;by_cases c3:D=true
 ·subst c3;have H1:((Ar.f i 1 40).bind λu=>(if u=true then((Cf.f k c d j l m).bind λt=>(if t=true then(if c=1 then(some ((wrap64 (Int.tdiv d 10))==b))else(some true))else(some false)))else(some false)))=some r:=by rw[Ry rfl]at H;exact H
  clear H;have H:=H1;clear H1;replace H:=BR H;obtain⟨u,y,H⟩:=H;try dsimp only at H
  have E:=a_ y;clear y;by_cases c5:u=true
  ·subst c5;have H1:((Cf.f k c d j l m).bind λt=>(if t=true then(if c=1 then(some ((wrap64 (Int.tdiv d 10))==b))else(some true))else(some false)))=some r:=by rw[Ry rfl]at H;exact H
   clear H;have H:=H1;clear H1;replace H:=BR H;obtain⟨t,z,H⟩:=H;try dsimp only at H
   have G:=a_ z;clear z;by_cases c7:t=true
   ·subst c7;have H1:(if c=1 then(some ((wrap64 (Int.tdiv d 10))==b))else(some true))=some r:=by rw[Ry rfl]at H;exact H
    clear H;have H:=H1;clear H1;by_cases c8:c=1
    ·rw[Ry c8]at H;have A:(c==1)=true:=RO.mpr c8;have B:(c != 1)=false:=Fc c8;clear c8;obtain rfl:=CW H;go_enter Tryd.func22,Tryd.ntmps22;go_wp2_with(first|((with_reducible refine BV (N:=1) rfl ?_);refine Cy 1 (#[.int .i64 b,.int .i64 i,.int .i64 c,.int .i64 d,.int .i64 j,.int .i64 l,.string m]) 32 ?_;intro q hg w9 g n;have a:=a_ (g);have p:=BD w hg;have o:=BD w hg;replace HB:=Bw n;clear n g hg;obtain⟨aQ,aR,aS,aT,aU,aV,aW,I,J,K,L,M,O,P⟩:=DC a.o)|((with_reducible refine BQ (f:=20) rfl ?_);refine BW 5 Sw #[.int .i64 b,.int .i64 1,.int .i64 3] ?_;(with_reducible refine(Ar.calls b 1 3 true _ v.o).mono ?_);rintro e w' ⟨rfl,⟨nd,rfl⟩⟩;refine⟨_,rfl,?_⟩)|(go_at_call 20;(with_reducible refine(Ar.calls i 1 40 true _ E.o).mono ?_);rintro e w' ⟨rfl,⟨nd,rfl⟩⟩)|(go_at_call 12;(with_reducible refine(Cf.calls k c d j l m true _ G.o).mono ?_);rintro e bK ⟨rfl,n⟩;replace HB:=Bw n;replace a:=a_ (Cr a.o n);(try clear n);obtain⟨aX,aY,aZ,a0,a1,a2,a3,T,U,W,X,Y,Z,aa⟩:=DC a.o));go_ret;exact⟨C8,Ag⟩
    rw[Rz c8]at H;have A:(c==1)=false:=Dr c8;have B:(c != 1)=true:=RX.mpr c8;obtain rfl:=CW H;go_enter Tryd.func22,Tryd.ntmps22;go_wp2_with(first|((with_reducible refine BV (N:=1) rfl ?_);refine Cy 1 (#[.int .i64 b,.int .i64 i,.int .i64 c,.int .i64 d,.int .i64 j,.int .i64 l,.string m]) 32 ?_;intro q hg bL g n;have a:=a_ (g);have p:=BD w hg;have o:=BD w hg;replace HB:=Bw n;clear n g hg;obtain⟨a4,a5,a6,a7,a8,a9,ba,ab,ae,af,ag,ah,ai,aj⟩:=DC a.o)|((with_reducible refine BQ (f:=20) rfl ?_);refine BW 5 Sw #[.int .i64 b,.int .i64 1,.int .i64 3] ?_;(with_reducible refine(Ar.calls b 1 3 true _ v.o).mono ?_);rintro e w' ⟨rfl,⟨nd,rfl⟩⟩;refine⟨_,rfl,?_⟩)|(go_at_call 20;(with_reducible refine(Ar.calls i 1 40 true _ E.o).mono ?_);rintro e w' ⟨rfl,⟨nd,rfl⟩⟩)|(go_at_call 12;(with_reducible refine(Cf.calls k c d j l m true _ G.o).mono ?_);rintro e bM ⟨rfl,n⟩;replace HB:=Bw n;replace a:=a_ (Cr a.o n);(try clear n);obtain⟨bb,bc,bd,be,bf,bg,bh,ak,al,an,ao,aq,ar,au⟩:=DC a.o));go_ret;exact⟨C8,Ag⟩
   replace c7:=RE.mpr c7;subst c7;have H1:(some false)=some r:=by rw[Rz (show¬ (false=true) by decide)]at H;exact H
   clear H;have H:=H1;clear H1;obtain rfl:=CW H;go_enter Tryd.func22,Tryd.ntmps22;go_wp2_with(first|((with_reducible refine BV (N:=1) rfl ?_);refine Cy 1 (#[.int .i64 b,.int .i64 i,.int .i64 c,.int .i64 d,.int .i64 j,.int .i64 l,.string m]) 32 ?_;intro q hg bN g n;have a:=a_ (g);have p:=BD w hg;have o:=BD w hg;replace HB:=Bw n;clear n g hg;obtain⟨bj,bk,bl,bm,bn,bo,bp,av,aw,ax,ay,az,aA,aB⟩:=DC a.o)|((with_reducible refine BQ (f:=20) rfl ?_);refine BW 5 Sw #[.int .i64 b,.int .i64 1,.int .i64 3] ?_;(with_reducible refine(Ar.calls b 1 3 true _ v.o).mono ?_);rintro e w' ⟨rfl,⟨nd,rfl⟩⟩;refine⟨_,rfl,?_⟩)|(go_at_call 20;(with_reducible refine(Ar.calls i 1 40 true _ E.o).mono ?_);rintro e w' ⟨rfl,⟨nd,rfl⟩⟩)|(go_at_call 12;(with_reducible refine(Cf.calls k c d j l m false _ G.o).mono ?_);rintro e bO ⟨rfl,n⟩;replace HB:=Bw n;replace a:=a_ (Cr a.o n);(try clear n)));go_ret;exact⟨C8,Ag⟩
  replace c5:=RE.mpr c5;subst c5;have H1:(some false)=some r:=by rw[Rz (show¬ (false=true) by decide)]at H;exact H
  clear H;have H:=H1;clear H1;obtain rfl:=CW H;go_enter Tryd.func22,Tryd.ntmps22;go_wp2_with(first|((with_reducible refine BV (N:=1) rfl ?_);refine Cy 1 (#[.int .i64 b,.int .i64 i,.int .i64 c,.int .i64 d,.int .i64 j,.int .i64 l,.string m]) 32 ?_;intro q hg bP g n;have a:=a_ (g);have p:=BD w hg;have o:=BD w hg;replace HB:=Bw n;clear n g hg;obtain⟨bq,br,bu,bw,bx,bz,bA,aC,aD,aE,aF,aG,aH,aI⟩:=DC a.o)|((with_reducible refine BQ (f:=20) rfl ?_);refine BW 5 Sw #[.int .i64 b,.int .i64 1,.int .i64 3] ?_;(with_reducible refine(Ar.calls b 1 3 true _ v.o).mono ?_);rintro e w' ⟨rfl,⟨nd,rfl⟩⟩;refine⟨_,rfl,?_⟩)|(go_at_call 20;(with_reducible refine(Ar.calls i 1 40 false _ E.o).mono ?_);rintro e w' ⟨rfl,⟨nd,rfl⟩⟩));go_ret;exact⟨C8,Ag⟩
 replace c3:=RE.mpr c3;subst c3;have H1:(some false)=some r:=by rw[Rz (show¬ (false=true) by decide)]at H;exact H
 clear H;have H:=H1;clear H1;obtain rfl:=CW H;go_enter Tryd.func22,Tryd.ntmps22;go_wp2_with(first|((with_reducible refine BV (N:=1) rfl ?_);refine Cy 1 (#[.int .i64 b,.int .i64 i,.int .i64 c,.int .i64 d,.int .i64 j,.int .i64 l,.string m]) 32 ?_;intro q hg bQ g n;have a:=a_ (g);have p:=BD w hg;have o:=BD w hg;replace HB:=Bw n;clear n g hg;obtain⟨bB,bC,bD,bE,bF,bG,bH,aJ,aK,aL,aM,aN,aO,aP⟩:=DC a.o)|((with_reducible refine BQ (f:=20) rfl ?_);refine BW 5 Sw #[.int .i64 b,.int .i64 1,.int .i64 3] ?_;(with_reducible refine(Ar.calls b 1 3 false _ v.o).mono ?_);rintro e w' ⟨rfl,⟨nd,rfl⟩⟩;refine⟨_,rfl,?_⟩));go_ret;exact⟨C8,Ag⟩
def Ed.f(k:Nat)(a:Int)(b:Int)(c:ByteArray):Option (Bool):=(CB.f a).bind λd=>(if d=true then(if b=0 then(some (c.toList==([]:List UInt8)))else(some false))else((Bk.f a).bind λe=>(if e=true then((Ar.f b 1 18).bind λg=>(if g=true then((Bz.f k c).bind λi=>(some i))else(some false)))else(some false))))
theorem Ed.calls(k:Nat)(a:Int)(b:Int)(g:ByteArray)(r:Bool)(w:World)(h:Ed.f k a b g=some r) :
  Calls Tryd.prog 39 #[.agg #[.int .i64 a,.int .i64 b,.string g]] w λe w'=>e=.returned (.bool r)∧Below w.heap.size w w':=by
 have ax:=SI;have HB:=a_ (RG w.heap.size w);unfold Ed.f at h;have H:=h;clear h;replace H:=BR H;obtain⟨D,y,H⟩:=H;try dsimp only at H
 have x:=a_ y;clear y;by_cases c3:D=true
 ·subst c3;have H1:(if b=0 then(some (g.toList==([]:List UInt8)))else(some false))=some r:=by rw[Ry rfl]at H;exact H
  clear H;have H:=H1;clear H1;by_cases c4:b=0
  ·rw[Ry c4]at H;have A:(b==0)=true:=RO.mpr c4;have B:(b != 0)=false:=Fc c4;clear c4;obtain rfl:=CW H;go_enter Tryd.func39,Tryd.ntmps39;go_wp2_with(first|((with_reducible refine BV (N:=1) rfl ?_);refine Cy 1 (#[.int .i64 a,.int .i64 b,.string g]) 68 ?_;intro m hg w5 c o;have d:=a_ (c);have l:=BD w hg;have j:=BD w hg;replace HB:=Bw o;clear o c hg;obtain⟨ao,aq,ar,ah,ai,aj⟩:=DV d.o)|((with_reducible refine BQ (f:=40) rfl ?_);refine BW 5 Tn #[.int .i64 a] ?_;(with_reducible refine(CB.calls a true _ x.o).mono ?_);rintro e w' ⟨rfl,⟨nd,rfl⟩⟩;refine⟨_,rfl,?_⟩));go_ret;exact⟨C8,Ag⟩
  rw[Rz c4]at H;have A:(b==0)=false:=Dr c4;have B:(b != 0)=true:=RX.mpr c4;obtain rfl:=CW H;go_enter Tryd.func39,Tryd.ntmps39;go_wp2_with(first|((with_reducible refine BV (N:=1) rfl ?_);refine Cy 1 (#[.int .i64 a,.int .i64 b,.string g]) 68 ?_;intro m hg w7 c o;have d:=a_ (c);have l:=BD w hg;have j:=BD w hg;replace HB:=Bw o;clear o c hg;obtain⟨au,av,aw,ak,al,an⟩:=DV d.o)|((with_reducible refine BQ (f:=40) rfl ?_);refine BW 5 Tn #[.int .i64 a] ?_;(with_reducible refine(CB.calls a true _ x.o).mono ?_);rintro e w' ⟨rfl,⟨nd,rfl⟩⟩;refine⟨_,rfl,?_⟩));go_ret;exact⟨C8,Ag⟩
 replace c3:=RE.mpr c3;subst c3;have H1:((Bk.f a).bind λp=>(if p=true then((Ar.f b 1 18).bind λn=>(if n=true then((Bz.f k g).bind λi=>(some i))else(some false)))else(some false)))=some r:=by rw[Rz (show¬ (false=true) by decide)]at H;exact H
 clear H;have H:=H1;clear H1;replace H:=BR H;obtain⟨p,z,H⟩:=H;try dsimp only at H
 have G:=a_ z;clear z;by_cases DM:p=true
 ·subst DM;have H1:((Ar.f b 1 18).bind λn=>(if n=true then((Bz.f k g).bind λi=>(some i))else(some false)))=some r:=by rw[Ry rfl]at H;exact H
  clear H;have H:=H1;clear H1;replace H:=BR H;obtain⟨n,t,H⟩:=H;try dsimp only at H
  have v:=a_ t;clear t;by_cases q:n=true
  ·subst q;have H1:((Bz.f k g).bind λi=>(some i))=some r:=by rw[Ry rfl]at H;exact H
   clear H;have H:=H1;clear H1;replace H:=BR H;obtain⟨i,u,H⟩:=H;try dsimp only at H
   have E:=a_ u;clear u;obtain rfl:=CW H;go_enter Tryd.func39,Tryd.ntmps39;go_wp2_with(first|((with_reducible refine BV (N:=1) rfl ?_);refine Cy 1 (#[.int .i64 a,.int .i64 b,.string g]) 68 ?_;intro m hg ay c o;have d:=a_ (c);have l:=BD w hg;have j:=BD w hg;replace HB:=Bw o;clear o c hg;obtain⟨W,X,Y,I,J,K⟩:=DV d.o)|((with_reducible refine BQ (f:=40) rfl ?_);refine BW 5 Tn #[.int .i64 a] ?_;(with_reducible refine(CB.calls a false _ x.o).mono ?_);rintro e w' ⟨rfl,⟨nd,rfl⟩⟩;refine⟨_,rfl,?_⟩)|((with_reducible refine BQ (f:=31) rfl ?_);refine BW 16 Tf #[.int .i64 a] ?_;(with_reducible refine(Bk.calls a true _ G.o).mono ?_);rintro e w' ⟨rfl,⟨nd,rfl⟩⟩;refine⟨_,rfl,?_⟩)|(go_at_call 20;(with_reducible refine(Ar.calls b 1 18 true _ v.o).mono ?_);rintro e w' ⟨rfl,⟨nd,rfl⟩⟩)|(go_at_call 32;(with_reducible refine(Bz.calls k g i _ E.o).mono ?_);rintro e w' ⟨rfl,⟨nd,rfl⟩⟩));go_ret;exact⟨C8,Ag⟩
  replace q:=RE.mpr q;subst q;have H1:(some false)=some r:=by rw[Rz (show¬ (false=true) by decide)]at H;exact H
  clear H;have H:=H1;clear H1;obtain rfl:=CW H;go_enter Tryd.func39,Tryd.ntmps39;go_wp2_with(first|((with_reducible refine BV (N:=1) rfl ?_);refine Cy 1 (#[.int .i64 a,.int .i64 b,.string g]) 68 ?_;intro m hg az c o;have d:=a_ (c);have l:=BD w hg;have j:=BD w hg;replace HB:=Bw o;clear o c hg;obtain⟨Z,aa,ab,L,M,O⟩:=DV d.o)|((with_reducible refine BQ (f:=40) rfl ?_);refine BW 5 Tn #[.int .i64 a] ?_;(with_reducible refine(CB.calls a false _ x.o).mono ?_);rintro e w' ⟨rfl,⟨nd,rfl⟩⟩;refine⟨_,rfl,?_⟩)|((with_reducible refine BQ (f:=31) rfl ?_);refine BW 16 Tf #[.int .i64 a] ?_;(with_reducible refine(Bk.calls a true _ G.o).mono ?_);rintro e w' ⟨rfl,⟨nd,rfl⟩⟩;refine⟨_,rfl,?_⟩)|(go_at_call 20;(with_reducible refine(Ar.calls b 1 18 false _ v.o).mono ?_);rintro e w' ⟨rfl,⟨nd,rfl⟩⟩));go_ret;exact⟨C8,Ag⟩
 replace DM:=RE.mpr DM;subst DM;have H1:(some false)=some r:=by rw[Rz (show¬ (false=true) by decide)]at H;exact H
 clear H;have H:=H1;clear H1;obtain rfl:=CW H;go_enter Tryd.func39,Tryd.ntmps39;go_wp2_with(first|((with_reducible refine BV (N:=1) rfl ?_);refine Cy 1 (#[.int .i64 a,.int .i64 b,.string g]) 68 ?_;intro m hg aA c o;have d:=a_ (c);have l:=BD w hg;have j:=BD w hg;replace HB:=Bw o;clear o c hg;obtain⟨ae,af,ag,P,T,U⟩:=DV d.o)|((with_reducible refine BQ (f:=40) rfl ?_);refine BW 5 Tn #[.int .i64 a] ?_;(with_reducible refine(CB.calls a false _ x.o).mono ?_);rintro e w' ⟨rfl,⟨nd,rfl⟩⟩;refine⟨_,rfl,?_⟩)|((with_reducible refine BQ (f:=31) rfl ?_);refine BW 16 Tf #[.int .i64 a] ?_;(with_reducible refine(Bk.calls a false _ G.o).mono ?_);rintro e w' ⟨rfl,⟨nd,rfl⟩⟩;refine⟨_,rfl,?_⟩));go_ret;exact⟨C8,Ag⟩
mutual
def Ak.l0:Nat->List (Ba)->Int->Int->Option (Bool)
 | 0,_,_,_=>none
 | k+1,b,d,a=>if a<(b.length:Int)then(if 0≤a then((Ed.f k ((Ae b a).f0) ((Ae b a).f1) ((Ae b a).f2)).bind λc=>(if c=true then(if a>0 then(if 0≤(wrap64 (a-1))then(if(wrap64 (a-1))<(b.length:Int)then(Ak.j1 k b d a (decide (((Ae b a).f1)>(wrap64 (((Ae b (wrap64 (a-1))).f1)+1)))))else(none))else(none))else(Ak.j1 k b d a false))else(Ak.j1 k b d a true)))else(none))else(if d=3 then(if 0<(b.length:Int)then(some (((Ae b 0).f0)==1))else(none))else(some false))
def Ak.j1:Nat->List (Ba)->Int->Int->Bool->Option (Bool)
 | 0,_,_,_,_=>none
 | k+1,c,d,a,e=>if e=true then(some false)else(if 0≤a then(if a<(c.length:Int)then((CB.f ((Ae c a).f0)).bind λb=>(if b=true then(if((Ae c a).f0)=(wrap64 (d+1))then(Ak.j2 k c (wrap64 (d+1)) a)else(some false))else(Ak.j2 k c d a)))else(none))else(none))
def Ak.j2:Nat->List (Ba)->Int->Int->Option (Bool)
 | 0,_,_,_=>none
 | k+1,a,b,c=>Ak.l1 k a b c 0
def Ak.l1:Nat->List (Ba)->Int->Int->Int->Option (Bool)
 | 0,_,_,_,_=>none
 | k+1,a,d,b,c=>if c<b then(if 0≤c then(if c<(a.length:Int)then(if 0≤b then(if b<(a.length:Int)then(if((Ae a c).f0)=((Ae a b).f0)then(some false)else(Ak.l1 k a d b (wrap64 (c+1))))else(none))else(none))else(none))else(none))else(Ak.l0 k a d (wrap64 (b+1)))
end
def Ak.f(k:Nat)(l0:List (Ba)):Option (Bool):=Ak.l0 k l0 0 0
def Ak.T5:Bool×List (List Nat×List Nat):=(true,[([],[]),([],[]),([0,1],[0,1]),([2],[2]),([3],[3]),([4],[4]),([5,4],[5]),([6],[6]),([7,6],[6,7]),([8,6,6],[6,8]),([9],[9]),([9],[9]),([10,11,9],[9,10,11]),([12,9],[9,12]),([13,9],[9,13]),([9],[9]),([9],[9]),([16,9],[9,16]),([15,17,9],[9,15,17]),([18,9],[9,18]),([19,9],[9,19]),([20,9],[9,20]),([14,21,9],[9,14,21]),([9,22,6],[6,9,22]),([6,23],[6,23])])
def Ak.B5:List Nat:=[0,0,3,7,15,31,63,127,255,511,1023,1023,4095,8191,16383,1023,1023,66559,230399,492543,1016831,2065407,4194303,8388607,16777215]
theorem Ak.I8:EK .any (opsOf Tryd.f21 5)=Ak.T5:=by kernel_rfl
theorem Ak.Gr:DS Ak.T5.2 Ak.B5=true:=by kernel_rfl
def Ak.Qp:Bool×List (List Nat×List Nat):=(true,[([],[]),([],[]),([0,1],[0,1]),([2],[2]),([3],[3]),([],[]),([],[]),([5,6],[5,6]),([7],[7]),([8],[8]),([4,9],[4,9])])
def Ak.QZ:List Nat:=[0,0,3,7,15,0,0,96,224,480,1023]
theorem Ak.L6:EK .any (opsOf Tryd.f21 14)=Ak.Qp:=by kernel_rfl
theorem Ak.JW:DS Ak.Qp.2 Ak.QZ=true:=by kernel_rfl
theorem Ak.calls(k:Nat)(A0:Option Addr)(c0:Nat)(l0:List (Ba))(r:Bool)(w:World)(bE:Kd.C Dd w A0 l0.length l0)(bD:l0.length≤c0)(h:Ak.f k l0=some r) :
  Calls Tryd.prog 21 #[.slice A0 l0.length c0] w λe w'=>e=.returned (.bool r)∧Below w.heap.size w w':=by
 have bT:=SI;have ag:=a_ bE;have bU:=a_ bD;clear bE bD;have HB:=a_ (RG w.heap.size w);unfold Ak.f at h;have H:=h;clear h;have H':=a_ H;clear H;go_enter Tryd.func21,Tryd.ntmps21;go_wp2;go_loopg [3,4] k (λkq v3 v4 w'=>∃(m:Int) (a:Int),v3=.int .i64 m∧v4=.int .i64 a∧Ac (Ak.l0 kq l0 m a=some r)∧Ac (kq≤k)∧Ac (Below w.heap.size w w'))
 case atStart=>exact⟨(0),(0),(CA),(CA),H',⟨RB _⟩,⟨Ag⟩⟩
 clear H';obtain⟨m,a,rfl,rfl,HA,ay,HB⟩:=hrel;cases gk with
 | zero=>exact absurd HA.o (by simp[Ak.l0])
 | succ k1 =>
  have H:=HA.o
  clear HA
  simp only[Ak.l0]at H
  by_cases c2:a<(l0.length:Int)
  ·rw[Ry c2]at H
   have bx:decide (a<(l0.length:Int))=true:=BM c2
   clear c2
   have bl:=a_ H
   clear H
   go_upto_region 5 with(fail)
   go_cut [36] (λbR wc=>∃(kq:Nat) (aA:Bool),bR=.bool aA∧Ac (Ak.j1 kq l0 m a aA=some r)∧Ac (kq≤k1)∧Ac (Below w.heap.size w wc))
   case first =>
    have H:=bl.o
    clear bl
    by_cases c4:0≤a
    ·rw[Ry c4]at H
     have bj:decide (0≤a)=true:=BM c4
     clear c4
     (first|rw[bj]|(simp only[BJ,BP];rw[bj])|skip)
     replace H:=BR H
     obtain⟨bF,bw,H⟩:=H
     try dsimp only at H
     have A5:=a_ bw
     clear bw
     by_cases c6:bF=true
     ·subst c6
      have H1:(if a>0 then(if 0≤(wrap64 (a-1))then(if(wrap64 (a-1))<(l0.length:Int)then(Ak.j1 k1 l0 m a (decide (((Ae l0 a).f1)>(wrap64 (((Ae l0 (wrap64 (a-1))).f1)+1)))))else(none))else(none))else(Ak.j1 k1 l0 m a false))=some r:=by rw[Ry rfl]at H;exact H
      clear H
      have H:=H1
      clear H1
      by_cases c7:a>0
      ·rw[Ry c7]at H
       have aS:decide (0<a)=true:=BM c7
       clear c7
       obtain⟨T,aC⟩:∃j_:Int,(wrap64 (a-1))=j_:=⟨_,rfl⟩
       replace H:(if 0≤(T)then(if(T)<(l0.length:Int)then(Ak.j1 k1 l0 m a (decide (((Ae l0 a).f1)>(wrap64 (((Ae l0 (T)).f1)+1)))))else(none))else(none))=some r:=by first|(rw[aC]at H;exact H)|(simp only[aC]at H⊢;exact H)
       (try rw[aC]at A5)
       have bP:(IntKind.i64.wrap (a-1))=T:=(BJ _).trans aC
       by_cases c9:0≤(T)
       ·rw[Ry c9]at H
        have bS:decide (0≤(T))=true:=BM c9
        clear c9
        by_cases DM:(T)<(l0.length:Int)
        ·rw[Ry DM]at H
         have bI:decide ((T)<(l0.length:Int))=true:=BM DM
         clear DM
         have H':=a_ H
         clear H
         try go_wp2
         replace HB:=a_ (Ay HB.o)
         have O:0≤(a:Int):=Bv
         have P:a<(l0.length:Int):=Bv
         obtain⟨b,aB,g,i,j⟩:=BZ ag.o a O P
         have z:=j
         have y:=i
         have x:=g
         cases aB
         replace g:=(Az HB.o g:)
         replace i:=(Az HB.o i:)
         replace j:=(Az HB.o j:)
         replace O:=RA O
         replace P:=RA P
         have a8:0≤(a:Int):=Bv
         have ba:a<(l0.length:Int):=Bv
         obtain⟨bm,bA,A,B,D⟩:=BZ ag.o a a8 ba
         have aF:=D
         have aE:=B
         have aD:=A
         obtain rfl:b=bm:=(by injection bA)
         replace A:=(Az HB.o A:)
         replace B:=(Az HB.o B:)
         replace D:=(Az HB.o D:)
         replace a8:=RA a8
         replace ba:=RA ba
         have aw:0≤((T):Int):=Bv
         have ax:(T)<(l0.length:Int):=Bv
         obtain⟨bn,bB,E,G,I⟩:=BZ ag.o (T) aw ax
         have aI:=I
         have aH:=G
         have aG:=E
         obtain rfl:b=bn:=(by injection bB)
         replace E:=(Az HB.o E:)
         replace G:=(Az HB.o G:)
         replace I:=(Az HB.o I:)
         replace aw:=RA aw
         replace ax:=RA ax
         refine Cl (n:=25) (S:=λw'=>w'.cell? (b.add ((a).toNat*3))=some (.int .i64 ((Ae l0 a).f0))∧w'.cell? ⟨(b.add ((a).toNat*3)).block,(b.add ((a).toNat*3)).off+1,none⟩=some (.int .i64 ((Ae l0 a).f1))∧w'.cell? ⟨(b.add ((a).toNat*3)).block,(b.add ((a).toNat*3)).off+2,none⟩=some (.string ((Ae l0 a).f2))∧w'.cell? (b.add ((a).toNat*3))=some (.int .i64 ((Ae l0 a).f0))∧w'.cell? ⟨(b.add ((a).toNat*3)).block,(b.add ((a).toNat*3)).off+1,none⟩=some (.int .i64 ((Ae l0 a).f1))∧w'.cell? ⟨(b.add ((a).toNat*3)).block,(b.add ((a).toNat*3)).off+2,none⟩=some (.string ((Ae l0 a).f2))∧w'.cell? (b.add (((T)).toNat*3))=some (.int .i64 ((Ae l0 (T)).f0))∧w'.cell? ⟨(b.add (((T)).toNat*3)).block,(b.add (((T)).toNat*3)).off+1,none⟩=some (.int .i64 ((Ae l0 (T)).f1))∧w'.cell? ⟨(b.add (((T)).toNat*3)).block,(b.add (((T)).toNat*3)).off+2,none⟩=some (.string ((Ae l0 (T)).f2))) (ds:=[]) #[false,false,false,false,false,false,false,false,false,false,false,false,false,false,false,false,false,false,false,false,false,false,false,false,false] (by kernel_rfl) rfl rfl ⟨((Az HB.o x:)),((Az HB.o y:)),((Az HB.o z:)),((Az HB.o aD:)),((Az HB.o aE:)),((Az HB.o aF:)),((Az HB.o aG:)),((Az HB.o aH:)),((Az HB.o aI:))⟩ (λl=>?_);refine B1 Ak.I8 Ak.Gr (λHT_ HW_=>?_)
         generalize wr.drew=bV at HB g i j A B D E G I l⊢
         refine Bf 0 12 ?_
         refine Bf 1 13 ?_
         refine Bf 2 14 ?_
         refine P1 3 15 l ?_
         refine E7 4 16 (λK hK=>?_)
         refine C7 Tryd.func39 (by kernel_rfl) rfl #[.agg #[.int .i64 ((Ae l0 a).f0),.int .i64 ((Ae l0 a).f1),.string ((Ae l0 a).f2)]] (by rfl) rfl rfl JV ?_
         with_reducible refine(Ed.calls k1 ((Ae l0 a).f0) ((Ae l0 a).f1) ((Ae l0 a).f2) true _ A5.o).mono ?_
         rintro e bW ⟨rfl,hb⟩
         refine⟨_,rfl,?_⟩
         replace HB:=Bw hb
         try clear hb
         refine hK.out _ _ ⟨((Az HB.o x:)),((Az HB.o y:)),((Az HB.o z:)),((Az HB.o aD:)),((Az HB.o aE:)),((Az HB.o aF:)),((Az HB.o aG:)),((Az HB.o aH:)),((Az HB.o aI:))⟩ (λl=>?_)
         clear hK K
         refine Er 16 ?_
         refine Bf 5 17 ?_
         refine Bf 6 18 ?_
         refine Bf 7 19 ?_
         refine Bf 8 20 ?_
         refine Bf 9 21 ?_
         refine Bf 10 22 ?_
         refine Bf 11 23 ?_
         refine Bf 12 24 ?_
         refine Bf 13 25 ?_
         refine Bf 15 27 ?_
         refine Bf 16 28 ?_
         refine Bf 17 29 ?_
         refine Bf 18 30 ?_
         refine Bf 19 31 ?_
         refine P1 14 26 l ?_
         refine P1 20 32 l ?_
         refine Bf 21 33 ?_
         refine Bf 22 34 ?_
         refine Bf 23 35 ?_
         refine Bf 24 36 ?_
         refine CV (CT HT_.o (by kernel_rfl)) ?_
         try go_wp2
         go_meet
         case rel=>exact⟨_,(decide (((Ae l0 a).f1)>(wrap64 (((Ae l0 (T)).f1)+1)))),(by first|rfl|(simp;done)|(simp only[<-aC] <;> (first|rfl|simp))|(simp[*];done)),H',⟨by have:=ay.o;first|omega|exact RB _⟩,⟨Ag⟩⟩
        ·rw[Rz DM]at H
         exact absurd H (by simp)
       ·rw[Rz c9]at H
        exact absurd H (by simp)
      ·rw[Rz c7]at H
       have aS:decide (0<a)=false:=C9 c7
       clear c7
       have H':=a_ H
       clear H
       try go_wp2
       replace HB:=a_ (Ay HB.o)
       have O:0≤(a:Int):=Bv
       have P:a<(l0.length:Int):=Bv
       obtain⟨b,aB,g,i,j⟩:=BZ ag.o a O P
       have z:=j
       have y:=i
       have x:=g
       cases aB
       replace g:=(Az HB.o g:)
       replace i:=(Az HB.o i:)
       replace j:=(Az HB.o j:)
       replace O:=RA O
       replace P:=RA P
       refine Cl (n:=25) (S:=λw'=>w'.cell? (b.add ((a).toNat*3))=some (.int .i64 ((Ae l0 a).f0))∧w'.cell? ⟨(b.add ((a).toNat*3)).block,(b.add ((a).toNat*3)).off+1,none⟩=some (.int .i64 ((Ae l0 a).f1))∧w'.cell? ⟨(b.add ((a).toNat*3)).block,(b.add ((a).toNat*3)).off+2,none⟩=some (.string ((Ae l0 a).f2))) (ds:=[]) #[false,false,false,false,false,false,false,false,false,false,false,false,false,false,false,false,false,false,false,false,false,false,false,false,false] (by kernel_rfl) rfl rfl ⟨((Az HB.o x:)),((Az HB.o y:)),((Az HB.o z:))⟩ (λl=>?_);refine B1 Ak.I8 Ak.Gr (λHT_ HW_=>?_)
       generalize wr.drew=bX at HB g i j l⊢
       refine Bf 0 12 ?_
       refine Bf 1 13 ?_
       refine Bf 2 14 ?_
       refine NH 3 15 l ?_
       refine E7 4 16 (λK hK=>?_)
       refine C7 Tryd.func39 (by kernel_rfl) rfl #[.agg #[.int .i64 ((Ae l0 a).f0),.int .i64 ((Ae l0 a).f1),.string ((Ae l0 a).f2)]] (by rfl) rfl rfl JV ?_
       with_reducible refine(Ed.calls k1 ((Ae l0 a).f0) ((Ae l0 a).f1) ((Ae l0 a).f2) true _ A5.o).mono ?_
       rintro e bY ⟨rfl,hb⟩
       refine⟨_,rfl,?_⟩
       replace HB:=Bw hb
       try clear hb
       refine hK.out _ _ ⟨((Az HB.o x:)),((Az HB.o y:)),((Az HB.o z:))⟩ (λl=>?_)
       clear hK K
       refine Er 16 ?_
       refine Bf 5 17 ?_
       refine Bf 6 18 ?_
       refine Bf 7 19 ?_
       refine Bf 8 20 ?_
       refine Bf 9 21 ?_
       refine DD 10 22 ?_
       refine DD 11 23 ?_
       refine DD 12 24 ?_
       refine DD 13 25 ?_
       refine DD 14 26 ?_
       refine DD 15 27 ?_
       refine DD 16 28 ?_
       refine DD 17 29 ?_
       refine DD 18 30 ?_
       refine DD 19 31 ?_
       refine DD 20 32 ?_
       refine DD 21 33 ?_
       refine DD 22 34 ?_
       refine Bf 23 35 ?_
       refine Bf 24 36 ?_
       refine CV (CT HT_.o (by kernel_rfl)) ?_
       try go_wp2
       go_meet
       case rel=>exact⟨_,(false),(CA),H',⟨by have:=ay.o;first|omega|exact RB _⟩,⟨Ag⟩⟩
     ·replace c6:=RE.mpr c6
      subst c6
      have H1:(Ak.j1 k1 l0 m a true)=some r:=by rw[Rz (show¬ (false=true) by decide)]at H;exact H
      clear H
      have H:=H1
      clear H1
      have H':=a_ H
      clear H
      try go_wp2
      replace HB:=a_ (Ay HB.o)
      have O:0≤(a:Int):=Bv
      have P:a<(l0.length:Int):=Bv
      obtain⟨b,aB,g,i,j⟩:=BZ ag.o a O P
      have z:=j
      have y:=i
      have x:=g
      cases aB
      replace g:=(Az HB.o g:)
      replace i:=(Az HB.o i:)
      replace j:=(Az HB.o j:)
      replace O:=RA O
      replace P:=RA P
      refine Cl (n:=25) (S:=λw'=>w'.cell? (b.add ((a).toNat*3))=some (.int .i64 ((Ae l0 a).f0))∧w'.cell? ⟨(b.add ((a).toNat*3)).block,(b.add ((a).toNat*3)).off+1,none⟩=some (.int .i64 ((Ae l0 a).f1))∧w'.cell? ⟨(b.add ((a).toNat*3)).block,(b.add ((a).toNat*3)).off+2,none⟩=some (.string ((Ae l0 a).f2))) (ds:=[]) #[false,false,false,false,false,false,false,false,false,false,false,false,false,false,false,false,false,false,false,false,false,false,false,false,false] (by kernel_rfl) rfl rfl ⟨((Az HB.o x:)),((Az HB.o y:)),((Az HB.o z:))⟩ (λl=>?_);refine B1 Ak.I8 Ak.Gr (λHT_ HW_=>?_)
      generalize wr.drew=bZ at HB g i j l⊢
      refine Bf 0 12 ?_
      refine Bf 1 13 ?_
      refine Bf 2 14 ?_
      refine NH 3 15 l ?_
      refine E7 4 16 (λK hK=>?_)
      refine C7 Tryd.func39 (by kernel_rfl) rfl #[.agg #[.int .i64 ((Ae l0 a).f0),.int .i64 ((Ae l0 a).f1),.string ((Ae l0 a).f2)]] (by rfl) rfl rfl JV ?_
      with_reducible refine(Ed.calls k1 ((Ae l0 a).f0) ((Ae l0 a).f1) ((Ae l0 a).f2) false _ A5.o).mono ?_
      rintro e b6 ⟨rfl,hb⟩
      refine⟨_,rfl,?_⟩
      replace HB:=Bw hb
      try clear hb
      refine hK.out _ _ ⟨((Az HB.o x:)),((Az HB.o y:)),((Az HB.o z:))⟩ (λl=>?_)
      clear hK K
      refine Er 16 ?_
      refine Bf 5 17 ?_
      refine Bf 6 18 ?_
      refine DD 7 19 ?_
      refine DD 8 20 ?_
      refine DD 9 21 ?_
      refine DD 10 22 ?_
      refine DD 11 23 ?_
      refine DD 12 24 ?_
      refine DD 13 25 ?_
      refine DD 14 26 ?_
      refine DD 15 27 ?_
      refine DD 16 28 ?_
      refine DD 17 29 ?_
      refine DD 18 30 ?_
      refine DD 19 31 ?_
      refine DD 20 32 ?_
      refine DD 21 33 ?_
      refine DD 22 34 ?_
      refine DD 23 35 ?_
      refine Bf 24 36 ?_
      refine CV (CT HT_.o (by kernel_rfl)) ?_
      try go_wp2
      go_meet
      case rel=>exact⟨_,(true),(CA),H',⟨by have:=ay.o;first|omega|exact RB _⟩,⟨Ag⟩⟩
    ·rw[Rz c4]at H
     exact absurd H (by simp)
   case rest =>
    clear bl
    try clear c4
    try clear c6
    try clear c7
    try clear aS
    try clear c9
    try clear DM
    try clear g
    try clear i
    try clear j
    try clear A
    try clear B
    try clear D
    try clear E
    try clear G
    try clear I
    try clear O
    try clear aw
    try clear P
    try clear ax
    obtain⟨kq,aA,rfl,HA,aU,HB⟩:=hcut
    cases kq with
    | zero=>exact absurd HA.o (by simp[Ak.j1])
    | succ a6 =>
     have H:=HA.o
     clear HA
     simp only[Ak.j1]at H
     by_cases aV:aA=true
     ·subst aV
      have H1:(some false)=some r:=by rw[Ry rfl]at H;exact H
      clear H
      have H:=H1
      clear H1
      obtain rfl:=CW H
      go_wp2
      go_ret
      exact⟨C8,Ag⟩
     ·replace aV:=RE.mpr aV
      subst aV
      have H1:(if 0≤a then(if a<(l0.length:Int)then((CB.f ((Ae l0 a).f0)).bind λaT=>(if aT=true then(if((Ae l0 a).f0)=(wrap64 (m+1))then(Ak.j2 a6 l0 (wrap64 (m+1)) a)else(some false))else(Ak.j2 a6 l0 m a)))else(none))else(none))=some r:=by rw[Rz (show¬ (false=true) by decide)]at H;exact H
      clear H
      have H:=H1
      clear H1
      by_cases aW:0≤a
      ·rw[Ry aW]at H
       have a1:decide (0≤a)=true:=BM aW
       clear aW
       by_cases aX:a<(l0.length:Int)
       ·rw[Ry aX]at H
        have a2:decide (a<(l0.length:Int))=true:=BM aX
        clear aX
        replace H:=BR H
        obtain⟨aT,bh,H⟩:=H
        try dsimp only at H
        have bG:=a_ bh
        clear bh
        have a0:=a_ H
        clear H
        have aJ:0≤(a:Int):=Bv
        have aK:a<(l0.length:Int):=Bv
        obtain⟨d,bC,Z,aa,ab⟩:=BZ ag.o a aJ aK
        cases bC
        replace Z:=(Az HB.o Z:)
        replace aa:=(Az HB.o aa:)
        replace ab:=(Az HB.o ab:)
        replace aJ:=RA aJ
        replace aK:=RA aK
        go_upto_if 42 with(first|((with_reducible refine BQ (f:=40) rfl ?_);refine BW 42 Tn #[.int .i64 ((Ae l0 a).f0)] ?_;(with_reducible refine(CB.calls ((Ae l0 a).f0) aT _ bG.o).mono ?_);rintro e w' ⟨rfl,⟨nd,rfl⟩⟩;refine⟨_,rfl,?_⟩))
        (try simp only[Act.put,List.setIfInBounds_toArray,List.set_cons_zero,List.set_cons_succ])
        go_cut [3] (λv3 wc=>∃(kq:Nat) (av:Int),v3=.int .i64 av∧Ac (Ak.j2 kq l0 av a=some r)∧Ac (kq≤a6)∧Ac (Below w.heap.size w wc))
        case first =>
         have H:=a0.o
         clear a0
         by_cases aY:aT=true
         ·subst aY
          have H1:(if((Ae l0 a).f0)=(wrap64 (m+1))then(Ak.j2 a6 l0 (wrap64 (m+1)) a)else(some false))=some r:=by rw[Ry rfl]at H;exact H
          clear H
          have H:=H1
          clear H1
          by_cases az:((Ae l0 a).f0)=(wrap64 (m+1))
          ·rw[Ry az]at H
           have Y:(((Ae l0 a).f0)==(wrap64 (m+1)))=true:=RO.mpr az
           have aO:(((Ae l0 a).f0) != (wrap64 (m+1)))=false:=Fc az
           clear az
           (first|rw[Y]|(simp only[BJ,BP];rw[Y])|skip)
           have H':=a_ H
           clear H
           have ae:0≤(a:Int):=Bv
           have af:a<(l0.length:Int):=Bv
           obtain⟨aL,a3,J,L,M⟩:=BZ ag.o a ae af
           obtain rfl:d=aL:=(by injection a3)
           replace J:=(Az HB.o J:)
           replace L:=(Az HB.o L:)
           replace M:=(Az HB.o M:)
           replace ae:=RA ae
           replace af:=RA af
           go_wp2
           go_meet
           case rel=>exact⟨_,(wrap64 (m+1)),(CA),H',⟨by have:=ay.o;have:=aU.o;first|omega|exact RB _⟩,⟨Ag⟩⟩
          ·rw[Rz az]at H
           have Y:(((Ae l0 a).f0)==(wrap64 (m+1)))=false:=Dr az
           have aO:(((Ae l0 a).f0) != (wrap64 (m+1)))=true:=RX.mpr az
           (first|rw[Y]|(simp only[BJ,BP];rw[Y])|skip)
           obtain rfl:=CW H
           have ae:0≤(a:Int):=Bv
           have af:a<(l0.length:Int):=Bv
           obtain⟨aL,a3,J,L,M⟩:=BZ ag.o a ae af
           obtain rfl:d=aL:=(by injection a3)
           replace J:=(Az HB.o J:)
           replace L:=(Az HB.o L:)
           replace M:=(Az HB.o M:)
           replace ae:=RA ae
           replace af:=RA af
           go_wp2
           go_ret
           exact⟨C8,Ag⟩
         ·replace aY:=RE.mpr aY
          subst aY
          have H1:(Ak.j2 a6 l0 m a)=some r:=by rw[Rz (show¬ (false=true) by decide)]at H;exact H
          clear H
          have H:=H1
          clear H1
          have H':=a_ H
          clear H
          go_wp2
          go_meet
          case rel=>exact⟨_,(m),(CA),H',⟨by have:=ay.o;have:=aU.o;first|omega|exact RB _⟩,⟨Ag⟩⟩
        case rest =>
         clear a0
         try clear c2
         try clear c4
         try clear c6
         try clear c7
         try clear aS
         try clear c9
         try clear DM
         try clear aV
         try clear aW
         try clear a1
         try clear aX
         try clear a2
         try clear aY
         try clear az
         try clear Y
         try clear aO
         try clear g
         try clear i
         try clear j
         try clear A
         try clear B
         try clear D
         try clear E
         try clear G
         try clear I
         try clear Z
         try clear aa
         try clear ab
         try clear J
         try clear L
         try clear M
         try clear O
         try clear aw
         try clear aJ
         try clear ae
         try clear P
         try clear ax
         try clear aK
         try clear af
         obtain⟨kq,av,rfl,HA,aR,HB⟩:=hcut
         cases kq with
         | zero=>exact absurd HA.o (by simp[Ak.j2])
         | succ bk =>
          have H:=HA.o
          clear HA
          simp only[Ak.j2]at H
          have H':=a_ H
          clear H
          go_wp2
          go_loopg [5] bk (λkq v5 w'=>∃(c:Int),v5=.int .i64 c∧Ac (Ak.l1 kq l0 av a c=some r)∧Ac (kq≤bk)∧Ac (Below w.heap.size w w'))
          case atStart=>exact⟨(0),(CA),H',⟨RB _⟩,⟨Ag⟩⟩
          case round =>
           clear H'
           try clear c2
           try clear c4
           try clear c6
           try clear c7
           try clear aS
           try clear c9
           try clear DM
           try clear aV
           try clear aW
           try clear a1
           try clear aX
           try clear a2
           try clear aY
           try clear az
           try clear Y
           try clear aO
           try clear g
           try clear i
           try clear j
           try clear A
           try clear B
           try clear D
           try clear E
           try clear G
           try clear I
           try clear Z
           try clear aa
           try clear ab
           try clear J
           try clear L
           try clear M
           try clear O
           try clear aw
           try clear aJ
           try clear ae
           try clear P
           try clear ax
           try clear aK
           try clear af
           obtain⟨c,rfl,HA,bb,HB⟩:=hrel
           cases gk with
           | zero=>exact absurd HA.o (by simp[Ak.l1])
           | succ k4 =>
            have H:=HA.o
            clear HA
            simp only[Ak.l1]at H
            by_cases aZ:c<a
            ·rw[Ry aZ]at H
             have bo:decide (c<a)=true:=BM aZ
             clear aZ
             by_cases bc:0≤c
             ·rw[Ry bc]at H
              have bJ:decide (0≤c)=true:=BM bc
              clear bc
              by_cases bd:c<(l0.length:Int)
              ·rw[Ry bd]at H
               have bK:decide (c<(l0.length:Int))=true:=BM bd
               clear bd
               by_cases be:0≤a
               ·rw[Ry be]at H
                have bL:decide (0≤a)=true:=BM be
                clear be
                by_cases bf:a<(l0.length:Int)
                ·rw[Ry bf]at H
                 have bM:decide (a<(l0.length:Int))=true:=BM bf
                 clear bf
                 by_cases aP:((Ae l0 c).f0)=((Ae l0 a).f0)
                 ·rw[Ry aP]at H
                  have bp:(((Ae l0 c).f0)==((Ae l0 a).f0))=true:=RO.mpr aP
                  have bq:(((Ae l0 c).f0) != ((Ae l0 a).f0))=false:=Fc aP
                  clear aP
                  obtain rfl:=CW H
                  try go_wp2
                  replace HB:=a_ (Ay HB.o)
                  have ao:0≤(c:Int):=Bv
                  have ar:c<(l0.length:Int):=Bv
                  obtain⟨aM,a4,o,p,q⟩:=BZ ag.o c ao ar
                  have aj:=q
                  have ai:=p
                  have ah:=o
                  obtain rfl:d=aM:=(by injection a4)
                  replace o:=(Az HB.o o:)
                  replace p:=(Az HB.o p:)
                  replace q:=(Az HB.o q:)
                  replace ao:=RA ao
                  replace ar:=RA ar
                  have aq:0≤(a:Int):=Bv
                  have au:a<(l0.length:Int):=Bv
                  obtain⟨aN,a5,t,u,v⟩:=BZ ag.o a aq au
                  have an:=v
                  have al:=u
                  have ak:=t
                  obtain rfl:d=aN:=(by injection a5)
                  replace t:=(Az HB.o t:)
                  replace u:=(Az HB.o u:)
                  replace v:=(Az HB.o v:)
                  replace aq:=RA aq
                  replace au:=RA au
                  refine Cl (n:=11) (S:=λw'=>w'.cell? (d.add ((c).toNat*3))=some (.int .i64 ((Ae l0 c).f0))∧w'.cell? ⟨(d.add ((c).toNat*3)).block,(d.add ((c).toNat*3)).off+1,none⟩=some (.int .i64 ((Ae l0 c).f1))∧w'.cell? ⟨(d.add ((c).toNat*3)).block,(d.add ((c).toNat*3)).off+2,none⟩=some (.string ((Ae l0 c).f2))∧w'.cell? (d.add ((a).toNat*3))=some (.int .i64 ((Ae l0 a).f0))∧w'.cell? ⟨(d.add ((a).toNat*3)).block,(d.add ((a).toNat*3)).off+1,none⟩=some (.int .i64 ((Ae l0 a).f1))∧w'.cell? ⟨(d.add ((a).toNat*3)).block,(d.add ((a).toNat*3)).off+2,none⟩=some (.string ((Ae l0 a).f2))) (ds:=[]) #[false,false,false,false,false,false,false,false,false,false,false] (by kernel_rfl) rfl rfl ⟨((Az HB.o ah:)),((Az HB.o ai:)),((Az HB.o aj:)),((Az HB.o ak:)),((Az HB.o al:)),((Az HB.o an:))⟩ (λl=>?_);refine B1 Ak.L6 Ak.JW (λHT_ HW_=>?_)
                  generalize wr.drew=b7 at HB o p q t u v l⊢
                  refine Bf 0 57 ?_
                  refine Bf 1 58 ?_
                  refine Bf 2 59 ?_
                  refine Bf 3 60 ?_
                  refine Bf 5 62 ?_
                  refine Bf 6 63 ?_
                  refine Bf 7 64 ?_
                  refine Bf 8 65 ?_
                  refine NI 4 61 l ?_
                  refine NI 9 66 l ?_
                  refine Bf 10 67 ?_
                  refine CV (CT HT_.o (by kernel_rfl)) ?_
                  try go_wp2
                  go_ret
                  exact⟨C8,Ag⟩
                 ·rw[Rz aP]at H
                  have bp:(((Ae l0 c).f0)==((Ae l0 a).f0))=false:=Dr aP
                  have bq:(((Ae l0 c).f0) != ((Ae l0 a).f0))=true:=RX.mpr aP
                  have H':=a_ H
                  clear H
                  try go_wp2
                  replace HB:=a_ (Ay HB.o)
                  have ao:0≤(c:Int):=Bv
                  have ar:c<(l0.length:Int):=Bv
                  obtain⟨aM,a4,o,p,q⟩:=BZ ag.o c ao ar
                  have aj:=q
                  have ai:=p
                  have ah:=o
                  obtain rfl:d=aM:=(by injection a4)
                  replace o:=(Az HB.o o:)
                  replace p:=(Az HB.o p:)
                  replace q:=(Az HB.o q:)
                  replace ao:=RA ao
                  replace ar:=RA ar
                  have aq:0≤(a:Int):=Bv
                  have au:a<(l0.length:Int):=Bv
                  obtain⟨aN,a5,t,u,v⟩:=BZ ag.o a aq au
                  have an:=v
                  have al:=u
                  have ak:=t
                  obtain rfl:d=aN:=(by injection a5)
                  replace t:=(Az HB.o t:)
                  replace u:=(Az HB.o u:)
                  replace v:=(Az HB.o v:)
                  replace aq:=RA aq
                  replace au:=RA au
                  refine Cl (n:=11) (S:=λw'=>w'.cell? (d.add ((c).toNat*3))=some (.int .i64 ((Ae l0 c).f0))∧w'.cell? ⟨(d.add ((c).toNat*3)).block,(d.add ((c).toNat*3)).off+1,none⟩=some (.int .i64 ((Ae l0 c).f1))∧w'.cell? ⟨(d.add ((c).toNat*3)).block,(d.add ((c).toNat*3)).off+2,none⟩=some (.string ((Ae l0 c).f2))∧w'.cell? (d.add ((a).toNat*3))=some (.int .i64 ((Ae l0 a).f0))∧w'.cell? ⟨(d.add ((a).toNat*3)).block,(d.add ((a).toNat*3)).off+1,none⟩=some (.int .i64 ((Ae l0 a).f1))∧w'.cell? ⟨(d.add ((a).toNat*3)).block,(d.add ((a).toNat*3)).off+2,none⟩=some (.string ((Ae l0 a).f2))) (ds:=[]) #[false,false,false,false,false,false,false,false,false,false,false] (by kernel_rfl) rfl rfl ⟨((Az HB.o ah:)),((Az HB.o ai:)),((Az HB.o aj:)),((Az HB.o ak:)),((Az HB.o al:)),((Az HB.o an:))⟩ (λl=>?_);refine B1 Ak.L6 Ak.JW (λHT_ HW_=>?_)
                  generalize wr.drew=b8 at HB o p q t u v l⊢
                  refine Bf 0 57 ?_
                  refine Bf 1 58 ?_
                  refine Bf 2 59 ?_
                  refine Bf 3 60 ?_
                  refine Bf 5 62 ?_
                  refine Bf 6 63 ?_
                  refine Bf 7 64 ?_
                  refine Bf 8 65 ?_
                  refine NI 4 61 l ?_
                  refine NI 9 66 l ?_
                  refine Bf 10 67 ?_
                  refine CV (CT HT_.o (by kernel_rfl)) ?_
                  try go_wp2
                  go_roundg k4
                  case measure=>have:=ay.o;have:=aU.o;have:=aR.o;have:=bb.o;omega
                  case rel=>exact⟨(wrap64 (c+1)),(CA),H',⟨by have:=ay.o;have:=aU.o;have:=aR.o;have:=bb.o;omega⟩,⟨Ag⟩⟩
                ·rw[Rz bf]at H
                 exact absurd H (by simp)
               ·rw[Rz be]at H
                exact absurd H (by simp)
              ·rw[Rz bd]at H
               exact absurd H (by simp)
             ·rw[Rz bc]at H
              exact absurd H (by simp)
            ·rw[Rz aZ]at H
             have bo:decide (c<a)=false:=C9 aZ
             clear aZ
             have H':=a_ H
             clear H
             go_wp2
             go_roundg k4
             case measure=>have:=ay.o;have:=aU.o;have:=aR.o;have:=bb.o;omega
             case rel=>exact⟨(av),(wrap64 (a+1)),(CA),(CA),H',⟨by have:=ay.o;have:=aU.o;have:=aR.o;have:=bb.o;omega⟩,⟨Ag⟩⟩
       ·rw[Rz aX]at H
        exact absurd H (by simp)
      ·rw[Rz aW]at H
       exact absurd H (by simp)
  ·rw[Rz c2]at H
   have bx:decide (a<(l0.length:Int))=false:=C9 c2
   clear c2
   by_cases aQ:m=3
   ·rw[Ry aQ]at H
    have br:(m==3)=true:=RO.mpr aQ
    have bu:(m != 3)=false:=Fc aQ
    clear aQ
    by_cases bg:0<(l0.length:Int)
    ·rw[Ry bg]at H
     have bN:decide (0<(l0.length:Int))=true:=BM bg
     have bO:decide (0<l0.length)=true:=BM (by omega)
     clear bg
     obtain rfl:=CW H
     have a7:0≤(0:Int):=(by omega)
     have a9:0<(l0.length:Int):=Bv
     obtain⟨bH,bz,U,W,X⟩:=BZ ag.o 0 a7 a9
     cases bz
     have bQ:(0<l0.length)=True:=RA (by omega)
     (try rw[show((0:Int)).toNat=0 from rfl]at U)
     (try rw[show 0*3=0 from rfl]at U)
     (try rw[Sa]at U)
     (try rw[show((0:Int)).toNat=0 from rfl]at W)
     (try rw[show 0*3=0 from rfl]at W)
     (try rw[Sa]at W)
     (try rw[show((0:Int)).toNat=0 from rfl]at X)
     (try rw[show 0*3=0 from rfl]at X)
     (try rw[Sa]at X)
     replace U:=(Az HB.o U:)
     replace W:=(Az HB.o W:)
     replace X:=(Az HB.o X:)
     replace a7:=RA a7
     replace a9:=RA a9
     go_wp2
     go_ret
     exact⟨C8,Ag⟩
    ·rw[Rz bg]at H
     exact absurd H (by simp)
   ·rw[Rz aQ]at H
    have br:(m==3)=false:=Dr aQ
    have bu:(m != 3)=true:=RX.mpr aQ
    obtain rfl:=CW H
    go_wp2
    go_ret
    exact⟨C8,Ag⟩
mutual
def Ap.j0:Nat->Bool->Int->Int->List (Ba)->List (AQ)->Int->Int->Option (Bool)
 | 0,_,_,_,_,_,_,_=>none
 | k+1,i,a,b,c,d,e,g=>if i=true then(some false)else(Ap.l0 k 0 a b c d e g)
def Ap.l0:Nat->Int->Int->Int->List (Ba)->List (AQ)->Int->Int->Option (Bool)
 | 0,_,_,_,_,_,_,_=>none
 | k+1,i,b,e,g,a,c,d=>if i<(a.length:Int)then(if 0≤i then((BA.f k ((Aa a i).f0) ((Aa a i).f1) ((Aa a i).f2.f0) ((Aa a i).f2.f1) ((Aa a i).f2.f2) ((Aa a i).f2.f3) ((Aa a i).f2.f4)).bind λj=>(if j=true then(if((Aa a i).f0)=b then(if((Aa a i).f1)=(wrap64 ((wrap64 (c+i))+1))then(if((Aa a i).f2.f0)=1 then(if((Aa a i).f2.f1)>(wrap64 ((wrap64 (10*b))+d))then(some false)else(Ap.l0 k (wrap64 (i+1)) b e g a c d))else(Ap.l0 k (wrap64 (i+1)) b e g a c d))else(some false))else(some false))else(some false)))else(none))else(some true)
end
def Ap.f(k:Nat)(c:Int)(a:Int)(e:List (Ba))(g:List (AQ))(b:Int)(d:Int):Option (Bool):=(Ar.f c 1 3).bind λi=>(if i=true then((Ar.f a 0 40).bind λj=>(if j=true then((Ak.f k e).bind λl=>(if l=true then((Ar.f b 0 a).bind λm=>(if m=true then(if(wrap64 (b+(g.length:Int)))>40 then(Ap.j0 k true c a e g b d)else((Ar.f d 0 6).bind λn=>(Ap.j0 k (!n) c a e g b d)))else(Ap.j0 k true c a e g b d)))else(Ap.j0 k true c a e g b d)))else(Ap.j0 k true c a e g b d)))else(Ap.j0 k true c a e g b d))
theorem Ap.calls(k:Nat)(d:Int)(j:Int)(I:Option Addr)(J:Nat)(m:List (Ba))(ag:Option Addr)(K:Nat)(a:List (AQ))(i:Int)(l:Int)(r:Bool)(w:World)(cx:Kd.C Dd w I m.length m)(cv:m.length≤J)(cy:Kd.C Ck w ag a.length a)(cw:a.length≤K)(h:Ap.f k d j m a i l=some r) :
  Calls Tryd.prog 7 #[.agg #[.int .i64 d,.int .i64 j,.slice I m.length J,.slice ag a.length K,.int .i64 i,.int .i64 l]] w λe w'=>e=.returned (.bool r)∧Below w.heap.size w w':=by
 have jr:=RP;have js:=Sk;have ae:=a_ cx;have ab:=a_ cv;clear cx cv;have X:=a_ cy;have c0:=a_ cw;clear cy cw;have HB:=a_ (RG w.heap.size w);unfold Ap.f at h;have H:=h;clear h;have cI:=a_ H;clear H;go_enter Tryd.func7,Tryd.ntmps7;go_upto_region 1 with(first|((with_reducible refine BV (N:=1) rfl ?_);refine Cy 1 (#[.int .i64 d,.int .i64 j,.slice I m.length J,.slice ag a.length K,.int .i64 i,.int .i64 l]) 26 ?_;intro p hg w3 O G;have c:=a_ (O);have cZ:=BD w hg;have cY:=BD w hg;replace HB:=Bw G;clear G O hg))
 (try simp only[Act.put,List.setIfInBounds_toArray,List.set_cons_zero,List.set_cons_succ]);go_cut [43] (λjq wc=>∃(kq:Nat) (af:Bool),jq=.bool af∧Ac (Ap.j0 kq af d j m a i l=some r)∧Ac (kq≤k)∧Ac (wc.heap[p]?=some (.cells #[.int .i64 d,.int .i64 j,(.slice I m.length J),(.slice ag a.length K),.int .i64 i,.int .i64 l] 26 (0,0)))∧Ac (Below w.heap.size w wc))
 case first =>
  have H:=cI.o;clear cI;replace H:=BR H;obtain⟨cV,cS,H⟩:=H;try dsimp only at H
  have A4:=a_ cS;clear cS;by_cases c5:cV=true
  ·subst c5;have H1:((Ar.f j 0 40).bind λcz=>(if cz=true then((Ak.f k m).bind λai=>(if ai=true then((Ar.f i 0 j).bind λaa=>(if aa=true then(if(wrap64 (i+(a.length:Int)))>40 then(Ap.j0 k true d j m a i l)else((Ar.f l 0 6).bind λT=>(Ap.j0 k (!T) d j m a i l)))else(Ap.j0 k true d j m a i l)))else(Ap.j0 k true d j m a i l)))else(Ap.j0 k true d j m a i l)))=some r:=by rw[Ry rfl]at H;exact H
   clear H;have H:=H1;clear H1;replace H:=BR H;obtain⟨cz,cT,H⟩:=H;try dsimp only at H
   have A6:=a_ cT;clear cT;by_cases c7:cz=true
   ·subst c7;have H1:((Ak.f k m).bind λai=>(if ai=true then((Ar.f i 0 j).bind λaa=>(if aa=true then(if(wrap64 (i+(a.length:Int)))>40 then(Ap.j0 k true d j m a i l)else((Ar.f l 0 6).bind λT=>(Ap.j0 k (!T) d j m a i l)))else(Ap.j0 k true d j m a i l)))else(Ap.j0 k true d j m a i l)))=some r:=by rw[Ry rfl]at H;exact H
    clear H;have H:=H1;clear H1;replace H:=BR H;obtain⟨ai,cU,H⟩:=H;try dsimp only at H
    have A8:=a_ cU;clear cU;by_cases c9:ai=true
    ·subst c9;have H1:((Ar.f i 0 j).bind λaa=>(if aa=true then(if(wrap64 (i+(a.length:Int)))>40 then(Ap.j0 k true d j m a i l)else((Ar.f l 0 6).bind λT=>(Ap.j0 k (!T) d j m a i l)))else(Ap.j0 k true d j m a i l)))=some r:=by rw[Ry rfl]at H;exact H
     clear H;have H:=H1;clear H1;replace H:=BR H;obtain⟨aa,cE,H⟩:=H;try dsimp only at H
     have cH:=a_ cE;clear cE;by_cases ao:aa=true
     ·subst ao;have H1:(if(wrap64 (i+(a.length:Int)))>40 then(Ap.j0 k true d j m a i l)else((Ar.f l 0 6).bind λT=>(Ap.j0 k (!T) d j m a i l)))=some r:=by rw[Ry rfl]at H;exact H
      clear H;have H:=H1;clear H1;by_cases ah:(wrap64 (i+(a.length:Int)))>40
      ·rw[Ry ah]at H;have U:decide (40<(wrap64 (i+(a.length:Int))))=true:=BM ah;clear ah;(first|rw[U]|(simp only[BJ,BP];rw[U])|skip);have H':=a_ H;clear H;obtain⟨bn,bo,bp,bq,br,bu,au,av,aw,ax,ay,az⟩:=BT c.o;go_wp2_with(first|((with_reducible refine BQ (f:=20) rfl ?_);refine BW 7 Sw #[.int .i64 d,.int .i64 1,.int .i64 3] ?_;(with_reducible refine(Ar.calls d 1 3 true _ A4.o).mono ?_);rintro e w' ⟨rfl,⟨nd,rfl⟩⟩;refine⟨_,rfl,?_⟩)|(go_at_call 20;(with_reducible refine(Ar.calls j 0 40 true _ A6.o).mono ?_);rintro e w' ⟨rfl,⟨nd,rfl⟩⟩)|(go_at_call 21;(with_reducible refine(Ak.calls k _ _ m true _ ?q' ?z' A8.o).mono ?_);(case q'=>repeat(first|exact(Kd.Bu ae.o (Ag))|(with_reducible refine Kd.C_alloc ?_ _)|(with_reducible refine Kd.B_ ?_ _)|(with_reducible refine Kd.C_drew ?_)));(case z'=>exact ab.o);rintro e jt ⟨rfl,G⟩;replace HB:=Bw G;replace c:=a_ (Cr c.o G);(try clear G);obtain⟨bw,bx,bz,bA,bB,bC,aA,aB,aC,aD,aE,aF⟩:=BT c.o)|(go_at_call 20;(with_reducible refine(Ar.calls i 0 j true _ cH.o).mono ?_);rintro e w' ⟨rfl,⟨nd,rfl⟩⟩));go_meet
       exact⟨_,(true),(CA),H',⟨by first|omega|exact RB _⟩,⟨Bc c.o⟩,⟨Ag⟩⟩
      rw[Rz ah]at H;have U:decide (40<(wrap64 (i+(a.length:Int))))=false:=C9 ah;clear ah;(first|rw[U]|(simp only[BJ,BP];rw[U])|skip);replace H:=BR H;obtain⟨T,cF,H⟩:=H;try dsimp only at H
      have cX:=a_ cF;clear cF;have H':=a_ H;clear H;obtain⟨bD,bE,bF,bG,bH,bI,aG,aH,aI,aJ,aK,aL⟩:=BT c.o;go_wp2_with(first|((with_reducible refine BQ (f:=20) rfl ?_);refine BW 7 Sw #[.int .i64 d,.int .i64 1,.int .i64 3] ?_;(with_reducible refine(Ar.calls d 1 3 true _ A4.o).mono ?_);rintro e w' ⟨rfl,⟨nd,rfl⟩⟩;refine⟨_,rfl,?_⟩)|(go_at_call 20;(with_reducible refine(Ar.calls j 0 40 true _ A6.o).mono ?_);rintro e w' ⟨rfl,⟨nd,rfl⟩⟩)|(go_at_call 21;(with_reducible refine(Ak.calls k _ _ m true _ ?q' ?z' A8.o).mono ?_);(case q'=>repeat(first|exact(Kd.Bu ae.o (Ag))|(with_reducible refine Kd.C_alloc ?_ _)|(with_reducible refine Kd.B_ ?_ _)|(with_reducible refine Kd.C_drew ?_)));(case z'=>exact ab.o);rintro e ju ⟨rfl,G⟩;replace HB:=Bw G;replace c:=a_ (Cr c.o G);(try clear G);obtain⟨bJ,bK,bL,bM,bN,bO,aM,aN,aO,aP,aQ,aR⟩:=BT c.o)|(go_at_call 20;(with_reducible refine(Ar.calls i 0 j true _ cH.o).mono ?_);rintro e w' ⟨rfl,⟨nd,rfl⟩⟩)|(go_at_call 20;(with_reducible refine(Ar.calls l 0 6 T _ cX.o).mono ?_);rintro e w' ⟨rfl,⟨nd,rfl⟩⟩));go_meet
      exact⟨_,(!T),(CA),H',⟨by first|omega|exact RB _⟩,⟨Bc c.o⟩,⟨Ag⟩⟩
     replace ao:=RE.mpr ao;subst ao;have H1:(Ap.j0 k true d j m a i l)=some r:=by rw[Rz (show¬ (false=true) by decide)]at H;exact H
     clear H;have H:=H1;clear H1;have H':=a_ H;clear H;obtain⟨bP,bQ,bR,bS,bT,bU,aS,aT,aU,aV,aW,aX⟩:=BT c.o;go_wp2_with(first|((with_reducible refine BQ (f:=20) rfl ?_);refine BW 7 Sw #[.int .i64 d,.int .i64 1,.int .i64 3] ?_;(with_reducible refine(Ar.calls d 1 3 true _ A4.o).mono ?_);rintro e w' ⟨rfl,⟨nd,rfl⟩⟩;refine⟨_,rfl,?_⟩)|(go_at_call 20;(with_reducible refine(Ar.calls j 0 40 true _ A6.o).mono ?_);rintro e w' ⟨rfl,⟨nd,rfl⟩⟩)|(go_at_call 21;(with_reducible refine(Ak.calls k _ _ m true _ ?q' ?z' A8.o).mono ?_);(case q'=>repeat(first|exact(Kd.Bu ae.o (Ag))|(with_reducible refine Kd.C_alloc ?_ _)|(with_reducible refine Kd.B_ ?_ _)|(with_reducible refine Kd.C_drew ?_)));(case z'=>exact ab.o);rintro e jv ⟨rfl,G⟩;replace HB:=Bw G;replace c:=a_ (Cr c.o G);(try clear G);obtain⟨bV,bW,bX,bY,bZ,b6,aY,aZ,a0,a1,a2,a3⟩:=BT c.o)|(go_at_call 20;(with_reducible refine(Ar.calls i 0 j false _ cH.o).mono ?_);rintro e w' ⟨rfl,⟨nd,rfl⟩⟩));go_meet
     exact⟨_,(true),(CA),H',⟨by first|omega|exact RB _⟩,⟨Bc c.o⟩,⟨Ag⟩⟩
    replace c9:=RE.mpr c9;subst c9;have H1:(Ap.j0 k true d j m a i l)=some r:=by rw[Rz (show¬ (false=true) by decide)]at H;exact H
    clear H;have H:=H1;clear H1;have H':=a_ H;clear H;obtain⟨b7,b8,b9,b_,ca,cb,a4,a5,a6,a7,a8,a9⟩:=BT c.o;go_wp2_with(first|((with_reducible refine BQ (f:=20) rfl ?_);refine BW 7 Sw #[.int .i64 d,.int .i64 1,.int .i64 3] ?_;(with_reducible refine(Ar.calls d 1 3 true _ A4.o).mono ?_);rintro e w' ⟨rfl,⟨nd,rfl⟩⟩;refine⟨_,rfl,?_⟩)|(go_at_call 20;(with_reducible refine(Ar.calls j 0 40 true _ A6.o).mono ?_);rintro e w' ⟨rfl,⟨nd,rfl⟩⟩)|(go_at_call 21;(with_reducible refine(Ak.calls k _ _ m false _ ?q' ?z' A8.o).mono ?_);(case q'=>repeat(first|exact(Kd.Bu ae.o (Ag))|(with_reducible refine Kd.C_alloc ?_ _)|(with_reducible refine Kd.B_ ?_ _)|(with_reducible refine Kd.C_drew ?_)));(case z'=>exact ab.o);rintro e jw ⟨rfl,G⟩;replace HB:=Bw G;replace c:=a_ (Cr c.o G);(try clear G)));go_meet
    exact⟨_,(true),(CA),H',⟨by first|omega|exact RB _⟩,⟨Bc c.o⟩,⟨Ag⟩⟩
   replace c7:=RE.mpr c7;subst c7;have H1:(Ap.j0 k true d j m a i l)=some r:=by rw[Rz (show¬ (false=true) by decide)]at H;exact H
   clear H;have H:=H1;clear H1;have H':=a_ H;clear H;obtain⟨cd,cf,cg,cj,ck,cl,ba,bb,bc,bd,be,bf⟩:=BT c.o;go_wp2_with(first|((with_reducible refine BQ (f:=20) rfl ?_);refine BW 7 Sw #[.int .i64 d,.int .i64 1,.int .i64 3] ?_;(with_reducible refine(Ar.calls d 1 3 true _ A4.o).mono ?_);rintro e w' ⟨rfl,⟨nd,rfl⟩⟩;refine⟨_,rfl,?_⟩)|(go_at_call 20;(with_reducible refine(Ar.calls j 0 40 false _ A6.o).mono ?_);rintro e w' ⟨rfl,⟨nd,rfl⟩⟩));go_meet
   exact⟨_,(true),(CA),H',⟨by first|omega|exact RB _⟩,⟨Bc c.o⟩,⟨Ag⟩⟩
  replace c5:=RE.mpr c5;subst c5;have H1:(Ap.j0 k true d j m a i l)=some r:=by rw[Rz (show¬ (false=true) by decide)]at H;exact H
  clear H;have H:=H1;clear H1;have H':=a_ H;clear H;obtain⟨cm,cn,cp,cq,cr,ct,bg,bh,bj,bk,bl,bm⟩:=BT c.o;go_wp2_with(first|((with_reducible refine BQ (f:=20) rfl ?_);refine BW 7 Sw #[.int .i64 d,.int .i64 1,.int .i64 3] ?_;(with_reducible refine(Ar.calls d 1 3 false _ A4.o).mono ?_);rintro e w' ⟨rfl,⟨nd,rfl⟩⟩;refine⟨_,rfl,?_⟩));go_meet
  exact⟨_,(true),(CA),H',⟨by first|omega|exact RB _⟩,⟨Bc c.o⟩,⟨Ag⟩⟩
 clear cI;try clear c1
 try clear c5
 try clear c7
 try clear c9
 try clear ao
 try clear ah
 try clear U
 try clear bn bo bp bq br bu au av aw ax ay az
 try clear bw bx bz bA bB bC aA aB aC aD aE aF
 try clear bD bE bF bG bH bI aG aH aI aJ aK aL
 try clear bJ bK bL bM bN bO aM aN aO aP aQ aR
 try clear bP bQ bR bS bT bU aS aT aU aV aW aX
 try clear bV bW bX bY bZ b6 aY aZ a0 a1 a2 a3
 try clear b7 b8 b9 b_ ca cb a4 a5 a6 a7 a8 a9
 try clear cd cf cg cj ck cl ba bb bc bd be bf
 try clear cm cn cp cq cr ct bg bh bj bk bl bm
 obtain⟨kq,af,rfl,HA,cA,c,HB⟩:=hcut;cases kq with
 | zero=>exact absurd HA.o (by simp[Ap.j0])
 | succ cR =>
  have H:=HA.o
  clear HA
  simp only[Ap.j0]at H
  by_cases cu:af=true
  ·subst cu
   have H1:(some false)=some r:=by rw[Ry rfl]at H;exact H
   clear H
   have H:=H1
   clear H1
   obtain rfl:=CW H
   go_wp2
   go_ret
   exact⟨C8,Ag⟩
  ·replace cu:=RE.mpr cu
   subst cu
   have H1:(Ap.l0 cR 0 d j m a i l)=some r:=by rw[Rz (show¬ (false=true) by decide)]at H;exact H
   clear H
   have H:=H1
   clear H1
   have H':=a_ H
   clear H
   go_wp2
   go_loopg [3] cR (λkq v3 w'=>∃(b:Int),v3=.int .i64 b∧Ac (Ap.l0 kq b d j m a i l=some r)∧Ac (kq≤cR)∧Ac (w'.heap[p]?=some (.cells #[.int .i64 d,.int .i64 j,(.slice I m.length J),(.slice ag a.length K),.int .i64 i,.int .i64 l] 26 (0,0)))∧Ac (Below w.heap.size w w'))
   case atStart=>exact⟨(0),(CA),H',⟨RB _⟩,⟨Bc c.o⟩,⟨Ag⟩⟩
   case round =>
    clear H'
    try clear c5
    try clear c7
    try clear c9
    try clear ao
    try clear ah
    try clear U
    try clear cu
    try clear bn bo bp bq br bu au av aw ax ay az
    try clear bw bx bz bA bB bC aA aB aC aD aE aF
    try clear bD bE bF bG bH bI aG aH aI aJ aK aL
    try clear bJ bK bL bM bN bO aM aN aO aP aQ aR
    try clear bP bQ bR bS bT bU aS aT aU aV aW aX
    try clear bV bW bX bY bZ b6 aY aZ a0 a1 a2 a3
    try clear b7 b8 b9 b_ ca cb a4 a5 a6 a7 a8 a9
    try clear cd cf cg cj ck cl ba bb bc bd be bf
    try clear cm cn cp cq cr ct bg bh bj bk bl bm
    obtain⟨b,rfl,HA,cB,c,HB⟩:=hrel
    cases gk with
    | zero=>exact absurd HA.o (by simp[Ap.l0])
    | succ k2 =>
     have H:=HA.o
     clear HA
     simp only[Ap.l0]at H
     by_cases aq:b<(a.length:Int)
     ·rw[Ry aq]at H
      have cJ:decide (b<(a.length:Int))=true:=BM aq
      clear aq
      by_cases cC:0≤b
      ·rw[Ry cC]at H
       have jc:decide (0≤b)=true:=BM cC
       clear cC
       replace H:=BR H
       obtain⟨cW,cG,H⟩:=H
       try dsimp only at H
       have an:=a_ cG
       clear cG
       by_cases cD:cW=true
       ·subst cD
        have H1:(if((Aa a b).f0)=d then(if((Aa a b).f1)=(wrap64 ((wrap64 (i+b))+1))then(if((Aa a b).f2.f0)=1 then(if((Aa a b).f2.f1)>(wrap64 ((wrap64 (10*d))+l))then(some false)else(Ap.l0 k2 (wrap64 (b+1)) d j m a i l))else(Ap.l0 k2 (wrap64 (b+1)) d j m a i l))else(some false))else(some false))=some r:=by rw[Ry rfl]at H;exact H
        clear H
        have H:=H1
        clear H1
        by_cases aj:((Aa a b).f0)=d
        ·rw[Ry aj]at H
         have cK:(((Aa a b).f0)==d)=true:=RO.mpr aj
         have cL:(((Aa a b).f0) != d)=false:=Fc aj
         clear aj
         by_cases ak:((Aa a b).f1)=(wrap64 ((wrap64 (i+b))+1))
         ·rw[Ry ak]at H
          have cM:(((Aa a b).f1)==(wrap64 ((wrap64 (i+b))+1)))=true:=RO.mpr ak
          have cN:(((Aa a b).f1) != (wrap64 ((wrap64 (i+b))+1)))=false:=Fc ak
          clear ak
          by_cases al:((Aa a b).f2.f0)=1
          ·rw[Ry al]at H
           have cO:(((Aa a b).f2.f0)==1)=true:=RO.mpr al
           have cP:(((Aa a b).f2.f0) != 1)=false:=Fc al
           clear al
           by_cases ar:((Aa a b).f2.f1)>(wrap64 ((wrap64 (10*d))+l))
           ·rw[Ry ar]at H
            have cQ:decide ((wrap64 ((wrap64 (10*d))+l))<((Aa a b).f2.f1))=true:=BM ar
            clear ar
            obtain rfl:=CW H
            obtain⟨fV,fW,fX,fY,fZ,f_,c_,da,db,dc,dd,de⟩:=BT (W:=wr) c.o
            have L:0≤(b:Int):=Bv
            have M:b<(a.length:Int):=Bv
            obtain⟨D,P,t,u,v,x,y,z,A⟩:=CQ X.o b L M
            cases P
            replace t:=(Az HB.o t:)
            replace u:=(Az HB.o u:)
            replace v:=(Az HB.o v:)
            replace x:=(Az HB.o x:)
            replace y:=(Az HB.o y:)
            replace z:=(Az HB.o z:)
            replace A:=(Az HB.o A:)
            replace L:=RA L
            replace M:=RA M
            go_wp2_with(first|((with_reducible refine BV (N:=4) rfl ?_);refine Cy 4 (#[.int .i64 0,.int .i64 0,.int .i64 0,.int .i64 0,.int .i64 0,.int .i64 0,.string (⟨#[]⟩:ByteArray)]) 32 ?_;intro E hg jx O G;have q:=a_ (O);have Z:=BD w hg;have Y:=BD w hg;have n:=a_ ((by rw[hg];exact RN (Av (g:=p) (o:=.cells #[.int .i64 d,.int .i64 j,.slice I m.length J,.slice (some D) a.length K,.int .i64 i,.int .i64 l] 26 (0,0)) (Bc c.o)):p≠E));have B:=a_ ((by rw[hg];exact RM (Av (g:=p) (o:=.cells #[.int .i64 d,.int .i64 j,.slice I m.length J,.slice (some D) a.length K,.int .i64 i,.int .i64 l] 26 (0,0)) (Bc c.o)):E≠p));replace c:=a_ (Cr c.o G);replace HB:=Bw G;clear G O hg;have jd:=B.o;have jj:=n.o;obtain⟨ga,gb,gf,gg,gh,gi,gj,df,dg,dh,di,dj,dk,dm⟩:=DC q.o)|((with_reducible refine BQ (f:=22) rfl ?_);refine BW 57 SW #[.agg #[.int .i64 ((Aa a b).f0),.int .i64 ((Aa a b).f1),.int .i64 ((Aa a b).f2.f0),.int .i64 ((Aa a b).f2.f1),.int .i64 ((Aa a b).f2.f2),.int .i64 ((Aa a b).f2.f3),.string ((Aa a b).f2.f4)]] ?_;(with_reducible refine(BA.calls k2 ((Aa a b).f0) ((Aa a b).f1) ((Aa a b).f2.f0) ((Aa a b).f2.f1) ((Aa a b).f2.f2) ((Aa a b).f2.f3) ((Aa a b).f2.f4) true _ an.o).mono ?_);rintro e jy ⟨rfl,G⟩;refine⟨_,rfl,?_⟩;replace c:=a_ (Ao (g:=p) (o:=.cells #[.int .i64 d,.int .i64 j,.slice I m.length J,.slice (some D) a.length K,.int .i64 i,.int .i64 l] 26 (0,0)) (CZ n.o c.o) G);replace q:=a_ (Ao (g:=E) (o:=.cells #[.int .i64 ((Aa a b).f0),.int .i64 ((Aa a b).f1),.int .i64 ((Aa a b).f2.f0),.int .i64 ((Aa a b).f2.f1),.int .i64 ((Aa a b).f2.f2),.int .i64 ((Aa a b).f2.f3),.string ((Aa a b).f2.f4)] 32 (0,0)) (IB q.o) G);replace HB:=Bw G;(try clear G);obtain⟨gl,gm,gn,gp,gq,gr,gu,dn,dp,dq,dr,du,dv,dw⟩:=DC q.o;obtain⟨gv,gw,gx,gy,gz,gA,dx,dy,dz,dA,dB,dC⟩:=BT c.o))
            go_ret
            exact⟨C8,Ag⟩
           ·rw[Rz ar]at H
            have cQ:decide ((wrap64 ((wrap64 (10*d))+l))<((Aa a b).f2.f1))=false:=C9 ar
            clear ar
            have H':=a_ H
            clear H
            obtain⟨gB,gC,gD,gE,gF,gG,dD,dE,dF,dG,dH,dI⟩:=BT (W:=wr) c.o
            have L:0≤(b:Int):=Bv
            have M:b<(a.length:Int):=Bv
            obtain⟨D,P,t,u,v,x,y,z,A⟩:=CQ X.o b L M
            cases P
            replace t:=(Az HB.o t:)
            replace u:=(Az HB.o u:)
            replace v:=(Az HB.o v:)
            replace x:=(Az HB.o x:)
            replace y:=(Az HB.o y:)
            replace z:=(Az HB.o z:)
            replace A:=(Az HB.o A:)
            replace L:=RA L
            replace M:=RA M
            go_wp2_with(first|((with_reducible refine BV (N:=4) rfl ?_);refine Cy 4 (#[.int .i64 0,.int .i64 0,.int .i64 0,.int .i64 0,.int .i64 0,.int .i64 0,.string (⟨#[]⟩:ByteArray)]) 32 ?_;intro E hg jz O G;have q:=a_ (O);have Z:=BD w hg;have Y:=BD w hg;have n:=a_ ((by rw[hg];exact RN (Av (g:=p) (o:=.cells #[.int .i64 d,.int .i64 j,.slice I m.length J,.slice (some D) a.length K,.int .i64 i,.int .i64 l] 26 (0,0)) (Bc c.o)):p≠E));have B:=a_ ((by rw[hg];exact RM (Av (g:=p) (o:=.cells #[.int .i64 d,.int .i64 j,.slice I m.length J,.slice (some D) a.length K,.int .i64 i,.int .i64 l] 26 (0,0)) (Bc c.o)):E≠p));replace c:=a_ (Cr c.o G);replace HB:=Bw G;clear G O hg;have je:=B.o;have jk:=n.o;obtain⟨gH,gI,gJ,gK,gL,gM,gN,dJ,dK,dL,dM,dN,dO,dP⟩:=DC q.o)|((with_reducible refine BQ (f:=22) rfl ?_);refine BW 57 SW #[.agg #[.int .i64 ((Aa a b).f0),.int .i64 ((Aa a b).f1),.int .i64 ((Aa a b).f2.f0),.int .i64 ((Aa a b).f2.f1),.int .i64 ((Aa a b).f2.f2),.int .i64 ((Aa a b).f2.f3),.string ((Aa a b).f2.f4)]] ?_;(with_reducible refine(BA.calls k2 ((Aa a b).f0) ((Aa a b).f1) ((Aa a b).f2.f0) ((Aa a b).f2.f1) ((Aa a b).f2.f2) ((Aa a b).f2.f3) ((Aa a b).f2.f4) true _ an.o).mono ?_);rintro e jA ⟨rfl,G⟩;refine⟨_,rfl,?_⟩;replace c:=a_ (Ao (g:=p) (o:=.cells #[.int .i64 d,.int .i64 j,.slice I m.length J,.slice (some D) a.length K,.int .i64 i,.int .i64 l] 26 (0,0)) (CZ n.o c.o) G);replace q:=a_ (Ao (g:=E) (o:=.cells #[.int .i64 ((Aa a b).f0),.int .i64 ((Aa a b).f1),.int .i64 ((Aa a b).f2.f0),.int .i64 ((Aa a b).f2.f1),.int .i64 ((Aa a b).f2.f2),.int .i64 ((Aa a b).f2.f3),.string ((Aa a b).f2.f4)] 32 (0,0)) (IB q.o) G);replace HB:=Bw G;(try clear G);obtain⟨gO,gP,gQ,gR,gS,gT,gU,dQ,dR,dS,dT,dU,dV,dW⟩:=DC q.o;obtain⟨gV,gW,gX,gY,gZ,g0,dX,dY,dZ,d_,ea,ec⟩:=BT c.o))
            go_roundg k2
            case measure=>have:=cA.o;have:=cB.o;omega
            case rel=>exact⟨(wrap64 (b+1)),(CA),H',⟨by have:=cA.o;have:=cB.o;omega⟩,⟨Bc c.o⟩,⟨Ag⟩⟩
          ·rw[Rz al]at H
           have cO:(((Aa a b).f2.f0)==1)=false:=Dr al
           have cP:(((Aa a b).f2.f0) != 1)=true:=RX.mpr al
           have H':=a_ H
           clear H
           obtain⟨g1,g2,g3,g4,g5,g6,ed,ee,ef,eg,eh,ei⟩:=BT (W:=wr) c.o
           have L:0≤(b:Int):=Bv
           have M:b<(a.length:Int):=Bv
           obtain⟨D,P,t,u,v,x,y,z,A⟩:=CQ X.o b L M
           cases P
           replace t:=(Az HB.o t:)
           replace u:=(Az HB.o u:)
           replace v:=(Az HB.o v:)
           replace x:=(Az HB.o x:)
           replace y:=(Az HB.o y:)
           replace z:=(Az HB.o z:)
           replace A:=(Az HB.o A:)
           replace L:=RA L
           replace M:=RA M
           go_wp2_with(first|((with_reducible refine BV (N:=4) rfl ?_);refine Cy 4 (#[.int .i64 0,.int .i64 0,.int .i64 0,.int .i64 0,.int .i64 0,.int .i64 0,.string (⟨#[]⟩:ByteArray)]) 32 ?_;intro E hg jB O G;have q:=a_ (O);have Z:=BD w hg;have Y:=BD w hg;have n:=a_ ((by rw[hg];exact RN (Av (g:=p) (o:=.cells #[.int .i64 d,.int .i64 j,.slice I m.length J,.slice (some D) a.length K,.int .i64 i,.int .i64 l] 26 (0,0)) (Bc c.o)):p≠E));have B:=a_ ((by rw[hg];exact RM (Av (g:=p) (o:=.cells #[.int .i64 d,.int .i64 j,.slice I m.length J,.slice (some D) a.length K,.int .i64 i,.int .i64 l] 26 (0,0)) (Bc c.o)):E≠p));replace c:=a_ (Cr c.o G);replace HB:=Bw G;clear G O hg;have jf:=B.o;have jl:=n.o;obtain⟨g7,g8,g9,g_,ha,hc,hd,ej,ek,en,eo,ep,er,et⟩:=DC q.o)|((with_reducible refine BQ (f:=22) rfl ?_);refine BW 57 SW #[.agg #[.int .i64 ((Aa a b).f0),.int .i64 ((Aa a b).f1),.int .i64 ((Aa a b).f2.f0),.int .i64 ((Aa a b).f2.f1),.int .i64 ((Aa a b).f2.f2),.int .i64 ((Aa a b).f2.f3),.string ((Aa a b).f2.f4)]] ?_;(with_reducible refine(BA.calls k2 ((Aa a b).f0) ((Aa a b).f1) ((Aa a b).f2.f0) ((Aa a b).f2.f1) ((Aa a b).f2.f2) ((Aa a b).f2.f3) ((Aa a b).f2.f4) true _ an.o).mono ?_);rintro e jC ⟨rfl,G⟩;refine⟨_,rfl,?_⟩;replace c:=a_ (Ao (g:=p) (o:=.cells #[.int .i64 d,.int .i64 j,.slice I m.length J,.slice (some D) a.length K,.int .i64 i,.int .i64 l] 26 (0,0)) (CZ n.o c.o) G);replace q:=a_ (Ao (g:=E) (o:=.cells #[.int .i64 ((Aa a b).f0),.int .i64 ((Aa a b).f1),.int .i64 ((Aa a b).f2.f0),.int .i64 ((Aa a b).f2.f1),.int .i64 ((Aa a b).f2.f2),.int .i64 ((Aa a b).f2.f3),.string ((Aa a b).f2.f4)] 32 (0,0)) (IB q.o) G);replace HB:=Bw G;(try clear G);obtain⟨hf,hh,hj,hk,hn,ho,hp,eu,ev,ew,ey,ez,eA,eB⟩:=DC q.o;obtain⟨hq,hr,ht,hv,hx,hy,eC,eD,eE,eF,eG,eH⟩:=BT c.o))
           go_roundg k2
           case measure=>have:=cA.o;have:=cB.o;omega
           case rel=>exact⟨(wrap64 (b+1)),(CA),H',⟨by have:=cA.o;have:=cB.o;omega⟩,⟨Bc c.o⟩,⟨Ag⟩⟩
         ·rw[Rz ak]at H
          have cM:(((Aa a b).f1)==(wrap64 ((wrap64 (i+b))+1)))=false:=Dr ak
          have cN:(((Aa a b).f1) != (wrap64 ((wrap64 (i+b))+1)))=true:=RX.mpr ak
          obtain rfl:=CW H
          obtain⟨hA,hC,hG,hH,hJ,hL,eI,eJ,eK,eL,eM,eN⟩:=BT (W:=wr) c.o
          have L:0≤(b:Int):=Bv
          have M:b<(a.length:Int):=Bv
          obtain⟨D,P,t,u,v,x,y,z,A⟩:=CQ X.o b L M
          cases P
          replace t:=(Az HB.o t:)
          replace u:=(Az HB.o u:)
          replace v:=(Az HB.o v:)
          replace x:=(Az HB.o x:)
          replace y:=(Az HB.o y:)
          replace z:=(Az HB.o z:)
          replace A:=(Az HB.o A:)
          replace L:=RA L
          replace M:=RA M
          go_wp2_with(first|((with_reducible refine BV (N:=4) rfl ?_);refine Cy 4 (#[.int .i64 0,.int .i64 0,.int .i64 0,.int .i64 0,.int .i64 0,.int .i64 0,.string (⟨#[]⟩:ByteArray)]) 32 ?_;intro E hg jD O G;have q:=a_ (O);have Z:=BD w hg;have Y:=BD w hg;have n:=a_ ((by rw[hg];exact RN (Av (g:=p) (o:=.cells #[.int .i64 d,.int .i64 j,.slice I m.length J,.slice (some D) a.length K,.int .i64 i,.int .i64 l] 26 (0,0)) (Bc c.o)):p≠E));have B:=a_ ((by rw[hg];exact RM (Av (g:=p) (o:=.cells #[.int .i64 d,.int .i64 j,.slice I m.length J,.slice (some D) a.length K,.int .i64 i,.int .i64 l] 26 (0,0)) (Bc c.o)):E≠p));replace c:=a_ (Cr c.o G);replace HB:=Bw G;clear G O hg;have jg:=B.o;have jm:=n.o;obtain⟨hM,hO,hP,hQ,hS,hT,hU,eO,eP,eQ,eR,eS,eT,eU⟩:=DC q.o)|((with_reducible refine BQ (f:=22) rfl ?_);refine BW 57 SW #[.agg #[.int .i64 ((Aa a b).f0),.int .i64 ((Aa a b).f1),.int .i64 ((Aa a b).f2.f0),.int .i64 ((Aa a b).f2.f1),.int .i64 ((Aa a b).f2.f2),.int .i64 ((Aa a b).f2.f3),.string ((Aa a b).f2.f4)]] ?_;(with_reducible refine(BA.calls k2 ((Aa a b).f0) ((Aa a b).f1) ((Aa a b).f2.f0) ((Aa a b).f2.f1) ((Aa a b).f2.f2) ((Aa a b).f2.f3) ((Aa a b).f2.f4) true _ an.o).mono ?_);rintro e jE ⟨rfl,G⟩;refine⟨_,rfl,?_⟩;replace c:=a_ (Ao (g:=p) (o:=.cells #[.int .i64 d,.int .i64 j,.slice I m.length J,.slice (some D) a.length K,.int .i64 i,.int .i64 l] 26 (0,0)) (CZ n.o c.o) G);replace q:=a_ (Ao (g:=E) (o:=.cells #[.int .i64 ((Aa a b).f0),.int .i64 ((Aa a b).f1),.int .i64 ((Aa a b).f2.f0),.int .i64 ((Aa a b).f2.f1),.int .i64 ((Aa a b).f2.f2),.int .i64 ((Aa a b).f2.f3),.string ((Aa a b).f2.f4)] 32 (0,0)) (IB q.o) G);replace HB:=Bw G;(try clear G);obtain⟨hV,hW,hX,hY,hZ,h2,h5,eV,eW,eX,eY,eZ,e0,e1⟩:=DC q.o;obtain⟨h6,h7,h8,h9,ia,ib,e2,e3,e4,e5,e6,e7⟩:=BT c.o))
          go_ret
          exact⟨C8,Ag⟩
        ·rw[Rz aj]at H
         have cK:(((Aa a b).f0)==d)=false:=Dr aj
         have cL:(((Aa a b).f0) != d)=true:=RX.mpr aj
         obtain rfl:=CW H
         obtain⟨ic,ie,ig,ih,ij,ik,e8,e9,e_,fa,fb,fc⟩:=BT (W:=wr) c.o
         have L:0≤(b:Int):=Bv
         have M:b<(a.length:Int):=Bv
         obtain⟨D,P,t,u,v,x,y,z,A⟩:=CQ X.o b L M
         cases P
         replace t:=(Az HB.o t:)
         replace u:=(Az HB.o u:)
         replace v:=(Az HB.o v:)
         replace x:=(Az HB.o x:)
         replace y:=(Az HB.o y:)
         replace z:=(Az HB.o z:)
         replace A:=(Az HB.o A:)
         replace L:=RA L
         replace M:=RA M
         go_wp2_with(first|((with_reducible refine BV (N:=4) rfl ?_);refine Cy 4 (#[.int .i64 0,.int .i64 0,.int .i64 0,.int .i64 0,.int .i64 0,.int .i64 0,.string (⟨#[]⟩:ByteArray)]) 32 ?_;intro E hg jF O G;have q:=a_ (O);have Z:=BD w hg;have Y:=BD w hg;have n:=a_ ((by rw[hg];exact RN (Av (g:=p) (o:=.cells #[.int .i64 d,.int .i64 j,.slice I m.length J,.slice (some D) a.length K,.int .i64 i,.int .i64 l] 26 (0,0)) (Bc c.o)):p≠E));have B:=a_ ((by rw[hg];exact RM (Av (g:=p) (o:=.cells #[.int .i64 d,.int .i64 j,.slice I m.length J,.slice (some D) a.length K,.int .i64 i,.int .i64 l] 26 (0,0)) (Bc c.o)):E≠p));replace c:=a_ (Cr c.o G);replace HB:=Bw G;clear G O hg;have jh:=B.o;have jn:=n.o;obtain⟨il,im,iq,ir,iu,iv,iw,fe,fg,fh,fi,fj,fk,fl⟩:=DC q.o)|((with_reducible refine BQ (f:=22) rfl ?_);refine BW 57 SW #[.agg #[.int .i64 ((Aa a b).f0),.int .i64 ((Aa a b).f1),.int .i64 ((Aa a b).f2.f0),.int .i64 ((Aa a b).f2.f1),.int .i64 ((Aa a b).f2.f2),.int .i64 ((Aa a b).f2.f3),.string ((Aa a b).f2.f4)]] ?_;(with_reducible refine(BA.calls k2 ((Aa a b).f0) ((Aa a b).f1) ((Aa a b).f2.f0) ((Aa a b).f2.f1) ((Aa a b).f2.f2) ((Aa a b).f2.f3) ((Aa a b).f2.f4) true _ an.o).mono ?_);rintro e jG ⟨rfl,G⟩;refine⟨_,rfl,?_⟩;replace c:=a_ (Ao (g:=p) (o:=.cells #[.int .i64 d,.int .i64 j,.slice I m.length J,.slice (some D) a.length K,.int .i64 i,.int .i64 l] 26 (0,0)) (CZ n.o c.o) G);replace q:=a_ (Ao (g:=E) (o:=.cells #[.int .i64 ((Aa a b).f0),.int .i64 ((Aa a b).f1),.int .i64 ((Aa a b).f2.f0),.int .i64 ((Aa a b).f2.f1),.int .i64 ((Aa a b).f2.f2),.int .i64 ((Aa a b).f2.f3),.string ((Aa a b).f2.f4)] 32 (0,0)) (IB q.o) G);replace HB:=Bw G;(try clear G);obtain⟨ix,iy,iz,iA,iB,iC,iD,fm,fo,fp,fq,ft,fu,fv⟩:=DC q.o;obtain⟨iE,iF,iG,iH,iI,iJ,fw,fx,fy,fz,fA,fB⟩:=BT c.o))
         go_ret
         exact⟨C8,Ag⟩
       ·replace cD:=RE.mpr cD
        subst cD
        have H1:(some false)=some r:=by rw[Rz (show¬ (false=true) by decide)]at H;exact H
        clear H
        have H:=H1
        clear H1
        obtain rfl:=CW H
        obtain⟨iK,iL,iM,iN,iO,iP,fC,fD,fE,fF,fG,fH⟩:=BT (W:=wr) c.o
        have L:0≤(b:Int):=Bv
        have M:b<(a.length:Int):=Bv
        obtain⟨D,P,t,u,v,x,y,z,A⟩:=CQ X.o b L M
        cases P
        replace t:=(Az HB.o t:)
        replace u:=(Az HB.o u:)
        replace v:=(Az HB.o v:)
        replace x:=(Az HB.o x:)
        replace y:=(Az HB.o y:)
        replace z:=(Az HB.o z:)
        replace A:=(Az HB.o A:)
        replace L:=RA L
        replace M:=RA M
        go_wp2_with(first|((with_reducible refine BV (N:=4) rfl ?_);refine Cy 4 (#[.int .i64 0,.int .i64 0,.int .i64 0,.int .i64 0,.int .i64 0,.int .i64 0,.string (⟨#[]⟩:ByteArray)]) 32 ?_;intro E hg jH O G;have q:=a_ (O);have Z:=BD w hg;have Y:=BD w hg;have n:=a_ ((by rw[hg];exact RN (Av (g:=p) (o:=.cells #[.int .i64 d,.int .i64 j,.slice I m.length J,.slice (some D) a.length K,.int .i64 i,.int .i64 l] 26 (0,0)) (Bc c.o)):p≠E));have B:=a_ ((by rw[hg];exact RM (Av (g:=p) (o:=.cells #[.int .i64 d,.int .i64 j,.slice I m.length J,.slice (some D) a.length K,.int .i64 i,.int .i64 l] 26 (0,0)) (Bc c.o)):E≠p));replace c:=a_ (Cr c.o G);replace HB:=Bw G;clear G O hg;have ji:=B.o;have jo:=n.o;obtain⟨iQ,iR,iS,iT,iU,iV,iW,fI,fJ,fK,fL,fM,fN,fO⟩:=DC q.o)|((with_reducible refine BQ (f:=22) rfl ?_);refine BW 57 SW #[.agg #[.int .i64 ((Aa a b).f0),.int .i64 ((Aa a b).f1),.int .i64 ((Aa a b).f2.f0),.int .i64 ((Aa a b).f2.f1),.int .i64 ((Aa a b).f2.f2),.int .i64 ((Aa a b).f2.f3),.string ((Aa a b).f2.f4)]] ?_;(with_reducible refine(BA.calls k2 ((Aa a b).f0) ((Aa a b).f1) ((Aa a b).f2.f0) ((Aa a b).f2.f1) ((Aa a b).f2.f2) ((Aa a b).f2.f3) ((Aa a b).f2.f4) false _ an.o).mono ?_);rintro e jI ⟨rfl,G⟩;refine⟨_,rfl,?_⟩;replace c:=a_ (Ao (g:=p) (o:=.cells #[.int .i64 d,.int .i64 j,.slice I m.length J,.slice (some D) a.length K,.int .i64 i,.int .i64 l] 26 (0,0)) (CZ n.o c.o) G);replace q:=a_ (Ao (g:=E) (o:=.cells #[.int .i64 ((Aa a b).f0),.int .i64 ((Aa a b).f1),.int .i64 ((Aa a b).f2.f0),.int .i64 ((Aa a b).f2.f1),.int .i64 ((Aa a b).f2.f2),.int .i64 ((Aa a b).f2.f3),.string ((Aa a b).f2.f4)] 32 (0,0)) (IB q.o) G);replace HB:=Bw G;(try clear G)))
        go_ret
        exact⟨C8,Ag⟩
      ·rw[Rz cC]at H
       exact absurd H (by simp)
     ·rw[Rz aq]at H
      have cJ:decide (b<(a.length:Int))=false:=C9 aq
      clear aq
      obtain rfl:=CW H
      obtain⟨iX,iY,iZ,i_,ja,jb,fP,fQ,fR,fS,fT,fU⟩:=BT (W:=wr) c.o
      go_wp2
      go_ret
      exact⟨C8,Ag⟩
end Go.Proofs.YtlhlpfnljglhoaaDoor.P
