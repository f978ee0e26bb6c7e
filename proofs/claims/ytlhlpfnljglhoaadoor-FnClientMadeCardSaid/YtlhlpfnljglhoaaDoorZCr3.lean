/- Joined by programs (wip/shake.py, wip/mini.py). -/
import Derived.Test.YtlhlpfnljglhoaaDoorZCr2
set_option linter.unusedVariables false
set_option linter.unusedSimpArgs false
set_option linter.unusedSectionVars false
set_option maxHeartbeats 8000000
set_option maxRecDepth 100000
open Go.Proofs.YtlhlpfnljglhoaaDoorW
namespace Go.Proofs.YtlhlpfnljglhoaaDoor.P
open Go.RowKit Go.Proofs.YtlhlpfnljglhoaaDoorW.PrintWords Go.Proofs.YtlhlpfnljglhoaaDoorW.Bb
mutual
def Aw.j0:Nat->Int->Int->Int->Int->List Int->Int->Bool->List Int->Int->Option (Int×Int×Int×Int×ByteArray×Int)
 | 0,_,_,_,_,_,_,_,_,_=>none
 | k+1,j,l,m,e,d,g,i,b,c=>if i=true then((Ab.f k b c (d.length:Int)).bind λa=>(if 0≤a.1 then(if a.1<(d.length:Int)then(Aw.j1 k j l m e (rd d a.1) b a.2)else(none))else(none)))else(Aw.j1 k j l m e g b c)
def Aw.j1:Nat->Int->Int->Int->Int->Int->List Int->Int->Option (Int×Int×Int×Int×ByteArray×Int)
 | 0,_,_,_,_,_,_,_=>none
 | k+1,i,j,l,e,g,b,c=>(BK.f k b c).bind λa=>((Bz.f k a.1).bind λd=>(if d=true then(Aw.j2 k i j l e g a.1 b a.2)else(Aw.j2 k i j l e g (⟨#[97]⟩:ByteArray) b a.2)))
def Aw.j2:Nat->Int->Int->Int->Int->Int->ByteArray->List Int->Int->Option (Int×Int×Int×Int×ByteArray×Int)
 | 0,_,_,_,_,_,_,_,_=>none
 | k+1,j,l,m,i,e,g,a,d=>(Ab.f k a d 6).bind λb=>(if b.1=0 then((CH.f k a b.2).bind λc=>(Aw.j3 k j l m c.1 e g a c.2))else(Aw.j3 k j l m i e g a b.2))
def Aw.j3:Nat->Int->Int->Int->Int->Int->ByteArray->List Int->Int->Option (Int×Int×Int×Int×ByteArray×Int)
 | 0,_,_,_,_,_,_,_,_=>none
 | k+1,m,j,l,d,e,g,a,c=>if j<6 then((Ab.f k a c 3).bind λb=>(if b.1=0 then(Aw.j4 k m j l d e g true a b.2)else((Bk.f l).bind λi=>(Aw.j4 k m j l d e g (!i) a b.2))))else(Aw.j4 k m j l d e g false a c)
def Aw.j4:Nat->Int->Int->Int->Int->Int->ByteArray->Bool->List Int->Int->Option (Int×Int×Int×Int×ByteArray×Int)
 | 0,_,_,_,_,_,_,_,_,_=>none
 | k+1,p,q,o,g,i,j,n,d,e=>if n=true then((C5.f p (wrap64 (q+1))).bind λl=>(some (1,l,g,i,j,e)))else((Bk.f o).bind λm=>(if m=true then((Ab.f k d e 3).bind λa=>(if a.1=0 then(some (2,o,0,0,j,a.2))else(some (3,o,g,i,(⟨#[]⟩:ByteArray),a.2))))else((CH.f k d e).bind λb=>((Ab.f k d b.2 3).bind λc=>(if c.1=0 then(some (2,b.1,0,0,j,c.2))else(some (3,b.1,g,i,(⟨#[]⟩:ByteArray),c.2)))))))
end
def Aw.f(k:Nat)(c:List Int)(g:Int)(l1:List (Ba))(i:Int)(j:Int):Option (Int×Int×Int×Int×ByteArray×Int):=(Ab.f k c g (l1.length:Int)).bind λb=>(if 0≤b.1 then(if b.1<(l1.length:Int)then((Ab.f k c b.2 (l1.length:Int)).bind λa=>(if 0≤a.1 then(if a.1<(l1.length:Int)then((BI.f k l1 ((Ae l1 a.1).f0)).bind λe=>(if(e.length:Int)>0 then((Ab.f k c a.2 2).bind λd=>(Aw.j0 k i j ((Ae l1 b.1).f0) ((Ae l1 a.1).f0) e 0 (d.1==0) c d.2))else(Aw.j0 k i j ((Ae l1 b.1).f0) ((Ae l1 a.1).f0) e 0 false c a.2)))else(none))else(none)))else(none))else(none))
theorem Aw.calls(k:Nat)(g:Nat)(b:List Int)(aL:Int)(A1:Option Addr)(c1:Nat)(l1:List (Ba))(a2:Int)(a3:Int)(r1:Int)(r2:Int)(r3:Int)(r4:Int)(r5:ByteArray)(r6:Int)(w0 w:World)(hI:Ad w0 w g b aL)(hB:Below w0.heap.size w0 w)(b9:∀W_,Ah w W_ g none->Kd.C Dd W_ A1 l1.length l1)(b7:l1.length≤c1)(h:Aw.f k b aL l1 a2 a3=some (r1,r2,r3,r4,r5,r6)) :
  Calls Tryd.prog 24 #[.pointer (some ⟨g,0,none⟩),.slice A1 l1.length c1,.int .i64 a2,.int .i64 a3] w λe w'=>e=.returned (.agg #[.int .i64 r1,.int .i64 r2,.int .i64 r3,.int .i64 r4,.string r5])∧Ad w0 w' g b r6∧Below w0.heap.size w0 w'∧Ah w w' g none:=by
 have dP:=RW;have bJ:=a_ b9;have cq:=a_ b7;clear b9 b7;have HI0:=a_ hI;have HK:=a_ (Ah.refl w g none);have HL:=a_ hB.size;clear hI;have cr:=a_ hB.size;have HB:=a_ hB;clear hB;unfold Aw.f at h;have H:=h;clear h;replace H:=BR H;obtain⟨⟨i,bz⟩,bQ,H⟩:=H;try dsimp only at H
 have A5:=a_ bQ;clear bQ;by_cases c6:0≤i
 ·rw[Ry c6]at H;have aG:decide (0≤i)=true:=BM c6;clear c6;by_cases c7:i<(l1.length:Int)
  ·rw[Ry c7]at H;have aH:decide (i<(l1.length:Int))=true:=BM c7;clear c7;replace H:=BR H;obtain⟨⟨r,aS⟩,bU,H⟩:=H;try dsimp only at H
   have A8:=a_ bU;clear bU;by_cases c9:0≤r
   ·rw[Ry c9]at H;have aI:decide (0≤r)=true:=BM c9;clear c9;by_cases DM:r<(l1.length:Int)
    ·rw[Ry DM]at H;have ak:decide (r<(l1.length:Int))=true:=BM DM;clear DM;replace H:=BR H;obtain⟨u,bf,H⟩:=H;try dsimp only at H
     have ca:=a_ bf;clear bf;have aX:=a_ H;clear H;go_enter Tryd.func24,Tryd.ntmps24;go_upto_region 5 with(first|((with_reducible refine BV (N:=8) rfl ?_);refine Cy 8 (#[.int .i64 0,.int .i64 0,.int .i64 0,.int .i64 0,.string (⟨#[]⟩:ByteArray)]) 30 ?_;intro l hg dQ bx t;have a:=a_ (bx);have cp:=a_ ((by rw[hg];exact(Cw (w:=w) (g:=g) (row:=none) (E4)):w.heap.size≤l));have cn:=a_ ((RJ cr.o (by rw[hg];exact(Cw (w:=w) (g:=g) (row:=none) (E4)):w.heap.size≤l):w0.heap.size≤l));have z:=a_ ((by rw[hg];exact RN (Ad.lt (show Ad w0 _ g b aL from An)):g≠l));have c:=a_ ((by rw[hg];exact RM (Ad.lt (show Ad w0 _ g b aL from An)):l≠g));replace HI0:=a_ (Ad.below (An) t);replace HK:=a_ (Ah.trans (E4) (Ah.Dl t g none) (.inl rfl));replace HB:=Bw t;clear t bx hg)|((with_reducible refine BQ (f:=16) rfl ?_);refine BW 18 R0 #[.pointer (some ⟨g,0,none⟩),.int .i64 (l1.length:Int)] ?_;(with_reducible refine(Ab.calls k g b aL (l1.length:Int) i bz w0 _ ?q' ?z' A5.o).mono ?_);(case q'=>exact An);(case z'=>exact Ag);rintro e dR ⟨rfl,hi,t,p⟩;refine⟨_,rfl,?_⟩;replace a:=a_ (FY p a.o c.o);replace HK:=a_ (Ah.trans (D4 HK.o) p (.inl rfl));replace HB:=a_ (t);replace HI0:=a_ (hi);(try clear t p hi);have ab:0≤(i:Int):=Bv;have af:i<(l1.length:Int):=Bv;obtain⟨a5,bV,A,B,D⟩:=BZ (Kd.GR bJ.o HK.o) i ab af;cases bV;replace ab:=RA ab;replace af:=RA af)|((with_reducible refine BQ (f:=16) rfl ?_);refine BW 26 R0 #[.pointer (some ⟨g,0,none⟩),.int .i64 (l1.length:Int)] ?_;(with_reducible refine(Ab.calls k g b bz (l1.length:Int) r aS w0 _ ?q' ?z' A8.o).mono ?_);(case q'=>exact An);(case z'=>exact Ag);rintro e dS ⟨rfl,hi,t,p⟩;refine⟨_,rfl,?_⟩;replace a:=a_ (FY p a.o c.o);replace HK:=a_ (Ah.trans (D4 HK.o) p (.inl rfl));replace HB:=a_ (t);replace HI0:=a_ (hi);(try clear t p hi);have ae:0≤(r:Int):=Bv;have ag:r<(l1.length:Int):=Bv;obtain⟨bK,bW,E,G,I⟩:=BZ (Kd.GR bJ.o HK.o) r ae ag;obtain rfl:a5=bK:=(by injection bW);replace ae:=RA ae;replace ag:=RA ag)|((with_reducible refine BQ (f:=43) rfl ?_);refine BW 32 Tryd.func43 #[.slice (some a5) l1.length c1,.int .i64 ((Ae l1 r).f0)] ?_;(with_reducible refine(BI.calls k _ _ l1 ((Ae l1 r).f0) u _ ?q' ?z' ca.o).mono ?_);(case q'=>exact Kd.GR bJ.o (D4 HK.o));(case z'=>exact cq.o);rintro e dT ⟨b_,rfl,b8,t⟩;refine⟨_,rfl,?_⟩;have X:=a_ (Kd.AU b8 (Cw (w:=w) (g:=g) (row:=none) (D4 HK.o)));replace HK:=a_ (Ah.trans (D4 HK.o) (Ah.Dl t g none) (.inl rfl));replace HB:=Bw t;replace HI0:=a_ (Ad.below (An) t);replace a:=a_ (Cr a.o t);(try clear t b8)))
     (try simp only[Act.put,List.setIfInBounds_toArray,List.set_cons_zero,List.set_cons_succ]);go_cut [40] (λdG wc=>∃(kq:Nat) (ah:Bool) (o:Int),dG=.bool ah∧Ac (Aw.j0 kq a2 a3 ((Ae l1 i).f0) ((Ae l1 r).f0) u 0 ah b o=some (r1,r2,r3,r4,r5,r6))∧Ac (kq≤k)∧Ac (Kd.R (Kd.int .i64) 3 wc w.heap.size (λ_=>True) b_ u)∧Ac (wc.heap[l]?=some (.cells #[.int .i64 0,.int .i64 0,.int .i64 0,.int .i64 0,.string (⟨#[]⟩:ByteArray)] 30 (0,0)))∧Ac (Ad w0 wc g b o)∧Ac (Ah w wc g none)∧Ac (Below w0.heap.size w0 wc))
     case first =>
      have H:=aX.o;clear aX;by_cases al:(u.length:Int)>0
      ·rw[Ry al]at H;have x:decide (0<(u.length:Int))=true:=BM al;have Y:decide (0<u.length)=true:=BM (by omega);clear al;(first|rw[x]|(simp only[BJ,BP];rw[x])|skip);replace H:=BR H;obtain⟨⟨bA,bB⟩,bg,H⟩:=H;try dsimp only at H
       have cb:=a_ bg;clear bg;have H':=a_ H;clear H;obtain⟨dI,dM,bY⟩:=Kd.Be X.o;subst bY;go_wp2_with(first|(go_at_call 16;(with_reducible refine(Ab.calls k g b aS 2 bA bB w0 _ ?q' ?z' cb.o).mono ?_);(case q'=>exact An);(case z'=>exact Ag);rintro e dU ⟨rfl,hi,t,p⟩;replace a:=a_ (FY p a.o c.o);replace X:=a_ (Kd.Ai (Kd.Br (Ad.apart (show Ad w0 _ g b aS from An) (AV X.o) (by decide)) p (λ_ h=>h.2)) (λ_ h=>h.1));replace HK:=a_ (Ah.trans (D4 HK.o) p (.inl rfl));replace HB:=a_ (t);replace HI0:=a_ (hi);(try clear t p hi)));go_meet
       exact⟨_,((bA==0)),(bB),(CA),H',⟨by first|omega|exact RB _⟩,⟨by refine AV ?_;exact X.o⟩,⟨Bc a.o⟩,⟨An⟩,⟨D4 HK.o⟩,⟨Ag⟩⟩
      rw[Rz al]at H;have x:decide (0<(u.length:Int))=false:=C9 al;have Y:decide (0<u.length)=false:=C9 (by omega);clear al;(first|rw[x]|(simp only[BJ,BP];rw[x])|skip);have H':=a_ H;clear H;obtain⟨dJ,dN,bZ⟩:=Kd.Be X.o;subst bZ;go_wp2;go_meet
      exact⟨_,(false),(aS),(CA),H',⟨by first|omega|exact RB _⟩,⟨by refine AV ?_;exact X.o⟩,⟨Bc a.o⟩,⟨An⟩,⟨D4 HK.o⟩,⟨Ag⟩⟩
     clear aX;try clear c1
     try clear c6
     try clear aG
     try clear c7
     try clear aH
     try clear c9
     try clear aI
     try clear DM
     try clear ak
     try clear al
     try clear x
     try clear Y
     try clear A
     try clear B
     try clear D
     try clear E
     try clear G
     try clear I
     try clear ab
     try clear ae
     try clear af
     try clear ag
     obtain⟨kq,ah,o,rfl,HA,P,ax,a,HI0,HK,HB⟩:=hcut;cases kq with
     | zero=>exact absurd HA.o (by simp[Aw.j0])
     | succ aJ =>
      have H:=HA.o
      clear HA
      simp only[Aw.j0]at H
      have aY:=a_ H
      clear H
      go_upto_if 40 with(fail)
      go_cut [12] (λdE wc=>∃(kq:Nat) (j:Int) (J:Int),dE=.int .i64 j∧Ac (Aw.j1 kq a2 a3 ((Ae l1 i).f0) ((Ae l1 r).f0) j b J=some (r1,r2,r3,r4,r5,r6))∧Ac (kq≤aJ)∧Ac (wc.heap[l]?=some (.cells #[.int .i64 0,.int .i64 0,.int .i64 0,.int .i64 0,.string (⟨#[]⟩:ByteArray)] 30 (0,0)))∧Ac (Ad w0 wc g b J)∧Ac (Ah w wc g none)∧Ac (Below w0.heap.size w0 wc))
      case first =>
       have H:=aY.o
       clear aY
       by_cases aC:ah=true
       ·subst aC
        have H1:((Ab.f aJ b o (u.length:Int)).bind λay=>(if 0≤ay.1 then(if ay.1<(u.length:Int)then(Aw.j1 aJ a2 a3 ((Ae l1 i).f0) ((Ae l1 r).f0) (rd u ay.1) b ay.2)else(none))else(none)))=some (r1,r2,r3,r4,r5,r6):=by rw[Ry rfl]at H;exact H
        clear H
        have H:=H1
        clear H1
        replace H:=BR H
        obtain⟨⟨U,bC⟩,bh,H⟩:=H
        try dsimp only at H
        have cd:=a_ bh
        clear bh
        by_cases aD:0≤U
        ·rw[Ry aD]at H
         have Z:decide (0≤U)=true:=BM aD
         clear aD
         (first|rw[Z]|(simp only[BJ,BP];rw[Z])|skip)
         by_cases aE:U<(u.length:Int)
         ·rw[Ry aE]at H
          have az:decide (U<(u.length:Int))=true:=BM aE
          clear aE
          have H':=a_ H
          clear H
          obtain⟨dK,dO,b6⟩:=Kd.Be ax.o
          subst b6
          go_wp2_with(first|((with_reducible refine BQ (f:=16) rfl ?_);refine BW 45 R0 #[.pointer (some ⟨g,0,none⟩),.int .i64 (u.length:Int)] ?_;(with_reducible refine(Ab.calls aJ g b o (u.length:Int) U bC w0 _ ?q' ?z' cd.o).mono ?_);(case q'=>exact An);(case z'=>exact Ag);rintro e dV ⟨rfl,hi,t,p⟩;refine⟨_,rfl,?_⟩;replace ax:=a_ (Kd.Ai (Kd.Br (Ad.apart (show Ad w0 _ g b o from An) (AV ax.o) (by decide)) p (λ_ h=>h.2)) (λ_ h=>h.1));replace a:=a_ (FY p a.o c.o);replace HK:=a_ (Ah.trans (D4 HK.o) p (.inl rfl));replace HB:=a_ (t);replace HI0:=a_ (hi);(try clear t p hi);have an:0≤(U:Int):=Bv;have ao:U<(u.length:Int):=Bv;obtain⟨dr,bX,T⟩:=Kd.Fu (Kd.At ax.o).2.2 U an ao;cases bX;replace an:=RA an;replace ao:=RA ao))
          go_meet
          case rel=>exact⟨_,(rd u U),(bC),(CA),H',⟨by have:=P.o;first|omega|exact RB _⟩,⟨Bc a.o⟩,⟨An⟩,⟨D4 HK.o⟩,⟨Ag⟩⟩
         ·rw[Rz aE]at H
          exact absurd H (by simp)
        ·rw[Rz aD]at H
         exact absurd H (by simp)
       ·replace aC:=RE.mpr aC
        subst aC
        have H1:(Aw.j1 aJ a2 a3 ((Ae l1 i).f0) ((Ae l1 r).f0) 0 b o)=some (r1,r2,r3,r4,r5,r6):=by rw[Rz (show¬ (false=true) by decide)]at H;exact H
        clear H
        have H:=H1
        clear H1
        have H':=a_ H
        clear H
        go_wp2
        go_meet
        case rel=>exact⟨_,(0),(o),(CA),H',⟨by have:=P.o;first|omega|exact RB _⟩,⟨Bc a.o⟩,⟨An⟩,⟨D4 HK.o⟩,⟨Ag⟩⟩
      case rest =>
       clear aY
       try clear c1
       try clear c6
       try clear aG
       try clear c7
       try clear aH
       try clear c9
       try clear aI
       try clear DM
       try clear ak
       try clear al
       try clear x
       try clear Y
       try clear aC
       try clear aD
       try clear Z
       try clear aE
       try clear az
       try clear A
       try clear B
       try clear D
       try clear E
       try clear G
       try clear I
       try clear T
       try clear ab
       try clear ae
       try clear an
       try clear af
       try clear ag
       try clear ao
       obtain⟨kq,j,J,rfl,HA,aj,a,HI0,HK,HB⟩:=hcut
       cases kq with
       | zero=>exact absurd HA.o (by simp[Aw.j1])
       | succ aK =>
        have H:=HA.o
        clear HA
        simp only[Aw.j1]at H
        replace H:=BR H
        obtain⟨⟨aM,av⟩,bj,H⟩:=H
        try dsimp only at H
        have cf:=a_ bj
        clear bj
        replace H:=BR H
        obtain⟨bD,bk,H⟩:=H
        try dsimp only at H
        have cg:=a_ bk
        clear bk
        have aZ:=a_ H
        clear H
        go_upto_if 52 with(first|((with_reducible refine BQ (f:=42) rfl ?_);refine BW 49 Tryd.func42 #[.pointer (some ⟨g,0,none⟩)] ?_;(with_reducible refine(BK.calls aK g b J aM av w0 _ ?q' ?z' cf.o).mono ?_);(case q'=>exact An);(case z'=>exact Ag);rintro e dW ⟨rfl,hi,t,p⟩;refine⟨_,rfl,?_⟩;replace a:=a_ (FY p a.o c.o);replace HK:=a_ (Ah.trans (D4 HK.o) p (.inl rfl));replace HB:=a_ (t);replace HI0:=a_ (hi);(try clear t p hi))|((with_reducible refine BQ (f:=32) rfl ?_);refine BW 51 Tryd.func32 #[.string aM] ?_;(with_reducible refine(Bz.calls aK aM bD _ cg.o).mono ?_);rintro e w' ⟨rfl,⟨nd,rfl⟩⟩;refine⟨_,rfl,?_⟩))
        (try simp only[Act.put,List.setIfInBounds_toArray,List.set_cons_zero,List.set_cons_succ])
        go_cut [13] (λdF wc=>∃(kq:Nat) (m:ByteArray),dF=.string m∧Ac (Aw.j2 kq a2 a3 ((Ae l1 i).f0) ((Ae l1 r).f0) j m b av=some (r1,r2,r3,r4,r5,r6))∧Ac (kq≤aK)∧Ac (wc.heap[l]?=some (.cells #[.int .i64 0,.int .i64 0,.int .i64 0,.int .i64 0,.string (⟨#[]⟩:ByteArray)] 30 (0,0)))∧Ac (Ad w0 wc g b av)∧Ac (Ah w wc g none)∧Ac (Below w0.heap.size w0 wc))
        case first =>
         have H:=aZ.o
         clear aZ
         by_cases aN:bD=true
         ·subst aN
          have H1:(Aw.j2 aK a2 a3 ((Ae l1 i).f0) ((Ae l1 r).f0) j aM b av)=some (r1,r2,r3,r4,r5,r6):=by rw[Ry rfl]at H;exact H
          clear H
          have H:=H1
          clear H1
          have H':=a_ H
          clear H
          go_wp2
          go_meet
          case rel=>exact⟨_,(aM),(CA),H',⟨by have:=P.o;have:=aj.o;first|omega|exact RB _⟩,⟨Bc a.o⟩,⟨An⟩,⟨D4 HK.o⟩,⟨Ag⟩⟩
         ·replace aN:=RE.mpr aN
          subst aN
          have H1:(Aw.j2 aK a2 a3 ((Ae l1 i).f0) ((Ae l1 r).f0) j (⟨#[97]⟩:ByteArray) b av)=some (r1,r2,r3,r4,r5,r6):=by rw[Rz (show¬ (false=true) by decide)]at H;exact H
          clear H
          have H:=H1
          clear H1
          have H':=a_ H
          clear H
          go_wp2
          go_meet
          case rel=>exact⟨_,((⟨#[97]⟩:ByteArray)),(CA),H',⟨by have:=P.o;have:=aj.o;first|omega|exact RB _⟩,⟨Bc a.o⟩,⟨An⟩,⟨D4 HK.o⟩,⟨Ag⟩⟩
        case rest =>
         clear aZ
         try clear c1
         try clear c6
         try clear aG
         try clear c7
         try clear aH
         try clear c9
         try clear aI
         try clear DM
         try clear ak
         try clear al
         try clear x
         try clear Y
         try clear aC
         try clear aD
         try clear Z
         try clear aE
         try clear az
         try clear aN
         try clear A
         try clear B
         try clear D
         try clear E
         try clear G
         try clear I
         try clear T
         try clear ab
         try clear ae
         try clear an
         try clear af
         try clear ag
         try clear ao
         obtain⟨kq,m,rfl,HA,aB,a,HI0,HK,HB⟩:=hcut
         cases kq with
         | zero=>exact absurd HA.o (by simp[Aw.j2])
         | succ a8 =>
          have H:=HA.o
          clear HA
          simp only[Aw.j2]at H
          replace H:=BR H
          obtain⟨⟨aw,ba⟩,bl,H⟩:=H
          try dsimp only at H
          have cj:=a_ bl
          clear bl
          have a0:=a_ H
          clear H
          go_upto_if 55 with(first|((with_reducible refine BQ (f:=16) rfl ?_);refine BW 54 R0 #[.pointer (some ⟨g,0,none⟩),.int .i64 6] ?_;(with_reducible refine(Ab.calls a8 g b av 6 aw ba w0 _ ?q' ?z' cj.o).mono ?_);(case q'=>exact An);(case z'=>exact Ag);rintro e dX ⟨rfl,hi,t,p⟩;refine⟨_,rfl,?_⟩;replace a:=a_ (FY p a.o c.o);replace HK:=a_ (Ah.trans (D4 HK.o) p (.inl rfl));replace HB:=a_ (t);replace HI0:=a_ (hi);(try clear t p hi)))
          (try simp only[Act.put,List.setIfInBounds_toArray,List.set_cons_zero,List.set_cons_succ])
          go_cut [10] (λv10 wc=>∃(kq:Nat) (n:Int) (v:Int),v10=.int .i64 n∧Ac (Aw.j3 kq a2 a3 ((Ae l1 i).f0) n j m b v=some (r1,r2,r3,r4,r5,r6))∧Ac (kq≤a8)∧Ac (wc.heap[l]?=some (.cells #[.int .i64 0,.int .i64 0,.int .i64 0,.int .i64 0,.string (⟨#[]⟩:ByteArray)] 30 (0,0)))∧Ac (Ad w0 wc g b v)∧Ac (Ah w wc g none)∧Ac (Below w0.heap.size w0 wc))
          case first =>
           have H:=a0.o
           clear a0
           by_cases aA:aw=0
           ·rw[Ry aA]at H
            have O:(aw==0)=true:=RO.mpr aA
            have aO:(aw != 0)=false:=Fc aA
            clear aA
            (first|rw[O]|(simp only[BJ,BP];rw[O])|skip)
            replace H:=BR H
            obtain⟨⟨bE,bF⟩,bm,H⟩:=H
            try dsimp only at H
            have ck:=a_ bm
            clear bm
            have H':=a_ H
            clear H
            go_wp2_with(first|((with_reducible refine BQ (f:=41) rfl ?_);refine BW 57 TH #[.pointer (some ⟨g,0,none⟩)] ?_;(with_reducible refine(CH.calls a8 g b ba bE bF w0 _ ?q' ?z' ck.o).mono ?_);(case q'=>exact An);(case z'=>exact Ag);rintro e dY ⟨rfl,hi,t,p⟩;refine⟨_,rfl,?_⟩;replace a:=a_ (FY p a.o c.o);replace HK:=a_ (Ah.trans (D4 HK.o) p (.inl rfl));replace HB:=a_ (t);replace HI0:=a_ (hi);(try clear t p hi)))
            go_meet
            case rel=>exact⟨_,(bE),(bF),(CA),H',⟨by have:=P.o;have:=aj.o;have:=aB.o;first|omega|exact RB _⟩,⟨Bc a.o⟩,⟨An⟩,⟨D4 HK.o⟩,⟨Ag⟩⟩
           ·rw[Rz aA]at H
            have O:(aw==0)=false:=Dr aA
            have aO:(aw != 0)=true:=RX.mpr aA
            (first|rw[O]|(simp only[BJ,BP];rw[O])|skip)
            have H':=a_ H
            clear H
            go_wp2
            go_meet
            case rel=>exact⟨_,(((Ae l1 r).f0)),(ba),(CA),H',⟨by have:=P.o;have:=aj.o;have:=aB.o;first|omega|exact RB _⟩,⟨Bc a.o⟩,⟨An⟩,⟨D4 HK.o⟩,⟨Ag⟩⟩
          case rest =>
           clear a0
           try clear c1
           try clear c6
           try clear aG
           try clear c7
           try clear aH
           try clear c9
           try clear aI
           try clear DM
           try clear ak
           try clear al
           try clear x
           try clear Y
           try clear aC
           try clear aD
           try clear Z
           try clear aE
           try clear az
           try clear aN
           try clear aA
           try clear O
           try clear aO
           try clear A
           try clear B
           try clear D
           try clear E
           try clear G
           try clear I
           try clear T
           try clear ab
           try clear ae
           try clear an
           try clear af
           try clear ag
           try clear ao
           obtain⟨kq,n,v,rfl,HA,a4,a,HI0,HK,HB⟩:=hcut
           cases kq with
           | zero=>exact absurd HA.o (by simp[Aw.j3])
           | succ a9 =>
            have H:=HA.o
            clear HA
            simp only[Aw.j3]at H
            have a1:=a_ H
            clear H
            go_upto_region 12 with(fail)
            go_cut [69] (λdH wc=>∃(kq:Nat) (ai:Bool) (d:Int),dH=.bool ai∧Ac (Aw.j4 kq a2 a3 ((Ae l1 i).f0) n j m ai b d=some (r1,r2,r3,r4,r5,r6))∧Ac (kq≤a9)∧Ac (wc.heap[l]?=some (.cells #[.int .i64 0,.int .i64 0,.int .i64 0,.int .i64 0,.string (⟨#[]⟩:ByteArray)] 30 (0,0)))∧Ac (Ad w0 wc g b d)∧Ac (Ah w wc g none)∧Ac (Below w0.heap.size w0 wc))
            case first =>
             have H:=a1.o
             clear a1
             by_cases aP:a3<6
             ·rw[Ry aP]at H
              have aa:decide (a3<6)=true:=BM aP
              clear aP
              (first|rw[aa]|(simp only[BJ,BP];rw[aa])|skip)
              replace H:=BR H
              obtain⟨⟨aq,aT⟩,bn,H⟩:=H
              try dsimp only at H
              have bP:=a_ bn
              clear bn
              by_cases aF:aq=0
              ·rw[Ry aF]at H
               have a6:(aq==0)=true:=RO.mpr aF
               have a7:(aq != 0)=false:=Fc aF
               clear aF
               have H':=a_ H
               clear H
               go_wp2_with(first|(go_at_call 16;(with_reducible refine(Ab.calls a9 g b v 3 aq aT w0 _ ?q' ?z' bP.o).mono ?_);(case q'=>exact An);(case z'=>exact Ag);rintro e dZ ⟨rfl,hi,t,p⟩;replace a:=a_ (FY p a.o c.o);replace HK:=a_ (Ah.trans (D4 HK.o) p (.inl rfl));replace HB:=a_ (t);replace HI0:=a_ (hi);(try clear t p hi)))
               go_meet
               case rel=>exact⟨_,(true),(aT),(CA),H',⟨by have:=P.o;have:=aj.o;have:=aB.o;have:=a4.o;first|omega|exact RB _⟩,⟨Bc a.o⟩,⟨An⟩,⟨D4 HK.o⟩,⟨Ag⟩⟩
              ·rw[Rz aF]at H
               have a6:(aq==0)=false:=Dr aF
               have a7:(aq != 0)=true:=RX.mpr aF
               replace H:=BR H
               obtain⟨bG,bo,H⟩:=H
               try dsimp only at H
               have cl:=a_ bo
               clear bo
               have H':=a_ H
               clear H
               go_wp2_with(first|(go_at_call 16;(with_reducible refine(Ab.calls a9 g b v 3 aq aT w0 _ ?q' ?z' bP.o).mono ?_);(case q'=>exact An);(case z'=>exact Ag);rintro e d_ ⟨rfl,hi,t,p⟩;replace a:=a_ (FY p a.o c.o);replace HK:=a_ (Ah.trans (D4 HK.o) p (.inl rfl));replace HB:=a_ (t);replace HI0:=a_ (hi);(try clear t p hi))|(go_at_call 31;(with_reducible refine(Bk.calls ((Ae l1 i).f0) bG _ cl.o).mono ?_);rintro e w' ⟨rfl,⟨nd,rfl⟩⟩))
               go_meet
               case rel=>exact⟨_,(!bG),(aT),(CA),H',⟨by have:=P.o;have:=aj.o;have:=aB.o;have:=a4.o;first|omega|exact RB _⟩,⟨Bc a.o⟩,⟨An⟩,⟨D4 HK.o⟩,⟨Ag⟩⟩
             ·rw[Rz aP]at H
              have aa:decide (a3<6)=false:=C9 aP
              clear aP
              (first|rw[aa]|(simp only[BJ,BP];rw[aa])|skip)
              have H':=a_ H
              clear H
              go_wp2
              go_meet
              case rel=>exact⟨_,(false),(v),(CA),H',⟨by have:=P.o;have:=aj.o;have:=aB.o;have:=a4.o;first|omega|exact RB _⟩,⟨Bc a.o⟩,⟨An⟩,⟨D4 HK.o⟩,⟨Ag⟩⟩
            case rest =>
             clear a1
             try clear c1
             try clear c6
             try clear aG
             try clear c7
             try clear aH
             try clear c9
             try clear aI
             try clear DM
             try clear ak
             try clear al
             try clear x
             try clear Y
             try clear aC
             try clear aD
             try clear Z
             try clear aE
             try clear az
             try clear aN
             try clear aA
             try clear O
             try clear aO
             try clear aP
             try clear aa
             try clear aF
             try clear a6
             try clear a7
             try clear A
             try clear B
             try clear D
             try clear E
             try clear G
             try clear I
             try clear T
             try clear ab
             try clear ae
             try clear an
             try clear af
             try clear ag
             try clear ao
             obtain⟨kq,ai,d,rfl,HA,dL,a,HI0,HK,HB⟩:=hcut
             cases kq with
             | zero=>exact absurd HA.o (by simp[Aw.j4])
             | succ y =>
              have H:=HA.o
              clear HA
              simp only[Aw.j4]at H
              by_cases bd:ai=true
              ·subst bd
               have H1:((C5.f a2 (wrap64 (a3+1))).bind λaU=>(some (1,aU,n,j,m,d)))=some (r1,r2,r3,r4,r5,r6):=by rw[Ry rfl]at H;exact H
               clear H
               have H:=H1
               clear H1
               replace H:=BR H
               obtain⟨aU,bp,H⟩:=H
               try dsimp only at H
               have cm:=a_ bp
               clear bp
               simp only[Option.some.injEq,Prod.mk.injEq]at H
               obtain⟨rfl,rfl,rfl,rfl,rfl,rfl⟩:=H
               go_wp2_with(first|((with_reducible refine BQ (f:=44) rfl ?_);refine BW 73 Tryd.func44 #[.int .i64 a2,.int .i64 (wrap64 (a3+1))] ?_;(with_reducible refine(C5.calls a2 (wrap64 (a3+1)) aU _ cm.o).mono ?_);rintro e w' ⟨rfl,⟨nd,rfl⟩⟩;refine⟨_,rfl,?_⟩;(try(rw[Ey wc];generalize q:World.drewN wc _=wc;replace a:Ac (wc.heap[l]?=some (.cells #[.int .i64 0,.int .i64 0,.int .i64 0,.int .i64 0,.string (⟨#[]⟩:ByteArray)] 30 (0,0))):=⟨by rw[<-q];exact(Bc a.o)⟩;replace HI0:Ac (Ad w0 wc g b d):=⟨by rw[<-q];exact(An)⟩;replace HK:Ac (Ah w wc g none):=⟨by rw[<-q];exact(D4 HK.o)⟩;replace HB:Ac (Below w0.heap.size w0 wc):=⟨by rw[<-q];exact(Ag)⟩;clear q));have du:=c.o;have dz:=z.o;obtain⟨cS,cT,cU,cV,cW,ct,cu,cv,cw,cx⟩:=CI (W:=wc) a.o))
               refine RH (RF rfl _ _ l 30 #[.int .i64 1,.int .i64 aU,.int .i64 n,.int .i64 j,.string m] (0,0) _ rfl (GN a.o) RW rfl (by kernel_rfl)) rfl ?_
               exact⟨C8,An,Ag,D4 HK.o⟩
              ·replace bd:=RE.mpr bd
               subst bd
               have H1:((Bk.f ((Ae l1 i).f0)).bind λbb=>(if bb=true then((Ab.f y b d 3).bind λK=>(if K.1=0 then(some (2,((Ae l1 i).f0),0,0,m,K.2))else(some (3,((Ae l1 i).f0),n,j,(⟨#[]⟩:ByteArray),K.2))))else((CH.f y b d).bind λL=>((Ab.f y b L.2 3).bind λM=>(if M.1=0 then(some (2,L.1,0,0,m,M.2))else(some (3,L.1,n,j,(⟨#[]⟩:ByteArray),M.2)))))))=some (r1,r2,r3,r4,r5,r6):=by rw[Rz (show¬ (false=true) by decide)]at H;exact H
               clear H
               have H:=H1
               clear H1
               replace H:=BR H
               obtain⟨bb,bq,H⟩:=H
               try dsimp only at H
               have bc:=a_ bq
               clear bq
               by_cases be:bb=true
               ·subst be
                have H1:((Ab.f y b d 3).bind λK=>(if K.1=0 then(some (2,((Ae l1 i).f0),0,0,m,K.2))else(some (3,((Ae l1 i).f0),n,j,(⟨#[]⟩:ByteArray),K.2))))=some (r1,r2,r3,r4,r5,r6):=by rw[Ry rfl]at H;exact H
                clear H
                have H:=H1
                clear H1
                replace H:=BR H
                obtain⟨⟨ar,bH⟩,br,H⟩:=H
                try dsimp only at H
                have bR:=a_ br
                clear br
                by_cases aQ:ar=0
                ·rw[Ry aQ]at H
                 have bL:(ar==0)=true:=RO.mpr aQ
                 have bM:(ar != 0)=false:=Fc aQ
                 clear aQ
                 simp only[Option.some.injEq,Prod.mk.injEq]at H
                 obtain⟨rfl,rfl,rfl,rfl,rfl,rfl⟩:=H
                 go_wp2_with(first|((with_reducible refine BQ (f:=31) rfl ?_);refine BW 79 Tf #[.int .i64 ((Ae l1 i).f0)] ?_;(with_reducible refine(Bk.calls ((Ae l1 i).f0) true _ bc.o).mono ?_);rintro e w' ⟨rfl,⟨nd,rfl⟩⟩;refine⟨_,rfl,?_⟩;(try(rw[Ey wc];generalize q:World.drewN wc _=wc;replace a:Ac (wc.heap[l]?=some (.cells #[.int .i64 0,.int .i64 0,.int .i64 0,.int .i64 0,.string (⟨#[]⟩:ByteArray)] 30 (0,0))):=⟨by rw[<-q];exact(Bc a.o)⟩;replace HI0:Ac (Ad w0 wc g b d):=⟨by rw[<-q];exact(An)⟩;replace HK:Ac (Ah w wc g none):=⟨by rw[<-q];exact(D4 HK.o)⟩;replace HB:Ac (Below w0.heap.size w0 wc):=⟨by rw[<-q];exact(Ag)⟩;clear q)))|((with_reducible refine BQ (f:=16) rfl ?_);refine BW 84 R0 #[.pointer (some ⟨g,0,none⟩),.int .i64 3] ?_;(with_reducible refine(Ab.calls y g b d 3 ar bH w0 _ ?q' ?z' bR.o).mono ?_);(case q'=>exact An);(case z'=>exact Ag);rintro e ea ⟨rfl,hi,t,p⟩;refine⟨_,rfl,?_⟩;replace a:=a_ (FY p a.o c.o);replace HK:=a_ (Ah.trans (D4 HK.o) p (.inl rfl));replace HB:=a_ (t);replace HI0:=a_ (hi);(try clear t p hi);have dv:=c.o;have dA:=z.o;obtain⟨cX,cY,cZ,c0,c_,cy,cz,cA,cB,cC⟩:=CI a.o))
                 refine RH (RF rfl _ _ l 30 #[.int .i64 2,.int .i64 ((Ae l1 i).f0),.int .i64 0,.int .i64 0,.string m] (0,0) _ rfl (GN a.o) RW rfl (by kernel_rfl)) rfl ?_
                 exact⟨C8,An,Ag,D4 HK.o⟩
                ·rw[Rz aQ]at H
                 have bL:(ar==0)=false:=Dr aQ
                 have bM:(ar != 0)=true:=RX.mpr aQ
                 simp only[Option.some.injEq,Prod.mk.injEq]at H
                 obtain⟨rfl,rfl,rfl,rfl,rfl,rfl⟩:=H
                 go_wp2_with(first|((with_reducible refine BQ (f:=31) rfl ?_);refine BW 79 Tf #[.int .i64 ((Ae l1 i).f0)] ?_;(with_reducible refine(Bk.calls ((Ae l1 i).f0) true _ bc.o).mono ?_);rintro e w' ⟨rfl,⟨nd,rfl⟩⟩;refine⟨_,rfl,?_⟩;(try(rw[Ey wc];generalize q:World.drewN wc _=wc;replace a:Ac (wc.heap[l]?=some (.cells #[.int .i64 0,.int .i64 0,.int .i64 0,.int .i64 0,.string (⟨#[]⟩:ByteArray)] 30 (0,0))):=⟨by rw[<-q];exact(Bc a.o)⟩;replace HI0:Ac (Ad w0 wc g b d):=⟨by rw[<-q];exact(An)⟩;replace HK:Ac (Ah w wc g none):=⟨by rw[<-q];exact(D4 HK.o)⟩;replace HB:Ac (Below w0.heap.size w0 wc):=⟨by rw[<-q];exact(Ag)⟩;clear q)))|((with_reducible refine BQ (f:=16) rfl ?_);refine BW 84 R0 #[.pointer (some ⟨g,0,none⟩),.int .i64 3] ?_;(with_reducible refine(Ab.calls y g b d 3 ar bH w0 _ ?q' ?z' bR.o).mono ?_);(case q'=>exact An);(case z'=>exact Ag);rintro e ec ⟨rfl,hi,t,p⟩;refine⟨_,rfl,?_⟩;replace a:=a_ (FY p a.o c.o);replace HK:=a_ (Ah.trans (D4 HK.o) p (.inl rfl));replace HB:=a_ (t);replace HI0:=a_ (hi);(try clear t p hi);have dw:=c.o;have dB:=z.o;obtain⟨da,db,dc,dd,de,cD,cE,cF,cG,cH⟩:=CI a.o))
                 refine RH (RF rfl _ _ l 30 #[.int .i64 3,.int .i64 ((Ae l1 i).f0),.int .i64 n,.int .i64 j,.string (⟨#[]⟩:ByteArray)] (0,0) _ rfl (GN a.o) RW rfl (by kernel_rfl)) rfl ?_
                 exact⟨C8,An,Ag,D4 HK.o⟩
               ·replace be:=RE.mpr be
                subst be
                have H1:((CH.f y b d).bind λL=>((Ab.f y b L.2 3).bind λM=>(if M.1=0 then(some (2,L.1,0,0,m,M.2))else(some (3,L.1,n,j,(⟨#[]⟩:ByteArray),M.2)))))=some (r1,r2,r3,r4,r5,r6):=by rw[Rz (show¬ (false=true) by decide)]at H;exact H
                clear H
                have H:=H1
                clear H1
                replace H:=BR H
                obtain⟨⟨aV,aW⟩,bu,H⟩:=H
                try dsimp only at H
                have bS:=a_ bu
                clear bu
                replace H:=BR H
                obtain⟨⟨au,bI⟩,bw,H⟩:=H
                try dsimp only at H
                have bT:=a_ bw
                clear bw
                by_cases aR:au=0
                ·rw[Ry aR]at H
                 have bN:(au==0)=true:=RO.mpr aR
                 have bO:(au != 0)=false:=Fc aR
                 clear aR
                 simp only[Option.some.injEq,Prod.mk.injEq]at H
                 obtain⟨rfl,rfl,rfl,rfl,rfl,rfl⟩:=H
                 go_wp2_with(first|((with_reducible refine BQ (f:=31) rfl ?_);refine BW 79 Tf #[.int .i64 ((Ae l1 i).f0)] ?_;(with_reducible refine(Bk.calls ((Ae l1 i).f0) false _ bc.o).mono ?_);rintro e w' ⟨rfl,⟨nd,rfl⟩⟩;refine⟨_,rfl,?_⟩;(try(rw[Ey wc];generalize q:World.drewN wc _=wc;replace a:Ac (wc.heap[l]?=some (.cells #[.int .i64 0,.int .i64 0,.int .i64 0,.int .i64 0,.string (⟨#[]⟩:ByteArray)] 30 (0,0))):=⟨by rw[<-q];exact(Bc a.o)⟩;replace HI0:Ac (Ad w0 wc g b d):=⟨by rw[<-q];exact(An)⟩;replace HK:Ac (Ah w wc g none):=⟨by rw[<-q];exact(D4 HK.o)⟩;replace HB:Ac (Below w0.heap.size w0 wc):=⟨by rw[<-q];exact(Ag)⟩;clear q)))|((with_reducible refine BQ (f:=41) rfl ?_);refine BW 82 TH #[.pointer (some ⟨g,0,none⟩)] ?_;(with_reducible refine(CH.calls y g b d aV aW w0 _ ?q' ?z' bS.o).mono ?_);(case q'=>exact An);(case z'=>exact Ag);rintro e ed ⟨rfl,hi,t,p⟩;refine⟨_,rfl,?_⟩;replace a:=a_ (FY p a.o c.o);replace HK:=a_ (Ah.trans (D4 HK.o) p (.inl rfl));replace HB:=a_ (t);replace HI0:=a_ (hi);(try clear t p hi))|((with_reducible refine BQ (f:=16) rfl ?_);refine BW 84 R0 #[.pointer (some ⟨g,0,none⟩),.int .i64 3] ?_;(with_reducible refine(Ab.calls y g b aW 3 au bI w0 _ ?q' ?z' bT.o).mono ?_);(case q'=>exact An);(case z'=>exact Ag);rintro e ee ⟨rfl,hi,t,p⟩;refine⟨_,rfl,?_⟩;replace a:=a_ (FY p a.o c.o);replace HK:=a_ (Ah.trans (D4 HK.o) p (.inl rfl));replace HB:=a_ (t);replace HI0:=a_ (hi);(try clear t p hi);have dx:=c.o;have dC:=z.o;obtain⟨df,dg,dh,di,dj,cI,cJ,cK,cL,cM⟩:=CI a.o))
                 refine RH (RF rfl _ _ l 30 #[.int .i64 2,.int .i64 aV,.int .i64 0,.int .i64 0,.string m] (0,0) _ rfl (GN a.o) RW rfl (by kernel_rfl)) rfl ?_
                 exact⟨C8,An,Ag,D4 HK.o⟩
                ·rw[Rz aR]at H
                 have bN:(au==0)=false:=Dr aR
                 have bO:(au != 0)=true:=RX.mpr aR
                 simp only[Option.some.injEq,Prod.mk.injEq]at H
                 obtain⟨rfl,rfl,rfl,rfl,rfl,rfl⟩:=H
                 go_wp2_with(first|((with_reducible refine BQ (f:=31) rfl ?_);refine BW 79 Tf #[.int .i64 ((Ae l1 i).f0)] ?_;(with_reducible refine(Bk.calls ((Ae l1 i).f0) false _ bc.o).mono ?_);rintro e w' ⟨rfl,⟨nd,rfl⟩⟩;refine⟨_,rfl,?_⟩;(try(rw[Ey wc];generalize q:World.drewN wc _=wc;replace a:Ac (wc.heap[l]?=some (.cells #[.int .i64 0,.int .i64 0,.int .i64 0,.int .i64 0,.string (⟨#[]⟩:ByteArray)] 30 (0,0))):=⟨by rw[<-q];exact(Bc a.o)⟩;replace HI0:Ac (Ad w0 wc g b d):=⟨by rw[<-q];exact(An)⟩;replace HK:Ac (Ah w wc g none):=⟨by rw[<-q];exact(D4 HK.o)⟩;replace HB:Ac (Below w0.heap.size w0 wc):=⟨by rw[<-q];exact(Ag)⟩;clear q)))|((with_reducible refine BQ (f:=41) rfl ?_);refine BW 82 TH #[.pointer (some ⟨g,0,none⟩)] ?_;(with_reducible refine(CH.calls y g b d aV aW w0 _ ?q' ?z' bS.o).mono ?_);(case q'=>exact An);(case z'=>exact Ag);rintro e ef ⟨rfl,hi,t,p⟩;refine⟨_,rfl,?_⟩;replace a:=a_ (FY p a.o c.o);replace HK:=a_ (Ah.trans (D4 HK.o) p (.inl rfl));replace HB:=a_ (t);replace HI0:=a_ (hi);(try clear t p hi))|((with_reducible refine BQ (f:=16) rfl ?_);refine BW 84 R0 #[.pointer (some ⟨g,0,none⟩),.int .i64 3] ?_;(with_reducible refine(Ab.calls y g b aW 3 au bI w0 _ ?q' ?z' bT.o).mono ?_);(case q'=>exact An);(case z'=>exact Ag);rintro e eg ⟨rfl,hi,t,p⟩;refine⟨_,rfl,?_⟩;replace a:=a_ (FY p a.o c.o);replace HK:=a_ (Ah.trans (D4 HK.o) p (.inl rfl));replace HB:=a_ (t);replace HI0:=a_ (hi);(try clear t p hi);have dy:=c.o;have dD:=z.o;obtain⟨dk,dm,dn,dp,dq,cN,cO,cP,cQ,cR⟩:=CI a.o))
                 refine RH (RF rfl _ _ l 30 #[.int .i64 3,.int .i64 aV,.int .i64 n,.int .i64 j,.string (⟨#[]⟩:ByteArray)] (0,0) _ rfl (GN a.o) RW rfl (by kernel_rfl)) rfl ?_
                 exact⟨C8,An,Ag,D4 HK.o⟩
    rw[Rz DM]at H;exact absurd H (by simp)
   rw[Rz c9]at H;exact absurd H (by simp)
  rw[Rz c7]at H;exact absurd H (by simp)
 rw[Rz c6]at H;exact absurd H (by simp)
end Go.Proofs.YtlhlpfnljglhoaaDoor.P
namespace Go.Proofs.YtlhlpfnljglhoaaDoor.P
open Go.RowKit Go.Proofs.YtlhlpfnljglhoaaDoorW.PrintWords Go.Proofs.YtlhlpfnljglhoaaDoorW.Bb Go.Proofs.YtlhlpfnljglhoaaDoorW.Dm
abbrev Dy:=List AQ
abbrev En:=List EZ
abbrev Dz:=List DH
def Dt(zs:List Nat)(v3 v4:Value)(k:Nat):Prop:=k∉zs∧some k≠v3.ownBlock∧some k≠v4.ownBlock
structure WM (w0 W:World) (zs:List Nat) (v0 v3 v4:Value) (l0:Dy) (l3:En) (l4:Dz):Prop where
 hB:Below w0.heap.size w0 W
 hz:∀k,k∈zs->k<W.heap.size
 h0:Kd.V Ck 32 W w0.heap.size (Dt zs v3 v4) v0 l0
 h3:Kd.N Ha 26 W w0.heap.size (λk=>k∉zs∧some k≠v4.ownBlock) v3 l3
 h4:Kd.N Fh 114 W w0.heap.size (λk=>k∉zs∧some k≠v3.ownBlock) v4 l4
structure Bx where
 g:Nat
 cs:List Value
 t:Nat
structure BX (w W:World) (zs:List Nat) (S:Nat->Prop) (bs:List Bx):Prop where
 at_:∀b∈bs,W.heap[b.g]?=some (.cells b.cs.toArray b.t (0,0))
 nd:(bs.map Bx.g).Nodup
 ge:∀b∈bs,w.heap.size≤b.g
 mem:∀b∈bs,b.g∈zs
 hK:Kept w W S
structure St (w0 w W:World) (zs:List Nat) (S:Nat->Prop) (bs:List Bx) (v0 v3 v4:Value) (l0:Dy) (l3:En) (l4:Dz):Prop where
 M:WM w0 W zs v0 v3 v4 l0 l3 l4
 B:BX w W zs S bs
 hw:w0.heap.size≤w.heap.size
section
variable {w0 w W W1:World} {zs zs':List Nat} {S S':Nat->Prop} {bs:List Bx} {v0 v3 v4 u:Value} {l0:Dy} {l3:En} {l4:Dz}
theorem WM.step(h:WM w0 W zs v0 v3 v4 l0 l3 l4)(hB:Below w0.heap.size w0 W1)(hs:W.heap.size≤W1.heap.size)(hm:∀k,k∉zs->k<W.heap.size->W1.heap[k]?=W.heap[k]?):WM w0 W1 zs v0 v3 v4 l0 l3 l4 :=
 ⟨hB,λk b=>R_ (h.hz k b) hs,Kd.PC h.h0 (λk b a=>hm k b.1 a),Kd.Ia h.h3 (λk b a=>hm k b.1 a),Kd.Ia h.h4 (λk b a=>hm k b.1 a)⟩
theorem WM.below(h:WM w0 W zs v0 v3 v4 l0 l3 l4)(a:Below W.heap.size W W1):WM w0 W1 zs v0 v3 v4 l0 l3 l4 :=
 h.step (IY h.hB a) a.size (λk _ b=>a.block k b)
theorem WM.mono(h:WM w0 W zs v0 v3 v4 l0 l3 l4)(hz:∀k,k∈zs'->k∈zs):WM w0 W zs' v0 v3 v4 l0 l3 l4 :=
 ⟨h.hB,λk a=>h.hz k (hz k a),Kd.AD h.h0 (λk a=>⟨λe=>a.1 (hz k e),a.2⟩),Kd.Gm h.h3 (λk a=>⟨λe=>a.1 (hz k e),a.2⟩),Kd.Gm h.h4 (λk a=>⟨λe=>a.1 (hz k e),a.2⟩)⟩
theorem not_cons{k g:Nat}(h:k∉zs)(hg:k≠g):k∉g::zs:=λe=>(Sl.1 e).elim hg h
theorem WM.new(h:WM w0 W zs v0 v3 v4 l0 l3 l4){g:Nat}(hg:g=W.heap.size)(b:Below W.heap.size W W1)(c:g<W1.heap.size):WM w0 W1 (g::zs) v0 v3 v4 l0 l3 l4 :=
  ⟨IY h.hB b,λk a=>(Sl.1 a).elim (λe=>e ▸ c) (λa=>R_ (h.hz k a) b.size),
   Kd.AD (Kd.Bh (Kd.FO h.h0) b) (λk a=>⟨not_cons a.1.1 (by have:=a.2;omega),a.1.2⟩),Kd.Gm (Kd.JN (Kd.Hc h.h3) b) (λk a=>⟨not_cons a.1.1 (by have:=a.2;omega),a.1.2⟩),Kd.Gm (Kd.JN (Kd.Hc h.h4) b) (λk a=>⟨not_cons a.1.1 (by have:=a.2;omega),a.1.2⟩)⟩
theorem WM.set(h:WM w0 W zs v0 v3 v4 l0 l3 l4){g:Nat}(hg:g∈zs)(hB:w0.heap.size≤g)(j:Nat)(x:Value):WM w0 (W.setCell ⟨g,j,none⟩ x) zs v0 v3 v4 l0 l3 l4 :=
 h.step (DK h.hB hB) (by simp[World.setCell]) (λk a _=>Su W ⟨g,j,none⟩ x k (λe=>a (e ▸ hg)))
theorem WM.KD(h:WM w0 W zs v0 v3 v4 l0 l3 l4){g:Nat}(hg:g∈zs)(hB:Below w0.heap.size w0 W1)(b:Ah W W1 g none):WM w0 W1 zs v0 v3 v4 l0 l3 l4 :=
 h.step hB b.1 (λk c a=>b.2 k a (λe=>c (e ▸ hg)) (by simp))
theorem WM.Hz(h:WM w0 W zs v0 v3 v4 l0 l3 l4){k:Nat}(a:v3.ownBlock=some k):k∉zs∧some k≠v4.ownBlock:=h.h3.1 k a
theorem WM.I4(h:WM w0 W zs v0 v3 v4 l0 l3 l4){k:Nat}(a:v4.ownBlock=some k):k∉zs∧some k≠v3.ownBlock:=h.h4.1 k a
theorem BX.cell(h:BX w W zs S bs)(i j:Nat){b:Bx}{x:Value}(a:bs[i]?=some b)(c:b.cs[j]?=some x):W.cell? ⟨b.g,j,none⟩=some x:=by rw[Ax (h.at_ b (So a)) j];simpa using c
theorem BX.fr(h:BX w W zs S bs)(i j:Nat){b:Bx}(a:bs[i]?=some b):W.frozen? ⟨b.g,j,none⟩=false:=BU (h.at_ b (So a)) j
theorem BX.Ex(h:BX w W zs S bs)(i:Nat){g t:Nat}{cs:List Value}(a:bs[i]?=some ⟨g,cs,t⟩):W.heap[g]?=some (.cells cs.toArray t (0,0)):=h.at_ _ (So a)
theorem BX.start(w:World)(zs:List Nat)(S:Nat->Prop):BX w w zs S []:=⟨λ_ hm=>(TA hm).elim,List.nodup_nil,λ_ hm=>(TA hm).elim,λ_ hm=>(TA hm).elim,Kept.refl _ _⟩
theorem BX.below(h:BX w W zs S bs)(a:Below W.heap.size W W1):BX w W1 zs S bs:=⟨λb hm=>Ao (h.at_ b hm) a,h.nd,h.ge,h.mem,h.hK.below a⟩
theorem BX.lt(h:BX w W zs S bs){b:Bx}(a:b∈bs):b.g<W.heap.size:=Av (h.at_ b a)
theorem BX.new(h:BX w W zs S bs){g:Nat}{cs:List Value}{t:Nat}(hg:g=W.heap.size)(d:Below W.heap.size W W1)(a:W1.heap[g]?=some (.cells cs.toArray t (0,0))):BX w W1 (g::zs) S (⟨g,cs,t⟩::bs):=by
 refine⟨λb hm=>?_,?_,λb hm=>?_,λb hm=>?_,h.hK.below d⟩
 ·rcases Sl.1 hm with rfl|hm
  ·exact a
  exact Ao (h.at_ b hm) d
 ·rw[Ub,List.nodup_cons];refine⟨λhm=>?_,h.nd⟩;obtain⟨b,c,he⟩:=Th.1 hm;have:=h.lt c;rw[he]at this;exact TC _ (hg ▸ this)
 ·rcases Sl.1 hm with rfl|hm
  ·show w.heap.size≤g;have:=h.hK.1;omega
  exact h.ge b hm
 rcases Sl.1 hm with rfl|hm
 ·exact RI
 exact RU _ (h.mem b hm)
theorem BX.ne(h:BX w W zs S bs){i i':Nat}{b b':Bx}(g:bs[i]?=some b)(a:bs[i']?=some b')(hi:i≠i'):b.g≠b'.g:=by intro he;have nd:=h.nd;obtain⟨h1,c⟩:=RL.1 g;obtain⟨e,d⟩:=RL.1 a;exact hi ((List.getElem_inj (h₀:=by simpa using h1) (h₁:=by simpa using e) nd).1 (by simp[c,d,he]))
theorem BX.set(h:BX w W zs S bs)(i j:Nat){b:Bx}(x:Value)(k:bs[i]?=some b):BX w (W.setCell ⟨b.g,j,none⟩ x) zs S (bs.set i ⟨b.g,b.cs.set j x,b.t⟩):=by
 have hl:i<bs.length:=(RL.1 k).1
 have l:(bs.set i ⟨b.g,b.cs.set j x,b.t⟩).map Bx.g=bs.map Bx.g:=by
  rw[List.map_set];refine S9 λq=>?_
  rw[List.getElem?_set];split
  ·rename_i e;subst e;rw[Ry (by simpa using hl),Tt,k];rfl
  rfl
 have n:∀c∈bs.set i ⟨b.g,b.cs.set j x,b.t⟩,c.g∈bs.map Bx.g:=λc a=>by rw[<-l];exact List.mem_map_of_mem a
 refine⟨λc a=>?_,by rw[l];exact h.nd,λc a=>?_,λc a=>?_,h.hK.setCell (p:=⟨b.g,j,none⟩) (.inr (h.ge b (So k))) x⟩
 ·obtain⟨q,g⟩:=List.getElem?_of_mem a;rw[List.getElem?_set]at g;split at g
  ·rename_i e;injection g with g;subst g;have:=Fm (h.at_ b (So k)) j x;simpa using this
  rename_i e;exact FA (h.at_ c (So g)) (p:=⟨b.g,j,none⟩) (h.ne g k (λe'=>e e'.symm)) x
 ·obtain⟨m,d,e⟩:=Th.1 (n c a);rw[<-e];exact h.ge m d
 obtain⟨m,d,e⟩:=Th.1 (n c a);rw[<-e];exact h.mem m d
theorem BX.kept{S2:Nat->Prop}(h:BX w W zs S bs)(c:Kept W W1 S2)(d:∀k,S2 k->S k∨w.heap.size≤k)(hz:∀k,S2 k->k∉zs):BX w W1 zs S bs :=
 ⟨λb a=>Kw (h.at_ b a) c (λe=>hz _ e (h.mem b a)),h.nd,h.ge,h.mem,h.hK.KS c d⟩
theorem BX.KD{g:Nat}(h:BX w W zs S bs)(c:Ah W W1 g none)(hg:g<w.heap.size)(d:S g):BX w W1 zs S bs :=
 ⟨λb a=>(c.2 _ (Av (h.at_ b a)) (λe=>by have:=h.ge b a;omega) (by simp)).trans (h.at_ b a),h.nd,h.ge,h.mem,h.hK.Ot c (.inl d)⟩
theorem St.start(h:WM w0 w zs v0 v3 v4 l0 l3 l4)(S:Nat->Prop):St w0 w w zs S [] v0 v3 v4 l0 l3 l4:=⟨h,BX.start _ _ _,h.hB.size⟩
theorem St.box(h:St w0 w W zs S bs v0 v3 v4 l0 l3 l4){g:Nat}{cs:List Value}{t:Nat}(hg:g=W.heap.size)(b:Below W.heap.size W W1)(a:W1.heap[g]?=some (.cells cs.toArray t (0,0))):St w0 w W1 (g::zs) S (⟨g,cs,t⟩::bs) v0 v3 v4 l0 l3 l4 :=
 ⟨h.M.new hg b (Av a),h.B.new hg b a,h.hw⟩
theorem St.set(h:St w0 w W zs S bs v0 v3 v4 l0 l3 l4)(i j:Nat){b:Bx}(x:Value)(a:bs[i]?=some b):St w0 w (W.setCell ⟨b.g,j,none⟩ x) zs S (bs.set i ⟨b.g,b.cs.set j x,b.t⟩) v0 v3 v4 l0 l3 l4 :=
 ⟨h.M.set (h.B.mem b (So a)) (RJ h.hw (h.B.ge b (So a))) j x,h.B.set i j x a,h.hw⟩
theorem St.below(h:St w0 w W zs S bs v0 v3 v4 l0 l3 l4)(a:Below W.heap.size W W1):St w0 w W1 zs S bs v0 v3 v4 l0 l3 l4:=⟨h.M.below a,h.B.below a,h.hw⟩
theorem St.KD{g:Nat}(h:St w0 w W zs S bs v0 v3 v4 l0 l3 l4)(hB:Below w0.heap.size w0 W1)(a:Ah W W1 g none)(hz:g∈zs)(hg:g<w.heap.size)(b:S g):St w0 w W1 zs S bs v0 v3 v4 l0 l3 l4:=⟨h.M.KD hz hB a,h.B.KD a hg b,h.hw⟩
theorem St.app{base:Nat}{v1:Value}{g:Dz}(h:St w0 w W zs S bs v0 v3 v4 l0 l3 l4)(l:Kd.N Fh 114 W1 base (λk=>k∉zs∧some k≠v3.ownBlock) v1 g)(c:base=w0.heap.size)(hB:Below w0.heap.size w0 W1)(hg:W.grownBy W1 v4.ownBlock)(d:v1.ownBlock=v4.ownBlock∨∃b,v1.ownBlock=some b∧W.heap.size≤b)(j:∀k,some k=v4.ownBlock->S k∨w.heap.size≤k):St w0 w W1 zs S bs v0 v3 v1 l0 l3 g:=by
 subst c;refine⟨⟨hB,λk a=>R_ (h.M.hz k a) hg.size,?_,?_,l⟩,⟨λb i=>AO (h.B.at_ b i) hg (λe=>(h.M.I4 e.symm).1 (h.B.mem b i)),h.B.nd,h.B.ge,h.B.mem,h.B.hK.DJ hg (λk a=>j k a.symm)⟩,h.hw⟩
 ·exact Kd.AD (Kd.Lx (Kd.AD h.M.h0 (λk a=>(⟨⟨a.1,a.2.1⟩,a.2.2⟩:(k∉zs∧some k≠v3.ownBlock)∧some k≠v4.ownBlock))) hg d) (λk a=>⟨a.1.1,a.1.2,a.2⟩)
 exact Kd.N1 h.M.h3 hg d
theorem WM.fresh(h:WM w0 W zs v0 v3 v4 l0 l3 l4):∀k,W.heap.size≤k->k∉zs∧some k≠v3.ownBlock:=λk a=>⟨λe=>by have:=h.hz k e;omega,λe=>by have:=Kd.Ko h.h3 k e.symm;omega⟩
theorem BX.c3(h:BX w W zs S bs)(i:Nat){g t:Nat}{a b c:Value}(d:bs[i]?=some ⟨g,[a,b,c],t⟩):W.cell? ⟨g,0,none⟩=some a∧W.cell? ⟨g,1,none⟩=some b∧W.cell? ⟨g,2,none⟩=some c∧∀j,W.frozen? ⟨g,j,none⟩=false :=
 ⟨h.cell i 0 d rfl,h.cell i 1 d rfl,h.cell i 2 d rfl,λj=>h.fr i j d⟩
theorem BX.c5(h:BX w W zs S bs)(i:Nat){g t:Nat}{a b c d e:Value}(k:bs[i]?=some ⟨g,[a,b,c,d,e],t⟩):W.cell? ⟨g,0,none⟩=some a∧W.cell? ⟨g,1,none⟩=some b∧W.cell? ⟨g,2,none⟩=some c∧W.cell? ⟨g,3,none⟩=some d∧W.cell? ⟨g,4,none⟩=some e∧∀j,W.frozen? ⟨g,j,none⟩=false :=
 ⟨h.cell i 0 k rfl,h.cell i 1 k rfl,h.cell i 2 k rfl,h.cell i 3 k rfl,h.cell i 4 k rfl,λj=>h.fr i j k⟩
theorem BX.c6(h:BX w W zs S bs)(i:Nat){g t:Nat}{a b c d e f:Value}(k:bs[i]?=some ⟨g,[a,b,c,d,e,f],t⟩):W.cell? ⟨g,0,none⟩=some a∧W.cell? ⟨g,1,none⟩=some b∧W.cell? ⟨g,2,none⟩=some c∧W.cell? ⟨g,3,none⟩=some d∧W.cell? ⟨g,4,none⟩=some e∧W.cell? ⟨g,5,none⟩=some f∧∀j,W.frozen? ⟨g,j,none⟩=false :=
 ⟨h.cell i 0 k rfl,h.cell i 1 k rfl,h.cell i 2 k rfl,h.cell i 3 k rfl,h.cell i 4 k rfl,h.cell i 5 k rfl,λj=>h.fr i j k⟩
theorem BX.c8(h:BX w W zs S bs)(i:Nat){g t:Nat}{a b c d e f x y:Value}(k:bs[i]?=some ⟨g,[a,b,c,d,e,f,x,y],t⟩):W.cell? ⟨g,0,none⟩=some a∧W.cell? ⟨g,1,none⟩=some b∧W.cell? ⟨g,2,none⟩=some c∧W.cell? ⟨g,3,none⟩=some d∧W.cell? ⟨g,4,none⟩=some e∧W.cell? ⟨g,5,none⟩=some f∧W.cell? ⟨g,6,none⟩=some x∧W.cell? ⟨g,7,none⟩=some y∧∀j,W.frozen? ⟨g,j,none⟩=false :=
 ⟨h.cell i 0 k rfl,h.cell i 1 k rfl,h.cell i 2 k rfl,h.cell i 3 k rfl,h.cell i 4 k rfl,h.cell i 5 k rfl,h.cell i 6 k rfl,h.cell i 7 k rfl,λj=>h.fr i j k⟩
theorem St.put(h:St w0 w W zs S bs v0 v3 v4 l0 l3 l4)(i j:Nat){g t:Nat}{cs:List Value}(x:Value)(a:bs[i]?=some ⟨g,cs,t⟩):St w0 w (W.setCell ⟨g,j,none⟩ x) zs S (bs.set i ⟨g,cs.set j x,t⟩) v0 v3 v4 l0 l3 l4:=h.set i j x a
theorem St.DW(h:St w0 w W zs S bs v0 v3 v4 l0 l3 l4)(i:Nat){g t:Nat}{a b c d e a' b' j d' e':Value}(m:bs[i]?=some ⟨g,[a,b,c,d,e],t⟩):St w0 w (((((W.setCell ⟨g,0,none⟩ a').setCell ⟨g,1,none⟩ b').setCell ⟨g,2,none⟩ j).setCell ⟨g,3,none⟩ d').setCell ⟨g,4,none⟩ e') zs S (bs.set i ⟨g,[a',b',j,d',e'],t⟩) v0 v3 v4 l0 l3 l4:=by have hl:i<bs.length:=(RL.1 m).1;have h1:=h.set i 0 a' m;have k:=h1.set i 1 b' (b:=⟨g,[a',b,c,d,e],t⟩) (by rw[RC hl];rfl);rw[RQ]at k;have h3:=k.set i 2 j (b:=⟨g,[a',b',c,d,e],t⟩) (by rw[RC hl];rfl);rw[RQ]at h3;have h4:=h3.set i 3 d' (b:=⟨g,[a',b',j,d,e],t⟩) (by rw[RC hl];rfl);rw[RQ]at h4;have l:=h4.set i 4 e' (b:=⟨g,[a',b',j,d',e],t⟩) (by rw[RC hl];rfl);rw[RQ]at l;exact l
structure Out (w0 w W:World) (zs:List Nat) (v3 v4 Gv:Value):Prop where
 hK:Kept w W (λk=>some k=v3.ownBlock∨some k=v4.ownBlock)
 o4:Gv.ownBlock=v4.ownBlock∨∃b,Gv.ownBlock=some b∧w.heap.size≤b
end
end Go.Proofs.YtlhlpfnljglhoaaDoor.P
namespace Go.Proofs.YtlhlpfnljglhoaaDoor.P
open Go.RowKit Go.Proofs.YtlhlpfnljglhoaaDoorW.PrintWords Go.Proofs.YtlhlpfnljglhoaaDoorW.Bb Go.Proofs.YtlhlpfnljglhoaaDoorW.Dm
def BN.f(l4:Dz)(m:DH):Dz:=if(l4.length:Int)<12 then l4++[m]else l4
theorem BN.calls(zs:List Nat)(v0 v3 v4 vl:Value)(l0:Dy)(s:Int)(u:Bool)(l3:En)(l4:Dz)(t fr:Int)(r:Dy)(w0 w:World)(h:WM w0 w zs v0 v3 v4 l0 l3 l4)(hl:Kd.V Ck 32 w w0.heap.size (Dt zs v3 v4) vl r) :
  Calls Tryd.prog 72 #[.agg #[v0,.int .i64 s,.bool u,v3,v4],.agg #[.int .i64 t,.int .i64 fr,vl]] w λe w'=>∃Gv,e=.returned (.agg #[v0,.int .i64 s,.bool u,v3,Gv])∧WM w0 w' zs v0 v3 Gv l0 l3 (BN.f l4 ⟨t,fr,r⟩)∧Out w0 w w' zs v3 v4 Gv:=by
 have aa:=RK;have P:=Ti;obtain⟨v,z,rfl⟩:=Kd.Cd h.h0;obtain⟨l,c3,rfl⟩:=Kd.C3 h.h3;obtain⟨m,c4,rfl⟩:=Kd.C3 h.h4;obtain⟨B,E,rfl⟩:=Kd.Cd hl;have M:=a_ (St.start h (λk=>some k=(Value.slice l l3.length c3).ownBlock∨some k=(Value.slice m l4.length c4).ownBlock));have p:=a_ hl;clear h hl;unfold BN.f;by_cases c:(l4.length:Int)<12
 ·obtain⟨K,O⟩:∃x:Dz,x=l4++[(⟨t,fr,r⟩:DH)]:=⟨_,rfl⟩
  rw[Ry c,<-O];have HQ:=a_ O;clear O;have cb:decide ((l4.length:Int)<12)=true:=BM c;have CC:=a_ c;clear c;go_enter Tryd.func72,Tryd.ntmps72
  go_wp2_with(first
   | ((with_reducible refine BV (N:=2) rfl ?_);refine Cy 2 (#[.slice v l0.length z,.int .i64 s,.bool u,.slice l l3.length c3,.slice m l4.length c4]) 64 ?_;intro o hg w1 a d;have D:=M.o.box (cs:=[.slice v l0.length z,.int .i64 s,.bool u,.slice l l3.length c3,.slice m l4.length c4]) hg d a;have j:=a_ (Kd.AD (Kd.Bh (Kd.FO p.o) d) (Fi:=Dt (o::zs) (.slice l l3.length c3) (.slice m l4.length c4)) (λk g=>⟨not_cons g.1.1 (by have:=g.2;omega),g.1.2⟩));clear M p a d hg;have M:=a_ D;have p:=j;clear D j)
   | ((with_reducible refine BV (N:=3) rfl ?_);refine Cy 3 (#[.int .i64 t,.int .i64 fr,.slice B r.length E]) 114 ?_;intro A hg w2 a d;have D:=M.o.box (cs:=[.int .i64 t,.int .i64 fr,.slice B r.length E]) hg d a;have j:=a_ (Kd.AD (Kd.Bh (Kd.FO p.o) d) (Fi:=Dt (A::o::zs) (.slice l l3.length c3) (.slice m l4.length c4)) (λk g=>⟨not_cons g.1.1 (by have:=g.2;omega),g.1.2⟩));clear M p a d hg;have M:=a_ D;have p:=j;clear D j)
   | ((with_reducible refine BV (N:=4) rfl ?_);refine Cy 4 (#[.slice none 0 0,.int .i64 0,.bool false,.slice none 0 0,.slice none 0 0]) 64 ?_;intro n hg w3 a d;have D:=M.o.box (cs:=[.slice none 0 0,.int .i64 0,.bool false,.slice none 0 0,.slice none 0 0]) hg d a;have j:=a_ (Kd.AD (Kd.Bh (Kd.FO p.o) d) (Fi:=Dt (n::A::o::zs) (.slice l l3.length c3) (.slice m l4.length c4)) (λk g=>⟨not_cons g.1.1 (by have:=g.2;omega),g.1.2⟩));clear M p a d hg;have M:=a_ D;have p:=j;clear D j;obtain⟨U,W,X,Y,Z,y⟩:=M.o.B.c5 2 rfl;obtain⟨x0,x1,x2,-⟩:=M.o.B.c3 1 rfl)
   | ((with_reducible refine Bo (b:=.append) (xs:=#[.tmp 10,.tmp 12]) rfl ?_);at_builtin;refine Kd.MF Fh (w0:=w0) w0.heap.size rfl (.tmp 10) (.tmp 12) 62 114 (.agg #[(.int .i64 0),(.int .i64 0),(.slice none 0 0)]) 40 rfl Ta Hn rfl (by decide) (by omega) (.slice m l4.length c4) l4 (⟨t,fr,r⟩:DH) [.int .i64 t,.int .i64 fr,.slice B r.length E] (λk=>k∉n::A::o::zs∧some k≠(Value.slice l l3.length c3).ownBlock) (Dt (n::A::o::zs) (.slice l l3.length c3) (.slice m l4.length c4)) rfl rfl ?aP (λk g=>⟨⟨g.1,g.2.1⟩,g.2.2⟩) ?aF ?aO ?aB ?aS ?aL ?_;(case aP=>exact Nf _ _ _ (Kd.Kv p.o).2.1 (Kd.Q3 p.o));(case aF=>exact M.o.M.fresh);(case aO=>exact M.o.M.h4);(case aB=>exact M.o.M.hB);(case aS=>exact M.o.M.hB.size);(case aL=>have:=CC.o;omega);intro v5 w4 J d hg G;rw[<-HQ.o]at J;have OA:=a_ G;have KG:=a_ (show w.heap.size≤w3.heap.size from M.o.B.hK.1);have D:=M.o.app J rfl d hg G (λk g=>.inl (.inr g));obtain⟨I,c5,e5⟩:=Kd.C3 J;subst e5;clear M J d hg G U W X Y Z x0 x1 x2 y;have M:=a_ D;clear D;obtain⟨U,W,X,Y,Z,y⟩:=M.o.B.c5 2 rfl;obtain⟨q0,q1,q2,q3,q4,q⟩:=M.o.B.c5 0 rfl;have NE:=a_ (M.o.B.ne (i:=0) (i':=2) rfl rfl (by decide));have T:n≠o:=NE.o;have ab:o≠n:=λe=>T e.symm))
  have D:St w0 w _ (n::A::o::zs) _ [⟨n,[.slice v l0.length z,.int .i64 s,.bool u,.slice l l3.length c3,.slice I K.length c5],64⟩,⟨A,[.int .i64 t,.int .i64 fr,.slice B r.length E],114⟩,⟨o,[.slice v l0.length z,.int .i64 s,.bool u,.slice l l3.length c3,.slice I K.length c5],64⟩] _ _ _ _ _ _:=(M.o.put 2 4 (.slice I K.length c5) rfl).DW 0 rfl;have L:=D.B.Ex 0 rfl;refine RH (RF rfl _ _ n 64 #[.slice v l0.length z,.int .i64 s,.bool u,.slice l l3.length c3,.slice I K.length c5] (0,0) _ rfl L RK rfl (by kernel_rfl)) rfl ?_;exact⟨_,rfl,D.M.mono (λk g=>by simp[g]),D.B.hK,OA.o.imp_right (λ⟨b,h1,h2⟩=>⟨b,h1,RJ KG.o h2⟩)⟩
 rw[Rz c];have cb:decide ((l4.length:Int)<12)=false:=C9 c;clear c;go_enter Tryd.func72,Tryd.ntmps72
 go_wp2_with(first
  | ((with_reducible refine BV (N:=2) rfl ?_);refine Cy 2 (#[.slice v l0.length z,.int .i64 s,.bool u,.slice l l3.length c3,.slice m l4.length c4]) 64 ?_;intro o hg w1 a d;have D:=M.o.box (cs:=[.slice v l0.length z,.int .i64 s,.bool u,.slice l l3.length c3,.slice m l4.length c4]) hg d a;clear M a d hg;have M:=a_ D;clear D)
  | ((with_reducible refine BV (N:=3) rfl ?_);refine Cy 3 (#[.int .i64 t,.int .i64 fr,.slice B r.length E]) 114 ?_;intro A hg w2 a d;have D:=M.o.box (cs:=[.int .i64 t,.int .i64 fr,.slice B r.length E]) hg d a;clear M a d hg;have M:=a_ D;clear D)
  | ((with_reducible refine BV (N:=4) rfl ?_);refine Cy 4 (#[.slice none 0 0,.int .i64 0,.bool false,.slice none 0 0,.slice none 0 0]) 64 ?_;intro n hg w3 a d;have D:=M.o.box (cs:=[.slice none 0 0,.int .i64 0,.bool false,.slice none 0 0,.slice none 0 0]) hg d a;clear M a d hg;have M:=a_ D;clear D;obtain⟨U,W,X,Y,Z,y⟩:=M.o.B.c5 2 rfl;obtain⟨q0,q1,q2,q3,q4,q⟩:=M.o.B.c5 0 rfl))
 have D:St w0 w _ (n::A::o::zs) _ [⟨n,[.slice v l0.length z,.int .i64 s,.bool u,.slice l l3.length c3,.slice m l4.length c4],64⟩,⟨A,[.int .i64 t,.int .i64 fr,.slice B r.length E],114⟩,⟨o,[.slice v l0.length z,.int .i64 s,.bool u,.slice l l3.length c3,.slice m l4.length c4],64⟩] _ _ _ _ _ _:=M.o.DW 0 rfl;have L:=D.B.Ex 0 rfl;refine RH (RF rfl _ _ n 64 #[.slice v l0.length z,.int .i64 s,.bool u,.slice l l3.length c3,.slice m l4.length c4] (0,0) _ rfl L RK rfl (by kernel_rfl)) rfl ?_;exact⟨_,rfl,D.M.mono (λk g=>by simp[g]),D.B.hK,.inl rfl⟩
end Go.Proofs.YtlhlpfnljglhoaaDoor.P
namespace Go.Proofs.YtlhlpfnljglhoaaDoor.P
open Go.RowKit Go.Proofs.YtlhlpfnljglhoaaDoorW.PrintWords Go.Proofs.YtlhlpfnljglhoaaDoorW.Bb
theorem QD(d:Nat)(w:World)(a i:Int)(b j:Int)(c k:Int)(e l:Int)(g m:ByteArray) :
  (Op.equalIn (d+2) 30 (.agg #[.int .i64 a,.int .i64 b,.int .i64 c,.int .i64 e,.string g]) (.agg #[.int .i64 i,.int .i64 j,.int .i64 k,.int .i64 l,.string m])).run Tryd.prog w=.ok (a==i&&(b==j&&(c==k&&(e==l&&(g.toList==m.toList))))) w:=by refine K8 RW (by kernel_rfl) ?_;refine Fq (by rfl) (by go_simp;rfl) (by go_simp;rfl) (by go_simp) ?_;refine Fq (by rfl) (by go_simp;rfl) (by go_simp;rfl) (by go_simp) ?_;refine Fq (by rfl) (by go_simp;rfl) (by go_simp;rfl) (by go_simp) ?_;refine Fq (by rfl) (by go_simp;rfl) (by go_simp;rfl) (by go_simp) ?_;exact I0 (by rfl) (by go_simp;rfl) (by go_simp;rfl) (by go_simp)
theorem Ky(d:Nat)(w:World)(a k:Int)(b l:Int)(c m:Int)(e n:Int)(g o:Int)(i p:Int)(j q:ByteArray) :
  (Op.equalIn (d+3) 32 (.agg #[.int .i64 a,.int .i64 b,.int .i64 c,.int .i64 e,.int .i64 g,.int .i64 i,.string j]) (.agg #[.int .i64 k,.int .i64 l,.int .i64 m,.int .i64 n,.int .i64 o,.int .i64 p,.string q])).run Tryd.prog w=.ok (a==k&&(b==l&&((c==m&&(e==n&&(g==o&&(i==p&&(j.toList==q.toList)))))))) w:=by refine K8 Sk (by kernel_rfl) ?_;refine Fq (by rfl) (by go_simp;rfl) (by go_simp;rfl) (by go_simp) ?_;refine Fq (by rfl) (by go_simp;rfl) (by go_simp;rfl) (by go_simp) ?_;exact I0 (by rfl) (by go_simp) (by go_simp) (QD (d+0) w _ _ _ _ _ _ _ _ _ _)
def Bj.l0:Nat->List (AQ)->Int->Int->Int->Option (Int)
 | 0,_,_,_,_=>none
 | k+1,b,c,d,a=>if a<(b.length:Int)then(if 0≤a then(if((Aa b a).f0)=c then(Bj.l0 k b c (wrap64 (d+1)) (wrap64 (a+1)))else(Bj.l0 k b c d (wrap64 (a+1))))else(none))else(some d)
def Bj.f(k:Nat)(l0:List (AQ))(a:Int):Option (Int):=Bj.l0 k l0 a 0 0
theorem Bj.calls(k:Nat)(G:Option Addr)(I:Nat)(l0:List (AQ))(t:Int)(r:Int)(w:World)(D:Kd.C Ck w G l0.length l0)(B:l0.length≤I)(h:Bj.f k l0 t=some r) :
  Calls Tryd.prog 63 #[.slice G l0.length I,.int .i64 t] w λe w'=>e=.returned (.int .i64 r)∧As w w':=by
 have x:=a_ D;have M:=a_ B;clear D B;unfold Bj.f at h;have H:=h;clear h;have v:=a_ H;clear H;go_enter Tryd.func63,Tryd.ntmps63;go_wp2;go_loopg [5,6] k (λL O v6 w'=>∃(d:Int) (a:Int),O=.int .i64 d∧v6=.int .i64 a∧Ac (Bj.l0 L l0 t d a=some r)∧Ac (L≤k)∧As w w')
 case atStart=>exact⟨(0),(0),(CA),(CA),v,⟨RB _⟩,by repeat(first|exact As.refl _|apply As.step)⟩
 clear v;try clear p2
 obtain⟨d,a,rfl,rfl,E,q,⟨P,rfl⟩⟩:=hrel;cases gk with
 | zero=>exact absurd E.o (by simp[Bj.l0])
 | succ K =>
  have H:=E.o
  clear E
  simp only[Bj.l0]at H
  by_cases c3:a<(l0.length:Int)
  ·rw[Ry c3]at H
   have y:decide (a<(l0.length:Int))=true:=BM c3
   clear c3
   by_cases c4:0≤a
   ·rw[Ry c4]at H
    have J:decide (0≤a)=true:=BM c4
    clear c4
    by_cases c5:((Aa l0 a).f0)=t
    ·rw[Ry c5]at H
     have z:(((Aa l0 a).f0)==t)=true:=RO.mpr c5
     have A:(((Aa l0 a).f0) != t)=false:=Fc c5
     clear c5
     have v:=a_ H
     clear H
     have b:0≤(a:Int):=Bv
     have c:a<(l0.length:Int):=Bv
     obtain⟨u,g,i,j,l,m,n,o,p⟩:=CQ x.o a b c
     cases g
     replace b:=RA b
     replace c:=RA c
     go_wp2
     go_roundg K
     case measure=>have:=q.o;omega
     case rel=>exact⟨(wrap64 (d+1)),(wrap64 (a+1)),(CA),(CA),v,⟨by have:=q.o;omega⟩,by repeat(first|exact As.refl _|apply As.step)⟩
    ·rw[Rz c5]at H
     have z:(((Aa l0 a).f0)==t)=false:=Dr c5
     have A:(((Aa l0 a).f0) != t)=true:=RX.mpr c5
     have v:=a_ H
     clear H
     have b:0≤(a:Int):=Bv
     have c:a<(l0.length:Int):=Bv
     obtain⟨u,g,i,j,l,m,n,o,p⟩:=CQ x.o a b c
     cases g
     replace b:=RA b
     replace c:=RA c
     go_wp2
     go_roundg K
     case measure=>have:=q.o;omega
     case rel=>exact⟨(d),(wrap64 (a+1)),(CA),(CA),v,⟨by have:=q.o;omega⟩,by repeat(first|exact As.refl _|apply As.step)⟩
   ·rw[Rz c4]at H
    exact absurd H (by simp)
  ·rw[Rz c3]at H
   have y:decide (a<(l0.length:Int))=false:=C9 c3
   clear c3
   obtain rfl:=CW H
   go_wp2
   go_ret
   exact⟨CA,by repeat(first|exact As.refl _|apply As.step)⟩
def Bp.l0:Nat->List (AQ)->Int->Option (Bool)
 | 0,_,_=>none
 | k+1,a,b=>if b<(a.length:Int)then(if 0≤b then((BA.f k ((Aa a b).f0) ((Aa a b).f1) ((Aa a b).f2.f0) ((Aa a b).f2.f1) ((Aa a b).f2.f2) ((Aa a b).f2.f3) ((Aa a b).f2.f4)).bind λc=>(if c=true then(if b≤(a.length:Int)then((Bj.f k (a.take (b:Int).toNat) ((Aa a b).f0)).bind λd=>(if((Aa a b).f1)=(wrap64 (d+1))then(Bp.l0 k a (wrap64 (b+1)))else(some false)))else(none))else(some false)))else(none))else(some (decide ((a.length:Int)≤40)))
def Bp.f(k:Nat)(l0:List (AQ)):Option (Bool):=Bp.l0 k l0 0
def Bp.T4:Bool×List (List Nat×List Nat):=(true,[([],[]),([],[]),([0,1],[0,1]),([2],[2]),([3],[3]),([4],[4]),([5,4],[5]),([6],[6]),([6],[6]),([7,8,6],[6,7,8]),([9,6],[6,9]),([10,6],[6,10]),([6],[6]),([6],[6]),([12,13,6],[6,12,13]),([6],[6]),([6],[6]),([15,16,6],[6,15,16]),([17,6],[6,17]),([18,6],[6,18]),([14,19,6,6],[6,14,19]),([20,6],[6,20]),([11,21,6],[6,11,21]),([6,22],[6,22])])
def Bp.B4:List Nat:=[0,0,3,7,15,31,63,127,127,511,1023,2047,127,127,12415,127,127,98431,229503,491647,1044607,2093183,4194303,8388607]
theorem Bp.P2:EK .any (opsOf Tryd.f78 4)=Bp.T4:=by kernel_rfl
theorem Bp.MX:DS Bp.T4.2 Bp.B4=true:=by kernel_rfl
theorem Bp.calls(k:Nat)(A0:Option Addr)(c0:Nat)(l0:List (AQ))(r:Bool)(w:World)(a7:Kd.C Ck w A0 l0.length l0)(a6:l0.length≤c0)(h:Bp.f k l0=some r) :
  Calls Tryd.prog 78 #[.slice A0 l0.length c0] w λe w'=>e=.returned (.bool r)∧Below w.heap.size w w':=by
 have bf:=Sk;have aA:=a_ a7;have a1:=a_ a6;clear a7 a6;have HB:=a_ (RG w.heap.size w);unfold Bp.f at h;have H:=h;clear h;have H':=a_ H;clear H;go_enter Tryd.func78,Tryd.ntmps78;go_wp2;go_loopg [3] k (λkq v3 w'=>∃(a:Int),v3=.int .i64 a∧Ac (Bp.l0 kq l0 a=some r)∧Ac (kq≤k)∧Ac (Below w.heap.size w w'))
 case atStart=>exact⟨(0),(CA),H',⟨RB _⟩,⟨Ag⟩⟩
 clear H';obtain⟨a,rfl,HA,a2,HB⟩:=hrel;cases gk with
 | zero=>exact absurd HA.o (by simp[Bp.l0])
 | succ k1 =>
  have H:=HA.o
  clear HA
  simp only[Bp.l0]at H
  by_cases c2:a<(l0.length:Int)
  ·rw[Ry c2]at H
   have a3:decide (a<(l0.length:Int))=true:=BM c2
   clear c2
   by_cases c3:0≤a
   ·rw[Ry c3]at H
    have bb:decide (0≤a)=true:=BM c3
    clear c3
    replace H:=BR H
    obtain⟨a8,aZ,H⟩:=H
    try dsimp only at H
    have A4:=a_ aZ
    clear aZ
    by_cases c5:a8=true
    ·subst c5
     have H1:(if a≤(l0.length:Int)then((Bj.f k1 (l0.take (a:Int).toNat) ((Aa l0 a).f0)).bind λau=>(if((Aa l0 a).f1)=(wrap64 (au+1))then(Bp.l0 k1 l0 (wrap64 (a+1)))else(some false)))else(none))=some r:=by rw[Ry rfl]at H;exact H
     clear H
     have H:=H1
     clear H1
     have bc:=RA (Bv:0≤a)
     by_cases c7:a≤(l0.length:Int)
     ·rw[Ry c7]at H
      have bd:=RA c7
      have be:decide (a≤(l0.length:Int))=true:=BM c7
      clear c7
      obtain⟨av,hy_⟩:=EM (l0.take (a:Int).toNat)
      replace H:((Bj.f k1 av ((Aa l0 a).f0)).bind λau=>(if((Aa l0 a).f1)=(wrap64 (au+1))then(Bp.l0 k1 l0 (wrap64 (a+1)))else(some false)))=some r:=EN
      have aB:=a_ hy_
      clear hy_
      replace H:=BR H
      obtain⟨au,a0,H⟩:=H
      try dsimp only at H
      have A8:=a_ a0
      clear a0
      by_cases c9:((Aa l0 a).f1)=(wrap64 (au+1))
      ·rw[Ry c9]at H
       have a4:(((Aa l0 a).f1)==(wrap64 (au+1)))=true:=RO.mpr c9
       have a5:(((Aa l0 a).f1) != (wrap64 (au+1)))=false:=Fc c9
       clear c9
       have H':=a_ H
       clear H
       try go_wp2
       replace HB:=a_ (Ay HB.o)
       have aq:0≤(a:Int):=Bv
       have ar:a<(l0.length:Int):=Bv
       obtain⟨b,aC,c,d,g,i,j,l,o⟩:=CQ aA.o a aq ar
       have z:=o
       have y:=l
       have x:=j
       have v:=i
       have u:=g
       have t:=d
       have q:=c
       cases aC
       replace c:=(Az HB.o c:)
       replace d:=(Az HB.o d:)
       replace g:=(Az HB.o g:)
       replace i:=(Az HB.o i:)
       replace j:=(Az HB.o j:)
       replace l:=(Az HB.o l:)
       replace o:=(Az HB.o o:)
       replace aq:=RA aq
       replace ar:=RA ar
       have aw:0≤(a:Int):=Bv
       have ay:a<(l0.length:Int):=Bv
       obtain⟨aH,aJ,A,B,D,E,G,I,J⟩:=CQ aA.o a aw ay
       have ag:=J
       have af:=I
       have ae:=G
       have ab:=E
       have aa:=D
       have Z:=B
       have Y:=A
       obtain rfl:b=aH:=(by injection aJ)
       replace A:=(Az HB.o A:)
       replace B:=(Az HB.o B:)
       replace D:=(Az HB.o D:)
       replace E:=(Az HB.o E:)
       replace G:=(Az HB.o G:)
       replace I:=(Az HB.o I:)
       replace J:=(Az HB.o J:)
       replace aw:=RA aw
       replace ay:=RA ay
       have ax:0≤(a:Int):=Bv
       have az:a<(l0.length:Int):=Bv
       obtain⟨aI,aK,L,M,O,T,U,W,X⟩:=CQ aA.o a ax az
       have ao:=X
       have an:=W
       have al:=U
       have ak:=T
       have aj:=O
       have ai:=M
       have ah:=L
       obtain rfl:b=aI:=(by injection aK)
       replace L:=(Az HB.o L:)
       replace M:=(Az HB.o M:)
       replace O:=(Az HB.o O:)
       replace T:=(Az HB.o T:)
       replace U:=(Az HB.o U:)
       replace W:=(Az HB.o W:)
       replace X:=(Az HB.o X:)
       replace ax:=RA ax
       replace az:=RA az
       refine Cl (n:=24) (S:=λw'=>w'.cell? (b.add ((a).toNat*7))=some (.int .i64 ((Aa l0 a).f0))∧w'.cell? ⟨(b.add ((a).toNat*7)).block,(b.add ((a).toNat*7)).off+1,none⟩=some (.int .i64 ((Aa l0 a).f1))∧w'.cell? ⟨(b.add ((a).toNat*7)).block,(b.add ((a).toNat*7)).off+2,none⟩=some (.int .i64 ((Aa l0 a).f2.f0))∧w'.cell? ⟨(b.add ((a).toNat*7)).block,(b.add ((a).toNat*7)).off+3,none⟩=some (.int .i64 ((Aa l0 a).f2.f1))∧w'.cell? ⟨(b.add ((a).toNat*7)).block,(b.add ((a).toNat*7)).off+4,none⟩=some (.int .i64 ((Aa l0 a).f2.f2))∧w'.cell? ⟨(b.add ((a).toNat*7)).block,(b.add ((a).toNat*7)).off+5,none⟩=some (.int .i64 ((Aa l0 a).f2.f3))∧w'.cell? ⟨(b.add ((a).toNat*7)).block,(b.add ((a).toNat*7)).off+6,none⟩=some (.string ((Aa l0 a).f2.f4))∧w'.cell? (b.add ((a).toNat*7))=some (.int .i64 ((Aa l0 a).f0))∧w'.cell? ⟨(b.add ((a).toNat*7)).block,(b.add ((a).toNat*7)).off+1,none⟩=some (.int .i64 ((Aa l0 a).f1))∧w'.cell? ⟨(b.add ((a).toNat*7)).block,(b.add ((a).toNat*7)).off+2,none⟩=some (.int .i64 ((Aa l0 a).f2.f0))∧w'.cell? ⟨(b.add ((a).toNat*7)).block,(b.add ((a).toNat*7)).off+3,none⟩=some (.int .i64 ((Aa l0 a).f2.f1))∧w'.cell? ⟨(b.add ((a).toNat*7)).block,(b.add ((a).toNat*7)).off+4,none⟩=some (.int .i64 ((Aa l0 a).f2.f2))∧w'.cell? ⟨(b.add ((a).toNat*7)).block,(b.add ((a).toNat*7)).off+5,none⟩=some (.int .i64 ((Aa l0 a).f2.f3))∧w'.cell? ⟨(b.add ((a).toNat*7)).block,(b.add ((a).toNat*7)).off+6,none⟩=some (.string ((Aa l0 a).f2.f4))∧w'.cell? (b.add ((a).toNat*7))=some (.int .i64 ((Aa l0 a).f0))∧w'.cell? ⟨(b.add ((a).toNat*7)).block,(b.add ((a).toNat*7)).off+1,none⟩=some (.int .i64 ((Aa l0 a).f1))∧w'.cell? ⟨(b.add ((a).toNat*7)).block,(b.add ((a).toNat*7)).off+2,none⟩=some (.int .i64 ((Aa l0 a).f2.f0))∧w'.cell? ⟨(b.add ((a).toNat*7)).block,(b.add ((a).toNat*7)).off+3,none⟩=some (.int .i64 ((Aa l0 a).f2.f1))∧w'.cell? ⟨(b.add ((a).toNat*7)).block,(b.add ((a).toNat*7)).off+4,none⟩=some (.int .i64 ((Aa l0 a).f2.f2))∧w'.cell? ⟨(b.add ((a).toNat*7)).block,(b.add ((a).toNat*7)).off+5,none⟩=some (.int .i64 ((Aa l0 a).f2.f3))∧w'.cell? ⟨(b.add ((a).toNat*7)).block,(b.add ((a).toNat*7)).off+6,none⟩=some (.string ((Aa l0 a).f2.f4))) (ds:=[]) #[false,false,false,false,false,false,false,false,false,false,false,false,false,false,false,false,false,false,false,false,false,false,false,false] (by kernel_rfl) rfl rfl ⟨((Az HB.o q:)),((Az HB.o t:)),((Az HB.o u:)),((Az HB.o v:)),((Az HB.o x:)),((Az HB.o y:)),((Az HB.o z:)),((Az HB.o Y:)),((Az HB.o Z:)),((Az HB.o aa:)),((Az HB.o ab:)),((Az HB.o ae:)),((Az HB.o af:)),((Az HB.o ag:)),((Az HB.o ah:)),((Az HB.o ai:)),((Az HB.o aj:)),((Az HB.o ak:)),((Az HB.o al:)),((Az HB.o an:)),((Az HB.o ao:))⟩ (λp=>?_);refine B1 Bp.P2 Bp.MX (λHT_ HW_=>?_)
       generalize wr.drew=bj at HB c d g i j l o A B D E G I J L M O T U W X p⊢
       refine Bf 0 10 ?_
       refine Bf 1 11 ?_
       refine Bf 2 12 ?_
       refine JF 3 13 p ?_
       refine E7 4 14 (λK hK=>?_)
       refine C7 SW (by kernel_rfl) rfl #[.agg #[.int .i64 ((Aa l0 a).f0),.int .i64 ((Aa l0 a).f1),.int .i64 ((Aa l0 a).f2.f0),.int .i64 ((Aa l0 a).f2.f1),.int .i64 ((Aa l0 a).f2.f2),.int .i64 ((Aa l0 a).f2.f3),.string ((Aa l0 a).f2.f4)]] (by rfl) rfl rfl JV ?_
       with_reducible refine(BA.calls k1 ((Aa l0 a).f0) ((Aa l0 a).f1) ((Aa l0 a).f2.f0) ((Aa l0 a).f2.f1) ((Aa l0 a).f2.f2) ((Aa l0 a).f2.f3) ((Aa l0 a).f2.f4) true _ A4.o).mono ?_
       rintro e bk ⟨rfl,hb⟩
       refine⟨_,rfl,?_⟩
       replace HB:=Bw hb
       try clear hb
       have aX:(a:Int)≤((l0.length:Int):Int):=Bv
       obtain⟨bg,aL,_,aV,_⟩:=S3 Dv
       have aD:l0.length≤c0:=a1.o
       have aT:Kd.C Ck _ (some b) l0.length l0:=aA.o
       have aR:=Ih (P:=Tryd.prog) 24 32 .i64 R8 aL (some b) l0.length c0 a (Bv) aX aD
       have aN:=Kd.GU (m:=(a:Int).toNat) aT (by omega)
       have aP:av.length=(a:Int).toNat:=(by rw[aB.o,RV];omega)
       rw[<-aB.o]at aN
       rw[<-aP]at aR
       have aG:=a_ aN
       have aF:=a_ (show av.length≤c0 from by omega)
       clear aN aT aD aL aV
       have a9:=a_ aP
       clear aP
       replace aX:=RA aX
       refine hK.out _ _ ⟨((Az HB.o q:)),((Az HB.o t:)),((Az HB.o u:)),((Az HB.o v:)),((Az HB.o x:)),((Az HB.o y:)),((Az HB.o z:)),((Az HB.o Y:)),((Az HB.o Z:)),((Az HB.o aa:)),((Az HB.o ab:)),((Az HB.o ae:)),((Az HB.o af:)),((Az HB.o ag:)),((Az HB.o ah:)),((Az HB.o ai:)),((Az HB.o aj:)),((Az HB.o ak:)),((Az HB.o al:)),((Az HB.o an:)),((Az HB.o ao:))⟩ (λp=>?_)
       clear hK K
       refine Er 14 ?_
       refine Bf 5 15 ?_
       refine Bf 6 16 ?_
       refine Bf 7 17 ?_
       refine Bf 8 18 ?_
       refine Bf 9 19 ?_
       refine Bf 10 20 ?_
       refine Bf 12 22 ?_
       refine Bf 13 23 ?_
       refine Bf 14 24 ?_
       refine Bf 15 25 ?_
       refine Bf 16 26 ?_
       refine Bf 17 27 ?_
       refine Bf 18 28 ?_
       refine JF 11 21 p ?_
       refine JF 19 29 p ?_
       refine E7 20 30 (λK hK=>?_)
       refine C7 To (by kernel_rfl) rfl #[.slice (some b) av.length c0,.int .i64 ((Aa l0 a).f0)] (by rfl) rfl rfl JV ?_
       with_reducible refine(Bj.calls k1 _ _ av ((Aa l0 a).f0) au _ ?q' ?z' A8.o).mono ?_
       (case q'=>exact F0 aG.o)
       (case z'=>exact aF.o)
       rintro e w' ⟨rfl,⟨nd,rfl⟩⟩
       refine⟨_,rfl,?_⟩
       refine hK.out _ _ ⟨((Az HB.o q:)),((Az HB.o t:)),((Az HB.o u:)),((Az HB.o v:)),((Az HB.o x:)),((Az HB.o y:)),((Az HB.o z:)),((Az HB.o Y:)),((Az HB.o Z:)),((Az HB.o aa:)),((Az HB.o ab:)),((Az HB.o ae:)),((Az HB.o af:)),((Az HB.o ag:)),((Az HB.o ah:)),((Az HB.o ai:)),((Az HB.o aj:)),((Az HB.o ak:)),((Az HB.o al:)),((Az HB.o an:)),((Az HB.o ao:))⟩ (λp=>?_)
       clear hK K
       refine Er 30 ?_
       refine Bf 21 31 ?_
       refine Bf 22 32 ?_
       refine Bf 23 33 ?_
       refine CV (CT HT_.o (by kernel_rfl)) ?_
       try go_wp2
       go_roundg k1
       case measure=>have:=a2.o;omega
       case rel=>exact⟨(wrap64 (a+1)),(CA),H',⟨by have:=a2.o;omega⟩,⟨Ag⟩⟩
      ·rw[Rz c9]at H
       have a4:(((Aa l0 a).f1)==(wrap64 (au+1)))=false:=Dr c9
       have a5:(((Aa l0 a).f1) != (wrap64 (au+1)))=true:=RX.mpr c9
       obtain rfl:=CW H
       try go_wp2
       replace HB:=a_ (Ay HB.o)
       have aq:0≤(a:Int):=Bv
       have ar:a<(l0.length:Int):=Bv
       obtain⟨b,aC,c,d,g,i,j,l,o⟩:=CQ aA.o a aq ar
       have z:=o
       have y:=l
       have x:=j
       have v:=i
       have u:=g
       have t:=d
       have q:=c
       cases aC
       replace c:=(Az HB.o c:)
       replace d:=(Az HB.o d:)
       replace g:=(Az HB.o g:)
       replace i:=(Az HB.o i:)
       replace j:=(Az HB.o j:)
       replace l:=(Az HB.o l:)
       replace o:=(Az HB.o o:)
       replace aq:=RA aq
       replace ar:=RA ar
       have aw:0≤(a:Int):=Bv
       have ay:a<(l0.length:Int):=Bv
       obtain⟨aH,aJ,A,B,D,E,G,I,J⟩:=CQ aA.o a aw ay
       have ag:=J
       have af:=I
       have ae:=G
       have ab:=E
       have aa:=D
       have Z:=B
       have Y:=A
       obtain rfl:b=aH:=(by injection aJ)
       replace A:=(Az HB.o A:)
       replace B:=(Az HB.o B:)
       replace D:=(Az HB.o D:)
       replace E:=(Az HB.o E:)
       replace G:=(Az HB.o G:)
       replace I:=(Az HB.o I:)
       replace J:=(Az HB.o J:)
       replace aw:=RA aw
       replace ay:=RA ay
       have ax:0≤(a:Int):=Bv
       have az:a<(l0.length:Int):=Bv
       obtain⟨aI,aK,L,M,O,T,U,W,X⟩:=CQ aA.o a ax az
       have ao:=X
       have an:=W
       have al:=U
       have ak:=T
       have aj:=O
       have ai:=M
       have ah:=L
       obtain rfl:b=aI:=(by injection aK)
       replace L:=(Az HB.o L:)
       replace M:=(Az HB.o M:)
       replace O:=(Az HB.o O:)
       replace T:=(Az HB.o T:)
       replace U:=(Az HB.o U:)
       replace W:=(Az HB.o W:)
       replace X:=(Az HB.o X:)
       replace ax:=RA ax
       replace az:=RA az
       refine Cl (n:=24) (S:=λw'=>w'.cell? (b.add ((a).toNat*7))=some (.int .i64 ((Aa l0 a).f0))∧w'.cell? ⟨(b.add ((a).toNat*7)).block,(b.add ((a).toNat*7)).off+1,none⟩=some (.int .i64 ((Aa l0 a).f1))∧w'.cell? ⟨(b.add ((a).toNat*7)).block,(b.add ((a).toNat*7)).off+2,none⟩=some (.int .i64 ((Aa l0 a).f2.f0))∧w'.cell? ⟨(b.add ((a).toNat*7)).block,(b.add ((a).toNat*7)).off+3,none⟩=some (.int .i64 ((Aa l0 a).f2.f1))∧w'.cell? ⟨(b.add ((a).toNat*7)).block,(b.add ((a).toNat*7)).off+4,none⟩=some (.int .i64 ((Aa l0 a).f2.f2))∧w'.cell? ⟨(b.add ((a).toNat*7)).block,(b.add ((a).toNat*7)).off+5,none⟩=some (.int .i64 ((Aa l0 a).f2.f3))∧w'.cell? ⟨(b.add ((a).toNat*7)).block,(b.add ((a).toNat*7)).off+6,none⟩=some (.string ((Aa l0 a).f2.f4))∧w'.cell? (b.add ((a).toNat*7))=some (.int .i64 ((Aa l0 a).f0))∧w'.cell? ⟨(b.add ((a).toNat*7)).block,(b.add ((a).toNat*7)).off+1,none⟩=some (.int .i64 ((Aa l0 a).f1))∧w'.cell? ⟨(b.add ((a).toNat*7)).block,(b.add ((a).toNat*7)).off+2,none⟩=some (.int .i64 ((Aa l0 a).f2.f0))∧w'.cell? ⟨(b.add ((a).toNat*7)).block,(b.add ((a).toNat*7)).off+3,none⟩=some (.int .i64 ((Aa l0 a).f2.f1))∧w'.cell? ⟨(b.add ((a).toNat*7)).block,(b.add ((a).toNat*7)).off+4,none⟩=some (.int .i64 ((Aa l0 a).f2.f2))∧w'.cell? ⟨(b.add ((a).toNat*7)).block,(b.add ((a).toNat*7)).off+5,none⟩=some (.int .i64 ((Aa l0 a).f2.f3))∧w'.cell? ⟨(b.add ((a).toNat*7)).block,(b.add ((a).toNat*7)).off+6,none⟩=some (.string ((Aa l0 a).f2.f4))∧w'.cell? (b.add ((a).toNat*7))=some (.int .i64 ((Aa l0 a).f0))∧w'.cell? ⟨(b.add ((a).toNat*7)).block,(b.add ((a).toNat*7)).off+1,none⟩=some (.int .i64 ((Aa l0 a).f1))∧w'.cell? ⟨(b.add ((a).toNat*7)).block,(b.add ((a).toNat*7)).off+2,none⟩=some (.int .i64 ((Aa l0 a).f2.f0))∧w'.cell? ⟨(b.add ((a).toNat*7)).block,(b.add ((a).toNat*7)).off+3,none⟩=some (.int .i64 ((Aa l0 a).f2.f1))∧w'.cell? ⟨(b.add ((a).toNat*7)).block,(b.add ((a).toNat*7)).off+4,none⟩=some (.int .i64 ((Aa l0 a).f2.f2))∧w'.cell? ⟨(b.add ((a).toNat*7)).block,(b.add ((a).toNat*7)).off+5,none⟩=some (.int .i64 ((Aa l0 a).f2.f3))∧w'.cell? ⟨(b.add ((a).toNat*7)).block,(b.add ((a).toNat*7)).off+6,none⟩=some (.string ((Aa l0 a).f2.f4))) (ds:=[]) #[false,false,false,false,false,false,false,false,false,false,false,false,false,false,false,false,false,false,false,false,false,false,false,false] (by kernel_rfl) rfl rfl ⟨((Az HB.o q:)),((Az HB.o t:)),((Az HB.o u:)),((Az HB.o v:)),((Az HB.o x:)),((Az HB.o y:)),((Az HB.o z:)),((Az HB.o Y:)),((Az HB.o Z:)),((Az HB.o aa:)),((Az HB.o ab:)),((Az HB.o ae:)),((Az HB.o af:)),((Az HB.o ag:)),((Az HB.o ah:)),((Az HB.o ai:)),((Az HB.o aj:)),((Az HB.o ak:)),((Az HB.o al:)),((Az HB.o an:)),((Az HB.o ao:))⟩ (λp=>?_);refine B1 Bp.P2 Bp.MX (λHT_ HW_=>?_)
       generalize wr.drew=bl at HB c d g i j l o A B D E G I J L M O T U W X p⊢
       refine Bf 0 10 ?_
       refine Bf 1 11 ?_
       refine Bf 2 12 ?_
       refine JF 3 13 p ?_
       refine E7 4 14 (λK hK=>?_)
       refine C7 SW (by kernel_rfl) rfl #[.agg #[.int .i64 ((Aa l0 a).f0),.int .i64 ((Aa l0 a).f1),.int .i64 ((Aa l0 a).f2.f0),.int .i64 ((Aa l0 a).f2.f1),.int .i64 ((Aa l0 a).f2.f2),.int .i64 ((Aa l0 a).f2.f3),.string ((Aa l0 a).f2.f4)]] (by rfl) rfl rfl JV ?_
       with_reducible refine(BA.calls k1 ((Aa l0 a).f0) ((Aa l0 a).f1) ((Aa l0 a).f2.f0) ((Aa l0 a).f2.f1) ((Aa l0 a).f2.f2) ((Aa l0 a).f2.f3) ((Aa l0 a).f2.f4) true _ A4.o).mono ?_
       rintro e bm ⟨rfl,hb⟩
       refine⟨_,rfl,?_⟩
       replace HB:=Bw hb
       try clear hb
       have aY:(a:Int)≤((l0.length:Int):Int):=Bv
       obtain⟨bh,aM,_,aW,_⟩:=S3 Dv
       have aE:l0.length≤c0:=a1.o
       have aU:Kd.C Ck _ (some b) l0.length l0:=aA.o
       have aS:=Ih (P:=Tryd.prog) 24 32 .i64 R8 aM (some b) l0.length c0 a (Bv) aY aE
       have aO:=Kd.GU (m:=(a:Int).toNat) aU (by omega)
       have aQ:av.length=(a:Int).toNat:=(by rw[aB.o,RV];omega)
       rw[<-aB.o]at aO
       rw[<-aQ]at aS
       have aG:=a_ aO
       have aF:=a_ (show av.length≤c0 from by omega)
       clear aO aU aE aM aW
       have ba:=a_ aQ
       clear aQ
       replace aY:=RA aY
       refine hK.out _ _ ⟨((Az HB.o q:)),((Az HB.o t:)),((Az HB.o u:)),((Az HB.o v:)),((Az HB.o x:)),((Az HB.o y:)),((Az HB.o z:)),((Az HB.o Y:)),((Az HB.o Z:)),((Az HB.o aa:)),((Az HB.o ab:)),((Az HB.o ae:)),((Az HB.o af:)),((Az HB.o ag:)),((Az HB.o ah:)),((Az HB.o ai:)),((Az HB.o aj:)),((Az HB.o ak:)),((Az HB.o al:)),((Az HB.o an:)),((Az HB.o ao:))⟩ (λp=>?_)
       clear hK K
       refine Er 14 ?_
       refine Bf 5 15 ?_
       refine Bf 6 16 ?_
       refine Bf 7 17 ?_
       refine Bf 8 18 ?_
       refine Bf 9 19 ?_
       refine Bf 10 20 ?_
       refine Bf 12 22 ?_
       refine Bf 13 23 ?_
       refine Bf 14 24 ?_
       refine Bf 15 25 ?_
       refine Bf 16 26 ?_
       refine Bf 17 27 ?_
       refine Bf 18 28 ?_
       refine JF 11 21 p ?_
       refine JF 19 29 p ?_
       refine E7 20 30 (λK hK=>?_)
       refine C7 To (by kernel_rfl) rfl #[.slice (some b) av.length c0,.int .i64 ((Aa l0 a).f0)] (by rfl) rfl rfl JV ?_
       with_reducible refine(Bj.calls k1 _ _ av ((Aa l0 a).f0) au _ ?q' ?z' A8.o).mono ?_
       (case q'=>exact F0 aG.o)
       (case z'=>exact aF.o)
       rintro e w' ⟨rfl,⟨nd,rfl⟩⟩
       refine⟨_,rfl,?_⟩
       refine hK.out _ _ ⟨((Az HB.o q:)),((Az HB.o t:)),((Az HB.o u:)),((Az HB.o v:)),((Az HB.o x:)),((Az HB.o y:)),((Az HB.o z:)),((Az HB.o Y:)),((Az HB.o Z:)),((Az HB.o aa:)),((Az HB.o ab:)),((Az HB.o ae:)),((Az HB.o af:)),((Az HB.o ag:)),((Az HB.o ah:)),((Az HB.o ai:)),((Az HB.o aj:)),((Az HB.o ak:)),((Az HB.o al:)),((Az HB.o an:)),((Az HB.o ao:))⟩ (λp=>?_)
       clear hK K
       refine Er 30 ?_
       refine Bf 21 31 ?_
       refine Bf 22 32 ?_
       refine Bf 23 33 ?_
       refine CV (CT HT_.o (by kernel_rfl)) ?_
       try go_wp2
       go_ret
       exact⟨C8,Ag⟩
     ·rw[Rz c7]at H
      exact absurd H (by simp)
    ·replace c5:=RE.mpr c5
     subst c5
     have H1:(some false)=some r:=by rw[Rz (show¬ (false=true) by decide)]at H;exact H
     clear H
     have H:=H1
     clear H1
     obtain rfl:=CW H
     try go_wp2
     replace HB:=a_ (Ay HB.o)
     have aq:0≤(a:Int):=Bv
     have ar:a<(l0.length:Int):=Bv
     obtain⟨b,aC,c,d,g,i,j,l,o⟩:=CQ aA.o a aq ar
     have z:=o
     have y:=l
     have x:=j
     have v:=i
     have u:=g
     have t:=d
     have q:=c
     cases aC
     replace c:=(Az HB.o c:)
     replace d:=(Az HB.o d:)
     replace g:=(Az HB.o g:)
     replace i:=(Az HB.o i:)
     replace j:=(Az HB.o j:)
     replace l:=(Az HB.o l:)
     replace o:=(Az HB.o o:)
     replace aq:=RA aq
     replace ar:=RA ar
     refine Cl (n:=24) (S:=λw'=>w'.cell? (b.add ((a).toNat*7))=some (.int .i64 ((Aa l0 a).f0))∧w'.cell? ⟨(b.add ((a).toNat*7)).block,(b.add ((a).toNat*7)).off+1,none⟩=some (.int .i64 ((Aa l0 a).f1))∧w'.cell? ⟨(b.add ((a).toNat*7)).block,(b.add ((a).toNat*7)).off+2,none⟩=some (.int .i64 ((Aa l0 a).f2.f0))∧w'.cell? ⟨(b.add ((a).toNat*7)).block,(b.add ((a).toNat*7)).off+3,none⟩=some (.int .i64 ((Aa l0 a).f2.f1))∧w'.cell? ⟨(b.add ((a).toNat*7)).block,(b.add ((a).toNat*7)).off+4,none⟩=some (.int .i64 ((Aa l0 a).f2.f2))∧w'.cell? ⟨(b.add ((a).toNat*7)).block,(b.add ((a).toNat*7)).off+5,none⟩=some (.int .i64 ((Aa l0 a).f2.f3))∧w'.cell? ⟨(b.add ((a).toNat*7)).block,(b.add ((a).toNat*7)).off+6,none⟩=some (.string ((Aa l0 a).f2.f4))) (ds:=[]) #[false,false,false,false,false,false,false,false,false,false,false,false,false,false,false,false,false,false,false,false,false,false,false,false] (by kernel_rfl) rfl rfl ⟨((Az HB.o q:)),((Az HB.o t:)),((Az HB.o u:)),((Az HB.o v:)),((Az HB.o x:)),((Az HB.o y:)),((Az HB.o z:))⟩ (λp=>?_);refine B1 Bp.P2 Bp.MX (λHT_ HW_=>?_)
     generalize wr.drew=bn at HB c d g i j l o p⊢
     refine Bf 0 10 ?_
     refine Bf 1 11 ?_
     refine Bf 2 12 ?_
     refine IE 3 13 p ?_
     refine E7 4 14 (λK hK=>?_)
     refine C7 SW (by kernel_rfl) rfl #[.agg #[.int .i64 ((Aa l0 a).f0),.int .i64 ((Aa l0 a).f1),.int .i64 ((Aa l0 a).f2.f0),.int .i64 ((Aa l0 a).f2.f1),.int .i64 ((Aa l0 a).f2.f2),.int .i64 ((Aa l0 a).f2.f3),.string ((Aa l0 a).f2.f4)]] (by rfl) rfl rfl JV ?_
     with_reducible refine(BA.calls k1 ((Aa l0 a).f0) ((Aa l0 a).f1) ((Aa l0 a).f2.f0) ((Aa l0 a).f2.f1) ((Aa l0 a).f2.f2) ((Aa l0 a).f2.f3) ((Aa l0 a).f2.f4) false _ A4.o).mono ?_
     rintro e bo ⟨rfl,hb⟩
     refine⟨_,rfl,?_⟩
     replace HB:=Bw hb
     try clear hb
     refine hK.out _ _ ⟨((Az HB.o q:)),((Az HB.o t:)),((Az HB.o u:)),((Az HB.o v:)),((Az HB.o x:)),((Az HB.o y:)),((Az HB.o z:))⟩ (λp=>?_)
     clear hK K
     refine Er 14 ?_
     refine Bf 5 15 ?_
     refine Bf 6 16 ?_
     refine DD 7 17 ?_
     refine DD 8 18 ?_
     refine DD 9 19 ?_
     refine DD 10 20 ?_
     refine DD 11 21 ?_
     refine DD 12 22 ?_
     refine DD 13 23 ?_
     refine DD 14 24 ?_
     refine DD 15 25 ?_
     refine DD 16 26 ?_
     refine DD 17 27 ?_
     refine DD 18 28 ?_
     refine DD 19 29 ?_
     refine DD 20 30 ?_
     refine DD 21 31 ?_
     refine DD 22 32 ?_
     refine Bf 23 33 ?_
     refine CV (CT HT_.o (by kernel_rfl)) ?_
     try go_wp2
     go_ret
     exact⟨C8,Ag⟩
   ·rw[Rz c3]at H
    exact absurd H (by simp)
  ·rw[Rz c2]at H
   have a3:decide (a<(l0.length:Int))=false:=C9 c2
   clear c2
   obtain rfl:=CW H
   go_wp2
   go_ret
   exact⟨C8,Ag⟩
attribute [local go_sem high] Ky
def Da.f(k:Nat)(a:List (AQ))(b:Int)(e:Bool):Option (Bool):=(Bp.f k a).bind λc=>(if c=true then((Ar.f b 0 (a.length:Int)).bind λd=>(some d))else(some false))
theorem Da.calls(k:Nat)(c:Option Addr)(g:Nat)(a:List (AQ))(d:Int)(j:Bool)(r:Bool)(w:World)(p:Kd.C Ck w c a.length a)(o:a.length≤g)(h:Da.f k a d j=some r) :
  Calls Tryd.prog 75 #[.agg #[.slice c a.length g,.int .i64 d,.bool j]] w λe w'=>e=.returned (.bool r)∧Below w.heap.size w w':=by
 have ab:=Sh;have n:=a_ p;have m:=a_ o;clear p o;have HB:=a_ (RG w.heap.size w);unfold Da.f at h;have H:=h;clear h;replace H:=BR H;obtain⟨z,x,H⟩:=H;try dsimp only at H
 have J:=a_ x;clear x;by_cases c3:z=true
 ·subst c3;have H1:((Ar.f d 0 (a.length:Int)).bind λq=>(some q))=some r:=by rw[Ry rfl]at H;exact H
  clear H;have H:=H1;clear H1;replace H:=BR H;obtain⟨q,y,H⟩:=H;try dsimp only at H
  have A4:=a_ y;clear y;obtain rfl:=CW H;go_enter Tryd.func75,Tryd.ntmps75;go_wp2_with(first|((with_reducible refine BV (N:=1) rfl ?_);refine Cy 1 (#[.slice c a.length g,.int .i64 d,.bool j]) 60 ?_;intro v hg w5 i l;have b:=a_ (i);have u:=BD w hg;have t:=BD w hg;replace HB:=Bw l;clear l i hg;obtain⟨U,W,X,K,L,M⟩:=DV b.o)|((with_reducible refine BQ (f:=78) rfl ?_);refine BW 5 Tryd.func78 #[.slice c a.length g] ?_;(with_reducible refine(Bp.calls k _ _ a true _ ?q' ?z' J.o).mono ?_);(case q'=>exact F0 n.o);(case z'=>exact m.o);rintro e w7 ⟨rfl,l⟩;refine⟨_,rfl,?_⟩;replace HB:=Bw l;replace b:=a_ (Cr b.o l);(try clear l);obtain⟨Y,Z,aa,O,P,T⟩:=DV b.o)|(go_at_call 20;(with_reducible refine(Ar.calls d 0 (a.length:Int) q _ A4.o).mono ?_);rintro e w' ⟨rfl,⟨nd,rfl⟩⟩));go_ret;exact⟨C8,Ag⟩
 replace c3:=RE.mpr c3;subst c3;have H1:(some false)=some r:=by rw[Rz (show¬ (false=true) by decide)]at H;exact H
 clear H;have H:=H1;clear H1;obtain rfl:=CW H;go_enter Tryd.func75,Tryd.ntmps75;go_wp2_with(first|((with_reducible refine BV (N:=1) rfl ?_);refine Cy 1 (#[.slice c a.length g,.int .i64 d,.bool j]) 60 ?_;intro v hg w9 i l;have b:=a_ (i);have u:=BD w hg;have t:=BD w hg;replace HB:=Bw l;clear l i hg;obtain⟨E,G,I,A,B,D⟩:=DV b.o)|((with_reducible refine BQ (f:=78) rfl ?_);refine BW 5 Tryd.func78 #[.slice c a.length g] ?_;(with_reducible refine(Bp.calls k _ _ a false _ ?q' ?z' J.o).mono ?_);(case q'=>exact F0 n.o);(case z'=>exact m.o);rintro e ae ⟨rfl,l⟩;refine⟨_,rfl,?_⟩;replace HB:=Bw l;replace b:=a_ (Cr b.o l);(try clear l)));go_ret;exact⟨C8,Ag⟩
def Dx.f(k:Nat)(b:List (AQ))(a:Int)(c:Bool)(j:Int):Option ((List (AQ))):=(Da.f k b a c).bind λg=>(if g=true then(if c=true then((Ar.f j 0 a).bind λi=>(if i=true then((some (([]:List (AQ)):List (AQ))).bind λd=>(if 0≤j then(if j≤a then(if a≤(b.length:Int)then((some ((b.take (a:Int).toNat).drop (j:Int).toNat:List (AQ))).bind λe=>(if d.length+e.length<2199023255552 then(some (d++e))else(none)))else(none))else(none))else(none)))else(some (([]:List (AQ))))))else(some (([]:List (AQ)))))else(some (([]:List (AQ)))))
theorem Dx.calls(k:Nat)(n:Option Addr)(l:Nat)(i:List (AQ))(a:Int)(z:Bool)(t:Int)(r:List (AQ))(w:World)(ae:Kd.C Ck w n i.length i)(Z:i.length≤l)(h:Dx.f k i a z t=some r) :
  Calls Tryd.prog 73 #[.agg #[.slice n i.length l,.int .i64 a,.bool z],.int .i64 t] w λe w'=>∃aA:Value,e=.returned (aA)∧Kd.R Ck 32 w' w.heap.size (λ_=>True) aA r∧Below w.heap.size w w':=by
 have bQ:=Sh;have y:=a_ ae;have x:=a_ Z;clear ae Z;have HB:=a_ (RG w.heap.size w);unfold Dx.f at h;have H:=h;clear h;replace H:=BR H;obtain⟨az,av,H⟩:=H;try dsimp only at H
 have A3:=a_ av;clear av;by_cases c4:az=true
 ·subst c4;have H1:(if z=true then((Ar.f t 0 a).bind λJ=>(if J=true then((some (([]:List (AQ)):List (AQ))).bind λm=>(if 0≤t then(if t≤a then(if a≤(i.length:Int)then((some ((i.take (a:Int).toNat).drop (t:Int).toNat:List (AQ))).bind λj=>(if m.length+j.length<2199023255552 then(some (m++j))else(none)))else(none))else(none))else(none)))else(some (([]:List (AQ))))))else(some (([]:List (AQ)))))=some r:=by rw[Ry rfl]at H;exact H
  clear H;have H:=H1;clear H1;by_cases c5:z=true
  ·subst c5;have H1:((Ar.f t 0 a).bind λJ=>(if J=true then((some (([]:List (AQ)):List (AQ))).bind λm=>(if 0≤t then(if t≤a then(if a≤(i.length:Int)then((some ((i.take (a:Int).toNat).drop (t:Int).toNat:List (AQ))).bind λj=>(if m.length+j.length<2199023255552 then(some (m++j))else(none)))else(none))else(none))else(none)))else(some (([]:List (AQ))))))=some r:=by rw[Ry rfl]at H;exact H
   clear H;have H:=H1;clear H1;replace H:=BR H;obtain⟨J,aw,H⟩:=H;try dsimp only at H
   have A6:=a_ aw;clear aw;by_cases c7:J=true
   ·subst c7;have H1:((some (([]:List (AQ)):List (AQ))).bind λm=>(if 0≤t then(if t≤a then(if a≤(i.length:Int)then((some ((i.take (a:Int).toNat).drop (t:Int).toNat:List (AQ))).bind λj=>(if m.length+j.length<2199023255552 then(some (m++j))else(none)))else(none))else(none))else(none)))=some r:=by rw[Ry rfl]at H;exact H
    clear H;have H:=H1;clear H1;obtain⟨m,hy_⟩:=EM (([]:List (AQ)));replace H:(if 0≤t then(if t≤a then(if a≤(i.length:Int)then((some ((i.take (a:Int).toNat).drop (t:Int).toNat:List (AQ))).bind λj=>(if m.length+j.length<2199023255552 then(some (m++j))else(none)))else(none))else(none))else(none))=some r:=EN;have T:=a_ hy_;clear hy_;by_cases c8:0≤t
    ·rw[Ry c8]at H;have bM:=RA c8;have bN:decide (0≤t)=true:=BM c8;clear c8;by_cases c9:t≤a
     ·rw[Ry c9]at H;have bO:=RA c9;have bP:decide (t≤a)=true:=BM c9;clear c9;by_cases DM:a≤(i.length:Int)
      ·rw[Ry DM]at H;have bG:=RA DM;have bH:decide (a≤(i.length:Int))=true:=BM DM;clear DM;obtain⟨j,hy_⟩:=EM ((i.take (a:Int).toNat).drop (t:Int).toNat);replace H:(if m.length+j.length<2199023255552 then(some (m++j))else(none))=some r:=EN;have U:=a_ hy_;clear hy_;by_cases ag:m.length+j.length<2199023255552
       ·rw[Ry ag]at H;have aq:=a_ ag;clear ag;obtain⟨aD,hy_⟩:=EM (m++j);replace H:(some aD)=some r:=EN;have ar:=a_ hy_;clear hy_;obtain rfl:=CW H;go_enter Tryd.func73,Tryd.ntmps73;go_wp2_with(first|((with_reducible refine BV (N:=2) rfl ?_);refine Cy 2 (#[.slice n i.length l,.int .i64 a,.bool true]) 60 ?_;intro A hg bW q p;have d:=a_ (q);have L:=BD w hg;have K:=BD w hg;replace HB:=Bw p;clear p q hg;obtain⟨bd,be,bf,aK,aM,aN⟩:=DV d.o)|((with_reducible refine BQ (f:=75) rfl ?_);refine BW 6 Tryd.func75 #[.agg #[.slice n i.length l,.int .i64 a,.bool true]] ?_;(with_reducible refine(Da.calls k _ _ i a true true _ ?q' ?z' A3.o).mono ?_);(case q'=>exact F0 y.o);(case z'=>exact x.o);rintro e bX ⟨rfl,p⟩;refine⟨_,rfl,?_⟩;replace HB:=Bw p;replace d:=a_ (Cr d.o p);(try clear p);obtain⟨bg,bh,bj,aP,aQ,aT⟩:=DV d.o)|(go_at_call 20;(with_reducible refine(Ar.calls t 0 a true _ A6.o).mono ?_);rintro e w' ⟨rfl,⟨nd,rfl⟩⟩)|((with_reducible refine BV (N:=21) rfl ?_);refine Kd.DG Ck _ 32 ?hg (N:=21) ?hd (xs:=([]:List (AQ))) (inner:=[]) (ok:=λ_=>True) (okp:=λ_=>True) ?hr ?hp (λ_ hk=>hk) trivial (RG _ _) (RB _) (by simp) ?_;(case hd=>rfl);(case hg=>rfl);(case hr=>first|(go_simp;done)|(go_simp;rfl));(case hp=>exact(Bn.none _ _));intro aC bY B p DN u;clear DN u;(first|rw[<-T.o]at B|(simp only[Int.reduceToNat]at B;rw[<-T.o]at B));have M:=a_ (Kd.AU B (Af (Ag)));replace HB:=Bw p;replace d:=a_ (Cr d.o p);clear p B;obtain⟨bk,bl,bm,aU,aV,aW⟩:=DV d.o;have au:(a:Int)≤((i.length:Int):Int):=Bv;obtain⟨bR,ab,_,af,_⟩:=S3 Dv;have v:i.length≤l:=x.o;have ai:Kd.C Ck _ n i.length i:=y.o;have ay:(t:Int)≤(a:Int):=Bv;have ax:(0:Int)≤(t:Int):=Bv;have ah:=LK (P:=Tryd.prog) 24 32 .i64 .i64 R8 ab 7 af n i.length l t a ax ay au v;have I:=Kd.OK (lo:=(t:Int).toNat) (hi:=(a:Int).toNat) (c:=l) ai (by omega) (by omega) v;obtain⟨aI,hA19⟩:∃A1,A1=(if l=(t:Int).toNat then n else(n:Option Addr).map (·.add ((t:Int).toNat*7))):=⟨_,rfl⟩;obtain⟨bI,aa⟩:∃c1,c1=l-(t:Int).toNat:=⟨_,rfl⟩;have O:j.length=(a:Int).toNat-(t:Int).toNat:=(by rw[U.o,R9,RV] <;> omega);rw[show((i).take (a:Int).toNat).drop (t:Int).toNat=j from U.o.symm]at I;replace I:Kd.C Ck _ aI j.length j:=(by rw[hA19];exact I);rw[<-O,<-hA19,<-aa]at ah;have ao:=a_ I;have aJ:=a_ (show j.length≤bI from by rw[O,aa];exact SV (RJ (by omega) v) _);clear I ai v ab af aa;have bL:=a_ O;have bK:=a_ hA19;clear O hA19;replace au:=RA au)|((with_reducible refine Bo (b:=.append) (xs:=#[.tmp 21,.tmp 27]) rfl ?_);at_builtin;refine Kd.Cn Ck (w0:=w) w.heap.size rfl (.tmp 21) (.tmp 27) 24 32 (.agg #[(.int .i64 0),(.int .i64 0),(.int .i64 0),(.int .i64 0),(.int .i64 0),(.int .i64 0),(.string ⟨#[]⟩)]) 64 rfl R8 Dv rfl (by decide) (by omega) aC m j _ _ _ (λ_=>True) (λ_=>False) rfl rfl ?aO ?aR (λ_ _ h=>h) (λ_ h=>h.elim) ?aF ?aB ?aS ?aL ?_;(case aR=>exact E9 (Kd.Bu ao.o HB.o));(case aB=>exact(Ag));(case aF=>exact(λ_ _=>trivial));(case aO=>exact(AV M.o));(case aS=>exact(Af (Ag)));(case aL=>have:=aq.o;omega);intro bS bZ ho p hg bJ;rw[<-ar.o]at ho;replace d:=a_ (AO (g:=A) (o:=.cells #[.slice n i.length l,.int .i64 a,.bool true] 60 (0,0)) (Bc d.o) hg (Kd.EY M.o d.o (by decide)));replace HB:=a_ (p);have aj:=a_ (ho);clear M;clear ho p hg bJ));go_ret;exact⟨_,C8,by refine AV ?_;exact aj.o,Ag⟩
       rw[Rz ag]at H;exact absurd H (by simp)
      rw[Rz DM]at H;exact absurd H (by simp)
     rw[Rz c9]at H;exact absurd H (by simp)
    rw[Rz c8]at H;exact absurd H (by simp)
   replace c7:=RE.mpr c7;subst c7;have H1:(some (([]:List (AQ))))=some r:=by rw[Rz (show¬ (false=true) by decide)]at H;exact H
   clear H;have H:=H1;clear H1;obtain⟨aE,hy_⟩:=EM (([]:List (AQ)));replace H:(some aE)=some r:=EN;have W:=a_ hy_;clear hy_;obtain rfl:=CW H;go_enter Tryd.func73,Tryd.ntmps73;go_wp2_with(first|((with_reducible refine BV (N:=2) rfl ?_);refine Cy 2 (#[.slice n i.length l,.int .i64 a,.bool true]) 60 ?_;intro A hg b6 q p;have d:=a_ (q);have L:=BD w hg;have K:=BD w hg;replace HB:=Bw p;clear p q hg;obtain⟨bn,bo,bp,aX,aY,aZ⟩:=DV d.o)|((with_reducible refine BQ (f:=75) rfl ?_);refine BW 6 Tryd.func75 #[.agg #[.slice n i.length l,.int .i64 a,.bool true]] ?_;(with_reducible refine(Da.calls k _ _ i a true true _ ?q' ?z' A3.o).mono ?_);(case q'=>exact F0 y.o);(case z'=>exact x.o);rintro e b7 ⟨rfl,p⟩;refine⟨_,rfl,?_⟩;replace HB:=Bw p;replace d:=a_ (Cr d.o p);(try clear p);obtain⟨bq,br,bu,a0,a2,a3⟩:=DV d.o)|(go_at_call 20;(with_reducible refine(Ar.calls t 0 a false _ A6.o).mono ?_);rintro e w' ⟨rfl,⟨nd,rfl⟩⟩)|((with_reducible refine BV (N:=20) rfl ?_);refine Kd.DG Ck _ 32 ?hg (N:=20) ?hd (xs:=([]:List (AQ))) (inner:=[]) (ok:=λ_=>True) (okp:=λ_=>True) ?hr ?hp (λ_ hk=>hk) trivial (RG _ _) (RB _) (by simp) ?_;(case hd=>rfl);(case hg=>rfl);(case hr=>first|(go_simp;done)|(go_simp;rfl));(case hp=>exact(Bn.none _ _));intro bT b8 D p DN u;clear DN u;(first|rw[<-W.o]at D|(simp only[Int.reduceToNat]at D;rw[<-W.o]at D));have ak:=a_ (Kd.AU D (Af (Ag)));replace HB:=Bw p;replace d:=a_ (Cr d.o p);clear p D));go_ret;exact⟨_,C8,by refine AV ?_;exact ak.o,Ag⟩
  replace c5:=RE.mpr c5;subst c5;have H1:(some (([]:List (AQ))))=some r:=by rw[Rz (show¬ (false=true) by decide)]at H;exact H
  clear H;have H:=H1;clear H1;obtain⟨aG,hy_⟩:=EM (([]:List (AQ)));replace H:(some aG)=some r:=EN;have X:=a_ hy_;clear hy_;obtain rfl:=CW H;go_enter Tryd.func73,Tryd.ntmps73;go_wp2_with(first|((with_reducible refine BV (N:=2) rfl ?_);refine Cy 2 (#[.slice n i.length l,.int .i64 a,.bool false]) 60 ?_;intro A hg b9 q p;have d:=a_ (q);have L:=BD w hg;have K:=BD w hg;replace HB:=Bw p;clear p q hg;obtain⟨bw,bx,bz,a4,a5,a6⟩:=DV d.o)|((with_reducible refine BQ (f:=75) rfl ?_);refine BW 6 Tryd.func75 #[.agg #[.slice n i.length l,.int .i64 a,.bool false]] ?_;(with_reducible refine(Da.calls k _ _ i a false true _ ?q' ?z' A3.o).mono ?_);(case q'=>exact F0 y.o);(case z'=>exact x.o);rintro e b_ ⟨rfl,p⟩;refine⟨_,rfl,?_⟩;replace HB:=Bw p;replace d:=a_ (Cr d.o p);(try clear p);obtain⟨bA,bB,bC,a7,a8,a9⟩:=DV d.o)|((with_reducible refine BV (N:=20) rfl ?_);refine Kd.DG Ck _ 32 ?hg (N:=20) ?hd (xs:=([]:List (AQ))) (inner:=[]) (ok:=λ_=>True) (okp:=λ_=>True) ?hr ?hp (λ_ hk=>hk) trivial (RG _ _) (RB _) (by simp) ?_;(case hd=>rfl);(case hg=>rfl);(case hr=>first|(go_simp;done)|(go_simp;rfl));(case hp=>exact(Bn.none _ _));intro bU ca E p DN u;clear DN u;(first|rw[<-X.o]at E|(simp only[Int.reduceToNat]at E;rw[<-X.o]at E));have al:=a_ (Kd.AU E (Af (Ag)));replace HB:=Bw p;replace d:=a_ (Cr d.o p);clear p E));go_ret;exact⟨_,C8,by refine AV ?_;exact al.o,Ag⟩
 replace c4:=RE.mpr c4;subst c4;have H1:(some (([]:List (AQ))))=some r:=by rw[Rz (show¬ (false=true) by decide)]at H;exact H
 clear H;have H:=H1;clear H1;obtain⟨aH,hy_⟩:=EM (([]:List (AQ)));replace H:(some aH)=some r:=EN;have Y:=a_ hy_;clear hy_;obtain rfl:=CW H;go_enter Tryd.func73,Tryd.ntmps73;go_wp2_with(first|((with_reducible refine BV (N:=2) rfl ?_);refine Cy 2 (#[.slice n i.length l,.int .i64 a,.bool z]) 60 ?_;intro A hg cb q p;have d:=a_ (q);have L:=BD w hg;have K:=BD w hg;replace HB:=Bw p;clear p q hg;obtain⟨bD,bE,bF,ba,bb,bc⟩:=DV d.o)|((with_reducible refine BQ (f:=75) rfl ?_);refine BW 6 Tryd.func75 #[.agg #[.slice n i.length l,.int .i64 a,.bool z]] ?_;(with_reducible refine(Da.calls k _ _ i a z false _ ?q' ?z' A3.o).mono ?_);(case q'=>exact F0 y.o);(case z'=>exact x.o);rintro e cd ⟨rfl,p⟩;refine⟨_,rfl,?_⟩;replace HB:=Bw p;replace d:=a_ (Cr d.o p);(try clear p))|((with_reducible refine BV (N:=20) rfl ?_);refine Kd.DG Ck _ 32 ?hg (N:=20) ?hd (xs:=([]:List (AQ))) (inner:=[]) (ok:=λ_=>True) (okp:=λ_=>True) ?hr ?hp (λ_ hk=>hk) trivial (RG _ _) (RB _) (by simp) ?_;(case hd=>rfl);(case hg=>rfl);(case hr=>first|(go_simp;done)|(go_simp;rfl));(case hp=>exact(Bn.none _ _));intro bV cf G p DN u;clear DN u;(first|rw[<-Y.o]at G|(simp only[Int.reduceToNat]at G;rw[<-Y.o]at G));have an:=a_ (Kd.AU G (Af (Ag)));replace HB:=Bw p;replace d:=a_ (Cr d.o p);clear p G));go_ret;exact⟨_,C8,by refine AV ?_;exact an.o,Ag⟩
def Ef.f(a:List (AQ))(b:Int)(e:Bool)(g:Int):Option ((List (AQ))×Int×Bool):=(some (([]:List (AQ)):List (AQ))).bind λc=>(if 0≤(mn (a.length:Int) (wrap64 (b+g)))then(if(mn (a.length:Int) (wrap64 (b+g)))≤(a.length:Int)then((some (a.take ((mn (a.length:Int) (wrap64 (b+g))):Int).toNat:List (AQ))).bind λd=>(if c.length+d.length<2199023255552 then(some ((c++d),b,e))else(none)))else(none))else(none))
theorem Ef.calls(t:Option Addr)(l:Nat)(a:List (AQ))(c:Int)(j:Bool)(Z:Int)(r1:List (AQ))(r2:Int)(r3:Bool)(w:World)(U:Kd.C Ck w t a.length a)(O:a.length≤l)(h:Ef.f a c j Z=some (r1,r2,r3)) :
  Calls Tryd.prog 69 #[.agg #[.slice t a.length l,.int .i64 c,.bool j],.int .i64 Z] w λe w'=>∃an:Value,e=.returned (.agg #[an,.int .i64 r2,.bool r3])∧Kd.R Ck 32 w' w.heap.size (λ_=>True) an r1∧Below w.heap.size w w':=by
 have a5:=Sh;have ae:=a_ U;have ab:=a_ O;clear U O;have HB:=a_ (RG w.heap.size w);unfold Ef.f at h;have H:=h;clear h;obtain⟨n,hy_⟩:=EM (([]:List (AQ)));replace H:(if 0≤(mn (a.length:Int) (wrap64 (c+Z)))then(if(mn (a.length:Int) (wrap64 (c+Z)))≤(a.length:Int)then((some (a.take ((mn (a.length:Int) (wrap64 (c+Z))):Int).toNat:List (AQ))).bind λi=>(if n.length+i.length<2199023255552 then(some ((n++i),c,j))else(none)))else(none))else(none))=some (r1,r2,r3):=EN;have K:=a_ hy_;clear hy_;obtain⟨r,E⟩:∃j_:Int,(mn (a.length:Int) (wrap64 (c+Z)))=j_:=⟨_,rfl⟩
 replace H:(if 0≤(r)then(if(r)≤(a.length:Int)then((some (a.take ((r):Int).toNat:List (AQ))).bind λi=>(if n.length+i.length<2199023255552 then(some ((n++i),c,j))else(none)))else(none))else(none))=some (r1,r2,r3):=by first|(rw[E]at H;exact H)|(simp only[E]at H⊢;exact H)
 have aW:(if(wrap64 (c+Z))<(a.length:Int)then(wrap64 (c+Z))else(a.length:Int))=r:=E;by_cases c4:0≤(r)
 ·rw[Ry c4]at H;have a0:=RA c4;have a2:decide (0≤(r))=true:=BM c4;clear c4;by_cases c5:(r)≤(a.length:Int)
  ·rw[Ry c5]at H;have a3:=RA c5;have a4:decide ((r)≤(a.length:Int))=true:=BM c5;clear c5;obtain⟨i,hy_⟩:=EM (a.take ((r):Int).toNat);replace H:(if n.length+i.length<2199023255552 then(some ((n++i),c,j))else(none))=some (r1,r2,r3):=EN;have L:=a_ hy_;clear hy_;by_cases c6:n.length+i.length<2199023255552
   ·rw[Ry c6]at H;have ak:=a_ c6;clear c6;obtain⟨G,hy_⟩:=EM (n++i);replace H:(some (G,c,j))=some (r1,r2,r3):=EN;have ag:=a_ hy_;clear hy_;simp only[Option.some.injEq,Prod.mk.injEq]at H;obtain⟨rfl,rfl,rfl⟩:=H;go_enter Tryd.func69,Tryd.ntmps69;go_wp2_with(first|((with_reducible refine BV (N:=2) rfl ?_);refine Cy 2 (#[.slice t a.length l,.int .i64 c,.bool j]) 60 ?_;intro q hg w7 y D;have d:=a_ (y);have au:=BD w hg;have aq:=BD w hg;replace HB:=Bw D;clear D y hg)|((with_reducible refine BV (N:=4) rfl ?_);refine Cy 4 (#[.slice none 0 0,.int .i64 0,.bool false]) 60 ?_;intro v hg w8 y D;have k:=a_ (y);have av:=BD w hg;have ar:=BD w hg;have B:=a_ ((by rw[hg];exact RN (Av (g:=q) (o:=.cells #[.slice t a.length l,.int .i64 c,.bool j] 60 (0,0)) (Bc d.o)):q≠v));have u:=a_ ((by rw[hg];exact RM (Av (g:=q) (o:=.cells #[.slice t a.length l,.int .i64 c,.bool j] 60 (0,0)) (Bc d.o)):v≠q));replace d:=a_ (Cr d.o D);replace HB:=Bw D;clear D y hg)|((with_reducible refine BV (N:=5) rfl ?_);refine Kd.DG Ck _ 32 ?hg (N:=5) ?hd (xs:=([]:List (AQ))) (inner:=[]) (ok:=λ_=>True) (okp:=λ_=>True) ?hr ?hp (λ_ hk=>hk) trivial (RG _ _) (RB _) (by simp) ?_;(case hd=>rfl);(case hg=>rfl);(case hr=>first|(go_simp;done)|(go_simp;rfl));(case hp=>exact(Bn.none _ _));intro ao w9 z D DN ah;clear DN ah;(first|rw[<-K.o]at z|(simp only[Int.reduceToNat]at z;rw[<-K.o]at z));have x:=a_ (Kd.AU z (Af (Ag)));replace HB:=Bw D;replace d:=a_ (Cr d.o D);replace k:=a_ (Cr k.o D);clear D z;have aX:=B.o;have aY:=u.o;obtain⟨aI,aJ,aK,ax,ay,az⟩:=DV d.o;have aj:((r):Int)≤((a.length:Int):Int):=Bv;obtain⟨a6,T,_,ai,_⟩:=S3 Dv;have A:a.length≤l:=ab.o;have aa:Kd.C Ck _ t a.length a:=ae.o;have Y:=Ih (P:=Tryd.prog) 24 32 .i64 R8 T t a.length l (r) (Bv) aj A;have W:=Kd.GU (m:=((r):Int).toNat) aa (by omega);have X:i.length=((r):Int).toNat:=(by rw[L.o,RV];omega);rw[<-L.o]at W;rw[<-X]at Y;have af:=a_ W;have aw:=a_ (show i.length≤l from by omega);clear W aa A T ai;have aZ:=a_ X;clear X;replace aj:=RA aj)|((with_reducible refine Bo (b:=.append) (xs:=#[.tmp 5,.tmp 16]) rfl ?_);at_builtin;refine Kd.Cn Ck (w0:=w) w.heap.size rfl (.tmp 5) (.tmp 16) 24 32 (.agg #[(.int .i64 0),(.int .i64 0),(.int .i64 0),(.int .i64 0),(.int .i64 0),(.int .i64 0),(.string ⟨#[]⟩)]) 64 rfl R8 Dv rfl (by decide) (by omega) ao n i _ _ _ (λ_=>True) (λ_=>False) rfl rfl ?aO ?aR (λ_ _ h=>h) (λ_ h=>h.elim) ?aF ?aB ?aS ?aL ?_;(case aR=>exact E9 (Kd.Bu af.o HB.o));(case aB=>exact(Ag));(case aF=>exact(λ_ _=>trivial));(case aO=>exact(AV x.o));(case aS=>exact(Af (Ag)));(case aL=>have:=ak.o;omega);intro a7 a8 ho D hg aV;rw[<-ag.o]at ho;replace d:=a_ (AO (g:=q) (o:=.cells #[.slice t a.length l,.int .i64 c,.bool j] 60 (0,0)) (Bc d.o) hg (Kd.EY x.o d.o (by decide)));replace k:=a_ (AO (g:=v) (o:=.cells #[.slice none 0 0,.int .i64 0,.bool false] 60 (0,0)) (Bc k.o) hg (Kd.EY x.o k.o (by decide)));replace HB:=a_ (D);have J:=a_ (ho);clear x;clear ho D hg aV;obtain⟨I,M,al⟩:=Kd.Be J.o;subst al;obtain⟨aM,aN,aP,aA,aC,aD⟩:=DV d.o;obtain⟨aQ,aT,aU,aE,aG,aH⟩:=DV k.o));refine RH (RF rfl _ _ v 60 #[.slice I G.length M,.int .i64 c,.bool j] (0,0) _ rfl (Nl u.o k.o) Sh rfl (by kernel_rfl)) rfl ?_;exact⟨_,by first|rfl|(simp[Cp,Cq] <;> rfl)|(simp only[<-E];first|rfl|(simp[Cp,Cq] <;> rfl))|(simp[*,Cp,Cq] <;> rfl),by refine AV ?_;exact Kd.Ai (Mu (g:=v) (Kd.CS (p:=⟨q,0,none⟩) (Kd.Aj (Kd.Aj J.o d.o (by decide)) k.o (by decide)) (λ_ hk=>hk.1.2) (.slice I G.length M)) (λ_ hk=>hk.2) (.slice I G.length M) (.int .i64 c) (.bool j)) (λ_ hk=>trivial),Ag⟩
   rw[Rz c6]at H;exact absurd H (by simp)
  rw[Rz c5]at H;exact absurd H (by simp)
 rw[Rz c4]at H;exact absurd H (by simp)
def Cg.l0:Nat->List (AQ)->Int->Int->Int->Int->Int->Int->Int->ByteArray->Option (Bool)
 | 0,_,_,_,_,_,_,_,_,_=>none
 | k+1,l,j,a,b,c,d,e,g,i=>if j<(l.length:Int)then(if 0≤j then(if(((Aa l j).f0)==a&&(((Aa l j).f1)==b&&((((Aa l j).f2.f0)==c&&(((Aa l j).f2.f1)==d&&(((Aa l j).f2.f2)==e&&(((Aa l j).f2.f3)==g&&((((Aa l j).f2.f4).toList)==i.toList))))))))=true then(some true)else(Cg.l0 k l (wrap64 (j+1)) a b c d e g i))else(none))else(some false)
def Cg.f(k:Nat)(l0:List (AQ))(a:Int)(b:Int)(c:Int)(d:Int)(e:Int)(g:Int)(i:ByteArray):Option (Bool):=Cg.l0 k l0 0 a b c d e g i
end Go.Proofs.YtlhlpfnljglhoaaDoor.P
namespace Go.Proofs.YtlhlpfnljglhoaaDoor.P
open Go.RowKit Go.Proofs.YtlhlpfnljglhoaaDoorW.PrintWords Go.Proofs.YtlhlpfnljglhoaaDoorW.Bb
attribute [local go_sem high] Ky
theorem Cg.calls(k:Nat)(Z:Option Addr)(c0:Nat)(l0:List (AQ))(b:Int)(c:Int)(d:Int)(g:Int)(i:Int)(j:Int)(l:ByteArray)(r:Bool)(w:World)(U:Kd.C Ck w Z l0.length l0)(T:l0.length≤c0)(h:Cg.f k l0 b c d g i j l=some r) :
  Calls Tryd.prog 80 #[.slice Z l0.length c0,.agg #[.int .i64 b,.int .i64 c,.int .i64 d,.int .i64 g,.int .i64 i,.int .i64 j,.string l]] w λe w'=>e=.returned (.bool r)∧Below w.heap.size w w':=by
 have aK:=Sk;have K:=a_ U;have aL:=a_ T;clear U T;have HB:=a_ (RG w.heap.size w);unfold Cg.f at h;have H:=h;clear h;have X:=a_ H;clear H;go_enter Tryd.func80,Tryd.ntmps80;go_wp2_with(first|((with_reducible refine BV (N:=3) rfl ?_);refine Cy 3 (#[.int .i64 b,.int .i64 c,.int .i64 d,.int .i64 g,.int .i64 i,.int .i64 j,.string l]) 32 ?_;intro A hg w3 x G;have v:=a_ (x);have D:=BD w hg;have B:=BD w hg;replace HB:=Bw G;clear G x hg));repeat(go_quiet(first|((with_reducible refine BV (N:=3) rfl ?_);refine Cy 3 (#[.int .i64 b,.int .i64 c,.int .i64 d,.int .i64 g,.int .i64 i,.int .i64 j,.string l]) 32 ?_;intro A hg w3 x G;have v:=a_ (x);have D:=BD w hg;have B:=BD w hg;replace HB:=Bw G;clear G x hg));try go_wp2_with(first|((with_reducible refine BV (N:=3) rfl ?_);refine Cy 3 (#[.int .i64 b,.int .i64 c,.int .i64 d,.int .i64 g,.int .i64 i,.int .i64 j,.string l]) 32 ?_;intro A hg w3 x G;have v:=a_ (x);have D:=BD w hg;have B:=BD w hg;replace HB:=Bw G;clear G x hg)))
 go_loopg [5] k (λkq v5 w'=>∃(a:Int),v5=.int .i64 a∧Ac (Cg.l0 kq l0 a b c d g i j l=some r)∧Ac (kq≤k)∧Ac (w'.heap[A]?=some (.cells #[.int .i64 b,.int .i64 c,.int .i64 d,.int .i64 g,.int .i64 i,.int .i64 j,.string l] 32 (0,0)))∧Ac (Below w.heap.size w w'))
 case atStart=>exact⟨(0),(CA),X,⟨RB _⟩,⟨Bc v.o⟩,⟨Ag⟩⟩
 clear X;try clear p2
 obtain⟨a,rfl,Y,J,v,HB⟩:=hrel;cases gk with
 | zero=>exact absurd Y.o (by simp[Cg.l0])
 | succ k1 =>
  have H:=Y.o
  clear Y
  simp only[Cg.l0]at H
  by_cases c4:a<(l0.length:Int)
  ·rw[Ry c4]at H
   have L:decide (a<(l0.length:Int))=true:=BM c4
   clear c4
   by_cases c5:0≤a
   ·rw[Ry c5]at H
    have aI:decide (0≤a)=true:=BM c5
    clear c5
    by_cases c6:(((Aa l0 a).f0)==b&&(((Aa l0 a).f1)==c&&((((Aa l0 a).f2.f0)==d&&(((Aa l0 a).f2.f1)==g&&(((Aa l0 a).f2.f2)==i&&(((Aa l0 a).f2.f3)==j&&((((Aa l0 a).f2.f4).toList)==l.toList))))))))=true
    ·rw[Ry c6]at H
     have M:(((Aa l0 a).f0)==b&&(((Aa l0 a).f1)==c&&((((Aa l0 a).f2.f0)==d&&(((Aa l0 a).f2.f1)==g&&(((Aa l0 a).f2.f2)==i&&(((Aa l0 a).f2.f3)==j&&((((Aa l0 a).f2.f4).toList)==l.toList))))))))=true:=c6
     (try(have O:decide (((Aa l0 a).f0)=b&&(((Aa l0 a).f1)==c&&((((Aa l0 a).f2.f0)==d&&(((Aa l0 a).f2.f1)==g&&(((Aa l0 a).f2.f2)==i&&(((Aa l0 a).f2.f3)==j&&((((Aa l0 a).f2.f4).toList)==l.toList))))))))=true:=by simpa using c6))
     (try(have P:(((Aa l0 a).f0)==b&&(((Aa l0 a).f1)==c&&((((Aa l0 a).f2.f0)==d&&(((Aa l0 a).f2.f1)==g&&(((Aa l0 a).f2.f2)==i&&(((Aa l0 a).f2.f3)==j&&((((Aa l0 a).f2.f4).toList)==l.toList))))))))=true:=by simpa using c6))
     clear c6
     obtain rfl:=CW H
     have y:0≤(a:Int):=Bv
     have z:a<(l0.length:Int):=Bv
     obtain⟨I,E,m,n,o,p,q,t,u⟩:=CQ K.o a y z
     cases E
     replace m:=(Az HB.o m:)
     replace n:=(Az HB.o n:)
     replace o:=(Az HB.o o:)
     replace p:=(Az HB.o p:)
     replace q:=(Az HB.o q:)
     replace t:=(Az HB.o t:)
     replace u:=(Az HB.o u:)
     replace y:=RA y
     replace z:=RA z
     obtain⟨au,av,aw,ax,ay,az,aA,aa,ab,ae,af,ag,ah,ai⟩:=DC (W:=wr) v.o
     go_wp2
     repeat(go_quiet(fail);try go_wp2)
     go_ret
     exact⟨C8,Ag⟩
    ·rw[Rz c6]at H
     have M:(((Aa l0 a).f0)==b&&(((Aa l0 a).f1)==c&&((((Aa l0 a).f2.f0)==d&&(((Aa l0 a).f2.f1)==g&&(((Aa l0 a).f2.f2)==i&&(((Aa l0 a).f2.f3)==j&&((((Aa l0 a).f2.f4).toList)==l.toList))))))))=false:=by simpa using c6
     (try(have O:decide (((Aa l0 a).f0)=b&&(((Aa l0 a).f1)==c&&((((Aa l0 a).f2.f0)==d&&(((Aa l0 a).f2.f1)==g&&(((Aa l0 a).f2.f2)==i&&(((Aa l0 a).f2.f3)==j&&((((Aa l0 a).f2.f4).toList)==l.toList))))))))=false:=by simpa using c6))
     (try(have P:(((Aa l0 a).f0)==b&&(((Aa l0 a).f1)==c&&((((Aa l0 a).f2.f0)==d&&(((Aa l0 a).f2.f1)==g&&(((Aa l0 a).f2.f2)==i&&(((Aa l0 a).f2.f3)==j&&((((Aa l0 a).f2.f4).toList)==l.toList))))))))=false:=by simpa using c6))
     (try(have aJ:¬ (((Aa l0 a).f0)=b&&(((Aa l0 a).f1)==c&&((((Aa l0 a).f2.f0)==d&&(((Aa l0 a).f2.f1)==g&&(((Aa l0 a).f2.f2)==i&&(((Aa l0 a).f2.f3)==j&&((((Aa l0 a).f2.f4).toList)==l.toList)))))))):=by simpa using c6))
     clear c6
     have X:=a_ H
     clear H
     have y:0≤(a:Int):=Bv
     have z:a<(l0.length:Int):=Bv
     obtain⟨I,E,m,n,o,p,q,t,u⟩:=CQ K.o a y z
     cases E
     replace m:=(Az HB.o m:)
     replace n:=(Az HB.o n:)
     replace o:=(Az HB.o o:)
     replace p:=(Az HB.o p:)
     replace q:=(Az HB.o q:)
     replace t:=(Az HB.o t:)
     replace u:=(Az HB.o u:)
     replace y:=RA y
     replace z:=RA z
     obtain⟨aB,aC,aD,aE,aF,aG,aH,aj,ak,al,an,ao,aq,ar⟩:=DC (W:=wr) v.o
     go_wp2
     repeat(go_quiet(fail);try go_wp2)
     go_roundg k1
     case measure=>have:=J.o;omega
     case rel=>exact⟨(wrap64 (a+1)),(CA),X,⟨by have:=J.o;omega⟩,⟨Bc v.o⟩,⟨Ag⟩⟩
   ·rw[Rz c5]at H
    exact absurd H (by simp)
  ·rw[Rz c4]at H
   have L:decide (a<(l0.length:Int))=false:=C9 c4
   clear c4
   obtain rfl:=CW H
   go_wp2
   repeat(go_quiet(fail);try go_wp2)
   go_ret
   exact⟨C8,Ag⟩
def Ct.f(k:Nat)(l0:List (AQ))(a:Int)(b:Int)(c:Int)(d:Int)(e:Int)(g:Int)(i:ByteArray):Option ((List (AQ))×Int):=(Bj.f k l0 a).bind λn=>((Cg.f k l0 a b c d e g i).bind λo=>(if o=true then(some (l0,0))else(if b=(wrap64 (n+1))then(if(l0.length:Int)≥40 then(some (l0,(-1)))else((some (([]:List (AQ)):List (AQ))).bind λj=>(if j.length+l0.length<2199023255552 then((some (j++l0:List (AQ))).bind λl=>((some (([(⟨a,b,(⟨c,d,e,g,i⟩:E0)⟩:AQ)]:List (AQ)):List (AQ))).bind λm=>(if l.length+m.length<2199023255552 then(some ((l++m),1))else(none))))else(none))))else(some (l0,(-1))))))
def Ct.T6:Bool×List (List Nat×List Nat):=(true,[([],[]),([],[]),([0,1],[0,1]),([],[]),([3],[3]),([2,4,2],[2,4]),([5,5,0,1,2,3,4,5],[5]),([6,0,1,2,3,4,5,6],[])])
def Ct.B6:List Nat:=[0,0,3,0,8,31,63,127]
theorem Ct.Rb:EK .any (opsOf Tryd.f79 6)=Ct.T6:=by kernel_rfl
theorem Ct.Qw:DS Ct.T6.2 Ct.B6=true:=by kernel_rfl
theorem Ct.calls(k:Nat)(ae:Nat->Prop)(A0:Option Addr)(c0:Nat)(l0:List (AQ))(c:Int)(d:Int)(l:Int)(m:Int)(p:Int)(q:Int)(r:ByteArray)(r1:List (AQ))(r2:Int)(w:World)(cz:Kd.V Ck 32 w w.heap.size (λv=>ae v) (.slice A0 l0.length c0) l0)(h:Ct.f k l0 c d l m p q r=some (r1,r2)) :
  Calls Tryd.prog 79 #[.slice A0 l0.length c0,.agg #[.int .i64 c,.int .i64 d,.int .i64 l,.int .i64 m,.int .i64 p,.int .i64 q,.string r]] w λe w'=>∃aN:Value,e=.returned (.tuple #[aN,.int .i64 r2])∧Kd.V Ck 32 w' w.heap.size (λv=>(ae v∨w.heap.size≤v)) aN r1∧Below w.heap.size w w':=by
 have cR:=Sk;have t:=a_ (show Kd.V Ck 32 w w.heap.size (λv=>(ae v∨w.heap.size≤v)) (.slice A0 l0.length c0) l0 from Kd.AD cz (λv u=>.inl u));have HB:=a_ (RG w.heap.size w);unfold Ct.f at h;have H:=h;clear h;replace H:=BR H;obtain⟨P,ay,H⟩:=H;try dsimp only at H
 have A3:=a_ ay;clear ay;replace H:=BR H;obtain⟨aM,az,H⟩:=H;try dsimp only at H
 have A4:=a_ az;clear az;by_cases c5:aM=true
 ·subst c5;have H1:(some (l0,0))=some (r1,r2):=by rw[Ry rfl]at H;exact H
  clear H;have H:=H1;clear H1;simp only[Option.some.injEq,Prod.mk.injEq]at H;obtain⟨rfl,rfl⟩:=H;go_enter Tryd.func79,Tryd.ntmps79;go_wp2_with(first|((with_reducible refine BV (N:=3) rfl ?_);refine Cy 3 (#[.int .i64 c,.int .i64 d,.int .i64 l,.int .i64 m,.int .i64 p,.int .i64 q,.string r]) 32 ?_;intro b hg w6 O y;have a:=a_ (O);have ag:=BD w hg;have af:=BD w hg;replace t:=a_ (Kd.Bh (Kd.CO (Dj t.o) b (Sd hg.symm)) y);replace HB:=Bw y;clear y O hg;obtain⟨cK,cL,cM,cN,cO,cP,cQ,cD,cE,cF,cG,cH,cI,cJ⟩:=DC a.o)|((with_reducible refine BQ (f:=63) rfl ?_);refine BW 10 To #[.slice A0 l0.length c0,.int .i64 c] ?_;(with_reducible refine(Bj.calls k _ _ l0 c P _ ?q' ?z' A3.o).mono ?_);(case q'=>repeat(first|exact(Kd.AY t.o).2.2|(with_reducible refine Kd.C_alloc ?_ _)|(with_reducible refine Kd.B_ ?_ _)|(with_reducible refine Kd.C_drew ?_)));(case z'=>exact(Kd.AY t.o).2.1);rintro e w' ⟨rfl,⟨nd,rfl⟩⟩;refine⟨_,rfl,?_⟩)|((with_reducible refine BQ (f:=80) rfl ?_);refine BW 14 Tryd.func80 #[.slice A0 l0.length c0,.agg #[.int .i64 c,.int .i64 d,.int .i64 l,.int .i64 m,.int .i64 p,.int .i64 q,.string r]] ?_;(with_reducible refine(Cg.calls k _ _ l0 c d l m p q r true _ ?q' ?z' A4.o).mono ?_);(case q'=>repeat(first|exact(Kd.AY t.o).2.2|(with_reducible refine Kd.C_alloc ?_ _)|(with_reducible refine Kd.B_ ?_ _)|(with_reducible refine Kd.C_drew ?_)));(case z'=>exact(Kd.AY t.o).2.1);rintro e w8 ⟨rfl,y⟩;refine⟨_,rfl,?_⟩;replace t:=a_ (Kd.Bh (Dj t.o) y);replace HB:=Bw y;replace a:=a_ (Cr a.o y);(try clear y)));go_ret2;exact⟨_,C8,by refine Dj ?_;exact Kd.AD t.o (λ_ u=>u.1),Ag⟩
 replace c5:=RE.mpr c5;subst c5;have H1:(if d=(wrap64 (P+1))then(if(l0.length:Int)≥40 then(some (l0,(-1)))else((some (([]:List (AQ)):List (AQ))).bind λU=>(if U.length+l0.length<2199023255552 then((some (U++l0:List (AQ))).bind λG=>((some (([(⟨c,d,(⟨l,m,p,q,r⟩:E0)⟩:AQ)]:List (AQ)):List (AQ))).bind λA=>(if G.length+A.length<2199023255552 then(some ((G++A),1))else(none))))else(none))))else(some (l0,(-1))))=some (r1,r2):=by rw[Rz (show¬ (false=true) by decide)]at H;exact H
 clear H;have H:=H1;clear H1;by_cases c9:d=(wrap64 (P+1))
 ·rw[Ry c9]at H;have aA:(d==(wrap64 (P+1)))=true:=RO.mpr c9;have aC:(d != (wrap64 (P+1)))=false:=Fc c9;clear c9;by_cases DM:(l0.length:Int)≥40
  ·rw[Ry DM]at H;have aw:decide (40≤(l0.length:Int))=true:=BM DM;have ax:decide (40≤l0.length)=true:=BM (by omega);clear DM;simp only[Option.some.injEq,Prod.mk.injEq]at H;obtain⟨rfl,rfl⟩:=H;go_enter Tryd.func79,Tryd.ntmps79;go_wp2_with(first|((with_reducible refine BV (N:=3) rfl ?_);refine Cy 3 (#[.int .i64 c,.int .i64 d,.int .i64 l,.int .i64 m,.int .i64 p,.int .i64 q,.string r]) 32 ?_;intro b hg cT O y;have a:=a_ (O);have ag:=BD w hg;have af:=BD w hg;replace t:=a_ (Kd.Bh (Kd.CO (Dj t.o) b (Sd hg.symm)) y);replace HB:=Bw y;clear y O hg;obtain⟨bE,bF,bG,bH,bI,bJ,bK,aT,aU,aV,aW,aX,aY,aZ⟩:=DC a.o)|((with_reducible refine BQ (f:=63) rfl ?_);refine BW 10 To #[.slice A0 l0.length c0,.int .i64 c] ?_;(with_reducible refine(Bj.calls k _ _ l0 c P _ ?q' ?z' A3.o).mono ?_);(case q'=>repeat(first|exact(Kd.AY t.o).2.2|(with_reducible refine Kd.C_alloc ?_ _)|(with_reducible refine Kd.B_ ?_ _)|(with_reducible refine Kd.C_drew ?_)));(case z'=>exact(Kd.AY t.o).2.1);rintro e w' ⟨rfl,⟨nd,rfl⟩⟩;refine⟨_,rfl,?_⟩)|((with_reducible refine BQ (f:=80) rfl ?_);refine BW 14 Tryd.func80 #[.slice A0 l0.length c0,.agg #[.int .i64 c,.int .i64 d,.int .i64 l,.int .i64 m,.int .i64 p,.int .i64 q,.string r]] ?_;(with_reducible refine(Cg.calls k _ _ l0 c d l m p q r false _ ?q' ?z' A4.o).mono ?_);(case q'=>repeat(first|exact(Kd.AY t.o).2.2|(with_reducible refine Kd.C_alloc ?_ _)|(with_reducible refine Kd.B_ ?_ _)|(with_reducible refine Kd.C_drew ?_)));(case z'=>exact(Kd.AY t.o).2.1);rintro e cU ⟨rfl,y⟩;refine⟨_,rfl,?_⟩;replace t:=a_ (Kd.Bh (Dj t.o) y);replace HB:=Bw y;replace a:=a_ (Cr a.o y);(try clear y);obtain⟨bL,bM,bN,bO,bP,bQ,bR,a0,a1,a2,a3,a4,a5,a6⟩:=DC a.o));go_ret2;exact⟨_,C8,by refine Dj ?_;exact Kd.AD t.o (λ_ u=>u.1),Ag⟩
  rw[Rz DM]at H;have aw:decide (40≤(l0.length:Int))=false:=C9 DM;have ax:decide (40≤l0.length)=false:=C9 (by omega);clear DM;obtain⟨U,hy_⟩:=EM (([]:List (AQ)));replace H:(if U.length+l0.length<2199023255552 then((some (U++l0:List (AQ))).bind λG=>((some (([(⟨c,d,(⟨l,m,p,q,r⟩:E0)⟩:AQ)]:List (AQ)):List (AQ))).bind λA=>(if G.length+A.length<2199023255552 then(some ((G++A),1))else(none))))else(none))=some (r1,r2):=EN;have ab:=a_ hy_;clear hy_;by_cases ak:U.length+l0.length<2199023255552
  ·rw[Ry ak]at H;have ah:=a_ ak;clear ak;obtain⟨G,hy_⟩:=EM (U++l0);replace H:((some (([(⟨c,d,(⟨l,m,p,q,r⟩:E0)⟩:AQ)]:List (AQ)):List (AQ))).bind λA=>(if G.length+A.length<2199023255552 then(some ((G++A),1))else(none)))=some (r1,r2):=EN;have ai:=a_ hy_;clear hy_;obtain⟨A,hy_⟩:=EM (([(⟨c,d,(⟨l,m,p,q,r⟩:E0)⟩:AQ)]:List (AQ)));replace H:(if G.length+A.length<2199023255552 then(some ((G++A),1))else(none))=some (r1,r2):=EN;have X:=a_ hy_;clear hy_;by_cases al:G.length+A.length<2199023255552
   ·rw[Ry al]at H;have au:=a_ al;clear al;obtain⟨aQ,hy_⟩:=EM (G++A);replace H:(some (aQ,1))=some (r1,r2):=EN;have av:=a_ hy_;clear hy_;simp only[Option.some.injEq,Prod.mk.injEq]at H;obtain⟨rfl,rfl⟩:=H;go_enter Tryd.func79,Tryd.ntmps79;try go_wp2_with(first|((with_reducible refine BV (N:=3) rfl ?_);refine Cy 3 (#[.int .i64 c,.int .i64 d,.int .i64 l,.int .i64 m,.int .i64 p,.int .i64 q,.string r]) 32 ?_;intro b hg cV O y;have a:=a_ (O);have ag:=BD w hg;have af:=BD w hg;replace t:=a_ (Kd.Bh (Kd.CO (Dj t.o) b (Sd hg.symm)) y);replace HB:=Bw y;clear y O hg;obtain⟨bS,bT,bU,bV,bW,bX,bY,a7,a8,a9,ba,bb,bc,bd⟩:=DC a.o)|((with_reducible refine BQ (f:=63) rfl ?_);refine BW 10 To #[.slice A0 l0.length c0,.int .i64 c] ?_;(with_reducible refine(Bj.calls k _ _ l0 c P _ ?q' ?z' A3.o).mono ?_);(case q'=>repeat(first|exact(Kd.AY t.o).2.2|(with_reducible refine Kd.C_alloc ?_ _)|(with_reducible refine Kd.B_ ?_ _)|(with_reducible refine Kd.C_drew ?_)));(case z'=>exact(Kd.AY t.o).2.1);rintro e w' ⟨rfl,⟨nd,rfl⟩⟩;refine⟨_,rfl,?_⟩)|((with_reducible refine BQ (f:=80) rfl ?_);refine BW 14 Tryd.func80 #[.slice A0 l0.length c0,.agg #[.int .i64 c,.int .i64 d,.int .i64 l,.int .i64 m,.int .i64 p,.int .i64 q,.string r]] ?_;(with_reducible refine(Cg.calls k _ _ l0 c d l m p q r false _ ?q' ?z' A4.o).mono ?_);(case q'=>repeat(first|exact(Kd.AY t.o).2.2|(with_reducible refine Kd.C_alloc ?_ _)|(with_reducible refine Kd.B_ ?_ _)|(with_reducible refine Kd.C_drew ?_)));(case z'=>exact(Kd.AY t.o).2.1);rintro e cA ⟨rfl,y⟩;refine⟨_,rfl,?_⟩;replace t:=a_ (Kd.Bh (Dj t.o) y);replace HB:=Bw y;replace a:=a_ (Cr a.o y);(try clear y);obtain⟨bZ,b6,b7,b8,b9,b_,ca,be,bf,bg,bh,bj,bk,bl⟩:=DC a.o))
    replace t:=a_ (Kd.BO t.o);replace a:=a_ (Du a.o);replace HB:=a_ (Ay HB.o);refine Cl (n:=8) (S:=λw'=>w'.cell? ⟨b,0,none⟩=some (.int .i64 c)∧w'.cell? ⟨b,1,none⟩=some (.int .i64 d)∧w'.cell? ⟨b,2,none⟩=some (.int .i64 l)∧w'.cell? ⟨b,3,none⟩=some (.int .i64 m)∧w'.cell? ⟨b,4,none⟩=some (.int .i64 p)∧w'.cell? ⟨b,5,none⟩=some (.int .i64 q)∧w'.cell? ⟨b,6,none⟩=some (.string r)) (ds:=[]) #[false,false,false,false,false,false,false,false] (by kernel_rfl) rfl rfl ⟨(Ax a.o 0).trans rfl,(Ax a.o 1).trans rfl,(Ax a.o 2).trans rfl,(Ax a.o 3).trans rfl,(Ax a.o 4).trans rfl,(Ax a.o 5).trans rfl,(Ax a.o 6).trans rfl⟩ (λz=>?_);refine B1 Ct.Rb Ct.Qw (λHT_ HW_=>?_);generalize cA.drew=cW at t a HB z⊢;refine Bf 1 29 ?_;refine IE 3 31 z ?_;refine Nd (σ:=Value×Value×Value) 3 #[true,true,true,true,true,false,false,false] (λs_=>[(28,s_.1),(30,s_.2.1),(32,s_.2.2)]) (λs_ w'=>(w'.cell? ⟨b,0,none⟩=some (.int .i64 c)∧w'.cell? ⟨b,1,none⟩=some (.int .i64 d)∧w'.cell? ⟨b,2,none⟩=some (.int .i64 l)∧w'.cell? ⟨b,3,none⟩=some (.int .i64 m)∧w'.cell? ⟨b,4,none⟩=some (.int .i64 p)∧w'.cell? ⟨b,5,none⟩=some (.int .i64 q)∧w'.cell? ⟨b,6,none⟩=some (.string r))∧(Kd.V Ck 32 w' w.heap.size (λv=>(ae v∨w.heap.size≤v)∧some v≠(s_.2.1:Value).ownBlock∧some v≠(s_.2.2:Value).ownBlock∧v≠b) (.slice A0 l0.length c0) l0)∧(Kd.R Ck 32 w' w.heap.size (λv=>(w.heap.size≤v)∧some v≠(s_.2.2:Value).ownBlock∧v≠b) s_.2.1 G)∧(Kd.R Ck 32 w' w.heap.size (λv=>(w.heap.size≤v)∧some v≠(s_.2.1:Value).ownBlock∧v≠b) s_.2.2 A)∧(w'.heap[b]?=some (.cells #[.int .i64 c,.int .i64 d,.int .i64 l,.int .i64 m,.int .i64 p,.int .i64 q,.string r] 32 (0,0)))∧(Below w.heap.size w w')) ?_ ?_;rotate_left
    ·intro aj;refine NM (i:=0) (j:=4) (Ni:=some 28) (Nj:=some 32) #[true,true,false,true,false,false,false,false] #[false,true,false,true,true,false,false,false] rfl rfl rfl rfl (NN HT_.o (by kernel_rfl)) (by decide) (by decide) (λK hK=>?_) (λK hK=>?_)
     ·skip;refine Kd.DU Ck _ 32 ?hg (N:=28) ?hd (xs:=([]:List (AQ))) (inner:=[]) (ok:=λ_=>True) (okp:=λ_=>True) ?hr ?hp (λ_ u=>u) trivial (RG _ _) (RB _) (by simp) ?_;(case hd=>rfl);(case hg=>rfl);(case hr=>first|(go_simp;done)|(go_simp;rfl));(case hp=>exact(Bn.none _ _));intro Y cB I y DN L;clear DN L;(first|rw[<-ab.o]at I|(simp only[Int.reduceToNat]at I;rw[<-ab.o]at I));replace t:=a_ (Kd.DA (Dj t.o) (Kd.Ch I) y);have B:=a_ (Kd.AU (Kd.IW (Kd.FE (M:=λv=>(w.heap.size≤v)) I (Af (Ag)) (λv h_=>h_)) (g:=b) (o:=.cells #[.int .i64 c,.int .i64 d,.int .i64 l,.int .i64 m,.int .i64 p,.int .i64 q,.string r] 32 (0,0)) (Bc a.o)) (Af (Ag)));replace HB:=Bw y;replace a:=a_ (Cr a.o y);clear y I;refine hK.out _ _ ⟨(Ax a.o 0).trans rfl,(Ax a.o 1).trans rfl,(Ax a.o 2).trans rfl,(Ax a.o 3).trans rfl,(Ax a.o 4).trans rfl,(Ax a.o 5).trans rfl,(Ax a.o 6).trans rfl⟩ (λz=>?_);clear hK K;refine Er 28 ?_;refine NM (i:=2) (j:=4) (Ni:=some 30) (Nj:=some 32) #[true,true,true,true,false,false,false,false] #[true,true,false,true,true,false,false,false] rfl rfl rfl rfl (NN HT_.o (by kernel_rfl)) (by decide) (by decide) (λK hK=>?_) (λK hK=>?_)
      ·skip;refine Kd.Cb Ck (w0:=w) w.heap.size (by rfl) (.tmp 28) (.tmp 29) 24 32 (.agg #[(.int .i64 0),(.int .i64 0),(.int .i64 0),(.int .i64 0),(.int .i64 0),(.int .i64 0),(.string ⟨#[]⟩)]) 64 rfl R8 Dv rfl (by decide) (by omega) Y U l0 _ _ _ (λv=>(w.heap.size≤v)∧v≠b) (λ_=>False) rfl rfl ?aO ?aR (λ_ _ h=>h) (λ_ h=>h.elim) ?aF ?aB ?aS ?aL ?_;(case aR=>repeat(first|exact(Kd.AY t.o).2.2|(with_reducible refine Kd.C_alloc ?_ _)|(with_reducible refine Kd.B_ ?_ _)|(with_reducible refine Kd.C_drew ?_)));(case aB=>exact(Ag));(case aF=>exact(λv u=>⟨(RJ (Af (Ag)) u),Kd.Dk (g:=b) (o:=.cells #[.int .i64 c,.int .i64 d,.int .i64 l,.int .i64 m,.int .i64 p,.int .i64 q,.string r] 32 (0,0)) (Bc a.o) v u⟩));(case aO=>exact(by refine AV ?_;exact Kd.Ai B.o (λ_ u=>⟨u.1.1,u.2⟩)));(case aS=>exact(Af (Ag)));(case aL=>have:=ah.o;omega);intro T aP ho y hg W;rw[<-ai.o]at ho;replace t:=a_ (Kd.Gp (ok:=(λv=>(ae v∨w.heap.size≤v)∧v≠b)) (Dj t.o) hg W);replace a:=a_ (AO (g:=b) (o:=.cells #[.int .i64 c,.int .i64 d,.int .i64 l,.int .i64 m,.int .i64 p,.int .i64 q,.string r] 32 (0,0)) (Bc a.o) hg (Kd.Gn B.o (λ_ u=>u.2)));replace HB:=a_ (y);have D:=a_ (ho);clear B;clear ho y hg W;refine hK.out _ _ ⟨(Ax a.o 0).trans rfl,(Ax a.o 1).trans rfl,(Ax a.o 2).trans rfl,(Ax a.o 3).trans rfl,(Ax a.o 4).trans rfl,(Ax a.o 5).trans rfl,(Ax a.o 6).trans rfl⟩ (λz=>?_);clear hK K;refine Er 30 ?_;refine E7 4 32 (λK hK=>?_);refine Kd.DU Ck _ 32 ?hg (N:=32) ?hd (xs:=([(⟨c,d,(⟨l,m,p,q,r⟩:E0)⟩:AQ)]:List (AQ))) (inner:=[.int .i64 c,.int .i64 d,.int .i64 l,.int .i64 m,.int .i64 p,.int .i64 q,.string r]) (ok:=λ_=>True) (okp:=λ_=>True) ?hr ?hp (λ_ u=>u) trivial (RG _ _) (RB _) (by simp) ?_;(case hd=>rfl);(case hg=>rfl);(case hr=>first|(go_simp;done)|(go_simp;rfl));(case hp=>exact(Bn.c7 (show Kd.M Ck _ _ _ (⟨c,d,(⟨l,m,p,q,r⟩:E0)⟩:AQ) [.int .i64 c,.int .i64 d,.int .i64 l,.int .i64 m,.int .i64 p,.int .i64 q,.string r]from(EX _ _ _ (⟨c,d,(⟨l,m,p,q,r⟩:E0)⟩:AQ) )) (Bn.none _ _)));intro J cX aa y DN L;clear DN L;(first|rw[<-X.o]at aa|(simp only[Int.reduceToNat]at aa;rw[<-X.o]at aa));replace t:=a_ (Kd.DA (Dj t.o) (Kd.Ch aa) y);have x:=a_ (Kd.AU (Kd.IW (Kd.Et (Kd.FE (M:=λv=>(w.heap.size≤v)) aa (Af (Ag)) (λv h_=>h_)) (Kd.EH (AV D.o))) (g:=b) (o:=.cells #[.int .i64 c,.int .i64 d,.int .i64 l,.int .i64 m,.int .i64 p,.int .i64 q,.string r] 32 (0,0)) (Bc a.o)) (Af (Ag)));replace D:=a_ (Kd.Dq (AV D.o) (Kd.Ch aa) y);replace HB:=Bw y;replace a:=a_ (Cr a.o y);clear y aa;refine hK.out _ _ ⟨(Ax a.o 0).trans rfl,(Ax a.o 1).trans rfl,(Ax a.o 2).trans rfl,(Ax a.o 3).trans rfl,(Ax a.o 4).trans rfl,(Ax a.o 5).trans rfl,(Ax a.o 6).trans rfl⟩ (λz=>?_);clear hK K;refine Er 32 ?_;exact FI (by simp only[Ff,Act.put,List.setIfInBounds_toArray,List.set_cons_zero,List.set_cons_succ]) (aj (Y,T,J) _ ⟨z,(by refine Dj ?_;exact Kd.AD t.o (λ_ u=>⟨u.1.1.1,⟨u.1.2,⟨u.2,u.1.1.2⟩⟩⟩)),(by refine AV ?_;exact Kd.Ai D.o (λ_ u=>⟨u.1.1,⟨u.2,u.1.2⟩⟩)),(by refine AV ?_;exact Kd.Ai x.o (λ_ u=>⟨u.1.1.1,⟨u.1.2,u.2⟩⟩)),(Bc a.o),(Ag)⟩)
      skip;refine Kd.DU Ck _ 32 ?hg (N:=32) ?hd (xs:=([(⟨c,d,(⟨l,m,p,q,r⟩:E0)⟩:AQ)]:List (AQ))) (inner:=[.int .i64 c,.int .i64 d,.int .i64 l,.int .i64 m,.int .i64 p,.int .i64 q,.string r]) (ok:=λ_=>True) (okp:=λ_=>True) ?hr ?hp (λ_ u=>u) trivial (RG _ _) (RB _) (by simp) ?_;(case hd=>rfl);(case hg=>rfl);(case hr=>first|(go_simp;done)|(go_simp;rfl));(case hp=>exact(Bn.c7 (show Kd.M Ck _ _ _ (⟨c,d,(⟨l,m,p,q,r⟩:E0)⟩:AQ) [.int .i64 c,.int .i64 d,.int .i64 l,.int .i64 m,.int .i64 p,.int .i64 q,.string r]from(EX _ _ _ (⟨c,d,(⟨l,m,p,q,r⟩:E0)⟩:AQ) )) (Bn.none _ _)));intro J aP E y DN L;clear DN L;(first|rw[<-X.o]at E|(simp only[Int.reduceToNat]at E;rw[<-X.o]at E));replace t:=a_ (Kd.DA (Dj t.o) (Kd.Ch E) y);have x:=a_ (Kd.AU (Kd.IW (Kd.Et (Kd.FE (M:=λv=>(w.heap.size≤v)) E (Af (Ag)) (λv h_=>h_)) (Kd.EH (AV B.o))) (g:=b) (o:=.cells #[.int .i64 c,.int .i64 d,.int .i64 l,.int .i64 m,.int .i64 p,.int .i64 q,.string r] 32 (0,0)) (Bc a.o)) (Af (Ag)));replace B:=a_ (Kd.Dq (AV B.o) (Kd.Ch E) y);replace HB:=Bw y;replace a:=a_ (Cr a.o y);clear y E;refine hK.out _ _ ⟨(Ax a.o 0).trans rfl,(Ax a.o 1).trans rfl,(Ax a.o 2).trans rfl,(Ax a.o 3).trans rfl,(Ax a.o 4).trans rfl,(Ax a.o 5).trans rfl,(Ax a.o 6).trans rfl⟩ (λz=>?_);clear hK K;refine Er 32 ?_;refine E7 2 30 (λK hK=>?_);refine Kd.Cb Ck (w0:=w) w.heap.size (by rfl) (.tmp 28) (.tmp 29) 24 32 (.agg #[(.int .i64 0),(.int .i64 0),(.int .i64 0),(.int .i64 0),(.int .i64 0),(.int .i64 0),(.string ⟨#[]⟩)]) 64 rfl R8 Dv rfl (by decide) (by omega) Y U l0 _ _ _ (λv=>(w.heap.size≤v)∧some v≠(J:Value).ownBlock∧v≠b) (λ_=>False) rfl rfl ?aO ?aR (λ_ _ h=>h) (λ_ h=>h.elim) ?aF ?aB ?aS ?aL ?_;(case aR=>repeat(first|exact(Kd.AY t.o).2.2|(with_reducible refine Kd.C_alloc ?_ _)|(with_reducible refine Kd.B_ ?_ _)|(with_reducible refine Kd.C_drew ?_)));(case aB=>exact(Ag));(case aF=>exact(λv u=>⟨(RJ (Af (Ag)) u),Kd.Fk (Kd.EH (AV x.o)) v u,Kd.Dk (g:=b) (o:=.cells #[.int .i64 c,.int .i64 d,.int .i64 l,.int .i64 m,.int .i64 p,.int .i64 q,.string r] 32 (0,0)) (Bc a.o) v u⟩));(case aO=>exact(by refine AV ?_;exact Kd.Ai B.o (λ_ u=>⟨u.1.1.1,⟨u.2,u.1.2⟩⟩)));(case aS=>exact(Af (Ag)));(case aL=>have:=ah.o;omega);intro T cC ho y hg W;rw[<-ai.o]at ho;replace t:=a_ (Kd.Gp (ok:=(λv=>(ae v∨w.heap.size≤v)∧some v≠(J:Value).ownBlock∧v≠b)) (by refine Dj ?_;exact Kd.AD t.o (λ_ u=>⟨⟨u.1.1.1,⟨u.2,u.1.1.2⟩⟩,u.1.2⟩)) hg W);replace a:=a_ (AO (g:=b) (o:=.cells #[.int .i64 c,.int .i64 d,.int .i64 l,.int .i64 m,.int .i64 p,.int .i64 q,.string r] 32 (0,0)) (Bc a.o) hg (Kd.Gn B.o (λ_ u=>u.1.2)));replace x:=a_ (Kd.F6 (ok:=(λv=>(w.heap.size≤v)∧v≠b)) (by refine AV ?_;exact Kd.Ai x.o (λ_ u=>⟨⟨u.1.1.1,u.2⟩,u.1.2⟩)) hg W);replace HB:=a_ (y);have D:=a_ (ho);clear B;clear ho y hg W;refine hK.out _ _ ⟨(Ax a.o 0).trans rfl,(Ax a.o 1).trans rfl,(Ax a.o 2).trans rfl,(Ax a.o 3).trans rfl,(Ax a.o 4).trans rfl,(Ax a.o 5).trans rfl,(Ax a.o 6).trans rfl⟩ (λz=>?_);clear hK K;refine Er 30 ?_;exact FI (by simp only[Ff,Act.put,List.setIfInBounds_toArray,List.set_cons_zero,List.set_cons_succ]) (aj (Y,T,J) _ ⟨z,(by refine Dj ?_;exact Kd.AD t.o (λ_ u=>⟨u.1.1,⟨u.2,⟨u.1.2.1,u.1.2.2⟩⟩⟩)),(AV D.o),(by refine AV ?_;exact Kd.Ai x.o (λ_ u=>⟨u.1.1,⟨u.2,u.1.2⟩⟩)),(Bc a.o),(Ag)⟩)
     skip;refine Kd.DU Ck _ 32 ?hg (N:=32) ?hd (xs:=([(⟨c,d,(⟨l,m,p,q,r⟩:E0)⟩:AQ)]:List (AQ))) (inner:=[.int .i64 c,.int .i64 d,.int .i64 l,.int .i64 m,.int .i64 p,.int .i64 q,.string r]) (ok:=λ_=>True) (okp:=λ_=>True) ?hr ?hp (λ_ u=>u) trivial (RG _ _) (RB _) (by simp) ?_;(case hd=>rfl);(case hg=>rfl);(case hr=>first|(go_simp;done)|(go_simp;rfl));(case hp=>exact(Bn.c7 (show Kd.M Ck _ _ _ (⟨c,d,(⟨l,m,p,q,r⟩:E0)⟩:AQ) [.int .i64 c,.int .i64 d,.int .i64 l,.int .i64 m,.int .i64 p,.int .i64 q,.string r]from(EX _ _ _ (⟨c,d,(⟨l,m,p,q,r⟩:E0)⟩:AQ) )) (Bn.none _ _)));intro J cB I y DN L;clear DN L;(first|rw[<-X.o]at I|(simp only[Int.reduceToNat]at I;rw[<-X.o]at I));replace t:=a_ (Kd.DA (Dj t.o) (Kd.Ch I) y);have x:=a_ (Kd.AU (Kd.IW (Kd.FE (M:=λv=>(w.heap.size≤v)) I (Af (Ag)) (λv h_=>h_)) (g:=b) (o:=.cells #[.int .i64 c,.int .i64 d,.int .i64 l,.int .i64 m,.int .i64 p,.int .i64 q,.string r] 32 (0,0)) (Bc a.o)) (Af (Ag)));replace HB:=Bw y;replace a:=a_ (Cr a.o y);clear y I;refine hK.out _ _ ⟨(Ax a.o 0).trans rfl,(Ax a.o 1).trans rfl,(Ax a.o 2).trans rfl,(Ax a.o 3).trans rfl,(Ax a.o 4).trans rfl,(Ax a.o 5).trans rfl,(Ax a.o 6).trans rfl⟩ (λz=>?_);clear hK K;refine Er 32 ?_;refine E7 0 28 (λK hK=>?_);refine Kd.DU Ck _ 32 ?hg (N:=28) ?hd (xs:=([]:List (AQ))) (inner:=[]) (ok:=λ_=>True) (okp:=λ_=>True) ?hr ?hp (λ_ u=>u) trivial (RG _ _) (RB _) (by simp) ?_;(case hd=>rfl);(case hg=>rfl);(case hr=>first|(go_simp;done)|(go_simp;rfl));(case hp=>exact(Bn.none _ _));intro Y aP E y DN L;clear DN L;(first|rw[<-ab.o]at E|(simp only[Int.reduceToNat]at E;rw[<-ab.o]at E));replace t:=a_ (Kd.DA (Dj t.o) (Kd.Ch E) y);have B:=a_ (Kd.AU (Kd.IW (Kd.Et (Kd.FE (M:=λv=>(w.heap.size≤v)) E (Af (Ag)) (λv h_=>h_)) (Kd.EH (AV x.o))) (g:=b) (o:=.cells #[.int .i64 c,.int .i64 d,.int .i64 l,.int .i64 m,.int .i64 p,.int .i64 q,.string r] 32 (0,0)) (Bc a.o)) (Af (Ag)));replace x:=a_ (Kd.Dq (AV x.o) (Kd.Ch E) y);replace HB:=Bw y;replace a:=a_ (Cr a.o y);clear y E;refine hK.out _ _ ⟨(Ax a.o 0).trans rfl,(Ax a.o 1).trans rfl,(Ax a.o 2).trans rfl,(Ax a.o 3).trans rfl,(Ax a.o 4).trans rfl,(Ax a.o 5).trans rfl,(Ax a.o 6).trans rfl⟩ (λz=>?_);clear hK K;refine Er 28 ?_;refine E7 2 30 (λK hK=>?_);refine Kd.Cb Ck (w0:=w) w.heap.size (by rfl) (.tmp 28) (.tmp 29) 24 32 (.agg #[(.int .i64 0),(.int .i64 0),(.int .i64 0),(.int .i64 0),(.int .i64 0),(.int .i64 0),(.string ⟨#[]⟩)]) 64 rfl R8 Dv rfl (by decide) (by omega) Y U l0 _ _ _ (λv=>(w.heap.size≤v)∧some v≠(J:Value).ownBlock∧v≠b) (λ_=>False) rfl rfl ?aO ?aR (λ_ _ h=>h) (λ_ h=>h.elim) ?aF ?aB ?aS ?aL ?_;(case aR=>repeat(first|exact(Kd.AY t.o).2.2|(with_reducible refine Kd.C_alloc ?_ _)|(with_reducible refine Kd.B_ ?_ _)|(with_reducible refine Kd.C_drew ?_)));(case aB=>exact(Ag));(case aF=>exact(λv u=>⟨(RJ (Af (Ag)) u),Kd.Fk (Kd.EH (AV x.o)) v u,Kd.Dk (g:=b) (o:=.cells #[.int .i64 c,.int .i64 d,.int .i64 l,.int .i64 m,.int .i64 p,.int .i64 q,.string r] 32 (0,0)) (Bc a.o) v u⟩));(case aO=>exact(by refine AV ?_;exact Kd.Ai B.o (λ_ u=>⟨u.1.1.1,⟨u.1.2,u.2⟩⟩)));(case aS=>exact(Af (Ag)));(case aL=>have:=ah.o;omega);intro T cC ho y hg W;rw[<-ai.o]at ho;replace t:=a_ (Kd.Gp (ok:=(λv=>(ae v∨w.heap.size≤v)∧some v≠(J:Value).ownBlock∧v≠b)) (by refine Dj ?_;exact Kd.AD t.o (λ_ u=>⟨⟨u.1.1.1,⟨u.1.2,u.1.1.2⟩⟩,u.2⟩)) hg W);replace a:=a_ (AO (g:=b) (o:=.cells #[.int .i64 c,.int .i64 d,.int .i64 l,.int .i64 m,.int .i64 p,.int .i64 q,.string r] 32 (0,0)) (Bc a.o) hg (Kd.Gn B.o (λ_ u=>u.2)));replace x:=a_ (Kd.F6 (ok:=(λv=>(w.heap.size≤v)∧v≠b)) (by refine AV ?_;exact Kd.Ai x.o (λ_ u=>⟨⟨u.1.1.1,u.1.2⟩,u.2⟩)) hg W);replace HB:=a_ (y);have D:=a_ (ho);clear B;clear ho y hg W;refine hK.out _ _ ⟨(Ax a.o 0).trans rfl,(Ax a.o 1).trans rfl,(Ax a.o 2).trans rfl,(Ax a.o 3).trans rfl,(Ax a.o 4).trans rfl,(Ax a.o 5).trans rfl,(Ax a.o 6).trans rfl⟩ (λz=>?_);clear hK K;refine Er 30 ?_;exact FI (by simp only[Ff,Act.put,List.setIfInBounds_toArray,List.set_cons_zero,List.set_cons_succ]) (aj (Y,T,J) _ ⟨z,(by refine Dj ?_;exact Kd.AD t.o (λ_ u=>⟨u.1.1,⟨u.2,⟨u.1.2.1,u.1.2.2⟩⟩⟩)),(AV D.o),(by refine AV ?_;exact Kd.Ai x.o (λ_ u=>⟨u.1.1,⟨u.2,u.1.2⟩⟩)),(Bc a.o),(Ag)⟩)
    rintro⟨Y,T,J⟩ Z ⟨cy,aG,aH,aI,aJ,aK⟩;replace t:Ac (Kd.V Ck 32 Z w.heap.size (λv=>(ae v∨w.heap.size≤v)∧some v≠(T:Value).ownBlock∧some v≠(J:Value).ownBlock∧v≠b) (.slice A0 l0.length c0) l0):=⟨aG⟩
    have D:Ac (Kd.R Ck 32 Z w.heap.size (λv=>(w.heap.size≤v)∧some v≠(J:Value).ownBlock∧v≠b) T G):=⟨aH⟩
    have x:Ac (Kd.R Ck 32 Z w.heap.size (λv=>(w.heap.size≤v)∧some v≠(T:Value).ownBlock∧v≠b) J A):=⟨aI⟩
    replace a:Ac (Z.heap[b]?=some (.cells #[.int .i64 c,.int .i64 d,.int .i64 l,.int .i64 m,.int .i64 p,.int .i64 q,.string r] 32 (0,0))):=⟨aJ⟩
    replace HB:Ac (Below w.heap.size w Z):=⟨aK⟩
    clear aG aH aI aJ aK;have z:Z.cell? ⟨b,0,none⟩=some (.int .i64 c)∧Z.cell? ⟨b,1,none⟩=some (.int .i64 d)∧Z.cell? ⟨b,2,none⟩=some (.int .i64 l)∧Z.cell? ⟨b,3,none⟩=some (.int .i64 m)∧Z.cell? ⟨b,4,none⟩=some (.int .i64 p)∧Z.cell? ⟨b,5,none⟩=some (.int .i64 q)∧Z.cell? ⟨b,6,none⟩=some (.string r):=cy;obtain⟨an,ao,aq⟩:=Kd.Be x.o;(first|subst aq|(injection aq with aD cv aE;have cw:=aD.symm;have cx:=aE.symm;clear aD cv aE;subst cw;subst cx));refine FI (a':=?_) ?_ ?_;rotate_left
    ·simp only[Ff,Act.put,List.setIfInBounds_toArray,List.set_cons_zero,List.set_cons_succ];rfl
    refine E7 5 33 (λK hK=>?_);refine Kd.Cb Ck (w0:=w) w.heap.size (by rfl) (.tmp 30) (.tmp 32) 24 32 (.agg #[(.int .i64 0),(.int .i64 0),(.int .i64 0),(.int .i64 0),(.int .i64 0),(.int .i64 0),(.string ⟨#[]⟩)]) 64 rfl R8 Dv rfl (by decide) (by omega) T G A _ _ _ (λv=>(w.heap.size≤v)∧some v≠(.slice an A.length ao:Value).ownBlock∧v≠b) (λ_=>False) rfl rfl ?aO ?aR (λ_ _ h=>h) (λ_ h=>h.elim) ?aF ?aB ?aS ?aL ?_;(case aR=>exact E9 (Kd.At x.o).2.2);(case aB=>exact(Ag));(case aF=>exact(λv u=>⟨(RJ (Af (Ag)) u),Kd.Fk (Kd.EH (AV x.o)) v u,Kd.Dk (g:=b) (o:=.cells #[.int .i64 c,.int .i64 d,.int .i64 l,.int .i64 m,.int .i64 p,.int .i64 q,.string r] 32 (0,0)) (Bc a.o) v u⟩));(case aO=>exact(AV D.o));(case aS=>exact(Af (Ag)));(case aL=>have:=au.o;omega);intro cS cY ho y hg W;rw[<-av.o]at ho;replace t:=a_ (Kd.Gp (ok:=(λv=>(ae v∨w.heap.size≤v)∧some v≠(.slice an A.length ao:Value).ownBlock∧v≠b)) (by refine Dj ?_;exact Kd.AD t.o (λ_ u=>⟨⟨u.1,⟨u.2.2.1,u.2.2.2⟩⟩,u.2.1⟩)) hg W);replace a:=a_ (AO (g:=b) (o:=.cells #[.int .i64 c,.int .i64 d,.int .i64 l,.int .i64 m,.int .i64 p,.int .i64 q,.string r] 32 (0,0)) (Bc a.o) hg (Kd.Gn D.o (λ_ u=>u.2.2)));replace x:=a_ (Kd.F6 (ok:=(λv=>(w.heap.size≤v)∧v≠b)) (by refine AV ?_;exact Kd.Ai x.o (λ_ u=>⟨⟨u.1,u.2.2⟩,u.2.1⟩)) hg W);replace HB:=a_ (y);have ar:=a_ (ho);clear D;clear ho y hg W;refine hK.out _ _ ⟨(Ax a.o 0).trans rfl,(Ax a.o 1).trans rfl,(Ax a.o 2).trans rfl,(Ax a.o 3).trans rfl,(Ax a.o 4).trans rfl,(Ax a.o 5).trans rfl,(Ax a.o 6).trans rfl⟩ (λz=>?_);clear hK K;refine Er 33 ?_;refine Bf 6 4 ?_;refine Bf 7 5 ?_;refine CV (CT HT_.o (by kernel_rfl)) ?_;try go_wp2
    go_ret2;exact⟨_,C8,Kd.AD (Kd.MH (by refine AV ?_;exact Kd.Ai ar.o (λ_ u=>u.1))) (λv u=>by first|exact⟨(.inr (u.1)),u.2⟩|exact(.inr (u))),Ag⟩
   rw[Rz al]at H;exact absurd H (by simp)
  rw[Rz ak]at H;exact absurd H (by simp)
 rw[Rz c9]at H;have aA:(d==(wrap64 (P+1)))=false:=Dr c9;have aC:(d != (wrap64 (P+1)))=true:=RX.mpr c9;simp only[Option.some.injEq,Prod.mk.injEq]at H;obtain⟨rfl,rfl⟩:=H;go_enter Tryd.func79,Tryd.ntmps79;go_wp2_with(first|((with_reducible refine BV (N:=3) rfl ?_);refine Cy 3 (#[.int .i64 c,.int .i64 d,.int .i64 l,.int .i64 m,.int .i64 p,.int .i64 q,.string r]) 32 ?_;intro b hg cZ O y;have a:=a_ (O);have ag:=BD w hg;have af:=BD w hg;replace t:=a_ (Kd.Bh (Kd.CO (Dj t.o) b (Sd hg.symm)) y);replace HB:=Bw y;clear y O hg;obtain⟨cb,cd,cf,cg,cj,ck,cl,bm,bn,bo,bp,bq,br,bu⟩:=DC a.o)|((with_reducible refine BQ (f:=63) rfl ?_);refine BW 10 To #[.slice A0 l0.length c0,.int .i64 c] ?_;(with_reducible refine(Bj.calls k _ _ l0 c P _ ?q' ?z' A3.o).mono ?_);(case q'=>repeat(first|exact(Kd.AY t.o).2.2|(with_reducible refine Kd.C_alloc ?_ _)|(with_reducible refine Kd.B_ ?_ _)|(with_reducible refine Kd.C_drew ?_)));(case z'=>exact(Kd.AY t.o).2.1);rintro e w' ⟨rfl,⟨nd,rfl⟩⟩;refine⟨_,rfl,?_⟩)|((with_reducible refine BQ (f:=80) rfl ?_);refine BW 14 Tryd.func80 #[.slice A0 l0.length c0,.agg #[.int .i64 c,.int .i64 d,.int .i64 l,.int .i64 m,.int .i64 p,.int .i64 q,.string r]] ?_;(with_reducible refine(Cg.calls k _ _ l0 c d l m p q r false _ ?q' ?z' A4.o).mono ?_);(case q'=>repeat(first|exact(Kd.AY t.o).2.2|(with_reducible refine Kd.C_alloc ?_ _)|(with_reducible refine Kd.B_ ?_ _)|(with_reducible refine Kd.C_drew ?_)));(case z'=>exact(Kd.AY t.o).2.1);rintro e c1 ⟨rfl,y⟩;refine⟨_,rfl,?_⟩;replace t:=a_ (Kd.Bh (Dj t.o) y);replace HB:=Bw y;replace a:=a_ (Cr a.o y);(try clear y);obtain⟨cm,cn,cp,cq,cr,ct,cu,bw,bx,bz,bA,bB,bC,bD⟩:=DC a.o));go_ret2;exact⟨_,C8,by refine Dj ?_;exact Kd.AD t.o (λ_ u=>u.1),Ag⟩
def Eg.f(k:Nat)(d:List (AQ))(b:Int)(a:Bool)(e:Int)(g:Int)(i:Int)(j:Int)(l:Int)(m:Int)(n:ByteArray):Option ((List (AQ))×Int×Bool×Bool):=(Ct.f k d e g i j l m n).bind λc=>(if a=true then(if c.2=1 then(some (c.1,b,a,true))else(some (d,b,a,false)))else(some (d,b,a,false)))
theorem Eg.calls(k:Nat)(T:Nat->Prop)(n:Option Addr)(q:Nat)(j:List (AQ))(m:Int)(ak:Bool)(x:Int)(y:Int)(z:Int)(A:Int)(B:Int)(D:Int)(E:ByteArray)(r1:List (AQ))(r2:Int)(r3:Bool)(r4:Bool)(w:World)(ao:Kd.V Ck 32 w w.heap.size (λv=>T v) (.slice n j.length q) j)(h:Eg.f k j m ak x y z A B D E=some (r1,r2,r3,r4)) :
  Calls Tryd.prog 76 #[.agg #[.slice n j.length q,.int .i64 m,.bool ak],.agg #[.int .i64 x,.int .i64 y,.int .i64 z,.int .i64 A,.int .i64 B,.int .i64 D,.string E]] w λe w'=>∃aw:Value,e=.returned (.tuple #[.agg #[aw,.int .i64 r2,.bool r3],.bool r4])∧Kd.V Ck 32 w' w.heap.size (λv=>(T v∨w.heap.size≤v)) aw r1∧Below w.heap.size w w':=by
 have cE:=Sh;have cD:=Sk;have i:=a_ (show Kd.V Ck 32 w w.heap.size (λv=>(T v∨w.heap.size≤v)) (.slice n j.length q) j from Kd.AD ao (λv U=>.inl U));have HB:=a_ (RG w.heap.size w);unfold Eg.f at h;have H:=h;clear h;replace H:=BR H;obtain⟨⟨Y,X⟩,aq,H⟩:=H;try dsimp only at H
 have A3:=a_ aq;clear aq;by_cases c4:ak=true
 ·subst c4;have H1:(if X=1 then(some (Y,m,true,true))else(some (j,m,true,false)))=some (r1,r2,r3,r4):=by rw[Ry rfl]at H;exact H
  clear H;have H:=H1;clear H1;by_cases c5:X=1
  ·rw[Ry c5]at H;have ar:(X==1)=true:=RO.mpr c5;have au:(X != 1)=false:=Fc c5;clear c5;simp only[Option.some.injEq,Prod.mk.injEq]at H;obtain⟨rfl,rfl,rfl,rfl⟩:=H;go_enter Tryd.func76,Tryd.ntmps76;go_wp2_with(first|((with_reducible refine BV (N:=2) rfl ?_);refine Cy 2 (#[.slice n j.length q,.int .i64 m,.bool true]) 60 ?_;intro c hg w6 r u;have a:=a_ (r);have ah:=BD w hg;have ae:=BD w hg;replace i:=a_ (Kd.Bh (Kd.CO (Dj i.o) c (Sd hg.symm)) u);replace HB:=Bw u;clear u r hg)|((with_reducible refine BV (N:=3) rfl ?_);refine Cy 3 (#[.int .i64 x,.int .i64 y,.int .i64 z,.int .i64 A,.int .i64 B,.int .i64 D,.string E]) 32 ?_;intro d hg w7 r u;have l:=a_ (r);have ai:=BD w hg;have af:=BD w hg;have I:=a_ ((by rw[hg];exact RN (Av (g:=c) (o:=.cells #[.slice n j.length q,.int .i64 m,.bool true] 60 (0,0)) (Bc a.o)):c≠d));have K:=a_ ((by rw[hg];exact RM (Av (g:=c) (o:=.cells #[.slice n j.length q,.int .i64 m,.bool true] 60 (0,0)) (Bc a.o)):d≠c));replace i:=a_ (Kd.Bh (Kd.CO (Dj i.o) d (Sd hg.symm)) u);replace a:=a_ (Cr a.o u);replace HB:=Bw u;clear u r hg)|((with_reducible refine BV (N:=4) rfl ?_);refine Cy 4 (#[.slice none 0 0,.int .i64 0,.bool false]) 60 ?_;intro b hg w8 r u;have t:=a_ (r);have aj:=BD w hg;have ag:=BD w hg;have J:=a_ ((by rw[hg];exact RN (Av (g:=c) (o:=.cells #[.slice n j.length q,.int .i64 m,.bool true] 60 (0,0)) (Bc a.o)):c≠b));have G:=a_ ((by rw[hg];exact RM (Av (g:=c) (o:=.cells #[.slice n j.length q,.int .i64 m,.bool true] 60 (0,0)) (Bc a.o)):b≠c));have L:=a_ ((by rw[hg];exact RN (Av (g:=d) (o:=.cells #[.int .i64 x,.int .i64 y,.int .i64 z,.int .i64 A,.int .i64 B,.int .i64 D,.string E] 32 (0,0)) (Bc l.o)):d≠b));have M:=a_ ((by rw[hg];exact RM (Av (g:=d) (o:=.cells #[.int .i64 x,.int .i64 y,.int .i64 z,.int .i64 A,.int .i64 B,.int .i64 D,.string E] 32 (0,0)) (Bc l.o)):b≠d));replace i:=a_ (Kd.Bh (Kd.CO (Dj i.o) b (Sd hg.symm)) u);replace a:=a_ (Cr a.o u);replace l:=a_ (Cr l.o u);replace HB:=Bw u;clear u r hg;have cB:=I.o;have cC:=K.o;have cj:=J.o;have ct:=G.o;obtain⟨bk,bl,bm,ax,ay,az⟩:=DV a.o;have ck:=L.o;have cu:=M.o;obtain⟨bn,bo,bp,bq,br,bu,bw,aA,aB,aC,aD,aE,aF,aG⟩:=DC l.o)|((with_reducible refine BQ (f:=79) rfl ?_);refine BW 12 Tryd.func79 #[.slice n j.length q,.agg #[.int .i64 x,.int .i64 y,.int .i64 z,.int .i64 A,.int .i64 B,.int .i64 D,.string E]] ?_;(with_reducible refine(Ct.calls k (λv=>((((T v∨w.heap.size≤v)∧v≠c)∧v≠d)∧v≠b)) _ _ j x y z A B D E Y X _ ?q' A3.o).mono ?_);(case q'=>exact i.o);rintro e cF ⟨an,rfl,aa,u⟩;refine⟨_,rfl,?_⟩;replace i:=a_ (Kd.Bh (Dj i.o) u);have Z:=a_ (Kd.F8 (Kd.AD (Fi:=λv=>(T v∨w.heap.size≤v)∧v≠c∧v≠d∧v≠b) aa (λv W=>⟨SH W (λP=>P.1.1.1) (λO=>(.inr (RJ (Af (Ag)) O))),SH W (λP=>P.1.1.2) (λO=>(Kd.Dk (g:=c) (o:=.cells #[.slice n j.length q,.int .i64 m,.bool true] 60 (0,0)) (Bc a.o) v O)),SH W (λP=>P.1.2) (λO=>(Kd.Dk (g:=d) (o:=.cells #[.int .i64 x,.int .i64 y,.int .i64 z,.int .i64 A,.int .i64 B,.int .i64 D,.string E] 32 (0,0)) (Bc l.o) v O)),SH W (λP=>P.2) (λO=>(Kd.Dk (g:=b) (o:=.cells #[.slice none 0 0,.int .i64 0,.bool false] 60 (0,0)) (Bc t.o) v O))⟩)) (Af (Ag)));replace HB:=Bw u;replace a:=a_ (Cr a.o u);replace l:=a_ (Cr l.o u);replace t:=a_ (Cr t.o u);(try clear u aa);obtain⟨bx,bz,bA,aH,aI,aJ⟩:=DV a.o;obtain⟨ab,al,av⟩:=Kd.Cd Z.o;subst av;obtain⟨bB,bC,bD,aK,aL,aM⟩:=DV t.o));refine RH (CJ rfl _ _ b 60 #[.slice ab Y.length al,.int .i64 m,.bool true] (0,0) _ rfl (Nl G.o t.o) Sh rfl (by kernel_rfl)) rfl ?_;exact⟨_,C8,by refine Dj ?_;exact Kd.AD (Kd.AA (p:=⟨b,2,none⟩) (Kd.AA (p:=⟨b,1,none⟩) (Kd.AA (p:=⟨b,0,none⟩) (Kd.AA (p:=⟨c,0,none⟩) (Kd.AD (Kd.AD Z.o (λv U=>(⟨U,U.2.1⟩:_∧v≠c))) (λv U=>(⟨U,U.1.2.2.2⟩:_∧v≠b))) (λ_ U=>U.1.2) (.slice ab Y.length al)) (λ_ U=>U.2) (.slice ab Y.length al)) (λ_ U=>U.2) (.int .i64 m)) (λ_ U=>U.2) (.bool true)) (λ_ U=>U.1.1.1),Ag⟩
  rw[Rz c5]at H;have ar:(X==1)=false:=Dr c5;have au:(X != 1)=true:=RX.mpr c5;simp only[Option.some.injEq,Prod.mk.injEq]at H;obtain⟨rfl,rfl,rfl,rfl⟩:=H;go_enter Tryd.func76,Tryd.ntmps76;go_wp2_with(first|((with_reducible refine BV (N:=2) rfl ?_);refine Cy 2 (#[.slice n j.length q,.int .i64 m,.bool true]) 60 ?_;intro c hg cG r u;have a:=a_ (r);have ah:=BD w hg;have ae:=BD w hg;replace i:=a_ (Kd.Bh (Kd.CO (Dj i.o) c (Sd hg.symm)) u);replace HB:=Bw u;clear u r hg)|((with_reducible refine BV (N:=3) rfl ?_);refine Cy 3 (#[.int .i64 x,.int .i64 y,.int .i64 z,.int .i64 A,.int .i64 B,.int .i64 D,.string E]) 32 ?_;intro d hg cH r u;have l:=a_ (r);have ai:=BD w hg;have af:=BD w hg;have I:=a_ ((by rw[hg];exact RN (Av (g:=c) (o:=.cells #[.slice n j.length q,.int .i64 m,.bool true] 60 (0,0)) (Bc a.o)):c≠d));have K:=a_ ((by rw[hg];exact RM (Av (g:=c) (o:=.cells #[.slice n j.length q,.int .i64 m,.bool true] 60 (0,0)) (Bc a.o)):d≠c));replace i:=a_ (Kd.Bh (Kd.CO (Dj i.o) d (Sd hg.symm)) u);replace a:=a_ (Cr a.o u);replace HB:=Bw u;clear u r hg)|((with_reducible refine BV (N:=4) rfl ?_);refine Cy 4 (#[.slice none 0 0,.int .i64 0,.bool false]) 60 ?_;intro b hg cI r u;have t:=a_ (r);have aj:=BD w hg;have ag:=BD w hg;have J:=a_ ((by rw[hg];exact RN (Av (g:=c) (o:=.cells #[.slice n j.length q,.int .i64 m,.bool true] 60 (0,0)) (Bc a.o)):c≠b));have G:=a_ ((by rw[hg];exact RM (Av (g:=c) (o:=.cells #[.slice n j.length q,.int .i64 m,.bool true] 60 (0,0)) (Bc a.o)):b≠c));have L:=a_ ((by rw[hg];exact RN (Av (g:=d) (o:=.cells #[.int .i64 x,.int .i64 y,.int .i64 z,.int .i64 A,.int .i64 B,.int .i64 D,.string E] 32 (0,0)) (Bc l.o)):d≠b));have M:=a_ ((by rw[hg];exact RM (Av (g:=d) (o:=.cells #[.int .i64 x,.int .i64 y,.int .i64 z,.int .i64 A,.int .i64 B,.int .i64 D,.string E] 32 (0,0)) (Bc l.o)):b≠d));replace i:=a_ (Kd.Bh (Kd.CO (Dj i.o) b (Sd hg.symm)) u);replace a:=a_ (Cr a.o u);replace l:=a_ (Cr l.o u);replace HB:=Bw u;clear u r hg;have cl:=I.o;have cv:=K.o;have cm:=J.o;have cw:=G.o;obtain⟨bE,bF,bG,aN,aO,aP⟩:=DV a.o;have cn:=L.o;have cx:=M.o;obtain⟨bH,bI,bJ,bK,bL,bM,bN,aQ,aR,aS,aT,aU,aV,aW⟩:=DC l.o)|((with_reducible refine BQ (f:=79) rfl ?_);refine BW 12 Tryd.func79 #[.slice n j.length q,.agg #[.int .i64 x,.int .i64 y,.int .i64 z,.int .i64 A,.int .i64 B,.int .i64 D,.string E]] ?_;(with_reducible refine(Ct.calls k (λv=>((((T v∨w.heap.size≤v)∧v≠c)∧v≠d)∧v≠b)) _ _ j x y z A B D E Y X _ ?q' A3.o).mono ?_);(case q'=>exact i.o);rintro e cJ ⟨an,rfl,aa,u⟩;refine⟨_,rfl,?_⟩;replace i:=a_ (Kd.Bh (Dj i.o) u);have Z:=a_ (Kd.F8 (Kd.AD (Fi:=λv=>(T v∨w.heap.size≤v)∧v≠c∧v≠d∧v≠b) aa (λv W=>⟨SH W (λP=>P.1.1.1) (λO=>(.inr (RJ (Af (Ag)) O))),SH W (λP=>P.1.1.2) (λO=>(Kd.Dk (g:=c) (o:=.cells #[.slice n j.length q,.int .i64 m,.bool true] 60 (0,0)) (Bc a.o) v O)),SH W (λP=>P.1.2) (λO=>(Kd.Dk (g:=d) (o:=.cells #[.int .i64 x,.int .i64 y,.int .i64 z,.int .i64 A,.int .i64 B,.int .i64 D,.string E] 32 (0,0)) (Bc l.o) v O)),SH W (λP=>P.2) (λO=>(Kd.Dk (g:=b) (o:=.cells #[.slice none 0 0,.int .i64 0,.bool false] 60 (0,0)) (Bc t.o) v O))⟩)) (Af (Ag)));replace HB:=Bw u;replace a:=a_ (Cr a.o u);replace l:=a_ (Cr l.o u);replace t:=a_ (Cr t.o u);(try clear u aa);obtain⟨bO,bP,bQ,aX,aY,aZ⟩:=DV a.o;obtain⟨bR,bS,bT,a0,a1,a2⟩:=DV t.o));refine RH (CJ rfl _ _ b 60 #[.slice n j.length q,.int .i64 m,.bool true] (0,0) _ rfl (Ol t.o) Sh rfl (by kernel_rfl)) rfl ?_;exact⟨_,C8,by refine Dj ?_;exact Kd.AD (Kd.AA (p:=⟨b,2,none⟩) (Kd.AA (p:=⟨b,1,none⟩) (Kd.AA (p:=⟨b,0,none⟩) (Kd.AD i.o (λv U=>(⟨U,U.2⟩:_∧v≠b))) (λ_ U=>U.2) (.slice n j.length q)) (λ_ U=>U.2) (.int .i64 m)) (λ_ U=>U.2) (.bool true)) (λ_ U=>U.1.1.1.1),Ag⟩
 replace c4:=RE.mpr c4;subst c4;have H1:(some (j,m,false,false))=some (r1,r2,r3,r4):=by rw[Rz (show¬ (false=true) by decide)]at H;exact H
 clear H;have H:=H1;clear H1;simp only[Option.some.injEq,Prod.mk.injEq]at H;obtain⟨rfl,rfl,rfl,rfl⟩:=H;go_enter Tryd.func76,Tryd.ntmps76;go_wp2_with(first|((with_reducible refine BV (N:=2) rfl ?_);refine Cy 2 (#[.slice n j.length q,.int .i64 m,.bool false]) 60 ?_;intro c hg cK r u;have a:=a_ (r);have ah:=BD w hg;have ae:=BD w hg;replace i:=a_ (Kd.Bh (Kd.CO (Dj i.o) c (Sd hg.symm)) u);replace HB:=Bw u;clear u r hg)|((with_reducible refine BV (N:=3) rfl ?_);refine Cy 3 (#[.int .i64 x,.int .i64 y,.int .i64 z,.int .i64 A,.int .i64 B,.int .i64 D,.string E]) 32 ?_;intro d hg cL r u;have l:=a_ (r);have ai:=BD w hg;have af:=BD w hg;have I:=a_ ((by rw[hg];exact RN (Av (g:=c) (o:=.cells #[.slice n j.length q,.int .i64 m,.bool false] 60 (0,0)) (Bc a.o)):c≠d));have K:=a_ ((by rw[hg];exact RM (Av (g:=c) (o:=.cells #[.slice n j.length q,.int .i64 m,.bool false] 60 (0,0)) (Bc a.o)):d≠c));replace i:=a_ (Kd.Bh (Kd.CO (Dj i.o) d (Sd hg.symm)) u);replace a:=a_ (Cr a.o u);replace HB:=Bw u;clear u r hg)|((with_reducible refine BV (N:=4) rfl ?_);refine Cy 4 (#[.slice none 0 0,.int .i64 0,.bool false]) 60 ?_;intro b hg cM r u;have t:=a_ (r);have aj:=BD w hg;have ag:=BD w hg;have J:=a_ ((by rw[hg];exact RN (Av (g:=c) (o:=.cells #[.slice n j.length q,.int .i64 m,.bool false] 60 (0,0)) (Bc a.o)):c≠b));have G:=a_ ((by rw[hg];exact RM (Av (g:=c) (o:=.cells #[.slice n j.length q,.int .i64 m,.bool false] 60 (0,0)) (Bc a.o)):b≠c));have L:=a_ ((by rw[hg];exact RN (Av (g:=d) (o:=.cells #[.int .i64 x,.int .i64 y,.int .i64 z,.int .i64 A,.int .i64 B,.int .i64 D,.string E] 32 (0,0)) (Bc l.o)):d≠b));have M:=a_ ((by rw[hg];exact RM (Av (g:=d) (o:=.cells #[.int .i64 x,.int .i64 y,.int .i64 z,.int .i64 A,.int .i64 B,.int .i64 D,.string E] 32 (0,0)) (Bc l.o)):b≠d));replace i:=a_ (Kd.Bh (Kd.CO (Dj i.o) b (Sd hg.symm)) u);replace a:=a_ (Cr a.o u);replace l:=a_ (Cr l.o u);replace HB:=Bw u;clear u r hg;have cp:=I.o;have cy:=K.o;have cq:=J.o;have cz:=G.o;obtain⟨bU,bV,bW,a3,a4,a5⟩:=DV a.o;have cr:=L.o;have cA:=M.o;obtain⟨bX,bY,bZ,b6,b7,b8,b9,a6,a7,a8,a9,ba,bb,bc⟩:=DC l.o)|((with_reducible refine BQ (f:=79) rfl ?_);refine BW 12 Tryd.func79 #[.slice n j.length q,.agg #[.int .i64 x,.int .i64 y,.int .i64 z,.int .i64 A,.int .i64 B,.int .i64 D,.string E]] ?_;(with_reducible refine(Ct.calls k (λv=>((((T v∨w.heap.size≤v)∧v≠c)∧v≠d)∧v≠b)) _ _ j x y z A B D E Y X _ ?q' A3.o).mono ?_);(case q'=>exact i.o);rintro e cN ⟨an,rfl,aa,u⟩;refine⟨_,rfl,?_⟩;replace i:=a_ (Kd.Bh (Dj i.o) u);have Z:=a_ (Kd.F8 (Kd.AD (Fi:=λv=>(T v∨w.heap.size≤v)∧v≠c∧v≠d∧v≠b) aa (λv W=>⟨SH W (λP=>P.1.1.1) (λO=>(.inr (RJ (Af (Ag)) O))),SH W (λP=>P.1.1.2) (λO=>(Kd.Dk (g:=c) (o:=.cells #[.slice n j.length q,.int .i64 m,.bool false] 60 (0,0)) (Bc a.o) v O)),SH W (λP=>P.1.2) (λO=>(Kd.Dk (g:=d) (o:=.cells #[.int .i64 x,.int .i64 y,.int .i64 z,.int .i64 A,.int .i64 B,.int .i64 D,.string E] 32 (0,0)) (Bc l.o) v O)),SH W (λP=>P.2) (λO=>(Kd.Dk (g:=b) (o:=.cells #[.slice none 0 0,.int .i64 0,.bool false] 60 (0,0)) (Bc t.o) v O))⟩)) (Af (Ag)));replace HB:=Bw u;replace a:=a_ (Cr a.o u);replace l:=a_ (Cr l.o u);replace t:=a_ (Cr t.o u);(try clear u aa);obtain⟨b_,ca,cb,bd,be,bf⟩:=DV a.o;obtain⟨cd,cf,cg,bg,bh,bj⟩:=DV t.o));refine RH (CJ rfl _ _ b 60 #[.slice n j.length q,.int .i64 m,.bool false] (0,0) _ rfl (Ol t.o) Sh rfl (by kernel_rfl)) rfl ?_;exact⟨_,C8,by refine Dj ?_;exact Kd.AD (Kd.AA (p:=⟨b,2,none⟩) (Kd.AA (p:=⟨b,1,none⟩) (Kd.AA (p:=⟨b,0,none⟩) (Kd.AD i.o (λv U=>(⟨U,U.2⟩:_∧v≠b))) (λ_ U=>U.2) (.slice n j.length q)) (λ_ U=>U.2) (.int .i64 m)) (λ_ U=>U.2) (.bool false)) (λ_ U=>U.1.1.1.1),Ag⟩
attribute [local go_sem high] Ky
mutual
def Aq.j0:Nat->Int->List (AQ)->Bool->Int->Int->List (Ba)->List (AQ)->Int->Int->Option (Int×Int×(List (Ba))×(List (AQ))×Int×Int×Bool)
 | 0,_,_,_,_,_,_,_,_,_=>none
 | k+1,j,l,i,b,a,c,d,e,g=>if i=true then(some (b,a,c,d,e,g,false))else(Aq.l0 k l (mx (wrap64 (a-j)) 0) b a c d e g b a c d e g)
def Aq.l0:Nat->List (AQ)->Int->Int->Int->List (Ba)->List (AQ)->Int->Int->Int->Int->List (Ba)->List (AQ)->Int->Int->Option (Int×Int×(List (Ba))×(List (AQ))×Int×Int×Bool)
 | 0,_,_,_,_,_,_,_,_,_,_,_,_,_,_=>none
 | k+1,q,p,b,c,d,e,g,i,j,l,m,a,n,o=>if p<(q.length:Int)then(if 0≤p then(if((Aa q p).f0)=b then(if(a.length:Int)=0 then(some (b,c,d,e,g,i,false))else(if 0<(a.length:Int)then(if(!(((Aa a 0).f0)==((Aa q p).f0)) || (!(((Aa a 0).f1)==((Aa q p).f1)) || ((!(((Aa a 0).f2.f0)==((Aa q p).f2.f0)) || (!(((Aa a 0).f2.f1)==((Aa q p).f2.f1)) || (!(((Aa a 0).f2.f2)==((Aa q p).f2.f2)) || (!(((Aa a 0).f2.f3)==((Aa q p).f2.f3)) || (!((((Aa a 0).f2.f4).toList)==(((Aa q p).f2.f4).toList))))))))))=true then(some (b,c,d,e,g,i,false))else(if 1≤(a.length:Int)then((BC.f k m ((Aa q p).f2.f0) ((Aa q p).f2.f1) ((Aa q p).f2.f2) ((Aa q p).f2.f3) ((Aa q p).f2.f4)).bind λr=>(Aq.l0 k q (wrap64 (p+1)) b c d e g i j (wrap64 (l+1)) r (a.drop 1) (wrap64 (n+1)) o))else(none)))else(none)))else((BC.f k m ((Aa q p).f2.f0) ((Aa q p).f2.f1) ((Aa q p).f2.f2) ((Aa q p).f2.f3) ((Aa q p).f2.f4)).bind λt=>(Aq.l0 k q (wrap64 (p+1)) b c d e g i j (wrap64 (l+1)) t a n o)))else(none))else(some (j,l,m,a,n,o,true))
end
def Aq.f(k:Nat)(b:Int)(a:Int)(e:List (Ba))(g:List (AQ))(c:Int)(d:Int)(i:Int)(j:List (AQ)):Option (Int×Int×(List (Ba))×(List (AQ))×Int×Int×Bool):=if i>a then(Aq.j0 k i j true b a e g c d)else(Aq.j0 k i j (decide ((wrap64 (i+(j.length:Int)))>40)) b a e g c d)
def Aq.T7:Bool×List (List Nat×List Nat):=(true,[([],[]),([],[]),([0,1],[0,1]),([2],[2]),([3],[3]),([],[]),([5],[5]),([4,6],[4,6])])
def Aq.B7:List Nat:=[0,0,3,7,15,0,32,127]
theorem Aq.OD:EK .any (opsOf Tryd.f77 7)=Aq.T7:=by kernel_rfl
theorem Aq.LA:DS Aq.T7.2 Aq.B7=true:=by kernel_rfl
def Aq.T8:Bool×List (List Nat×List Nat):=(true,[([],[]),([0],[0]),([1],[1]),([2],[2]),([3],[3]),([4],[4]),([5,4],[4,5]),([6,4],[4,6]),([7,4],[4,7]),([4],[4]),([4],[4]),([9,10,4],[4,9,10]),([11,4],[4,11]),([8,12,4],[4,8,12]),([4,13],[4,13])])
def Aq.B8:List Nat:=[0,1,3,7,15,31,63,127,255,31,31,1567,3615,8191,16383]
theorem Aq.P3:EK .any (opsOf Tryd.f77 8)=Aq.T8:=by kernel_rfl
theorem Aq.MY:DS Aq.T8.2 Aq.B8=true:=by kernel_rfl
def Aq.Ri:Bool×List (List Nat×List Nat):=(true,[([],[]),([0],[0]),([],[]),([],[]),([2,3],[2,3]),([4],[4]),([5],[5]),([1,6],[1,6]),([0,1,2,3,4,5,6,7],[]),([8,7,7,0,1,2,3,4,5,6,7],[7,8])])
def Aq.Ro:List Nat:=[0,1,0,0,12,28,60,127,255,511]
theorem Aq.Pb:EK .any (opsOf Tryd.f77 12)=Aq.Ri:=by kernel_rfl
theorem Aq.MW:DS Aq.Ri.2 Aq.Ro=true:=by kernel_rfl
end Go.Proofs.YtlhlpfnljglhoaaDoor.P
