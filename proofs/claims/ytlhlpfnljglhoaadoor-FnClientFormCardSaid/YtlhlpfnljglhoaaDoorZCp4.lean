/- Joined by programs (wip/shake.py, wip/mini.py). -/
import Derived.Test.YtlhlpfnljglhoaaDoorZCp3
set_option linter.unusedVariables false
set_option linter.unusedSimpArgs false
set_option linter.unusedSectionVars false
set_option maxHeartbeats 8000000
set_option maxRecDepth 100000
namespace Go.Proofs.YtlhlpfnljglhoaaDoor.P
open Go.RowKit Go.Proofs.YtlhlpfnljglhoaaDoorW.PrintWords Go.Proofs.YtlhlpfnljglhoaaDoorW.Bc
mutual
def Av.j0:Nat->Int->Int->Int->Int->List Int->Int->Bool->List Int->Int->Option (Int×Int×Int×Int×ByteArray×Int)
 | 0,_,_,_,_,_,_,_,_,_=>none
 | k+1,j,l,m,e,d,g,i,b,c=>if i=true then((Ac.f k b c (d.length:Int)).bind λa=>(if 0≤a.1 then(if a.1<(d.length:Int)then(Av.j1 k j l m e (rd d a.1) b a.2)else(none))else(none)))else(Av.j1 k j l m e g b c)
def Av.j1:Nat->Int->Int->Int->Int->Int->List Int->Int->Option (Int×Int×Int×Int×ByteArray×Int)
 | 0,_,_,_,_,_,_,_=>none
 | k+1,i,j,l,e,g,b,c=>(BH.f k b c).bind λa=>((Bs.f k a.1).bind λd=>(if d=true then(Av.j2 k i j l e g a.1 b a.2)else(Av.j2 k i j l e g (⟨#[97]⟩:ByteArray) b a.2)))
def Av.j2:Nat->Int->Int->Int->Int->Int->ByteArray->List Int->Int->Option (Int×Int×Int×Int×ByteArray×Int)
 | 0,_,_,_,_,_,_,_,_=>none
 | k+1,j,l,m,i,e,g,a,d=>(Ac.f k a d 6).bind λb=>(if b.1=0 then((Cn.f k a b.2).bind λc=>(Av.j3 k j l m c.1 e g a c.2))else(Av.j3 k j l m i e g a b.2))
def Av.j3:Nat->Int->Int->Int->Int->Int->ByteArray->List Int->Int->Option (Int×Int×Int×Int×ByteArray×Int)
 | 0,_,_,_,_,_,_,_,_=>none
 | k+1,m,j,l,d,e,g,a,c=>if j<6 then((Ac.f k a c 3).bind λb=>(if b.1=0 then(Av.j4 k m j l d e g true a b.2)else((Bf.f l).bind λi=>(Av.j4 k m j l d e g (!i) a b.2))))else(Av.j4 k m j l d e g false a c)
def Av.j4:Nat->Int->Int->Int->Int->Int->ByteArray->Bool->List Int->Int->Option (Int×Int×Int×Int×ByteArray×Int)
 | 0,_,_,_,_,_,_,_,_,_=>none
 | k+1,p,q,o,g,i,j,n,d,e=>if n=true then((Db.f p (wrap64 (q+1))).bind λl=>(some (1,l,g,i,j,e)))else((Bf.f o).bind λm=>(if m=true then((Ac.f k d e 3).bind λa=>(if a.1=0 then(some (2,o,0,0,j,a.2))else(some (3,o,g,i,(⟨#[]⟩:ByteArray),a.2))))else((Cn.f k d e).bind λb=>((Ac.f k d b.2 3).bind λc=>(if c.1=0 then(some (2,b.1,0,0,j,c.2))else(some (3,b.1,g,i,(⟨#[]⟩:ByteArray),c.2)))))))
end
def Av.f(k:Nat)(c:List Int)(g:Int)(l1:List (Ba))(i:Int)(j:Int):Option (Int×Int×Int×Int×ByteArray×Int):=(Ac.f k c g (l1.length:Int)).bind λb=>(if 0≤b.1 then(if b.1<(l1.length:Int)then((Ac.f k c b.2 (l1.length:Int)).bind λa=>(if 0≤a.1 then(if a.1<(l1.length:Int)then((BD.f k l1 ((Ag l1 a.1).f0)).bind λe=>(if(e.length:Int)>0 then((Ac.f k c a.2 2).bind λd=>(Av.j0 k i j ((Ag l1 b.1).f0) ((Ag l1 a.1).f0) e 0 (d.1==0) c d.2))else(Av.j0 k i j ((Ag l1 b.1).f0) ((Ag l1 a.1).f0) e 0 false c a.2)))else(none))else(none)))else(none))else(none))
theorem Av.calls(k:Nat)(g:Nat)(b:List Int)(aL:Int)(A1:Option Addr)(c1:Nat)(l1:List (Ba))(a2:Int)(a3:Int)(r1:Int)(r2:Int)(r3:Int)(r4:Int)(r5:ByteArray)(r6:Int)(w0 w:World)(hI:Af w0 w g b aL)(hB:Below w0.heap.size w0 w)(b9:∀W_,Ai w W_ g none->Kd.C Dj W_ A1 l1.length l1)(b7:l1.length≤c1)(h:Av.f k b aL l1 a2 a3=some (r1,r2,r3,r4,r5,r6)) :
  Calls Tryd.prog 24 #[.pointer (some ⟨g,0,none⟩),.slice A1 l1.length c1,.int .i64 a2,.int .i64 a3] w λe w'=>e=.returned (.agg #[.int .i64 r1,.int .i64 r2,.int .i64 r3,.int .i64 r4,.string r5])∧Af w0 w' g b r6∧Below w0.heap.size w0 w'∧Ai w w' g none:=by
 have dP:=Tryd.underlying30;have bJ:=a_ b9;have cq:=a_ b7;clear b9 b7;have HI0:=a_ hI;have HK:=a_ (Ai.refl w g none);have HL:=a_ hB.size;clear hI;have cr:=a_ hB.size;have HB:=a_ hB;clear hB;unfold Av.f at h;have H:=h;clear h;replace H:=BU H;obtain⟨⟨i,bz⟩,bQ,H⟩:=H;try dsimp only at H
 have A5:=a_ bQ;clear bQ;by_cases c6:0≤i
 ·rw[if_pos c6]at H;have aG:decide (0≤i)=true:=BJ c6;clear c6;by_cases c7:i<(l1.length:Int)
  ·rw[if_pos c7]at H;have aH:decide (i<(l1.length:Int))=true:=BJ c7;clear c7;replace H:=BU H;obtain⟨⟨r,aS⟩,bU,H⟩:=H;try dsimp only at H
   have A8:=a_ bU;clear bU;by_cases c9:0≤r
   ·rw[if_pos c9]at H;have aI:decide (0≤r)=true:=BJ c9;clear c9;by_cases Dr:r<(l1.length:Int)
    ·rw[if_pos Dr]at H;have ak:decide (r<(l1.length:Int))=true:=BJ Dr;clear Dr;replace H:=BU H;obtain⟨u,bf,H⟩:=H;try dsimp only at H
     have ca:=a_ bf;clear bf;have aX:=a_ H;clear H;go_enter Tryd.func24,Tryd.ntmps24;go_upto_region 5 with(first|((with_reducible refine Cd (N:=8) rfl ?_);refine CE 8 (#[.int .i64 0,.int .i64 0,.int .i64 0,.int .i64 0,.string (⟨#[]⟩:ByteArray)]) 30 ?_;intro l hg dQ bx t;have a:=a_ (bx);have cp:=a_ ((by rw[hg];exact(Cf (w:=w) (g:=g) (row:=none) (EP)):w.heap.size≤l));have cn:=a_ ((Nat.le_trans cr.o (by rw[hg];exact(Cf (w:=w) (g:=g) (row:=none) (EP)):w.heap.size≤l):w0.heap.size≤l));have z:=a_ ((by rw[hg];exact Nat.ne_of_lt (Af.lt (show Af w0 _ g b aL from Al)):g≠l));have c:=a_ ((by rw[hg];exact Nat.ne_of_gt (Af.lt (show Af w0 _ g b aL from Al)):l≠g));replace HI0:=a_ (Af.below (Al) t);replace HK:=a_ (Ai.trans (EP) (Ai.C4 t g none) (.inl rfl));replace HB:=a_ (BA (Ad) t);clear t bx hg)|((with_reducible refine BN (f:=16) rfl ?_);refine BR 18 Tryd.func16 #[.pointer (some ⟨g,0,none⟩),.int .i64 (l1.length:Int)] ?_;(with_reducible refine(Ac.calls k g b aL (l1.length:Int) i bz w0 _ ?q' ?z' A5.o).mono ?_);(case q'=>exact Al);(case z'=>exact Ad);rintro e dR ⟨rfl,hi,t,p⟩;refine⟨_,rfl,?_⟩;replace a:=a_ (FI p a.o c.o);replace HK:=a_ (Ai.trans (DP HK.o) p (.inl rfl));replace HB:=a_ (t);replace HI0:=a_ (hi);(try clear t p hi);have ab:0≤(i:Int):=Bu;have af:i<(l1.length:Int):=Bu;obtain⟨a5,bV,A,B,D⟩:=BV (Kd.Gz bJ.o HK.o) i ab af;cases bV;replace ab:=eq_true ab;replace af:=eq_true af)|((with_reducible refine BN (f:=16) rfl ?_);refine BR 26 Tryd.func16 #[.pointer (some ⟨g,0,none⟩),.int .i64 (l1.length:Int)] ?_;(with_reducible refine(Ac.calls k g b bz (l1.length:Int) r aS w0 _ ?q' ?z' A8.o).mono ?_);(case q'=>exact Al);(case z'=>exact Ad);rintro e dS ⟨rfl,hi,t,p⟩;refine⟨_,rfl,?_⟩;replace a:=a_ (FI p a.o c.o);replace HK:=a_ (Ai.trans (DP HK.o) p (.inl rfl));replace HB:=a_ (t);replace HI0:=a_ (hi);(try clear t p hi);have ae:0≤(r:Int):=Bu;have ag:r<(l1.length:Int):=Bu;obtain⟨bK,bW,E,G,I⟩:=BV (Kd.Gz bJ.o HK.o) r ae ag;obtain rfl:a5=bK:=(by injection bW);replace ae:=eq_true ae;replace ag:=eq_true ag)|((with_reducible refine BN (f:=43) rfl ?_);refine BR 32 Tryd.func43 #[.slice (some a5) l1.length c1,.int .i64 ((Ag l1 r).f0)] ?_;(with_reducible refine(BD.calls k _ _ l1 ((Ag l1 r).f0) u _ ?q' ?z' ca.o).mono ?_);(case q'=>exact Kd.Gz bJ.o (DP HK.o));(case z'=>exact cq.o);rintro e dT ⟨b_,rfl,b8,t⟩;refine⟨_,rfl,?_⟩;have X:=a_ (Kd.AN b8 (Cf (w:=w) (g:=g) (row:=none) (DP HK.o)));replace HK:=a_ (Ai.trans (DP HK.o) (Ai.C4 t g none) (.inl rfl));replace HB:=a_ (BA (Ad) t);replace HI0:=a_ (Af.below (Al) t);replace a:=a_ (C3 a.o t);(try clear t b8)))
     (try simp only[Act.put,List.setIfInBounds_toArray,List.set_cons_zero,List.set_cons_succ]);go_cut [40] (λdG wc=>∃(kq:Nat) (ah:Bool) (o:Int),dG=.bool ah∧Ae (Av.j0 kq a2 a3 ((Ag l1 i).f0) ((Ag l1 r).f0) u 0 ah b o=some (r1,r2,r3,r4,r5,r6))∧Ae (kq≤k)∧Ae (Kd.R (Kd.int .i64) 3 wc w.heap.size (λ_=>True) b_ u)∧Ae (wc.heap[l]?=some (.cells #[.int .i64 0,.int .i64 0,.int .i64 0,.int .i64 0,.string (⟨#[]⟩:ByteArray)] 30 (0,0)))∧Ae (Af w0 wc g b o)∧Ae (Ai w wc g none)∧Ae (Below w0.heap.size w0 wc))
     case first =>
      have H:=aX.o;clear aX;by_cases al:(u.length:Int)>0
      ·rw[if_pos al]at H;have x:decide (0<(u.length:Int))=true:=BJ al;have Y:decide (0<u.length)=true:=BJ (by omega);clear al;(first|rw[x]|(simp only[Cp,Cv];rw[x])|skip);replace H:=BU H;obtain⟨⟨bA,bB⟩,bg,H⟩:=H;try dsimp only at H
       have cb:=a_ bg;clear bg;have H':=a_ H;clear H;obtain⟨dI,dM,bY⟩:=Kd.Bg X.o;subst bY;go_wp2_with(first|(go_at_call 16;(with_reducible refine(Ac.calls k g b aS 2 bA bB w0 _ ?q' ?z' cb.o).mono ?_);(case q'=>exact Al);(case z'=>exact Ad);rintro e dU ⟨rfl,hi,t,p⟩;replace a:=a_ (FI p a.o c.o);replace X:=a_ (Kd.Aj (Kd.Bq (Af.apart (show Af w0 _ g b aS from Al) (BC X.o) (by decide)) p (λ_ h=>h.2)) (λ_ h=>h.1));replace HK:=a_ (Ai.trans (DP HK.o) p (.inl rfl));replace HB:=a_ (t);replace HI0:=a_ (hi);(try clear t p hi)));go_meet
       exact⟨_,((bA==0)),(bB),(Cr),H',⟨by first|omega|exact Nat.le_refl _⟩,⟨by(with_reducible repeat(first|apply Kd.R_alloc|apply Kd.An|apply Kd.As));exact X.o⟩,⟨Bp a.o⟩,⟨Al⟩,⟨DP HK.o⟩,⟨Ad⟩⟩
      rw[if_neg al]at H;have x:decide (0<(u.length:Int))=false:=C1 al;have Y:decide (0<u.length)=false:=C1 (by omega);clear al;(first|rw[x]|(simp only[Cp,Cv];rw[x])|skip);have H':=a_ H;clear H;obtain⟨dJ,dN,bZ⟩:=Kd.Bg X.o;subst bZ;go_wp2;go_meet
      exact⟨_,(false),(aS),(Cr),H',⟨by first|omega|exact Nat.le_refl _⟩,⟨by(with_reducible repeat(first|apply Kd.R_alloc|apply Kd.An|apply Kd.As));exact X.o⟩,⟨Bp a.o⟩,⟨Al⟩,⟨DP HK.o⟩,⟨Ad⟩⟩
     clear aX;try clear c1
     try clear c6
     try clear aG
     try clear c7
     try clear aH
     try clear c9
     try clear aI
     try clear Dr
     try clear ak
     try clear al
     try clear x
     try clear Y
     try clear A
     try clear B
     try clear D
     try clear E
     try clear G
     try clear I
     try clear ab
     try clear ae
     try clear af
     try clear ag
     obtain⟨kq,ah,o,rfl,HA,P,ax,a,HI0,HK,HB⟩:=hcut;cases kq with
     | zero=>exact absurd HA.o (by simp[Av.j0])
     | succ aJ =>
      have H:=HA.o
      clear HA
      simp only[Av.j0]at H
      have aY:=a_ H
      clear H
      go_upto_if 40 with(fail)
      go_cut [12] (λdE wc=>∃(kq:Nat) (j:Int) (J:Int),dE=.int .i64 j∧Ae (Av.j1 kq a2 a3 ((Ag l1 i).f0) ((Ag l1 r).f0) j b J=some (r1,r2,r3,r4,r5,r6))∧Ae (kq≤aJ)∧Ae (wc.heap[l]?=some (.cells #[.int .i64 0,.int .i64 0,.int .i64 0,.int .i64 0,.string (⟨#[]⟩:ByteArray)] 30 (0,0)))∧Ae (Af w0 wc g b J)∧Ae (Ai w wc g none)∧Ae (Below w0.heap.size w0 wc))
      case first =>
       have H:=aY.o
       clear aY
       by_cases aC:ah=true
       ·subst aC
        have H1:((Ac.f aJ b o (u.length:Int)).bind λay=>(if 0≤ay.1 then(if ay.1<(u.length:Int)then(Av.j1 aJ a2 a3 ((Ag l1 i).f0) ((Ag l1 r).f0) (rd u ay.1) b ay.2)else(none))else(none)))=some (r1,r2,r3,r4,r5,r6):=by rw[if_pos rfl]at H;exact H
        clear H
        have H:=H1
        clear H1
        replace H:=BU H
        obtain⟨⟨U,bC⟩,bh,H⟩:=H
        try dsimp only at H
        have cd:=a_ bh
        clear bh
        by_cases aD:0≤U
        ·rw[if_pos aD]at H
         have Z:decide (0≤U)=true:=BJ aD
         clear aD
         (first|rw[Z]|(simp only[Cp,Cv];rw[Z])|skip)
         by_cases aE:U<(u.length:Int)
         ·rw[if_pos aE]at H
          have az:decide (U<(u.length:Int))=true:=BJ aE
          clear aE
          have H':=a_ H
          clear H
          obtain⟨dK,dO,b6⟩:=Kd.Bg ax.o
          subst b6
          go_wp2_with(first|((with_reducible refine BN (f:=16) rfl ?_);refine BR 45 Tryd.func16 #[.pointer (some ⟨g,0,none⟩),.int .i64 (u.length:Int)] ?_;(with_reducible refine(Ac.calls aJ g b o (u.length:Int) U bC w0 _ ?q' ?z' cd.o).mono ?_);(case q'=>exact Al);(case z'=>exact Ad);rintro e dV ⟨rfl,hi,t,p⟩;refine⟨_,rfl,?_⟩;replace ax:=a_ (Kd.Aj (Kd.Bq (Af.apart (show Af w0 _ g b o from Al) (BC ax.o) (by decide)) p (λ_ h=>h.2)) (λ_ h=>h.1));replace a:=a_ (FI p a.o c.o);replace HK:=a_ (Ai.trans (DP HK.o) p (.inl rfl));replace HB:=a_ (t);replace HI0:=a_ (hi);(try clear t p hi);have an:0≤(U:Int):=Bu;have ao:U<(u.length:Int):=Bu;obtain⟨dr,bX,T⟩:=Kd.Fe (Kd.AD ax.o).2.2 U an ao;cases bX;replace an:=eq_true an;replace ao:=eq_true ao))
          go_meet
          case rel=>exact⟨_,(rd u U),(bC),(Cr),H',⟨by have:=P.o;first|omega|exact Nat.le_refl _⟩,⟨Bp a.o⟩,⟨Al⟩,⟨DP HK.o⟩,⟨Ad⟩⟩
         ·rw[if_neg aE]at H
          exact absurd H (by simp)
        ·rw[if_neg aD]at H
         exact absurd H (by simp)
       ·replace aC:=Bool.eq_false_iff.mpr aC
        subst aC
        have H1:(Av.j1 aJ a2 a3 ((Ag l1 i).f0) ((Ag l1 r).f0) 0 b o)=some (r1,r2,r3,r4,r5,r6):=by rw[if_neg (show¬ (false=true) by decide)]at H;exact H
        clear H
        have H:=H1
        clear H1
        have H':=a_ H
        clear H
        go_wp2
        go_meet
        case rel=>exact⟨_,(0),(o),(Cr),H',⟨by have:=P.o;first|omega|exact Nat.le_refl _⟩,⟨Bp a.o⟩,⟨Al⟩,⟨DP HK.o⟩,⟨Ad⟩⟩
      case rest =>
       clear aY
       try clear c1
       try clear c6
       try clear aG
       try clear c7
       try clear aH
       try clear c9
       try clear aI
       try clear Dr
       try clear ak
       try clear al
       try clear x
       try clear Y
       try clear aC
       try clear aD
       try clear Z
       try clear aE
       try clear az
       try clear A
       try clear B
       try clear D
       try clear E
       try clear G
       try clear I
       try clear T
       try clear ab
       try clear ae
       try clear an
       try clear af
       try clear ag
       try clear ao
       obtain⟨kq,j,J,rfl,HA,aj,a,HI0,HK,HB⟩:=hcut
       cases kq with
       | zero=>exact absurd HA.o (by simp[Av.j1])
       | succ aK =>
        have H:=HA.o
        clear HA
        simp only[Av.j1]at H
        replace H:=BU H
        obtain⟨⟨aM,av⟩,bj,H⟩:=H
        try dsimp only at H
        have cf:=a_ bj
        clear bj
        replace H:=BU H
        obtain⟨bD,bk,H⟩:=H
        try dsimp only at H
        have cg:=a_ bk
        clear bk
        have aZ:=a_ H
        clear H
        go_upto_if 52 with(first|((with_reducible refine BN (f:=42) rfl ?_);refine BR 49 Tryd.func42 #[.pointer (some ⟨g,0,none⟩)] ?_;(with_reducible refine(BH.calls aK g b J aM av w0 _ ?q' ?z' cf.o).mono ?_);(case q'=>exact Al);(case z'=>exact Ad);rintro e dW ⟨rfl,hi,t,p⟩;refine⟨_,rfl,?_⟩;replace a:=a_ (FI p a.o c.o);replace HK:=a_ (Ai.trans (DP HK.o) p (.inl rfl));replace HB:=a_ (t);replace HI0:=a_ (hi);(try clear t p hi))|((with_reducible refine BN (f:=32) rfl ?_);refine BR 51 Tryd.func32 #[.string aM] ?_;(with_reducible refine(Bs.calls aK aM bD _ cg.o).mono ?_);rintro e w' ⟨rfl,⟨nd,rfl⟩⟩;refine⟨_,rfl,?_⟩))
        (try simp only[Act.put,List.setIfInBounds_toArray,List.set_cons_zero,List.set_cons_succ])
        go_cut [13] (λdF wc=>∃(kq:Nat) (m:ByteArray),dF=.string m∧Ae (Av.j2 kq a2 a3 ((Ag l1 i).f0) ((Ag l1 r).f0) j m b av=some (r1,r2,r3,r4,r5,r6))∧Ae (kq≤aK)∧Ae (wc.heap[l]?=some (.cells #[.int .i64 0,.int .i64 0,.int .i64 0,.int .i64 0,.string (⟨#[]⟩:ByteArray)] 30 (0,0)))∧Ae (Af w0 wc g b av)∧Ae (Ai w wc g none)∧Ae (Below w0.heap.size w0 wc))
        case first =>
         have H:=aZ.o
         clear aZ
         by_cases aN:bD=true
         ·subst aN
          have H1:(Av.j2 aK a2 a3 ((Ag l1 i).f0) ((Ag l1 r).f0) j aM b av)=some (r1,r2,r3,r4,r5,r6):=by rw[if_pos rfl]at H;exact H
          clear H
          have H:=H1
          clear H1
          have H':=a_ H
          clear H
          go_wp2
          go_meet
          case rel=>exact⟨_,(aM),(Cr),H',⟨by have:=P.o;have:=aj.o;first|omega|exact Nat.le_refl _⟩,⟨Bp a.o⟩,⟨Al⟩,⟨DP HK.o⟩,⟨Ad⟩⟩
         ·replace aN:=Bool.eq_false_iff.mpr aN
          subst aN
          have H1:(Av.j2 aK a2 a3 ((Ag l1 i).f0) ((Ag l1 r).f0) j (⟨#[97]⟩:ByteArray) b av)=some (r1,r2,r3,r4,r5,r6):=by rw[if_neg (show¬ (false=true) by decide)]at H;exact H
          clear H
          have H:=H1
          clear H1
          have H':=a_ H
          clear H
          go_wp2
          go_meet
          case rel=>exact⟨_,((⟨#[97]⟩:ByteArray)),(Cr),H',⟨by have:=P.o;have:=aj.o;first|omega|exact Nat.le_refl _⟩,⟨Bp a.o⟩,⟨Al⟩,⟨DP HK.o⟩,⟨Ad⟩⟩
        case rest =>
         clear aZ
         try clear c1
         try clear c6
         try clear aG
         try clear c7
         try clear aH
         try clear c9
         try clear aI
         try clear Dr
         try clear ak
         try clear al
         try clear x
         try clear Y
         try clear aC
         try clear aD
         try clear Z
         try clear aE
         try clear az
         try clear aN
         try clear A
         try clear B
         try clear D
         try clear E
         try clear G
         try clear I
         try clear T
         try clear ab
         try clear ae
         try clear an
         try clear af
         try clear ag
         try clear ao
         obtain⟨kq,m,rfl,HA,aB,a,HI0,HK,HB⟩:=hcut
         cases kq with
         | zero=>exact absurd HA.o (by simp[Av.j2])
         | succ a8 =>
          have H:=HA.o
          clear HA
          simp only[Av.j2]at H
          replace H:=BU H
          obtain⟨⟨aw,ba⟩,bl,H⟩:=H
          try dsimp only at H
          have cj:=a_ bl
          clear bl
          have a0:=a_ H
          clear H
          go_upto_if 55 with(first|((with_reducible refine BN (f:=16) rfl ?_);refine BR 54 Tryd.func16 #[.pointer (some ⟨g,0,none⟩),.int .i64 6] ?_;(with_reducible refine(Ac.calls a8 g b av 6 aw ba w0 _ ?q' ?z' cj.o).mono ?_);(case q'=>exact Al);(case z'=>exact Ad);rintro e dX ⟨rfl,hi,t,p⟩;refine⟨_,rfl,?_⟩;replace a:=a_ (FI p a.o c.o);replace HK:=a_ (Ai.trans (DP HK.o) p (.inl rfl));replace HB:=a_ (t);replace HI0:=a_ (hi);(try clear t p hi)))
          (try simp only[Act.put,List.setIfInBounds_toArray,List.set_cons_zero,List.set_cons_succ])
          go_cut [10] (λv10 wc=>∃(kq:Nat) (n:Int) (v:Int),v10=.int .i64 n∧Ae (Av.j3 kq a2 a3 ((Ag l1 i).f0) n j m b v=some (r1,r2,r3,r4,r5,r6))∧Ae (kq≤a8)∧Ae (wc.heap[l]?=some (.cells #[.int .i64 0,.int .i64 0,.int .i64 0,.int .i64 0,.string (⟨#[]⟩:ByteArray)] 30 (0,0)))∧Ae (Af w0 wc g b v)∧Ae (Ai w wc g none)∧Ae (Below w0.heap.size w0 wc))
          case first =>
           have H:=a0.o
           clear a0
           by_cases aA:aw=0
           ·rw[if_pos aA]at H
            have O:(aw==0)=true:=beq_iff_eq.mpr aA
            have aO:(aw != 0)=false:=Ff aA
            clear aA
            (first|rw[O]|(simp only[Cp,Cv];rw[O])|skip)
            replace H:=BU H
            obtain⟨⟨bE,bF⟩,bm,H⟩:=H
            try dsimp only at H
            have ck:=a_ bm
            clear bm
            have H':=a_ H
            clear H
            go_wp2_with(first|((with_reducible refine BN (f:=41) rfl ?_);refine BR 57 Tryd.func41 #[.pointer (some ⟨g,0,none⟩)] ?_;(with_reducible refine(Cn.calls a8 g b ba bE bF w0 _ ?q' ?z' ck.o).mono ?_);(case q'=>exact Al);(case z'=>exact Ad);rintro e dY ⟨rfl,hi,t,p⟩;refine⟨_,rfl,?_⟩;replace a:=a_ (FI p a.o c.o);replace HK:=a_ (Ai.trans (DP HK.o) p (.inl rfl));replace HB:=a_ (t);replace HI0:=a_ (hi);(try clear t p hi)))
            go_meet
            case rel=>exact⟨_,(bE),(bF),(Cr),H',⟨by have:=P.o;have:=aj.o;have:=aB.o;first|omega|exact Nat.le_refl _⟩,⟨Bp a.o⟩,⟨Al⟩,⟨DP HK.o⟩,⟨Ad⟩⟩
           ·rw[if_neg aA]at H
            have O:(aw==0)=false:=Dq aA
            have aO:(aw != 0)=true:=bne_iff_ne.mpr aA
            (first|rw[O]|(simp only[Cp,Cv];rw[O])|skip)
            have H':=a_ H
            clear H
            go_wp2
            go_meet
            case rel=>exact⟨_,(((Ag l1 r).f0)),(ba),(Cr),H',⟨by have:=P.o;have:=aj.o;have:=aB.o;first|omega|exact Nat.le_refl _⟩,⟨Bp a.o⟩,⟨Al⟩,⟨DP HK.o⟩,⟨Ad⟩⟩
          case rest =>
           clear a0
           try clear c1
           try clear c6
           try clear aG
           try clear c7
           try clear aH
           try clear c9
           try clear aI
           try clear Dr
           try clear ak
           try clear al
           try clear x
           try clear Y
           try clear aC
           try clear aD
           try clear Z
           try clear aE
           try clear az
           try clear aN
           try clear aA
           try clear O
           try clear aO
           try clear A
           try clear B
           try clear D
           try clear E
           try clear G
           try clear I
           try clear T
           try clear ab
           try clear ae
           try clear an
           try clear af
           try clear ag
           try clear ao
           obtain⟨kq,n,v,rfl,HA,a4,a,HI0,HK,HB⟩:=hcut
           cases kq with
           | zero=>exact absurd HA.o (by simp[Av.j3])
           | succ a9 =>
            have H:=HA.o
            clear HA
            simp only[Av.j3]at H
            have a1:=a_ H
            clear H
            go_upto_region 12 with(fail)
            go_cut [69] (λdH wc=>∃(kq:Nat) (ai:Bool) (d:Int),dH=.bool ai∧Ae (Av.j4 kq a2 a3 ((Ag l1 i).f0) n j m ai b d=some (r1,r2,r3,r4,r5,r6))∧Ae (kq≤a9)∧Ae (wc.heap[l]?=some (.cells #[.int .i64 0,.int .i64 0,.int .i64 0,.int .i64 0,.string (⟨#[]⟩:ByteArray)] 30 (0,0)))∧Ae (Af w0 wc g b d)∧Ae (Ai w wc g none)∧Ae (Below w0.heap.size w0 wc))
            case first =>
             have H:=a1.o
             clear a1
             by_cases aP:a3<6
             ·rw[if_pos aP]at H
              have aa:decide (a3<6)=true:=BJ aP
              clear aP
              (first|rw[aa]|(simp only[Cp,Cv];rw[aa])|skip)
              replace H:=BU H
              obtain⟨⟨aq,aT⟩,bn,H⟩:=H
              try dsimp only at H
              have bP:=a_ bn
              clear bn
              by_cases aF:aq=0
              ·rw[if_pos aF]at H
               have a6:(aq==0)=true:=beq_iff_eq.mpr aF
               have a7:(aq != 0)=false:=Ff aF
               clear aF
               have H':=a_ H
               clear H
               go_wp2_with(first|(go_at_call 16;(with_reducible refine(Ac.calls a9 g b v 3 aq aT w0 _ ?q' ?z' bP.o).mono ?_);(case q'=>exact Al);(case z'=>exact Ad);rintro e dZ ⟨rfl,hi,t,p⟩;replace a:=a_ (FI p a.o c.o);replace HK:=a_ (Ai.trans (DP HK.o) p (.inl rfl));replace HB:=a_ (t);replace HI0:=a_ (hi);(try clear t p hi)))
               go_meet
               case rel=>exact⟨_,(true),(aT),(Cr),H',⟨by have:=P.o;have:=aj.o;have:=aB.o;have:=a4.o;first|omega|exact Nat.le_refl _⟩,⟨Bp a.o⟩,⟨Al⟩,⟨DP HK.o⟩,⟨Ad⟩⟩
              ·rw[if_neg aF]at H
               have a6:(aq==0)=false:=Dq aF
               have a7:(aq != 0)=true:=bne_iff_ne.mpr aF
               replace H:=BU H
               obtain⟨bG,bo,H⟩:=H
               try dsimp only at H
               have cl:=a_ bo
               clear bo
               have H':=a_ H
               clear H
               go_wp2_with(first|(go_at_call 16;(with_reducible refine(Ac.calls a9 g b v 3 aq aT w0 _ ?q' ?z' bP.o).mono ?_);(case q'=>exact Al);(case z'=>exact Ad);rintro e d_ ⟨rfl,hi,t,p⟩;replace a:=a_ (FI p a.o c.o);replace HK:=a_ (Ai.trans (DP HK.o) p (.inl rfl));replace HB:=a_ (t);replace HI0:=a_ (hi);(try clear t p hi))|(go_at_call 31;(with_reducible refine(Bf.calls ((Ag l1 i).f0) bG _ cl.o).mono ?_);rintro e w' ⟨rfl,⟨nd,rfl⟩⟩))
               go_meet
               case rel=>exact⟨_,(!bG),(aT),(Cr),H',⟨by have:=P.o;have:=aj.o;have:=aB.o;have:=a4.o;first|omega|exact Nat.le_refl _⟩,⟨Bp a.o⟩,⟨Al⟩,⟨DP HK.o⟩,⟨Ad⟩⟩
             ·rw[if_neg aP]at H
              have aa:decide (a3<6)=false:=C1 aP
              clear aP
              (first|rw[aa]|(simp only[Cp,Cv];rw[aa])|skip)
              have H':=a_ H
              clear H
              go_wp2
              go_meet
              case rel=>exact⟨_,(false),(v),(Cr),H',⟨by have:=P.o;have:=aj.o;have:=aB.o;have:=a4.o;first|omega|exact Nat.le_refl _⟩,⟨Bp a.o⟩,⟨Al⟩,⟨DP HK.o⟩,⟨Ad⟩⟩
            case rest =>
             clear a1
             try clear c1
             try clear c6
             try clear aG
             try clear c7
             try clear aH
             try clear c9
             try clear aI
             try clear Dr
             try clear ak
             try clear al
             try clear x
             try clear Y
             try clear aC
             try clear aD
             try clear Z
             try clear aE
             try clear az
             try clear aN
             try clear aA
             try clear O
             try clear aO
             try clear aP
             try clear aa
             try clear aF
             try clear a6
             try clear a7
             try clear A
             try clear B
             try clear D
             try clear E
             try clear G
             try clear I
             try clear T
             try clear ab
             try clear ae
             try clear an
             try clear af
             try clear ag
             try clear ao
             obtain⟨kq,ai,d,rfl,HA,dL,a,HI0,HK,HB⟩:=hcut
             cases kq with
             | zero=>exact absurd HA.o (by simp[Av.j4])
             | succ y =>
              have H:=HA.o
              clear HA
              simp only[Av.j4]at H
              by_cases bd:ai=true
              ·subst bd
               have H1:((Db.f a2 (wrap64 (a3+1))).bind λaU=>(some (1,aU,n,j,m,d)))=some (r1,r2,r3,r4,r5,r6):=by rw[if_pos rfl]at H;exact H
               clear H
               have H:=H1
               clear H1
               replace H:=BU H
               obtain⟨aU,bp,H⟩:=H
               try dsimp only at H
               have cm:=a_ bp
               clear bp
               simp only[Option.some.injEq,Prod.mk.injEq]at H
               obtain⟨rfl,rfl,rfl,rfl,rfl,rfl⟩:=H
               go_wp2_with(first|((with_reducible refine BN (f:=44) rfl ?_);refine BR 73 Tryd.func44 #[.int .i64 a2,.int .i64 (wrap64 (a3+1))] ?_;(with_reducible refine(Db.calls a2 (wrap64 (a3+1)) aU _ cm.o).mono ?_);rintro e w' ⟨rfl,⟨nd,rfl⟩⟩;refine⟨_,rfl,?_⟩;(try(rw[En wc];generalize q:World.drewN wc _=wc;replace a:Ae (wc.heap[l]?=some (.cells #[.int .i64 0,.int .i64 0,.int .i64 0,.int .i64 0,.string (⟨#[]⟩:ByteArray)] 30 (0,0))):=⟨by rw[<-q];exact(Bp a.o)⟩;replace HI0:Ae (Af w0 wc g b d):=⟨by rw[<-q];exact(Al)⟩;replace HK:Ae (Ai w wc g none):=⟨by rw[<-q];exact(DP HK.o)⟩;replace HB:Ae (Below w0.heap.size w0 wc):=⟨by rw[<-q];exact(Ad)⟩;clear q));have du:=c.o;have dz:=z.o;obtain⟨cS,cT,cU,cV,cW,ct,cu,cv,cw,cx⟩:=Cy (W:=wc) a.o))
               refine bodyPost_ret (results_cell_row rfl _ _ l 30 #[.int .i64 1,.int .i64 aU,.int .i64 n,.int .i64 j,.string m] (0,0) _ rfl (Gu a.o) Tryd.underlying30 rfl (by kernel_rfl)) rfl ?_
               exact⟨C_,Al,Ad,DP HK.o⟩
              ·replace bd:=Bool.eq_false_iff.mpr bd
               subst bd
               have H1:((Bf.f ((Ag l1 i).f0)).bind λbb=>(if bb=true then((Ac.f y b d 3).bind λK=>(if K.1=0 then(some (2,((Ag l1 i).f0),0,0,m,K.2))else(some (3,((Ag l1 i).f0),n,j,(⟨#[]⟩:ByteArray),K.2))))else((Cn.f y b d).bind λL=>((Ac.f y b L.2 3).bind λM=>(if M.1=0 then(some (2,L.1,0,0,m,M.2))else(some (3,L.1,n,j,(⟨#[]⟩:ByteArray),M.2)))))))=some (r1,r2,r3,r4,r5,r6):=by rw[if_neg (show¬ (false=true) by decide)]at H;exact H
               clear H
               have H:=H1
               clear H1
               replace H:=BU H
               obtain⟨bb,bq,H⟩:=H
               try dsimp only at H
               have bc:=a_ bq
               clear bq
               by_cases be:bb=true
               ·subst be
                have H1:((Ac.f y b d 3).bind λK=>(if K.1=0 then(some (2,((Ag l1 i).f0),0,0,m,K.2))else(some (3,((Ag l1 i).f0),n,j,(⟨#[]⟩:ByteArray),K.2))))=some (r1,r2,r3,r4,r5,r6):=by rw[if_pos rfl]at H;exact H
                clear H
                have H:=H1
                clear H1
                replace H:=BU H
                obtain⟨⟨ar,bH⟩,br,H⟩:=H
                try dsimp only at H
                have bR:=a_ br
                clear br
                by_cases aQ:ar=0
                ·rw[if_pos aQ]at H
                 have bL:(ar==0)=true:=beq_iff_eq.mpr aQ
                 have bM:(ar != 0)=false:=Ff aQ
                 clear aQ
                 simp only[Option.some.injEq,Prod.mk.injEq]at H
                 obtain⟨rfl,rfl,rfl,rfl,rfl,rfl⟩:=H
                 go_wp2_with(first|((with_reducible refine BN (f:=31) rfl ?_);refine BR 79 Tryd.func31 #[.int .i64 ((Ag l1 i).f0)] ?_;(with_reducible refine(Bf.calls ((Ag l1 i).f0) true _ bc.o).mono ?_);rintro e w' ⟨rfl,⟨nd,rfl⟩⟩;refine⟨_,rfl,?_⟩;(try(rw[En wc];generalize q:World.drewN wc _=wc;replace a:Ae (wc.heap[l]?=some (.cells #[.int .i64 0,.int .i64 0,.int .i64 0,.int .i64 0,.string (⟨#[]⟩:ByteArray)] 30 (0,0))):=⟨by rw[<-q];exact(Bp a.o)⟩;replace HI0:Ae (Af w0 wc g b d):=⟨by rw[<-q];exact(Al)⟩;replace HK:Ae (Ai w wc g none):=⟨by rw[<-q];exact(DP HK.o)⟩;replace HB:Ae (Below w0.heap.size w0 wc):=⟨by rw[<-q];exact(Ad)⟩;clear q)))|((with_reducible refine BN (f:=16) rfl ?_);refine BR 84 Tryd.func16 #[.pointer (some ⟨g,0,none⟩),.int .i64 3] ?_;(with_reducible refine(Ac.calls y g b d 3 ar bH w0 _ ?q' ?z' bR.o).mono ?_);(case q'=>exact Al);(case z'=>exact Ad);rintro e ea ⟨rfl,hi,t,p⟩;refine⟨_,rfl,?_⟩;replace a:=a_ (FI p a.o c.o);replace HK:=a_ (Ai.trans (DP HK.o) p (.inl rfl));replace HB:=a_ (t);replace HI0:=a_ (hi);(try clear t p hi);have dv:=c.o;have dA:=z.o;obtain⟨cX,cY,cZ,c0,c_,cy,cz,cA,cB,cC⟩:=Cy a.o))
                 refine bodyPost_ret (results_cell_row rfl _ _ l 30 #[.int .i64 2,.int .i64 ((Ag l1 i).f0),.int .i64 0,.int .i64 0,.string m] (0,0) _ rfl (Gu a.o) Tryd.underlying30 rfl (by kernel_rfl)) rfl ?_
                 exact⟨C_,Al,Ad,DP HK.o⟩
                ·rw[if_neg aQ]at H
                 have bL:(ar==0)=false:=Dq aQ
                 have bM:(ar != 0)=true:=bne_iff_ne.mpr aQ
                 simp only[Option.some.injEq,Prod.mk.injEq]at H
                 obtain⟨rfl,rfl,rfl,rfl,rfl,rfl⟩:=H
                 go_wp2_with(first|((with_reducible refine BN (f:=31) rfl ?_);refine BR 79 Tryd.func31 #[.int .i64 ((Ag l1 i).f0)] ?_;(with_reducible refine(Bf.calls ((Ag l1 i).f0) true _ bc.o).mono ?_);rintro e w' ⟨rfl,⟨nd,rfl⟩⟩;refine⟨_,rfl,?_⟩;(try(rw[En wc];generalize q:World.drewN wc _=wc;replace a:Ae (wc.heap[l]?=some (.cells #[.int .i64 0,.int .i64 0,.int .i64 0,.int .i64 0,.string (⟨#[]⟩:ByteArray)] 30 (0,0))):=⟨by rw[<-q];exact(Bp a.o)⟩;replace HI0:Ae (Af w0 wc g b d):=⟨by rw[<-q];exact(Al)⟩;replace HK:Ae (Ai w wc g none):=⟨by rw[<-q];exact(DP HK.o)⟩;replace HB:Ae (Below w0.heap.size w0 wc):=⟨by rw[<-q];exact(Ad)⟩;clear q)))|((with_reducible refine BN (f:=16) rfl ?_);refine BR 84 Tryd.func16 #[.pointer (some ⟨g,0,none⟩),.int .i64 3] ?_;(with_reducible refine(Ac.calls y g b d 3 ar bH w0 _ ?q' ?z' bR.o).mono ?_);(case q'=>exact Al);(case z'=>exact Ad);rintro e ec ⟨rfl,hi,t,p⟩;refine⟨_,rfl,?_⟩;replace a:=a_ (FI p a.o c.o);replace HK:=a_ (Ai.trans (DP HK.o) p (.inl rfl));replace HB:=a_ (t);replace HI0:=a_ (hi);(try clear t p hi);have dw:=c.o;have dB:=z.o;obtain⟨da,db,dc,dd,de,cD,cE,cF,cG,cH⟩:=Cy a.o))
                 refine bodyPost_ret (results_cell_row rfl _ _ l 30 #[.int .i64 3,.int .i64 ((Ag l1 i).f0),.int .i64 n,.int .i64 j,.string (⟨#[]⟩:ByteArray)] (0,0) _ rfl (Gu a.o) Tryd.underlying30 rfl (by kernel_rfl)) rfl ?_
                 exact⟨C_,Al,Ad,DP HK.o⟩
               ·replace be:=Bool.eq_false_iff.mpr be
                subst be
                have H1:((Cn.f y b d).bind λL=>((Ac.f y b L.2 3).bind λM=>(if M.1=0 then(some (2,L.1,0,0,m,M.2))else(some (3,L.1,n,j,(⟨#[]⟩:ByteArray),M.2)))))=some (r1,r2,r3,r4,r5,r6):=by rw[if_neg (show¬ (false=true) by decide)]at H;exact H
                clear H
                have H:=H1
                clear H1
                replace H:=BU H
                obtain⟨⟨aV,aW⟩,bu,H⟩:=H
                try dsimp only at H
                have bS:=a_ bu
                clear bu
                replace H:=BU H
                obtain⟨⟨au,bI⟩,bw,H⟩:=H
                try dsimp only at H
                have bT:=a_ bw
                clear bw
                by_cases aR:au=0
                ·rw[if_pos aR]at H
                 have bN:(au==0)=true:=beq_iff_eq.mpr aR
                 have bO:(au != 0)=false:=Ff aR
                 clear aR
                 simp only[Option.some.injEq,Prod.mk.injEq]at H
                 obtain⟨rfl,rfl,rfl,rfl,rfl,rfl⟩:=H
                 go_wp2_with(first|((with_reducible refine BN (f:=31) rfl ?_);refine BR 79 Tryd.func31 #[.int .i64 ((Ag l1 i).f0)] ?_;(with_reducible refine(Bf.calls ((Ag l1 i).f0) false _ bc.o).mono ?_);rintro e w' ⟨rfl,⟨nd,rfl⟩⟩;refine⟨_,rfl,?_⟩;(try(rw[En wc];generalize q:World.drewN wc _=wc;replace a:Ae (wc.heap[l]?=some (.cells #[.int .i64 0,.int .i64 0,.int .i64 0,.int .i64 0,.string (⟨#[]⟩:ByteArray)] 30 (0,0))):=⟨by rw[<-q];exact(Bp a.o)⟩;replace HI0:Ae (Af w0 wc g b d):=⟨by rw[<-q];exact(Al)⟩;replace HK:Ae (Ai w wc g none):=⟨by rw[<-q];exact(DP HK.o)⟩;replace HB:Ae (Below w0.heap.size w0 wc):=⟨by rw[<-q];exact(Ad)⟩;clear q)))|((with_reducible refine BN (f:=41) rfl ?_);refine BR 82 Tryd.func41 #[.pointer (some ⟨g,0,none⟩)] ?_;(with_reducible refine(Cn.calls y g b d aV aW w0 _ ?q' ?z' bS.o).mono ?_);(case q'=>exact Al);(case z'=>exact Ad);rintro e ed ⟨rfl,hi,t,p⟩;refine⟨_,rfl,?_⟩;replace a:=a_ (FI p a.o c.o);replace HK:=a_ (Ai.trans (DP HK.o) p (.inl rfl));replace HB:=a_ (t);replace HI0:=a_ (hi);(try clear t p hi))|((with_reducible refine BN (f:=16) rfl ?_);refine BR 84 Tryd.func16 #[.pointer (some ⟨g,0,none⟩),.int .i64 3] ?_;(with_reducible refine(Ac.calls y g b aW 3 au bI w0 _ ?q' ?z' bT.o).mono ?_);(case q'=>exact Al);(case z'=>exact Ad);rintro e ee ⟨rfl,hi,t,p⟩;refine⟨_,rfl,?_⟩;replace a:=a_ (FI p a.o c.o);replace HK:=a_ (Ai.trans (DP HK.o) p (.inl rfl));replace HB:=a_ (t);replace HI0:=a_ (hi);(try clear t p hi);have dx:=c.o;have dC:=z.o;obtain⟨df,dg,dh,di,dj,cI,cJ,cK,cL,cM⟩:=Cy a.o))
                 refine bodyPost_ret (results_cell_row rfl _ _ l 30 #[.int .i64 2,.int .i64 aV,.int .i64 0,.int .i64 0,.string m] (0,0) _ rfl (Gu a.o) Tryd.underlying30 rfl (by kernel_rfl)) rfl ?_
                 exact⟨C_,Al,Ad,DP HK.o⟩
                ·rw[if_neg aR]at H
                 have bN:(au==0)=false:=Dq aR
                 have bO:(au != 0)=true:=bne_iff_ne.mpr aR
                 simp only[Option.some.injEq,Prod.mk.injEq]at H
                 obtain⟨rfl,rfl,rfl,rfl,rfl,rfl⟩:=H
                 go_wp2_with(first|((with_reducible refine BN (f:=31) rfl ?_);refine BR 79 Tryd.func31 #[.int .i64 ((Ag l1 i).f0)] ?_;(with_reducible refine(Bf.calls ((Ag l1 i).f0) false _ bc.o).mono ?_);rintro e w' ⟨rfl,⟨nd,rfl⟩⟩;refine⟨_,rfl,?_⟩;(try(rw[En wc];generalize q:World.drewN wc _=wc;replace a:Ae (wc.heap[l]?=some (.cells #[.int .i64 0,.int .i64 0,.int .i64 0,.int .i64 0,.string (⟨#[]⟩:ByteArray)] 30 (0,0))):=⟨by rw[<-q];exact(Bp a.o)⟩;replace HI0:Ae (Af w0 wc g b d):=⟨by rw[<-q];exact(Al)⟩;replace HK:Ae (Ai w wc g none):=⟨by rw[<-q];exact(DP HK.o)⟩;replace HB:Ae (Below w0.heap.size w0 wc):=⟨by rw[<-q];exact(Ad)⟩;clear q)))|((with_reducible refine BN (f:=41) rfl ?_);refine BR 82 Tryd.func41 #[.pointer (some ⟨g,0,none⟩)] ?_;(with_reducible refine(Cn.calls y g b d aV aW w0 _ ?q' ?z' bS.o).mono ?_);(case q'=>exact Al);(case z'=>exact Ad);rintro e ef ⟨rfl,hi,t,p⟩;refine⟨_,rfl,?_⟩;replace a:=a_ (FI p a.o c.o);replace HK:=a_ (Ai.trans (DP HK.o) p (.inl rfl));replace HB:=a_ (t);replace HI0:=a_ (hi);(try clear t p hi))|((with_reducible refine BN (f:=16) rfl ?_);refine BR 84 Tryd.func16 #[.pointer (some ⟨g,0,none⟩),.int .i64 3] ?_;(with_reducible refine(Ac.calls y g b aW 3 au bI w0 _ ?q' ?z' bT.o).mono ?_);(case q'=>exact Al);(case z'=>exact Ad);rintro e eg ⟨rfl,hi,t,p⟩;refine⟨_,rfl,?_⟩;replace a:=a_ (FI p a.o c.o);replace HK:=a_ (Ai.trans (DP HK.o) p (.inl rfl));replace HB:=a_ (t);replace HI0:=a_ (hi);(try clear t p hi);have dy:=c.o;have dD:=z.o;obtain⟨dk,dm,dn,dp,dq,cN,cO,cP,cQ,cR⟩:=Cy a.o))
                 refine bodyPost_ret (results_cell_row rfl _ _ l 30 #[.int .i64 3,.int .i64 aV,.int .i64 n,.int .i64 j,.string (⟨#[]⟩:ByteArray)] (0,0) _ rfl (Gu a.o) Tryd.underlying30 rfl (by kernel_rfl)) rfl ?_
                 exact⟨C_,Al,Ad,DP HK.o⟩
    rw[if_neg Dr]at H;exact absurd H (by simp)
   rw[if_neg c9]at H;exact absurd H (by simp)
  rw[if_neg c7]at H;exact absurd H (by simp)
 rw[if_neg c6]at H;exact absurd H (by simp)
def AQ.l0:Nat->List (AM)->List (Ba)->List Int->Int->List Int->Int->Option ((List (AM))×Int)
 | 0,_,_,_,_,_,_=>none
 | k+1,i,u,t,v,d,n=>if v>0 then((Ac.f k d n 3).bind λb=>(if 0≤(wrap64 ((wrap64 (1+b.1))-1))then(if(wrap64 ((wrap64 (1+b.1))-1))<(t.length:Int)then((Av.f k d b.2 u (wrap64 (1+b.1)) (rd t (wrap64 ((wrap64 (1+b.1))-1)))).bind λa=>(if a.1=1 then((Be.f k i (wrap64 (1+b.1))).bind λo=>(if i.length<2199023255552 then((Bz.f k u a.1 a.2.1 a.2.2.1 a.2.2.2.1 a.2.2.2.2.1).bind λp=>(AQ.l0 k (i++[(⟨wrap64 (1+b.1),wrap64 (o+1),(⟨a.1,a.2.1,a.2.2.1,a.2.2.2.1,a.2.2.2.2.1⟩:Et)⟩:AM)]) p (t.set ((wrap64 ((wrap64 (1+b.1))-1)):Int).toNat (wrap64 ((rd t (wrap64 ((wrap64 (1+b.1))-1)))+1))) (wrap64 (v-1)) d a.2.2.2.2.2))else(none)))else((Be.f k i (wrap64 (1+b.1))).bind λq=>(if i.length<2199023255552 then((Bz.f k u a.1 a.2.1 a.2.2.1 a.2.2.2.1 a.2.2.2.2.1).bind λr=>(AQ.l0 k (i++[(⟨wrap64 (1+b.1),wrap64 (q+1),(⟨a.1,a.2.1,a.2.2.1,a.2.2.2.1,a.2.2.2.2.1⟩:Et)⟩:AM)]) r t (wrap64 (v-1)) d a.2.2.2.2.2))else(none)))))else(none))else(none)))else((Ac.f k d n 24).bind λe=>(if e.1=0 then((Ac.f k d e.2 3).bind λj=>((Ac.f k d j.2 4).bind λl=>((AY.f k d l.2).bind λg=>(if i.length<2199023255552 then(some ((i++[(⟨wrap64 (1+j.1),wrap64 (1+l.1),(⟨g.1,g.2.1,g.2.2.1,g.2.2.2.1,g.2.2.2.2.1⟩:Et)⟩:AM)]),g.2.2.2.2.2))else(none)))))else(if e.1=1 then(if(i.length:Int)>0 then((Ac.f k d e.2 (i.length:Int)).bind λc=>((Ac.f k d c.2 4).bind λm=>(if 0≤c.1 then(if c.1<(i.length:Int)then(some ((i.set (c.1:Int).toNat (⟨(Aa i c.1).f0,m.1,(⟨(Aa i c.1).f2.f0,(Aa i c.1).f2.f1,(Aa i c.1).f2.f2,(Aa i c.1).f2.f3,(Aa i c.1).f2.f4⟩:Et)⟩:AM)),m.2))else(none))else(none))))else(some (i,e.2)))else(some (i,e.2)))))
def AQ.f(k:Nat)(b:List Int)(c:Int):Option ((List (AM))×Int):=(Dc.f).bind λd=>((Ac.f k b c 14).bind λa=>(AQ.l0 k (([]:List (AM))) d (([0,0,0]:List Int)) a.1 b a.2))
def AQ.PR:Bool×List (List Nat×List Nat):=(true,[([],[]),([],[]),([],[]),([],[]),([2,3],[2,3]),([4],[4]),([],[]),([1,5,6],[1,5,6]),([7],[7]),([0,8,4],[0,8]),([9,9,0,1,2,3,4,5,6,7,8,9],[0,2,9])])
def AQ.Qs:List Nat:=[0,0,0,0,12,28,0,126,254,511,1023]
theorem AQ.Ls:ED .any (opsOf Tryd.f49 11)=AQ.PR:=by kernel_rfl
theorem AQ.Jt:DU AQ.PR.2 AQ.Qs=true:=by kernel_rfl
theorem AQ.calls(k:Nat)(g:Nat)(i:List Int)(ai:Int)(r1:List (AM))(r2:Int)(w0 w:World)(hI:Af w0 w g i ai)(hB:Below w0.heap.size w0 w)(h:AQ.f k i ai=some (r1,r2)) :
  Calls Tryd.prog 49 #[.pointer (some ⟨g,0,none⟩)] w λe w'=>∃dH:Value,e=.returned (dH)∧Kd.R BT 32 w' w.heap.size (λ_=>True) dH r1∧Af w0 w' g i r2∧Below w0.heap.size w0 w'∧Ai w w' g none:=by
 have fG:=Tryd.underlying30;have fH:=Tryd.underlying32;have HI0:=a_ hI;have HK:=a_ (Ai.refl w g none);have HL:=a_ hB.size;clear hI;have dw:=a_ hB.size;have HB:=a_ hB;clear hB;unfold AQ.f at h;have H:=h;clear h;obtain⟨bJ,aq⟩:∃y_:List (AM),y_=(([]:List (AM))):=⟨_,rfl⟩
 replace H:((Dc.f).bind λaW=>((Ac.f k i ai 14).bind λao=>(AQ.l0 k bJ aW (([0,0,0]:List Int)) ao.1 i ao.2)))=some (r1,r2):=by first|(rw[aq];with_reducible exact H)|(have P:=(Option.bind_some _ _).symm.trans H;rw[aq];with_reducible exact P)|(have P:=(Option.bind_some _ _).symm.trans H;with_reducible exact P)|with_reducible exact H|(rw[aq];exact H)|exact H
 have bp:=a_ aq;clear aq;replace H:=BU H;obtain⟨aW,bK,H⟩:=H;try dsimp only at H
 have A2:=a_ bK;clear bK;obtain⟨cD,ar⟩:∃y_:List Int,y_=(([0,0,0]:List Int)):=⟨_,rfl⟩
 replace H:((Ac.f k i ai 14).bind λao=>(AQ.l0 k bJ aW cD ao.1 i ao.2))=some (r1,r2):=by first|(rw[ar];with_reducible exact H)|(have P:=(Option.bind_some _ _).symm.trans H;rw[ar];with_reducible exact P)|(have P:=(Option.bind_some _ _).symm.trans H;with_reducible exact P)|with_reducible exact H|(rw[ar];exact H)|exact H
 have bq:=a_ ar;clear ar;replace H:=BU H;obtain⟨⟨cz,cA⟩,dr,H⟩:=H;try dsimp only at H
 have A3:=a_ dr;clear dr;have H':=a_ H;clear H;go_enter Tryd.func49,Tryd.ntmps49;go_wp2_with(first|((with_reducible refine Cd (N:=9) rfl ?_);refine Kd.DD BT _ 32 ?hg (N:=9) ?hd (xs:=([]:List (AM))) (inner:=[]) (ok:=λ_=>True) (okp:=λ_=>True) ?hr ?hp (λ_ D=>D) trivial (Below.refl _ _) (Nat.le_refl _) (by simp) ?_;(case hd=>rfl);(case hg=>rfl);(case hr=>first|(go_simp;done)|(go_simp;rfl));(case hp=>exact(Bi.none _ _));intro fI w4 bD E Du bf;clear Du bf;(first|rw[<-bp.o]at bD|(simp only[Int.reduceToNat]at bD;rw[<-bp.o]at bD));have af:=a_ (Kd.AN bD (Cf (w:=w) (g:=g) (row:=none) (EP)));replace HK:=a_ (Ai.trans (EP) (Ai.C4 E g none) (.inl rfl));replace HB:=a_ (BA (Ad) E);replace HI0:=a_ (Af.below (Al) E);clear E bD)|((with_reducible refine BN (f:=62) rfl ?_);refine BR 10 Tryd.func62 #[] ?_;(with_reducible refine(Dc.calls  aW _ A2.o).mono ?_);rintro e w6 ⟨fJ,rfl,aC,E⟩;refine⟨_,rfl,?_⟩;replace af:=a_ (Kd.AZ (BC af.o) E);have ak:=a_ (Kd.AN aC (Cf (w:=w) (g:=g) (row:=none) (EP)));replace HK:=a_ (Ai.trans (EP) (Ai.C4 E g none) (.inl rfl));replace HB:=a_ (BA (Ad) E);replace HI0:=a_ (Af.below (Al) E);(try clear E aC))|((with_reducible refine Cd (N:=11) rfl ?_);refine Kd.DD (Kd.int .i64) _ 3 ?hg (N:=11) ?hd (xs:=([0,0,0]:List Int)) (inner:=[.int .i64 0,.int .i64 0,.int .i64 0]) (ok:=λ_=>True) (okp:=λ_=>True) ?hr ?hp (λ_ D=>D) trivial (Below.refl _ _) (Nat.le_refl _) (by simp) ?_;(case hd=>rfl);(case hg=>rfl);(case hr=>first|(go_simp;done)|(go_simp;rfl));(case hp=>exact(Bi.one (show Kd.M (Kd.int .i64) _ _ _ 0 [.int .i64 0]from rfl) (Bi.one (show Kd.M (Kd.int .i64) _ _ _ 0 [.int .i64 0]from rfl) (Bi.one (show Kd.M (Kd.int .i64) _ _ _ 0 [.int .i64 0]from rfl) (Bi.none _ _)))));intro dI w7 bE E Du bf;clear Du bf;(first|rw[<-bq.o]at bE|(simp only[Int.reduceToNat]at bE;rw[<-bq.o]at bE));replace af:=a_ (Kd.AZ (BC af.o) E);replace ak:=a_ (Kd.AZ (BC ak.o) E);have a8:=a_ (Kd.AN bE (Cf (w:=w) (g:=g) (row:=none) (EP)));replace HK:=a_ (Ai.trans (EP) (Ai.C4 E g none) (.inl rfl));replace HB:=a_ (BA (Ad) E);replace HI0:=a_ (Af.below (Al) E);clear E bE)|((with_reducible refine BN (f:=16) rfl ?_);refine BR 13 Tryd.func16 #[.pointer (some ⟨g,0,none⟩),.int .i64 14] ?_;(with_reducible refine(Ac.calls k g i ai 14 cz cA w0 _ ?q' ?z' A3.o).mono ?_);(case q'=>exact Al);(case z'=>exact Ad);rintro e w9 ⟨rfl,hi,E,D⟩;refine⟨_,rfl,?_⟩;replace af:=a_ (Kd.Aj (Kd.Bq (Af.apart (show Af w0 _ g i ai from Al) (BC af.o) (by decide)) D (λ_ h=>h.2)) (λ_ h=>h.1));replace ak:=a_ (Kd.Aj (Kd.Bq (Af.apart (show Af w0 _ g i ai from Al) (BC ak.o) (by decide)) D (λ_ h=>h.2)) (λ_ h=>h.1));replace a8:=a_ (Kd.Aj (Kd.Bq (Af.apart (show Af w0 _ g i ai from Al) (BC a8.o) (by decide)) D (λ_ h=>h.2)) (λ_ h=>h.1));replace HK:=a_ (Ai.trans (EP) D (.inl rfl));replace HB:=a_ (E);replace HI0:=a_ (hi);(try clear E D hi)));go_loopg [3,4,6] k (λkq v3 v4 v6 w'=>∃(m:List (AM)) (M:List (Ba)) (J:List Int) (Y:Int) (r:Int),v6=.int .i64 Y∧Ae (AQ.l0 kq m M J Y i r=some (r1,r2))∧Ae (kq≤k)∧Ae (Kd.R BT 32 w' w.heap.size (λ_=>True) v3 m)∧Ae (Kd.R Dj 68 w' w.heap.size (λ_=>True) v4 M)∧Ae (Kd.R (Kd.int .i64) 3 w' w.heap.size (λ_=>True) dI J)∧Ae (Af w0 w' g i r)∧Ae (Ai w w' g none)∧Ae (Below w0.heap.size w0 w'))
 case atStart=>exact⟨(bJ),(aW),(cD),(cz),(cA),(Cr),H',⟨Nat.le_refl _⟩,⟨by(with_reducible repeat(first|apply Kd.R_alloc|apply Kd.An|apply Kd.As));exact af.o⟩,⟨by(with_reducible repeat(first|apply Kd.R_alloc|apply Kd.An|apply Kd.As));exact ak.o⟩,⟨by(with_reducible repeat(first|apply Kd.R_alloc|apply Kd.An|apply Kd.As));exact a8.o⟩,⟨Al⟩,⟨EP⟩,⟨Ad⟩⟩
 clear H';try clear c1
 obtain⟨m,M,J,Y,r,rfl,HA,bM,d,q,l,HI0,HK,HB⟩:=hrel;cases gk with
 | zero=>exact absurd HA.o (by simp[AQ.l0])
 | succ k1 =>
  have H:=HA.o
  clear HA
  simp only[AQ.l0]at H
  by_cases Dr:Y>0
  ·rw[if_pos Dr]at H
   have cW:decide (0<Y)=true:=BJ Dr
   clear Dr
   replace H:=BU H
   obtain⟨⟨L,W⟩,bX,H⟩:=H
   try dsimp only at H
   have cH:=a_ bX
   clear bX
   obtain⟨G,ah⟩:∃j_:Int,(wrap64 ((wrap64 (1+L))-1))=j_:=⟨_,rfl⟩
   replace H:(if 0≤(G)then(if(G)<(J.length:Int)then((Av.f k1 i W M (wrap64 (1+L)) (rd J (G))).bind λI=>(if I.1=1 then((Be.f k1 m (wrap64 (1+L))).bind λag=>(if m.length<2199023255552 then((Bz.f k1 M I.1 I.2.1 I.2.2.1 I.2.2.2.1 I.2.2.2.2.1).bind λaj=>(AQ.l0 k1 (m++[(⟨wrap64 (1+L),wrap64 (ag+1),(⟨I.1,I.2.1,I.2.2.1,I.2.2.2.1,I.2.2.2.2.1⟩:Et)⟩:AM)]) aj (J.set ((G):Int).toNat (wrap64 ((rd J (G))+1))) (wrap64 (Y-1)) i I.2.2.2.2.2))else(none)))else((Be.f k1 m (wrap64 (1+L))).bind λaB=>(if m.length<2199023255552 then((Bz.f k1 M I.1 I.2.1 I.2.2.1 I.2.2.2.1 I.2.2.2.2.1).bind λaD=>(AQ.l0 k1 (m++[(⟨wrap64 (1+L),wrap64 (aB+1),(⟨I.1,I.2.1,I.2.2.1,I.2.2.2.1,I.2.2.2.2.1⟩:Et)⟩:AM)]) aD J (wrap64 (Y-1)) i I.2.2.2.2.2))else(none)))))else(none))else(none))=some (r1,r2):=by first|(rw[ah]at H;exact H)|(simp only[ah]at H⊢;exact H)
   (try rw[ah]at cH)
   have dS:(IntKind.i64.wrap ((wrap64 (1+L))-1))=G:=(Cp _).trans ah
   by_cases bN:0≤(G)
   ·rw[if_pos bN]at H
    have fc:decide (0≤(G))=true:=BJ bN
    clear bN
    by_cases bO:(G)<(J.length:Int)
    ·rw[if_pos bO]at H
     have fe:decide ((G)<(J.length:Int))=true:=BJ bO
     clear bO
     replace H:=BU H
     obtain⟨⟨x,y,z,A,B,X⟩,bY,H⟩:=H
     try dsimp only at H
     have dq:=a_ bY
     clear bY
     by_cases bb:x=1
     ·rw[if_pos bb]at H
      have cX:(x==1)=true:=beq_iff_eq.mpr bb
      have cY:(x != 1)=false:=Ff bb
      clear bb
      obtain⟨bj,au⟩:∃y_:List Int,y_=(J.set ((G):Int).toNat (wrap64 ((rd J (G))+1))):=⟨_,rfl⟩
      replace H:((Be.f k1 m (wrap64 (1+L))).bind λag=>(if m.length<2199023255552 then((Bz.f k1 M x y z A B).bind λaj=>(AQ.l0 k1 (m++[(⟨wrap64 (1+L),wrap64 (ag+1),(⟨x,y,z,A,B⟩:Et)⟩:AM)]) aj bj (wrap64 (Y-1)) i X))else(none)))=some (r1,r2):=by first|(rw[au];with_reducible exact H)|(have P:=(Option.bind_some _ _).symm.trans H;rw[au];with_reducible exact P)|(have P:=(Option.bind_some _ _).symm.trans H;with_reducible exact P)|with_reducible exact H|(rw[au];exact H)|exact H
      have cQ:=a_ au
      clear au
      replace H:=BU H
      obtain⟨ag,bZ,H⟩:=H
      try dsimp only at H
      have ea:=a_ bZ
      clear bZ
      by_cases bP:m.length<2199023255552
      ·rw[if_pos bP]at H
       have cN:=a_ bP
       clear bP
       obtain⟨cE,av⟩:∃y_:List (AM),y_=(m++[(⟨wrap64 (1+L),wrap64 (ag+1),(⟨x,y,z,A,B⟩:Et)⟩:AM)]):=⟨_,rfl⟩
       replace H:((Bz.f k1 M x y z A B).bind λaj=>(AQ.l0 k1 cE aj bj (wrap64 (Y-1)) i X))=some (r1,r2):=by first|(rw[av];with_reducible exact H)|(have P:=(Option.bind_some _ _).symm.trans H;rw[av];with_reducible exact P)|(have P:=(Option.bind_some _ _).symm.trans H;with_reducible exact P)|with_reducible exact H|(rw[av];exact H)|exact H
       have cR:=a_ av
       clear av
       replace H:=BU H
       obtain⟨aj,b6,H⟩:=H
       try dsimp only at H
       have bK:=a_ b6
       clear b6
       have H':=a_ H
       clear H
       try go_wp2_with(first|((with_reducible refine BN (f:=16) rfl ?_);refine BR 19 Tryd.func16 #[.pointer (some ⟨g,0,none⟩),.int .i64 3] ?_;(with_reducible refine(Ac.calls k1 g i r 3 L W w0 _ ?q' ?z' cH.o).mono ?_);(case q'=>exact Al);(case z'=>exact Ad);rintro e fP ⟨rfl,hi,E,D⟩;refine⟨_,rfl,?_⟩;replace d:=a_ (Kd.Aj (Kd.Bq (Af.apart (show Af w0 _ g i r from Al) (BC d.o) (by decide)) D (λ_ h=>h.2)) (λ_ h=>h.1));replace q:=a_ (Kd.Aj (Kd.Bq (Af.apart (show Af w0 _ g i r from Al) (BC q.o) (by decide)) D (λ_ h=>h.2)) (λ_ h=>h.1));replace l:=a_ (Kd.Aj (Kd.Bq (Af.apart (show Af w0 _ g i r from Al) (BC l.o) (by decide)) D (λ_ h=>h.2)) (λ_ h=>h.1));replace HK:=a_ (Ai.trans (EP) D (.inl rfl));replace HB:=a_ (E);replace HI0:=a_ (hi);(try clear E D hi);obtain⟨ft,bg,dz⟩:=Kd.Bg l.o;subst dz;have az:0≤((G):Int):=Bu;have aA:(G)<(J.length:Int):=Bu;obtain⟨aG,bw,aV⟩:=Kd.Fe (Kd.AD l.o).2.2 (G) az aA;cases bw;replace az:=eq_true az;replace aA:=eq_true aA;obtain⟨bl,br,dA⟩:=Kd.Bg q.o;subst dA)|((with_reducible refine BN (f:=24) rfl ?_);refine FH (some 29) rfl rfl Tryd.func24 (by kernel_rfl) rfl #[.pointer (some ⟨g,0,none⟩),.slice bl M.length br,.int .i64 (wrap64 (1+L)),.int .i64 (rd J (G))] rfl (by(try simp only[List.map_toArray,List.map_cons,List.map_nil]);first|done|(simp only[ah];rfl)|rfl|(simp only[List.length_drop,List.length_take];rfl)) ?_;(with_reducible refine(Av.calls k1 g i W _ _ M (wrap64 (1+L)) (rd J (G)) x y z A B X w0 _ ?q' ?z' ?y' ?v' dq.o).mono ?_);(case q'=>exact Al);(case z'=>exact Ad);(case y'=>exact Kd.Ih (Af.apart (show Af w0 _ g i W from Al) (BC q.o) (by decide)) (λ_ h_=>h_.2));(case v'=>exact(Kd.AD q.o).2.1);rintro e fQ ⟨rfl,hi,E,D⟩;refine⟨_,rfl,?_⟩;replace d:=a_ (Kd.Aj (Kd.Bq (Af.apart (show Af w0 _ g i W from Al) (BC d.o) (by decide)) D (λ_ h=>h.2)) (λ_ h=>h.1));replace q:=a_ (Kd.Aj (Kd.Bq (Af.apart (show Af w0 _ g i W from Al) (BC q.o) (by decide)) D (λ_ h=>h.2)) (λ_ h=>h.1));replace l:=a_ (Kd.Aj (Kd.Bq (Af.apart (show Af w0 _ g i W from Al) (BC l.o) (by decide)) D (λ_ h=>h.2)) (λ_ h=>h.1));replace HK:=a_ (Ai.trans (EP) D (.inl rfl));replace HB:=a_ (E);replace HI0:=a_ (hi);(try clear E D hi))|((with_reducible refine Cd (N:=8) rfl ?_);refine CE 8 (#[.int .i64 0,.int .i64 0,.int .i64 0,.int .i64 0,.string (⟨#[]⟩:ByteArray)]) 30 ?_;intro c hg fp aU E;have a:=a_ (aU);have cJ:=a_ ((by rw[hg];exact(Cf (w:=w) (g:=g) (row:=none) (EP)):w.heap.size≤c));have cI:=a_ ((Nat.le_trans dw.o (by rw[hg];exact(Cf (w:=w) (g:=g) (row:=none) (EP)):w.heap.size≤c):w0.heap.size≤c));have al:=a_ ((by rw[hg];exact Nat.ne_of_lt (Af.lt (show Af w0 _ g i X from Al)):g≠c));have an:=a_ ((by rw[hg];exact Nat.ne_of_gt (Af.lt (show Af w0 _ g i X from Al)):c≠g));replace d:=a_ (Kd.AZ (BC d.o) E);replace q:=a_ (Kd.AZ (BC q.o) E);replace l:=a_ (Kd.AZ (BC l.o) E);replace HI0:=a_ (Af.below (Al) E);replace HK:=a_ (Ai.trans (EP) (Ai.C4 E g none) (.inl rfl));replace HB:=a_ (BA (Ad) E);clear E aU hg;have fi:=an.o;have fk:=al.o;obtain⟨eN,eO,eP,eQ,eR,ej,ek,en,eo,ep⟩:=Cy a.o)|((with_reducible refine CS (t:=30) (p:=8) rfl ?_);refine Cx (t:=30) (p:=8) (v:=?m') (w1:=(((((fp.setCell ⟨c,0,none⟩ (.int .i64 x)).setCell ⟨c,1,none⟩ (.int .i64 y)).setCell ⟨c,2,none⟩ (.int .i64 z)).setCell ⟨c,3,none⟩ (.int .i64 A)).setCell ⟨c,4,none⟩ (.string B))) ?hg ?ho ?hn ?hr ?_;(case ho=>rfl);(case hg=>rfl);(case hn=>rfl);(case hr=>first|(go_simp;done)|(go_simp;rfl));intro aR hw;replace d:Ae (Kd.R BT 32 aR w.heap.size (λ_=>True) u3 m):=⟨(by rw[hw];exact(by(with_reducible repeat(first|apply Kd.R_alloc|apply Kd.An|apply Kd.As));exact Kd.Aj (IU (g:=c) (Kd.AF d.o a.o (by decide)) (λ_ D=>D.2) (.int .i64 x) (.int .i64 y) (.int .i64 z) (.int .i64 A) (.string B)) (λ_ D=>trivial)))⟩;replace q:Ae (Kd.R Dj 68 aR w.heap.size (λ_=>True) (.slice bl M.length br) M):=⟨(by rw[hw];exact(by(with_reducible repeat(first|apply Kd.R_alloc|apply Kd.An|apply Kd.As));exact Kd.Aj (IU (g:=c) (Kd.AF q.o a.o (by decide)) (λ_ D=>D.2) (.int .i64 x) (.int .i64 y) (.int .i64 z) (.int .i64 A) (.string B)) (λ_ D=>trivial)))⟩;replace l:Ae (Kd.R (Kd.int .i64) 3 aR w.heap.size (λ_=>True) (.slice (some aG) J.length bg) J):=⟨(by rw[hw];exact(by(with_reducible repeat(first|apply Kd.R_alloc|apply Kd.An|apply Kd.As));exact Kd.Aj (IU (g:=c) (Kd.AF l.o a.o (by decide)) (λ_ D=>D.2) (.int .i64 x) (.int .i64 y) (.int .i64 z) (.int .i64 A) (.string B)) (λ_ D=>trivial)))⟩;replace a:Ae (aR.heap[c]?=some (.cells #[.int .i64 x,.int .i64 y,.int .i64 z,.int .i64 A,.string B] 30 (0,0))):=⟨(by rw[hw];exact(Gu a.o))⟩;replace HI0:Ae (Af w0 aR g i X):=⟨(by rw[hw];exact(Al))⟩;replace HK:Ae (Ai w aR g none):=⟨(by rw[hw];exact(DP HK.o))⟩;replace HB:Ae (Below w0.heap.size w0 aR):=⟨(by rw[hw];exact(Ad))⟩;clear hw;obtain⟨eS,eT,eU,eV,eW,er,et,eu,ev,ew⟩:=Cy a.o;have bH:0≤((G):Int):=Bu;have bI:(G)<(J.length:Int):=Bu;obtain⟨cV,dy,bG⟩:=Kd.Fe (Kd.AD l.o).2.2 (G) bH bI;obtain rfl:aG=cV:=(by injection dy);replace bH:=eq_true bH;replace bI:=eq_true bI;have dj:0≤((G):Int):=Bu;have dm:((G):Int)<((J.length:Int):Int):=Bu;obtain⟨aT,fD,cq,cv,dF,fB,ck⟩:=Kd.Im l.o (by omega);(first|cases cq|(injection cq with aH de dd;(first|subst aH|(injection aH with aH;subst aH));subst dd;clear de));have du:=a_ cv;have fx:=a_ ck;clear cv dF ck;(first|simp only[add_plain]at aV|skip);(first|simp only[add_plain]at bG|skip);obtain⟨dT,dK⟩:=Kd.KX 0 l.o ((G):Int) dj dm;replace dj:=eq_true dj;replace dm:=eq_true dm;obtain⟨fm,fo⟩:=Kd.KX 0 l.o ((G):Int) (Bu) (Bu);have bn:=Kd.OZ l.o ((G):Int) (wrap64 ((rd J (G))+1)))|((with_reducible refine CS (t:=3) (p:=42) rfl ?_);refine Cx (t:=3) (p:=42) (v:=?vo_w31) (w1:=(aR.setCell ⟨aT,((G):Int).toNat,none⟩ (.int .i64 (wrap64 ((rd J (G))+1))))) ?hg ?ho ?hn ?hr ?_;(case ho=>rfl);(case hg=>rfl);(case hn=>rfl);(case hr=>first|(go_simp;done)|(go_simp;rfl));intro bW hw;have hg:aR.grownBy bW (some aT):=(by rw[hw];exact bn.2);have bF:Kd.R (Kd.int .i64) 3 bW w.heap.size (λ_=>True) (.slice (some ⟨aT,0,none⟩) J.length bg) bj:=(by rw[hw,cQ.o];exact bn.1);clear bn;replace d:=a_ (Kd.Df (v:=(.slice (some ⟨aT,0,none⟩) J.length bg)) (BC d.o) (Kd.C9 l.o) (by decide) hg);replace q:=a_ (Kd.Df (v:=(.slice (some ⟨aT,0,none⟩) J.length bg)) (BC q.o) (Kd.C9 l.o) (by decide) hg);replace HI0:=a_ (Af.grown (Al) hg (Af.FX HI0.o l.o (by decide)));replace a:=a_ (AJ (g:=c) (o:=.cells #[.int .i64 x,.int .i64 y,.int .i64 z,.int .i64 A,.string B] 30 (0,0)) (Bp a.o) hg (Kd.Ez l.o a.o (by decide)));replace HB:=a_ ((by rw[hw];exact EK (HB.o) (Nat.le_trans HL.o du.o):Below w0.heap.size w0 bW));replace HK:=a_ (Ai.trans (DP HK.o) (Ai.Dy hg g) (Kd.GZ l.o));replace l:=a_ (bF);clear hg hw bF))
       replace d:=a_ (Kd.As d.o)
       replace q:=a_ (Kd.As q.o)
       replace l:=a_ (Kd.As l.o)
       replace a:=a_ (DA a.o)
       replace HI0:=a_ (Af.drew HI0.o)
       replace HK:=a_ (Gm HK.o)
       replace HB:=a_ (Ay HB.o)
       obtain⟨cg,cn,cr⟩:=Kd.Bg d.o
       (first|subst cr|(injection cr with bx df bz;have dg:=bx.symm;have dh:=bz.symm;clear bx df bz;subst dg;subst dh))
       refine Ch (n:=11) (S:=λw'=>w'.cell? ⟨c,0,none⟩=some (.int .i64 x)∧w'.cell? ⟨c,1,none⟩=some (.int .i64 y)∧w'.cell? ⟨c,2,none⟩=some (.int .i64 z)∧w'.cell? ⟨c,3,none⟩=some (.int .i64 A)∧w'.cell? ⟨c,4,none⟩=some (.string B)) (ds:=[]) #[false,false,false,false,false,false,false,false,false,false,false] (by kernel_rfl) rfl rfl ⟨(AO a.o 0).trans rfl,(AO a.o 1).trans rfl,(AO a.o 2).trans rfl,(AO a.o 3).trans rfl,(AO a.o 4).trans rfl⟩ (λT=>?_);refine BZ AQ.Ls AQ.Jt (λHT_ HW_=>?_)
       generalize bW.drew=fR at d q l a HI0 HK HB T⊢
       refine A_ 0 43 ?_
       refine A_ 1 44 ?_
       refine A_ 2 45 ?_
       refine A_ 3 46 ?_
       refine Ql 6 49 T ?_
       refine EU 4 47 (λK hK=>?_)
       refine Dp Tryd.func63 (by kernel_rfl) rfl #[.slice cg m.length cn,.int .i64 (wrap64 (1+L))] (by rfl) rfl rfl Lz ?_
       with_reducible refine(Be.calls k1 _ _ m (wrap64 (1+L)) ag _ ?q' ?z' ea.o).mono ?_
       (case q'=>exact Ft (Kd.AD d.o).2.2)
       (case z'=>exact(Kd.AD d.o).2.1)
       rintro e w' ⟨rfl,⟨nd,rfl⟩⟩
       refine⟨_,rfl,?_⟩
       refine hK.out _ _ ⟨(AO a.o 0).trans rfl,(AO a.o 1).trans rfl,(AO a.o 2).trans rfl,(AO a.o 3).trans rfl,(AO a.o 4).trans rfl⟩ (λT=>?_)
       clear hK K
       refine Ea 47 ?_
       refine A_ 5 48 ?_
       refine A_ 7 50 ?_
       refine EU 8 51 (λK hK=>?_)
       refine F4 (w1:=?_) (v:=?_) (by rfl) rfl ?_ ?_
       rotate_left 2
       ·go_simp
        constructor
        ·rfl
        ·rfl
       refine hK.out _ _ ⟨(AO (Eb a.o _) 0).trans rfl,(AO (Eb a.o _) 1).trans rfl,(AO (Eb a.o _) 2).trans rfl,(AO (Eb a.o _) 3).trans rfl,(AO (Eb a.o _) 4).trans rfl⟩ (λT=>?_)
       clear hK K
       refine Ea 51 ?_
       refine EU 9 52 (λK hK=>?_)
       refine Kd.E7 BT w.heap.size (by rfl) (.tmp 43) (.tmp 51) 24 32 (.agg #[(.int .i64 0),(.int .i64 0),(.int .i64 0),(.int .i64 0),(.int .i64 0),(.int .i64 0),(.string ⟨#[]⟩)]) 64 rfl Tryd.underlying24 C7 rfl (by decide) (by omega) (.slice cg m.length cn) m (⟨wrap64 (1+L),wrap64 (ag+1),(⟨x,y,z,A,B⟩:Et)⟩:AM) [.int .i64 (wrap64 (1+L)),.int .i64 (wrap64 (ag+1)),.int .i64 x,.int .i64 y,.int .i64 z,.int .i64 A,.string B] (λ_=>True) (λ_=>False) rfl rfl ?aP (λ_ D=>D.elim) ?aF ?aO (Below.refl _ _) ?aS ?aL ?_
       (case aP=>exact Ex _ _ _ (⟨wrap64 (1+L),wrap64 (ag+1),(⟨x,y,z,A,B⟩:Et)⟩:AM))
       (case aF=>exact(λ_ _=>trivial))
       (case aO=>exact(BC d.o))
       (case aS=>exact(Cf (w:=w) (g:=g) (row:=none) (DP HK.o)))
       (case aL=>have:=cN.o;omega)
       intro fK fS ho E hg bA
       rw[<-cR.o]at ho
       have n0_:=a_ (Kd.Df (BC q.o) (Kd.C9 (BC d.o)) (by decide) hg)
       have aI:=a_ (Kd.Df (BC l.o) (Kd.C9 (BC d.o)) (by decide) hg)
       have aJ:=a_ (Af.grown (Al) hg (Af.FX HI0.o d.o (by decide)))
       have aK:=a_ (AJ (g:=c) (o:=.cells #[.int .i64 x,.int .i64 y,.int .i64 z,.int .i64 A,.string B] 30 (0,0)) (Bp a.o) hg (Kd.Ez d.o a.o (by decide)))
       have aM:=a_ (FU (Ad) HL.o E)
       have aN:=a_ (Ai.trans (DP HK.o) (Ai.Dy hg g) (Kd.GZ d.o))
       have aQ:=a_ (ho)
       clear q
       clear l
       clear HI0
       clear a
       clear HB
       clear HK
       clear d
       have q:=n0_
       have l:=aI
       have HI0:=aJ
       have a:=aK
       have HB:=aM
       have HK:=aN
       have a9:=aQ
       clear n0_ aI aJ aK aM aN aQ
       clear ho E hg bA
       refine hK.out _ _ ⟨(AO a.o 0).trans rfl,(AO a.o 1).trans rfl,(AO a.o 2).trans rfl,(AO a.o 3).trans rfl,(AO a.o 4).trans rfl⟩ (λT=>?_)
       clear hK K
       refine Ea 52 ?_
       refine A_ 10 3 ?_
       refine CT (CU HT_.o (by kernel_rfl)) ?_
       obtain⟨eX,eY,eZ,e0,e1,ey,ez,eA,eB,eC⟩:=Cy a.o
       try go_wp2_with(first|((with_reducible refine BN (f:=45) rfl ?_);refine BR 55 Tryd.func45 #[.slice bl M.length br,.agg #[.int .i64 x,.int .i64 y,.int .i64 z,.int .i64 A,.string B]] ?_;(with_reducible refine(Bz.calls k1 _ _ M x y z A B aj _ ?q' ?z' bK.o).mono ?_);(case q'=>exact Ft (Kd.AD q.o).2.2);(case z'=>exact(Kd.AD q.o).2.1);rintro e fT ⟨fL,rfl,aC,E⟩;refine⟨_,rfl,?_⟩;replace l:=a_ (Kd.AZ (BC l.o) E);replace a9:=a_ (Kd.AZ (BC a9.o) E);have cK:=a_ (Kd.AN (Kd.DC aC (Kd.DQ (BC q.o))) (Cf (w:=w) (g:=g) (row:=none) (DP HK.o)));replace q:=a_ (Kd.CB (BC q.o) (Kd.BO aC) E);replace HK:=a_ (Ai.trans (DP HK.o) (Ai.C4 E g none) (.inl rfl));replace HB:=a_ (BA (Ad) E);replace HI0:=a_ (Af.below (Al) E);replace a:=a_ (C3 a.o E);(try clear E aC)))
       go_roundg k1
       case measure=>have:=bM.o;omega
       case rel=>exact⟨(cE),(aj),(bj),(wrap64 (Y-1)),(X),(Cr),H',⟨by have:=bM.o;omega⟩,⟨by(with_reducible repeat(first|apply Kd.R_alloc|apply Kd.An|apply Kd.As));exact a9.o⟩,⟨by(with_reducible repeat(first|apply Kd.R_alloc|apply Kd.An|apply Kd.As));exact Kd.Aj cK.o (λ_ D=>trivial)⟩,⟨by(with_reducible repeat(first|apply Kd.R_alloc|apply Kd.An|apply Kd.As));exact l.o⟩,⟨Al⟩,⟨DP HK.o⟩,⟨Ad⟩⟩
      ·rw[if_neg bP]at H
       exact absurd H (by simp)
     ·rw[if_neg bb]at H
      have cX:(x==1)=false:=Dq bb
      have cY:(x != 1)=true:=bne_iff_ne.mpr bb
      replace H:=BU H
      obtain⟨aB,b7,H⟩:=H
      try dsimp only at H
      have ec:=a_ b7
      clear b7
      by_cases bQ:m.length<2199023255552
      ·rw[if_pos bQ]at H
       have cO:=a_ bQ
       clear bQ
       obtain⟨cF,aw⟩:∃y_:List (AM),y_=(m++[(⟨wrap64 (1+L),wrap64 (aB+1),(⟨x,y,z,A,B⟩:Et)⟩:AM)]):=⟨_,rfl⟩
       replace H:((Bz.f k1 M x y z A B).bind λaD=>(AQ.l0 k1 cF aD J (wrap64 (Y-1)) i X))=some (r1,r2):=by first|(rw[aw];with_reducible exact H)|(have P:=(Option.bind_some _ _).symm.trans H;rw[aw];with_reducible exact P)|(have P:=(Option.bind_some _ _).symm.trans H;with_reducible exact P)|with_reducible exact H|(rw[aw];exact H)|exact H
       have cS:=a_ aw
       clear aw
       replace H:=BU H
       obtain⟨aD,b8,H⟩:=H
       try dsimp only at H
       have ed:=a_ b8
       clear b8
       have H':=a_ H
       clear H
       try go_wp2_with(first|((with_reducible refine BN (f:=16) rfl ?_);refine BR 19 Tryd.func16 #[.pointer (some ⟨g,0,none⟩),.int .i64 3] ?_;(with_reducible refine(Ac.calls k1 g i r 3 L W w0 _ ?q' ?z' cH.o).mono ?_);(case q'=>exact Al);(case z'=>exact Ad);rintro e fU ⟨rfl,hi,E,D⟩;refine⟨_,rfl,?_⟩;replace d:=a_ (Kd.Aj (Kd.Bq (Af.apart (show Af w0 _ g i r from Al) (BC d.o) (by decide)) D (λ_ h=>h.2)) (λ_ h=>h.1));replace q:=a_ (Kd.Aj (Kd.Bq (Af.apart (show Af w0 _ g i r from Al) (BC q.o) (by decide)) D (λ_ h=>h.2)) (λ_ h=>h.1));replace l:=a_ (Kd.Aj (Kd.Bq (Af.apart (show Af w0 _ g i r from Al) (BC l.o) (by decide)) D (λ_ h=>h.2)) (λ_ h=>h.1));replace HK:=a_ (Ai.trans (EP) D (.inl rfl));replace HB:=a_ (E);replace HI0:=a_ (hi);(try clear E D hi);obtain⟨fu,dx,dB⟩:=Kd.Bg l.o;subst dB;have az:0≤((G):Int):=Bu;have aA:(G)<(J.length:Int):=Bu;obtain⟨aG,bw,aV⟩:=Kd.Fe (Kd.AD l.o).2.2 (G) az aA;cases bw;replace az:=eq_true az;replace aA:=eq_true aA;obtain⟨bm,bu,dC⟩:=Kd.Bg q.o;subst dC)|((with_reducible refine BN (f:=24) rfl ?_);refine FH (some 29) rfl rfl Tryd.func24 (by kernel_rfl) rfl #[.pointer (some ⟨g,0,none⟩),.slice bm M.length bu,.int .i64 (wrap64 (1+L)),.int .i64 (rd J (G))] rfl (by(try simp only[List.map_toArray,List.map_cons,List.map_nil]);first|done|(simp only[ah];rfl)|rfl|(simp only[List.length_drop,List.length_take];rfl)) ?_;(with_reducible refine(Av.calls k1 g i W _ _ M (wrap64 (1+L)) (rd J (G)) x y z A B X w0 _ ?q' ?z' ?y' ?v' dq.o).mono ?_);(case q'=>exact Al);(case z'=>exact Ad);(case y'=>exact Kd.Ih (Af.apart (show Af w0 _ g i W from Al) (BC q.o) (by decide)) (λ_ h_=>h_.2));(case v'=>exact(Kd.AD q.o).2.1);rintro e fV ⟨rfl,hi,E,D⟩;refine⟨_,rfl,?_⟩;replace d:=a_ (Kd.Aj (Kd.Bq (Af.apart (show Af w0 _ g i W from Al) (BC d.o) (by decide)) D (λ_ h=>h.2)) (λ_ h=>h.1));replace q:=a_ (Kd.Aj (Kd.Bq (Af.apart (show Af w0 _ g i W from Al) (BC q.o) (by decide)) D (λ_ h=>h.2)) (λ_ h=>h.1));replace l:=a_ (Kd.Aj (Kd.Bq (Af.apart (show Af w0 _ g i W from Al) (BC l.o) (by decide)) D (λ_ h=>h.2)) (λ_ h=>h.1));replace HK:=a_ (Ai.trans (EP) D (.inl rfl));replace HB:=a_ (E);replace HI0:=a_ (hi);(try clear E D hi))|((with_reducible refine Cd (N:=8) rfl ?_);refine CE 8 (#[.int .i64 0,.int .i64 0,.int .i64 0,.int .i64 0,.string (⟨#[]⟩:ByteArray)]) 30 ?_;intro c hg a7 aU E;have a:=a_ (aU);have cJ:=a_ ((by rw[hg];exact(Cf (w:=w) (g:=g) (row:=none) (EP)):w.heap.size≤c));have cI:=a_ ((Nat.le_trans dw.o (by rw[hg];exact(Cf (w:=w) (g:=g) (row:=none) (EP)):w.heap.size≤c):w0.heap.size≤c));have al:=a_ ((by rw[hg];exact Nat.ne_of_lt (Af.lt (show Af w0 _ g i X from Al)):g≠c));have an:=a_ ((by rw[hg];exact Nat.ne_of_gt (Af.lt (show Af w0 _ g i X from Al)):c≠g));replace d:=a_ (Kd.AZ (BC d.o) E);replace q:=a_ (Kd.AZ (BC q.o) E);replace l:=a_ (Kd.AZ (BC l.o) E);replace HI0:=a_ (Af.below (Al) E);replace HK:=a_ (Ai.trans (EP) (Ai.C4 E g none) (.inl rfl));replace HB:=a_ (BA (Ad) E);clear E aU hg;have fj:=an.o;have fl:=al.o;obtain⟨e2,e3,e4,e5,e6,eD,eE,eF,eG,eH⟩:=Cy a.o))
       have n0_:Ae (Kd.R BT 32 (((((a7.setCell ⟨c,0,none⟩ (.int .i64 x)).setCell ⟨c,1,none⟩ (.int .i64 y)).setCell ⟨c,2,none⟩ (.int .i64 z)).setCell ⟨c,3,none⟩ (.int .i64 A)).setCell ⟨c,4,none⟩ (.string B)) w.heap.size (λ_=>True) u3 m):=⟨by(with_reducible repeat(first|apply Kd.R_alloc|apply Kd.An|apply Kd.As));exact Kd.Aj (IU (g:=c) (Kd.AF d.o a.o (by decide)) (λ_ D=>D.2) (.int .i64 x) (.int .i64 y) (.int .i64 z) (.int .i64 A) (.string B)) (λ_ D=>trivial)⟩
       have aI:Ae (Kd.R Dj 68 (((((a7.setCell ⟨c,0,none⟩ (.int .i64 x)).setCell ⟨c,1,none⟩ (.int .i64 y)).setCell ⟨c,2,none⟩ (.int .i64 z)).setCell ⟨c,3,none⟩ (.int .i64 A)).setCell ⟨c,4,none⟩ (.string B)) w.heap.size (λ_=>True) (.slice bm M.length bu) M):=⟨by(with_reducible repeat(first|apply Kd.R_alloc|apply Kd.An|apply Kd.As));exact Kd.Aj (IU (g:=c) (Kd.AF q.o a.o (by decide)) (λ_ D=>D.2) (.int .i64 x) (.int .i64 y) (.int .i64 z) (.int .i64 A) (.string B)) (λ_ D=>trivial)⟩
       have aJ:Ae (Kd.R (Kd.int .i64) 3 (((((a7.setCell ⟨c,0,none⟩ (.int .i64 x)).setCell ⟨c,1,none⟩ (.int .i64 y)).setCell ⟨c,2,none⟩ (.int .i64 z)).setCell ⟨c,3,none⟩ (.int .i64 A)).setCell ⟨c,4,none⟩ (.string B)) w.heap.size (λ_=>True) (.slice (some aG) J.length dx) J):=⟨by(with_reducible repeat(first|apply Kd.R_alloc|apply Kd.An|apply Kd.As));exact Kd.Aj (IU (g:=c) (Kd.AF l.o a.o (by decide)) (λ_ D=>D.2) (.int .i64 x) (.int .i64 y) (.int .i64 z) (.int .i64 A) (.string B)) (λ_ D=>trivial)⟩
       have aK:Ae ((((((a7.setCell ⟨c,0,none⟩ (.int .i64 x)).setCell ⟨c,1,none⟩ (.int .i64 y)).setCell ⟨c,2,none⟩ (.int .i64 z)).setCell ⟨c,3,none⟩ (.int .i64 A)).setCell ⟨c,4,none⟩ (.string B)).heap[c]?=some (.cells #[.int .i64 x,.int .i64 y,.int .i64 z,.int .i64 A,.string B] 30 (0,0))):=⟨Gu a.o⟩
       have aM:Ae (Af w0 (((((a7.setCell ⟨c,0,none⟩ (.int .i64 x)).setCell ⟨c,1,none⟩ (.int .i64 y)).setCell ⟨c,2,none⟩ (.int .i64 z)).setCell ⟨c,3,none⟩ (.int .i64 A)).setCell ⟨c,4,none⟩ (.string B)) g i X):=⟨Al⟩
       have aN:Ae (Ai w (((((a7.setCell ⟨c,0,none⟩ (.int .i64 x)).setCell ⟨c,1,none⟩ (.int .i64 y)).setCell ⟨c,2,none⟩ (.int .i64 z)).setCell ⟨c,3,none⟩ (.int .i64 A)).setCell ⟨c,4,none⟩ (.string B)) g none):=⟨DP HK.o⟩
       have aQ:Ae (Below w0.heap.size w0 (((((a7.setCell ⟨c,0,none⟩ (.int .i64 x)).setCell ⟨c,1,none⟩ (.int .i64 y)).setCell ⟨c,2,none⟩ (.int .i64 z)).setCell ⟨c,3,none⟩ (.int .i64 A)).setCell ⟨c,4,none⟩ (.string B))):=⟨Ad⟩
       (try clear d)
       (try clear q)
       (try clear l)
       (try clear a)
       (try clear HI0)
       (try clear HK)
       (try clear HB)
       generalize (((((a7.setCell ⟨c,0,none⟩ (.int .i64 x)).setCell ⟨c,1,none⟩ (.int .i64 y)).setCell ⟨c,2,none⟩ (.int .i64 z)).setCell ⟨c,3,none⟩ (.int .i64 A)).setCell ⟨c,4,none⟩ (.string B))=fq at n0_ aI aJ aK aM aN aQ⊢
       have d:=n0_
       have q:=aI
       have l:=aJ
       have a:=aK
       have HI0:=aM
       have HK:=aN
       have HB:=aQ
       clear n0_ aI aJ aK aM aN aQ
       replace d:=a_ (Kd.As d.o)
       replace q:=a_ (Kd.As q.o)
       replace l:=a_ (Kd.As l.o)
       replace a:=a_ (DA a.o)
       replace HI0:=a_ (Af.drew HI0.o)
       replace HK:=a_ (Gm HK.o)
       replace HB:=a_ (Ay HB.o)
       obtain⟨cj,cp,ct⟩:=Kd.Bg d.o
       (first|subst ct|(injection ct with bx df bz;have dg:=bx.symm;have dh:=bz.symm;clear bx df bz;subst dg;subst dh))
       refine Ch (n:=11) (S:=λw'=>w'.cell? ⟨c,0,none⟩=some (.int .i64 x)∧w'.cell? ⟨c,1,none⟩=some (.int .i64 y)∧w'.cell? ⟨c,2,none⟩=some (.int .i64 z)∧w'.cell? ⟨c,3,none⟩=some (.int .i64 A)∧w'.cell? ⟨c,4,none⟩=some (.string B)) (ds:=[]) #[false,false,false,false,false,false,false,false,false,false,false] (by kernel_rfl) rfl rfl ⟨(AO a.o 0).trans rfl,(AO a.o 1).trans rfl,(AO a.o 2).trans rfl,(AO a.o 3).trans rfl,(AO a.o 4).trans rfl⟩ (λT=>?_);refine BZ AQ.Ls AQ.Jt (λHT_ HW_=>?_)
       generalize fq.drew=fW at d q l a HI0 HK HB T⊢
       refine A_ 0 43 ?_
       refine A_ 1 44 ?_
       refine A_ 2 45 ?_
       refine A_ 3 46 ?_
       refine Ql 6 49 T ?_
       refine EU 4 47 (λK hK=>?_)
       refine Dp Tryd.func63 (by kernel_rfl) rfl #[.slice cj m.length cp,.int .i64 (wrap64 (1+L))] (by rfl) rfl rfl Lz ?_
       with_reducible refine(Be.calls k1 _ _ m (wrap64 (1+L)) aB _ ?q' ?z' ec.o).mono ?_
       (case q'=>exact Ft (Kd.AD d.o).2.2)
       (case z'=>exact(Kd.AD d.o).2.1)
       rintro e w' ⟨rfl,⟨nd,rfl⟩⟩
       refine⟨_,rfl,?_⟩
       refine hK.out _ _ ⟨(AO a.o 0).trans rfl,(AO a.o 1).trans rfl,(AO a.o 2).trans rfl,(AO a.o 3).trans rfl,(AO a.o 4).trans rfl⟩ (λT=>?_)
       clear hK K
       refine Ea 47 ?_
       refine A_ 5 48 ?_
       refine A_ 7 50 ?_
       refine EU 8 51 (λK hK=>?_)
       refine F4 (w1:=?_) (v:=?_) (by rfl) rfl ?_ ?_
       rotate_left 2
       ·go_simp
        constructor
        ·rfl
        ·rfl
       refine hK.out _ _ ⟨(AO (Eb a.o _) 0).trans rfl,(AO (Eb a.o _) 1).trans rfl,(AO (Eb a.o _) 2).trans rfl,(AO (Eb a.o _) 3).trans rfl,(AO (Eb a.o _) 4).trans rfl⟩ (λT=>?_)
       clear hK K
       refine Ea 51 ?_
       refine EU 9 52 (λK hK=>?_)
       refine Kd.E7 BT w.heap.size (by rfl) (.tmp 43) (.tmp 51) 24 32 (.agg #[(.int .i64 0),(.int .i64 0),(.int .i64 0),(.int .i64 0),(.int .i64 0),(.int .i64 0),(.string ⟨#[]⟩)]) 64 rfl Tryd.underlying24 C7 rfl (by decide) (by omega) (.slice cj m.length cp) m (⟨wrap64 (1+L),wrap64 (aB+1),(⟨x,y,z,A,B⟩:Et)⟩:AM) [.int .i64 (wrap64 (1+L)),.int .i64 (wrap64 (aB+1)),.int .i64 x,.int .i64 y,.int .i64 z,.int .i64 A,.string B] (λ_=>True) (λ_=>False) rfl rfl ?aP (λ_ D=>D.elim) ?aF ?aO (Below.refl _ _) ?aS ?aL ?_
       (case aP=>exact Ex _ _ _ (⟨wrap64 (1+L),wrap64 (aB+1),(⟨x,y,z,A,B⟩:Et)⟩:AM))
       (case aF=>exact(λ_ _=>trivial))
       (case aO=>exact(BC d.o))
       (case aS=>exact(Cf (w:=w) (g:=g) (row:=none) (DP HK.o)))
       (case aL=>have:=cO.o;omega)
       intro fM fX ho E hg bA
       rw[<-cS.o]at ho
       have n0_:=a_ (Kd.Df (BC q.o) (Kd.C9 (BC d.o)) (by decide) hg)
       have aI:=a_ (Kd.Df (BC l.o) (Kd.C9 (BC d.o)) (by decide) hg)
       have aJ:=a_ (Af.grown (Al) hg (Af.FX HI0.o d.o (by decide)))
       have aK:=a_ (AJ (g:=c) (o:=.cells #[.int .i64 x,.int .i64 y,.int .i64 z,.int .i64 A,.string B] 30 (0,0)) (Bp a.o) hg (Kd.Ez d.o a.o (by decide)))
       have aM:=a_ (FU (Ad) HL.o E)
       have aN:=a_ (Ai.trans (DP HK.o) (Ai.Dy hg g) (Kd.GZ d.o))
       have aQ:=a_ (ho)
       clear q
       clear l
       clear HI0
       clear a
       clear HB
       clear HK
       clear d
       have q:=n0_
       have l:=aI
       have HI0:=aJ
       have a:=aK
       have HB:=aM
       have HK:=aN
       have ba:=aQ
       clear n0_ aI aJ aK aM aN aQ
       clear ho E hg bA
       refine hK.out _ _ ⟨(AO a.o 0).trans rfl,(AO a.o 1).trans rfl,(AO a.o 2).trans rfl,(AO a.o 3).trans rfl,(AO a.o 4).trans rfl⟩ (λT=>?_)
       clear hK K
       refine Ea 52 ?_
       refine A_ 10 3 ?_
       refine CT (CU HT_.o (by kernel_rfl)) ?_
       obtain⟨e7,e8,e9,fa,fb,eI,eJ,eK,eL,eM⟩:=Cy a.o
       try go_wp2_with(first|((with_reducible refine BN (f:=45) rfl ?_);refine BR 55 Tryd.func45 #[.slice bm M.length bu,.agg #[.int .i64 x,.int .i64 y,.int .i64 z,.int .i64 A,.string B]] ?_;(with_reducible refine(Bz.calls k1 _ _ M x y z A B aD _ ?q' ?z' ed.o).mono ?_);(case q'=>exact Ft (Kd.AD q.o).2.2);(case z'=>exact(Kd.AD q.o).2.1);rintro e fY ⟨fN,rfl,aC,E⟩;refine⟨_,rfl,?_⟩;replace l:=a_ (Kd.AZ (BC l.o) E);replace ba:=a_ (Kd.AZ (BC ba.o) E);have cL:=a_ (Kd.AN (Kd.DC aC (Kd.DQ (BC q.o))) (Cf (w:=w) (g:=g) (row:=none) (DP HK.o)));replace q:=a_ (Kd.CB (BC q.o) (Kd.BO aC) E);replace HK:=a_ (Ai.trans (DP HK.o) (Ai.C4 E g none) (.inl rfl));replace HB:=a_ (BA (Ad) E);replace HI0:=a_ (Af.below (Al) E);replace a:=a_ (C3 a.o E);(try clear E aC)))
       go_roundg k1
       case measure=>have:=bM.o;omega
       case rel=>exact⟨(cF),(aD),(J),(wrap64 (Y-1)),(X),(Cr),H',⟨by have:=bM.o;omega⟩,⟨by(with_reducible repeat(first|apply Kd.R_alloc|apply Kd.An|apply Kd.As));exact ba.o⟩,⟨by(with_reducible repeat(first|apply Kd.R_alloc|apply Kd.An|apply Kd.As));exact Kd.Aj cL.o (λ_ D=>trivial)⟩,⟨by(with_reducible repeat(first|apply Kd.R_alloc|apply Kd.An|apply Kd.As));exact l.o⟩,⟨Al⟩,⟨DP HK.o⟩,⟨Ad⟩⟩
      ·rw[if_neg bQ]at H
       exact absurd H (by simp)
    ·rw[if_neg bO]at H
     exact absurd H (by simp)
   ·rw[if_neg bN]at H
    exact absurd H (by simp)
  ·rw[if_neg Dr]at H
   have cW:decide (0<Y)=false:=C1 Dr
   clear Dr
   replace H:=BU H
   obtain⟨⟨U,Z⟩,b9,H⟩:=H
   try dsimp only at H
   have bL:=a_ b9
   clear b9
   by_cases bc:U=0
   ·rw[if_pos bc]at H
    have cZ:(U==0)=true:=beq_iff_eq.mpr bc
    have c0:(U != 0)=false:=Ff bc
    clear bc
    replace H:=BU H
    obtain⟨⟨aX,aY⟩,b_,H⟩:=H
    try dsimp only at H
    have ee:=a_ b_
    clear b_
    replace H:=BU H
    obtain⟨⟨aZ,a0⟩,ca,H⟩:=H
    try dsimp only at H
    have ef:=a_ ca
    clear ca
    replace H:=BU H
    obtain⟨⟨a1,a2,a3,a4,a5,cB⟩,cb,H⟩:=H
    try dsimp only at H
    have eg:=a_ cb
    clear cb
    by_cases bR:m.length<2199023255552
    ·rw[if_pos bR]at H
     have cP:=a_ bR
     clear bR
     obtain⟨dJ,ax⟩:∃y_:List (AM),y_=(m++[(⟨wrap64 (1+aX),wrap64 (1+aZ),(⟨a1,a2,a3,a4,a5⟩:Et)⟩:AM)]):=⟨_,rfl⟩
     replace H:(some (dJ,cB))=some (r1,r2):=by first|(rw[ax];with_reducible exact H)|(have P:=(Option.bind_some _ _).symm.trans H;rw[ax];with_reducible exact P)|(have P:=(Option.bind_some _ _).symm.trans H;with_reducible exact P)|with_reducible exact H|(rw[ax];exact H)|exact H
     have cT:=a_ ax
     clear ax
     simp only[Option.some.injEq,Prod.mk.injEq]at H
     obtain⟨rfl,rfl⟩:=H
     go_wp2_with(first|((with_reducible refine BN (f:=16) rfl ?_);refine BR 57 Tryd.func16 #[.pointer (some ⟨g,0,none⟩),.int .i64 24] ?_;(with_reducible refine(Ac.calls k1 g i r 24 U Z w0 _ ?q' ?z' bL.o).mono ?_);(case q'=>exact Al);(case z'=>exact Ad);rintro e fZ ⟨rfl,hi,E,D⟩;refine⟨_,rfl,?_⟩;replace d:=a_ (Kd.Aj (Kd.Bq (Af.apart (show Af w0 _ g i r from Al) (BC d.o) (by decide)) D (λ_ h=>h.2)) (λ_ h=>h.1));replace q:=a_ (Kd.Aj (Kd.Bq (Af.apart (show Af w0 _ g i r from Al) (BC q.o) (by decide)) D (λ_ h=>h.2)) (λ_ h=>h.1));replace l:=a_ (Kd.Aj (Kd.Bq (Af.apart (show Af w0 _ g i r from Al) (BC l.o) (by decide)) D (λ_ h=>h.2)) (λ_ h=>h.1));replace HK:=a_ (Ai.trans (EP) D (.inl rfl));replace HB:=a_ (E);replace HI0:=a_ (hi);(try clear E D hi))|((with_reducible refine BN (f:=16) rfl ?_);refine BR 62 Tryd.func16 #[.pointer (some ⟨g,0,none⟩),.int .i64 3] ?_;(with_reducible refine(Ac.calls k1 g i Z 3 aX aY w0 _ ?q' ?z' ee.o).mono ?_);(case q'=>exact Al);(case z'=>exact Ad);rintro e f_ ⟨rfl,hi,E,D⟩;refine⟨_,rfl,?_⟩;replace d:=a_ (Kd.Aj (Kd.Bq (Af.apart (show Af w0 _ g i Z from Al) (BC d.o) (by decide)) D (λ_ h=>h.2)) (λ_ h=>h.1));replace q:=a_ (Kd.Aj (Kd.Bq (Af.apart (show Af w0 _ g i Z from Al) (BC q.o) (by decide)) D (λ_ h=>h.2)) (λ_ h=>h.1));replace l:=a_ (Kd.Aj (Kd.Bq (Af.apart (show Af w0 _ g i Z from Al) (BC l.o) (by decide)) D (λ_ h=>h.2)) (λ_ h=>h.1));replace HK:=a_ (Ai.trans (EP) D (.inl rfl));replace HB:=a_ (E);replace HI0:=a_ (hi);(try clear E D hi))|((with_reducible refine BN (f:=16) rfl ?_);refine BR 65 Tryd.func16 #[.pointer (some ⟨g,0,none⟩),.int .i64 4] ?_;(with_reducible refine(Ac.calls k1 g i aY 4 aZ a0 w0 _ ?q' ?z' ef.o).mono ?_);(case q'=>exact Al);(case z'=>exact Ad);rintro e ga ⟨rfl,hi,E,D⟩;refine⟨_,rfl,?_⟩;replace d:=a_ (Kd.Aj (Kd.Bq (Af.apart (show Af w0 _ g i aY from Al) (BC d.o) (by decide)) D (λ_ h=>h.2)) (λ_ h=>h.1));replace q:=a_ (Kd.Aj (Kd.Bq (Af.apart (show Af w0 _ g i aY from Al) (BC q.o) (by decide)) D (λ_ h=>h.2)) (λ_ h=>h.1));replace l:=a_ (Kd.Aj (Kd.Bq (Af.apart (show Af w0 _ g i aY from Al) (BC l.o) (by decide)) D (λ_ h=>h.2)) (λ_ h=>h.1));replace HK:=a_ (Ai.trans (EP) D (.inl rfl));replace HB:=a_ (E);replace HI0:=a_ (hi);(try clear E D hi))|((with_reducible refine BN (f:=23) rfl ?_);refine BR 68 Tryd.func23 #[.pointer (some ⟨g,0,none⟩)] ?_;(with_reducible refine(AY.calls k1 g i a0 a1 a2 a3 a4 a5 cB w0 _ ?q' ?z' eg.o).mono ?_);(case q'=>exact Al);(case z'=>exact Ad);rintro e gb ⟨rfl,hi,E,D⟩;refine⟨_,rfl,?_⟩;replace d:=a_ (Kd.Aj (Kd.Bq (Af.apart (show Af w0 _ g i a0 from Al) (BC d.o) (by decide)) D (λ_ h=>h.2)) (λ_ h=>h.1));replace q:=a_ (Kd.Aj (Kd.Bq (Af.apart (show Af w0 _ g i a0 from Al) (BC q.o) (by decide)) D (λ_ h=>h.2)) (λ_ h=>h.1));replace l:=a_ (Kd.Aj (Kd.Bq (Af.apart (show Af w0 _ g i a0 from Al) (BC l.o) (by decide)) D (λ_ h=>h.2)) (λ_ h=>h.1));replace HK:=a_ (Ai.trans (EP) D (.inl rfl));replace HB:=a_ (E);replace HI0:=a_ (hi);(try clear E D hi))|((with_reducible refine Bt (b:=.append) (xs:=#[.tmp 60,.tmp 70]) rfl ?_);at_builtin;refine Kd.E_ BT w.heap.size rfl (.tmp 60) (.tmp 70) 24 32 (.agg #[(.int .i64 0),(.int .i64 0),(.int .i64 0),(.int .i64 0),(.int .i64 0),(.int .i64 0),(.string ⟨#[]⟩)]) 64 rfl Tryd.underlying24 C7 rfl (by decide) (by omega) u3 m (⟨wrap64 (1+aX),wrap64 (1+aZ),(⟨a1,a2,a3,a4,a5⟩:Et)⟩:AM) [.int .i64 (wrap64 (1+aX)),.int .i64 (wrap64 (1+aZ)),.int .i64 a1,.int .i64 a2,.int .i64 a3,.int .i64 a4,.string a5] (λ_=>True) (λ_=>False) rfl rfl ?aP (λ_ D=>D.elim) ?aF ?aO (Below.refl _ _) ?aS ?aL ?_;(case aP=>exact Ex _ _ _ (⟨wrap64 (1+aX),wrap64 (1+aZ),(⟨a1,a2,a3,a4,a5⟩:Et)⟩:AM));(case aF=>exact(λ_ _=>trivial));(case aO=>exact(BC d.o));(case aS=>exact(Cf (w:=w) (g:=g) (row:=none) (EP)));(case aL=>have:=cP.o;omega);intro fO gf ho E hg bA;rw[<-cT.o]at ho;replace q:=a_ (Kd.Df (BC q.o) (Kd.C9 (BC d.o)) (by decide) hg);replace l:=a_ (Kd.Df (BC l.o) (Kd.C9 (BC d.o)) (by decide) hg);replace HB:=a_ (FU (Ad) HL.o E);replace HI0:=a_ (Af.grown (Al) hg (Af.FX HI0.o d.o (by decide)));replace HK:=a_ (Ai.trans (EP) (Ai.Dy hg g) (Kd.GZ d.o));have cM:=a_ (ho);clear d;clear ho E hg bA))
     go_ret
     exact⟨_,C_,by(with_reducible repeat(first|apply Kd.R_alloc|apply Kd.An|apply Kd.As));exact cM.o,Al,Ad,EP⟩
    ·rw[if_neg bR]at H
     exact absurd H (by simp)
   ·rw[if_neg bc]at H
    have cZ:(U==0)=false:=Dq bc
    have c0:(U != 0)=true:=bne_iff_ne.mpr bc
    by_cases bd:U=1
    ·rw[if_pos bd]at H
     have c_:(U==1)=true:=beq_iff_eq.mpr bd
     have da:(U != 1)=false:=Ff bd
     clear bd
     by_cases bk:(m.length:Int)>0
     ·rw[if_pos bk]at H
      have db:decide (0<(m.length:Int))=true:=BJ bk
      have dc:decide (0<m.length)=true:=BJ (by omega)
      clear bk
      replace H:=BU H
      obtain⟨⟨u,a6⟩,cd,H⟩:=H
      try dsimp only at H
      have eh:=a_ cd
      clear cd
      replace H:=BU H
      obtain⟨⟨aE,cC⟩,cf,H⟩:=H
      try dsimp only at H
      have ei:=a_ cf
      clear cf
      by_cases bS:0≤u
      ·rw[if_pos bS]at H
       have fg:decide (0≤u)=true:=BJ bS
       clear bS
       by_cases bT:u<(m.length:Int)
       ·rw[if_pos bT]at H
        have fh:decide (u<(m.length:Int))=true:=BJ bT
        clear bT
        obtain⟨cG,ay⟩:∃y_:List (AM),y_=(m.set (u:Int).toNat (⟨(Aa m u).f0,aE,(⟨(Aa m u).f2.f0,(Aa m u).f2.f1,(Aa m u).f2.f2,(Aa m u).f2.f3,(Aa m u).f2.f4⟩:Et)⟩:AM)):=⟨_,rfl⟩
        replace H:(some (cG,cC))=some (r1,r2):=by first|(rw[ay];with_reducible exact H)|(have P:=(Option.bind_some _ _).symm.trans H;rw[ay];with_reducible exact P)|(have P:=(Option.bind_some _ _).symm.trans H;with_reducible exact P)|with_reducible exact H|(rw[ay];exact H)|exact H
        have cU:=a_ ay
        clear ay
        simp only[Option.some.injEq,Prod.mk.injEq]at H
        obtain⟨rfl,rfl⟩:=H
        go_wp2_with(first|((with_reducible refine BN (f:=16) rfl ?_);refine BR 57 Tryd.func16 #[.pointer (some ⟨g,0,none⟩),.int .i64 24] ?_;(with_reducible refine(Ac.calls k1 g i r 24 U Z w0 _ ?q' ?z' bL.o).mono ?_);(case q'=>exact Al);(case z'=>exact Ad);rintro e gg ⟨rfl,hi,E,D⟩;refine⟨_,rfl,?_⟩;replace d:=a_ (Kd.Aj (Kd.Bq (Af.apart (show Af w0 _ g i r from Al) (BC d.o) (by decide)) D (λ_ h=>h.2)) (λ_ h=>h.1));replace q:=a_ (Kd.Aj (Kd.Bq (Af.apart (show Af w0 _ g i r from Al) (BC q.o) (by decide)) D (λ_ h=>h.2)) (λ_ h=>h.1));replace l:=a_ (Kd.Aj (Kd.Bq (Af.apart (show Af w0 _ g i r from Al) (BC l.o) (by decide)) D (λ_ h=>h.2)) (λ_ h=>h.1));replace HK:=a_ (Ai.trans (EP) D (.inl rfl));replace HB:=a_ (E);replace HI0:=a_ (hi);(try clear E D hi);obtain⟨fv,bh,dD⟩:=Kd.Bg d.o;subst dD)|((with_reducible refine BN (f:=16) rfl ?_);refine BR 81 Tryd.func16 #[.pointer (some ⟨g,0,none⟩),.int .i64 (m.length:Int)] ?_;(with_reducible refine(Ac.calls k1 g i Z (m.length:Int) u a6 w0 _ ?q' ?z' eh.o).mono ?_);(case q'=>exact Al);(case z'=>exact Ad);rintro e gh ⟨rfl,hi,E,D⟩;refine⟨_,rfl,?_⟩;replace d:=a_ (Kd.Aj (Kd.Bq (Af.apart (show Af w0 _ g i Z from Al) (BC d.o) (by decide)) D (λ_ h=>h.2)) (λ_ h=>h.1));replace q:=a_ (Kd.Aj (Kd.Bq (Af.apart (show Af w0 _ g i Z from Al) (BC q.o) (by decide)) D (λ_ h=>h.2)) (λ_ h=>h.1));replace l:=a_ (Kd.Aj (Kd.Bq (Af.apart (show Af w0 _ g i Z from Al) (BC l.o) (by decide)) D (λ_ h=>h.2)) (λ_ h=>h.1));replace HK:=a_ (Ai.trans (EP) D (.inl rfl));replace HB:=a_ (E);replace HI0:=a_ (hi);(try clear E D hi))|((with_reducible refine BN (f:=16) rfl ?_);refine BR 83 Tryd.func16 #[.pointer (some ⟨g,0,none⟩),.int .i64 4] ?_;(with_reducible refine(Ac.calls k1 g i a6 4 aE cC w0 _ ?q' ?z' ei.o).mono ?_);(case q'=>exact Al);(case z'=>exact Ad);rintro e ae ⟨rfl,hi,E,D⟩;refine⟨_,rfl,?_⟩;replace d:=a_ (Kd.Aj (Kd.Bq (Af.apart (show Af w0 _ g i a6 from Al) (BC d.o) (by decide)) D (λ_ h=>h.2)) (λ_ h=>h.1));replace q:=a_ (Kd.Aj (Kd.Bq (Af.apart (show Af w0 _ g i a6 from Al) (BC q.o) (by decide)) D (λ_ h=>h.2)) (λ_ h=>h.1));replace l:=a_ (Kd.Aj (Kd.Bq (Af.apart (show Af w0 _ g i a6 from Al) (BC l.o) (by decide)) D (λ_ h=>h.2)) (λ_ h=>h.1));replace HK:=a_ (Ai.trans (EP) D (.inl rfl));replace HB:=a_ (E);replace HI0:=a_ (hi);(try clear E D hi);have dk:0≤(u:Int):=Bu;have dn:(u:Int)<((m.length:Int):Int):=Bu;obtain⟨O,fE,cu,cw,dG,fC,cl⟩:=Kd.Im d.o (by omega);(first|cases cu|(injection cu with aH de dd;(first|subst aH|(injection aH with aH;subst aH));subst dd;clear de));have dv:=a_ cw;have fy:=a_ cl;clear cw dG cl;obtain⟨fz,di,cx,aa,ab⟩:=Kd.GG d.o Qr (u:Int) dk dn;obtain rfl:=I4 cx;have dU:ae.cell? ⟨O,(u:Int).toNat*7,none⟩=some (.int .i64 ((Aa m u).f0)):=aa 0 _ rfl;have dV:ae.cell? ⟨O,(u:Int).toNat*7+1,none⟩=some (.int .i64 ((Aa m u).f1)):=aa 1 _ rfl;have dW:ae.cell? ⟨O,(u:Int).toNat*7+2,none⟩=some (.int .i64 ((Aa m u).f2.f0)):=aa 2 _ rfl;have dX:ae.cell? ⟨O,(u:Int).toNat*7+3,none⟩=some (.int .i64 ((Aa m u).f2.f1)):=aa 3 _ rfl;have dY:ae.cell? ⟨O,(u:Int).toNat*7+4,none⟩=some (.int .i64 ((Aa m u).f2.f2)):=aa 4 _ rfl;have dZ:ae.cell? ⟨O,(u:Int).toNat*7+5,none⟩=some (.int .i64 ((Aa m u).f2.f3)):=aa 5 _ rfl;have d_:ae.cell? ⟨O,(u:Int).toNat*7+6,none⟩=some (.string ((Aa m u).f2.f4)):=aa 6 _ rfl;have dL:ae.frozen? ⟨O,(u:Int).toNat*7,none⟩=false:=ab 0;have dM:ae.frozen? ⟨O,(u:Int).toNat*7+1,none⟩=false:=ab 1;have dN:ae.frozen? ⟨O,(u:Int).toNat*7+2,none⟩=false:=ab 2;have dO:ae.frozen? ⟨O,(u:Int).toNat*7+3,none⟩=false:=ab 3;have dP:ae.frozen? ⟨O,(u:Int).toNat*7+4,none⟩=false:=ab 4;have dQ:ae.frozen? ⟨O,(u:Int).toNat*7+5,none⟩=false:=ab 5;have dR:ae.frozen? ⟨O,(u:Int).toNat*7+6,none⟩=false:=ab 6;clear di aa ab cx;replace dk:=eq_true dk;replace dn:=eq_true dn;have cm:=a_ (show Kd.R BT 32 ae w.heap.size (λ_=>True) (.slice (some ⟨O,0,none⟩) m.length bh) m from(BC d.o));obtain⟨fA,bB,cy,be,bC⟩:=Kd.GG cm.o Qr (u:Int) (Bu) (by have h_:(u:Int)<((m.length:Int):Int):=Bu;first|exact h_|(have e_:=(Kd.AD d.o).1;omega)|simpa using h_);obtain rfl:=I4 cy;have bo:=Kd.KY cm.o (u:Int) (Bu) (by have h_:(u:Int)<((m.length:Int):Int):=Bu;first|exact h_|(have e_:=(Kd.AD d.o).1;omega)|simpa using h_) (seg:=[.int .i64 aE]) (j:=1) bB be (show 2≤7 from by decide) (x':=(⟨(Aa m u).f0,aE,(⟨(Aa m u).f2.f0,(Aa m u).f2.f1,(Aa m u).f2.f2,(Aa m u).f2.f3,(Aa m u).f2.f4⟩:Et)⟩:AM)) (Ex _ _ _ (⟨(Aa m u).f0,aE,(⟨(Aa m u).f2.f0,(Aa m u).f2.f1,(Aa m u).f2.f2,(Aa m u).f2.f3,(Aa m u).f2.f4⟩:Et)⟩:AM) ) (λ_ D=>D);have bV:=be 1 _ rfl;(try simp only[show(BT).sz=7 from rfl,Nat.mul_one,Nat.add_zero]at bV);have bU:=bC 1;(try simp only[show(BT).sz=7 from rfl,Nat.mul_one,Nat.add_zero]at bU);clear bB be bC cy)|((with_reducible refine CS (t:=3) (p:=85) rfl ?_);refine Cx (t:=3) (p:=85) (v:=?vo_w76) (w1:=(ae.setCell ⟨O,(u:Int).toNat*7+1,none⟩ (.int .i64 aE))) ?hg ?ho ?hn ?hr ?_;(case ho=>rfl);(case hg=>rfl);(case hn=>rfl);(case hr=>first|(go_simp;done)|(go_simp;rfl));intro dp hw;have hg:ae.grownBy dp (some O):=(by rw[hw];exact bo.2);have bF:Kd.R BT 32 dp w.heap.size (λ_=>True) (.slice (some ⟨O,0,none⟩) m.length bh) cG:=(by rw[hw,cU.o];exact bo.1);clear bo;replace q:=a_ (Kd.Df (v:=(.slice (some ⟨O,0,none⟩) m.length bh)) (BC q.o) (Kd.C9 d.o) (by decide) hg);replace l:=a_ (Kd.Df (v:=(.slice (some ⟨O,0,none⟩) m.length bh)) (BC l.o) (Kd.C9 d.o) (by decide) hg);replace HI0:=a_ (Af.grown (Al) hg (Af.FX HI0.o d.o (by decide)));replace HB:=a_ ((by rw[hw];exact EK (HB.o) (Nat.le_trans HL.o dv.o):Below w0.heap.size w0 dp));replace HK:=a_ (Ai.trans (EP) (Ai.Dy hg g) (Kd.GZ d.o));replace d:=a_ (bF);clear hg hw bF))
        go_ret
        exact⟨_,C_,by(with_reducible repeat(first|apply Kd.R_alloc|apply Kd.An|apply Kd.As));exact d.o,Al,Ad,EP⟩
       ·rw[if_neg bT]at H
        exact absurd H (by simp)
      ·rw[if_neg bS]at H
       exact absurd H (by simp)
     ·rw[if_neg bk]at H
      have db:decide (0<(m.length:Int))=false:=C1 bk
      have dc:decide (0<m.length)=false:=C1 (by omega)
      clear bk
      simp only[Option.some.injEq,Prod.mk.injEq]at H
      obtain⟨rfl,rfl⟩:=H
      go_wp2_with(first|((with_reducible refine BN (f:=16) rfl ?_);refine BR 57 Tryd.func16 #[.pointer (some ⟨g,0,none⟩),.int .i64 24] ?_;(with_reducible refine(Ac.calls k1 g i r 24 U Z w0 _ ?q' ?z' bL.o).mono ?_);(case q'=>exact Al);(case z'=>exact Ad);rintro e gi ⟨rfl,hi,E,D⟩;refine⟨_,rfl,?_⟩;replace d:=a_ (Kd.Aj (Kd.Bq (Af.apart (show Af w0 _ g i r from Al) (BC d.o) (by decide)) D (λ_ h=>h.2)) (λ_ h=>h.1));replace q:=a_ (Kd.Aj (Kd.Bq (Af.apart (show Af w0 _ g i r from Al) (BC q.o) (by decide)) D (λ_ h=>h.2)) (λ_ h=>h.1));replace l:=a_ (Kd.Aj (Kd.Bq (Af.apart (show Af w0 _ g i r from Al) (BC l.o) (by decide)) D (λ_ h=>h.2)) (λ_ h=>h.1));replace HK:=a_ (Ai.trans (EP) D (.inl rfl));replace HB:=a_ (E);replace HI0:=a_ (hi);(try clear E D hi);obtain⟨fw,fF,dE⟩:=Kd.Bg d.o;subst dE))
      go_ret
      exact⟨_,C_,by(with_reducible repeat(first|apply Kd.R_alloc|apply Kd.An|apply Kd.As));exact d.o,Al,Ad,EP⟩
    ·rw[if_neg bd]at H
     have c_:(U==1)=false:=Dq bd
     have da:(U != 1)=true:=bne_iff_ne.mpr bd
     simp only[Option.some.injEq,Prod.mk.injEq]at H
     obtain⟨rfl,rfl⟩:=H
     go_wp2_with(first|((with_reducible refine BN (f:=16) rfl ?_);refine BR 57 Tryd.func16 #[.pointer (some ⟨g,0,none⟩),.int .i64 24] ?_;(with_reducible refine(Ac.calls k1 g i r 24 U Z w0 _ ?q' ?z' bL.o).mono ?_);(case q'=>exact Al);(case z'=>exact Ad);rintro e gj ⟨rfl,hi,E,D⟩;refine⟨_,rfl,?_⟩;replace d:=a_ (Kd.Aj (Kd.Bq (Af.apart (show Af w0 _ g i r from Al) (BC d.o) (by decide)) D (λ_ h=>h.2)) (λ_ h=>h.1));replace q:=a_ (Kd.Aj (Kd.Bq (Af.apart (show Af w0 _ g i r from Al) (BC q.o) (by decide)) D (λ_ h=>h.2)) (λ_ h=>h.1));replace l:=a_ (Kd.Aj (Kd.Bq (Af.apart (show Af w0 _ g i r from Al) (BC l.o) (by decide)) D (λ_ h=>h.2)) (λ_ h=>h.1));replace HK:=a_ (Ai.trans (EP) D (.inl rfl));replace HB:=a_ (E);replace HI0:=a_ (hi);(try clear E D hi)))
     go_ret
     exact⟨_,C_,by(with_reducible repeat(first|apply Kd.R_alloc|apply Kd.An|apply Kd.As));exact d.o,Al,Ad,EP⟩
def D7.f(e:Int)(g:Int)(a:List (Ba))(b:List (AM))(i:Int)(j:Int):Option (Int×Int×(List (Ba))×(List (AM))×Int×Int):=(some (([]:List (Ba)):List (Ba))).bind λc=>(if c.length+a.length<4398046511104 then((some (([]:List (AM)):List (AM))).bind λd=>(if d.length+b.length<2199023255552 then(some (e,g,(c++a),(d++b),i,j))else(none)))else(none))
theorem D7.calls(j:Int)(k:Int)(A:Option Addr)(D:Nat)(n:List (Ba))(v:Option Addr)(x:Nat)(c:List (AM))(l:Int)(m:Int)(r1:Int)(r2:Int)(r3:List (Ba))(r4:List (AM))(r5:Int)(r6:Int)(w:World)(aj:Kd.C Dj w A n.length n)(ag:n.length≤D)(ak:Kd.C BT w v c.length c)(ah:c.length≤x)(h:D7.f j k n c l m=some (r1,r2,r3,r4,r5,r6)) :
  Calls Tryd.prog 27 #[.agg #[.int .i64 j,.int .i64 k,.slice A n.length D,.slice v c.length x,.int .i64 l,.int .i64 m]] w λe w'=>∃ay az:Value,e=.returned (.agg #[.int .i64 r1,.int .i64 r2,ay,az,.int .i64 r5,.int .i64 r6])∧Kd.R Dj 68 w' w.heap.size (λ_=>True) ay r3∧Kd.R BT 32 w' w.heap.size (λ_=>True) az r4∧Below w.heap.size w w':=by
 have bT:=Tryd.underlying26;have al:=a_ aj;have aI:=a_ ag;clear aj ag;have an:=a_ ak;have aJ:=a_ ah;clear ak ah;have HB:=a_ (Below.refl w.heap.size w);unfold D7.f at h;have H:=h;clear h;obtain⟨Y,G⟩:∃y_:List (Ba),y_=(([]:List (Ba))):=⟨_,rfl⟩
 replace H:(if Y.length+n.length<4398046511104 then((some (([]:List (AM)):List (AM))).bind λr=>(if r.length+c.length<2199023255552 then(some (j,k,(Y++n),(r++c),l,m))else(none)))else(none))=some (r1,r2,r3,r4,r5,r6):=by first|(rw[G];with_reducible exact H)|(have t:=(Option.bind_some _ _).symm.trans H;rw[G];with_reducible exact t)|(have t:=(Option.bind_some _ _).symm.trans H;with_reducible exact t)|with_reducible exact H|(rw[G];exact H)|exact H
 have ae:=a_ G;clear G;by_cases c2:Y.length+n.length<4398046511104
 ·rw[if_pos c2]at H;have au:=a_ c2;clear c2;obtain⟨y,I⟩:∃y_:List (Ba),y_=(Y++n):=⟨_,rfl⟩
  replace H:((some (([]:List (AM)):List (AM))).bind λr=>(if r.length+c.length<2199023255552 then(some (j,k,y,(r++c),l,m))else(none)))=some (r1,r2,r3,r4,r5,r6):=by first|(rw[I];with_reducible exact H)|(have t:=(Option.bind_some _ _).symm.trans H;rw[I];with_reducible exact t)|(have t:=(Option.bind_some _ _).symm.trans H;with_reducible exact t)|with_reducible exact H|(rw[I];exact H)|exact H
  have ao:=a_ I;clear I;obtain⟨r,J⟩:∃y_:List (AM),y_=(([]:List (AM))):=⟨_,rfl⟩
  replace H:(if r.length+c.length<2199023255552 then(some (j,k,y,(r++c),l,m))else(none))=some (r1,r2,r3,r4,r5,r6):=by first|(rw[J];with_reducible exact H)|(have t:=(Option.bind_some _ _).symm.trans H;rw[J];with_reducible exact t)|(have t:=(Option.bind_some _ _).symm.trans H;with_reducible exact t)|with_reducible exact H|(rw[J];exact H)|exact H
  have af:=a_ J;clear J;by_cases c3:r.length+c.length<2199023255552
  ·rw[if_pos c3]at H;have av:=a_ c3;clear c3;obtain⟨O,K⟩:∃y_:List (AM),y_=(r++c):=⟨_,rfl⟩
   replace H:(some (j,k,y,O,l,m))=some (r1,r2,r3,r4,r5,r6):=by first|(rw[K];with_reducible exact H)|(have t:=(Option.bind_some _ _).symm.trans H;rw[K];with_reducible exact t)|(have t:=(Option.bind_some _ _).symm.trans H;with_reducible exact t)|with_reducible exact H|(rw[K];exact H)|exact H
   have aq:=a_ K;clear K;simp only[Option.some.injEq,Prod.mk.injEq]at H;obtain⟨rfl,rfl,rfl,rfl,rfl,rfl⟩:=H;go_enter Tryd.func27,Tryd.ntmps27;go_wp2_with(first|((with_reducible refine Cd (N:=1) rfl ?_);refine CE 1 (#[.int .i64 j,.int .i64 k,.slice A n.length D,.slice v c.length x,.int .i64 l,.int .i64 m]) 26 ?_;intro i hg w4 W E;have a:=a_ (W);have aG:=a_ ((by rw[hg];exact(Ab (Ad)):w.heap.size≤i));have aD:=a_ ((by rw[hg];exact(Ab (Ad)):w.heap.size≤i));replace HB:=a_ (BA (Ad) E);clear E W hg)|((with_reducible refine Cd (N:=2) rfl ?_);refine CE 2 (#[.int .i64 0,.int .i64 0,.slice none 0 0,.slice none 0 0,.int .i64 0,.int .i64 0]) 26 ?_;intro q hg w5 W E;have d:=a_ (W);have aH:=a_ ((by rw[hg];exact(Ab (Ad)):w.heap.size≤q));have aE:=a_ ((by rw[hg];exact(Ab (Ad)):w.heap.size≤q));have Z:=a_ ((by rw[hg];exact Nat.ne_of_lt (AU (g:=i) (o:=.cells #[.int .i64 j,.int .i64 k,.slice A n.length D,.slice v c.length x,.int .i64 l,.int .i64 m] 26 (0,0)) (Bp a.o)):i≠q));have u:=a_ ((by rw[hg];exact Nat.ne_of_gt (AU (g:=i) (o:=.cells #[.int .i64 j,.int .i64 k,.slice A n.length D,.slice v c.length x,.int .i64 l,.int .i64 m] 26 (0,0)) (Bp a.o)):q≠i));replace a:=a_ (C3 a.o E);replace HB:=a_ (BA (Ad) E);clear E W hg)|((with_reducible refine Cd (N:=3) rfl ?_);refine Kd.DD Dj _ 68 ?hg (N:=3) ?hd (xs:=([]:List (Ba))) (inner:=[]) (ok:=λ_=>True) (okp:=λ_=>True) ?hr ?hp (λ_ hk=>hk) trivial (Below.refl _ _) (Nat.le_refl _) (by simp) ?_;(case hd=>rfl);(case hg=>rfl);(case hr=>first|(go_simp;done)|(go_simp;rfl));(case hp=>exact(Bi.none _ _));intro aA w6 ai E Du aa;clear Du aa;(first|rw[<-ae.o]at ai|(simp only[Int.reduceToNat]at ai;rw[<-ae.o]at ai));have P:=a_ (Kd.AN ai (Ab (Ad)));replace HB:=a_ (BA (Ad) E);replace a:=a_ (C3 a.o E);replace d:=a_ (C3 d.o E);clear E ai;have bR:=Z.o;have bS:=u.o;obtain⟨bL,bM,bN,bO,bP,bQ,bF,bG,bH,bI,bJ,bK⟩:=Cs a.o)|((with_reducible refine Bt (b:=.append) (xs:=#[.tmp 3,.tmp 5]) rfl ?_);at_builtin;refine Kd.Co Dj (w0:=w) w.heap.size rfl (.tmp 3) (.tmp 5) 23 68 (.agg #[(.int .i64 0),(.int .i64 0),(.string ⟨#[]⟩)]) 32 rfl Tryd.underlying23 EC rfl (by decide) (by omega) aA Y n _ _ _ (λ_=>True) (λ_=>False) rfl rfl ?aO ?aR (λ_ _ h=>h) (λ_ h=>h.elim) ?aF ?aB ?aS ?aL ?_;(case aR=>exact Ft (Kd.Ct al.o HB.o));(case aB=>exact(Ad));(case aF=>exact(λ_ _=>trivial));(case aO=>exact(BC P.o));(case aS=>exact(Ab (Ad)));(case aL=>have:=au.o;omega);intro bU bW ho E hg ar;rw[<-ao.o]at ho;replace a:=a_ (AJ (g:=i) (o:=.cells #[.int .i64 j,.int .i64 k,.slice A n.length D,.slice v c.length x,.int .i64 l,.int .i64 m] 26 (0,0)) (Bp a.o) hg (Kd.Ez P.o a.o (by decide)));replace d:=a_ (AJ (g:=q) (o:=.cells #[.int .i64 0,.int .i64 0,.slice none 0 0,.slice none 0 0,.int .i64 0,.int .i64 0] 26 (0,0)) (Bp d.o) hg (Kd.Ez P.o d.o (by decide)));replace HB:=a_ (E);have z:=a_ (ho);clear P;clear ho E hg ar;obtain⟨L,M,aw⟩:=Kd.Bg z.o;subst aw;obtain⟨bc,bd,be,bf,bg,bh,aK,aM,aN,aP,aQ,aT⟩:=Cs a.o)|((with_reducible refine Cd (N:=8) rfl ?_);refine Kd.DD BT _ 32 ?hg (N:=8) ?hd (xs:=([]:List (AM))) (inner:=[]) (ok:=λ_=>True) (okp:=λ_=>True) ?hr ?hp (λ_ hk=>hk) trivial (Below.refl _ _) (Nat.le_refl _) (by simp) ?_;(case hd=>rfl);(case hg=>rfl);(case hr=>first|(go_simp;done)|(go_simp;rfl));(case hp=>exact(Bi.none _ _));intro aC bX X E Du aa;clear Du aa;(first|rw[<-af.o]at X|(simp only[Int.reduceToNat]at X;rw[<-af.o]at X));have B:=a_ (Kd.AN X (Ab (Ad)));replace z:=a_ (Kd.AZ (by(with_reducible repeat(first|apply Kd.R_alloc|apply Kd.An|apply Kd.As));exact(Kd.Aj (Kd.CQ (p:=⟨i,2,none⟩) (Kd.AF z.o a.o (by decide)) (λ_ hk=>hk.2) (.slice L y.length M)) (λ_ h_=>h_.1))) E);replace a:=a_ (Az (g:=i) (o:=.cells #[.int .i64 j,.int .i64 k,.slice L y.length M,.slice v c.length x,.int .i64 l,.int .i64 m] 26 (0,0)) (by(with_reducible repeat(first|refine E6 ?_ _|refine DA ?_|refine Eb ?_ _));refine Bw (cs:=#[.int .i64 j,.int .i64 k,.slice A n.length D,.slice v c.length x,.int .i64 l,.int .i64 m]) ?_ 2 _ rfl;(with_reducible repeat(first|refine E6 ?_ _|refine DA ?_|refine Eb ?_ _));exact a.o) E);replace d:=a_ (Az (g:=q) (o:=.cells #[.int .i64 0,.int .i64 0,.slice none 0 0,.slice none 0 0,.int .i64 0,.int .i64 0] 26 (0,0)) (Dv u.o d.o) E);replace HB:=a_ (BA (Ad) E);clear E X;obtain⟨bj,bk,bl,bm,bn,bo,aU,aV,aW,aX,aY,aZ⟩:=Cs a.o)|((with_reducible refine Bt (b:=.append) (xs:=#[.tmp 8,.tmp 10]) rfl ?_);at_builtin;refine Kd.Co BT (w0:=w) w.heap.size rfl (.tmp 8) (.tmp 10) 24 32 (.agg #[(.int .i64 0),(.int .i64 0),(.int .i64 0),(.int .i64 0),(.int .i64 0),(.int .i64 0),(.string ⟨#[]⟩)]) 64 rfl Tryd.underlying24 C7 rfl (by decide) (by omega) aC r c _ _ _ (λ_=>True) (λ_=>False) rfl rfl ?aO ?aR (λ_ _ h=>h) (λ_ h=>h.elim) ?aF ?aB ?aS ?aL ?_;(case aR=>exact Ft (Kd.Ct an.o HB.o));(case aB=>exact(Ad));(case aF=>exact(λ_ _=>trivial));(case aO=>exact(BC B.o));(case aS=>exact(Ab (Ad)));(case aL=>have:=av.o;omega);intro bV bY ho E hg ar;rw[<-aq.o]at ho;replace a:=a_ (AJ (g:=i) (o:=.cells #[.int .i64 j,.int .i64 k,.slice L y.length M,.slice v c.length x,.int .i64 l,.int .i64 m] 26 (0,0)) (Bp a.o) hg (Kd.Ez B.o a.o (by decide)));replace d:=a_ (AJ (g:=q) (o:=.cells #[.int .i64 0,.int .i64 0,.slice none 0 0,.slice none 0 0,.int .i64 0,.int .i64 0] 26 (0,0)) (Bp d.o) hg (Kd.Ez B.o d.o (by decide)));replace z:=a_ (Kd.Df (BC z.o) (Kd.C9 (BC B.o)) (by decide) hg);replace HB:=a_ (E);have ab:=a_ (ho);clear B;clear ho E hg ar;obtain⟨T,U,ax⟩:=Kd.Bg ab.o;subst ax;obtain⟨bp,bq,br,bu,bw,bx,a0,a1,a2,a3,a4,a5⟩:=Cs a.o;obtain⟨bz,bA,bB,bC,bD,bE,a6,a7,a8,a9,ba,bb⟩:=Cs d.o));refine bodyPost_ret (results_cell_row rfl _ _ q 26 #[.int .i64 j,.int .i64 k,.slice L y.length M,.slice T O.length U,.int .i64 l,.int .i64 m] (0,0) _ rfl (On u.o d.o) Tryd.underlying26 rfl (by kernel_rfl)) rfl ?_;exact⟨_,_,C_,by(with_reducible repeat(first|apply Kd.R_alloc|apply Kd.An|apply Kd.As));exact Kd.Aj (EZ (g:=q) (Kd.CQ (p:=⟨i,3,none⟩) (Kd.AF (Kd.AF z.o a.o (by decide)) d.o (by decide)) (λ_ hk=>hk.1.2) (.slice T O.length U)) (λ_ hk=>hk.2) (.int .i64 j) (.int .i64 k) (.slice L y.length M) (.slice T O.length U) (.int .i64 l) (.int .i64 m)) (λ_ hk=>trivial),by(with_reducible repeat(first|apply Kd.R_alloc|apply Kd.An|apply Kd.As));exact Kd.Aj (EZ (g:=q) (Kd.CQ (p:=⟨i,3,none⟩) (Kd.AF (Kd.AF ab.o a.o (by decide)) d.o (by decide)) (λ_ hk=>hk.1.2) (.slice T O.length U)) (λ_ hk=>hk.2) (.int .i64 j) (.int .i64 k) (.slice L y.length M) (.slice T O.length U) (.int .i64 l) (.int .i64 m)) (λ_ hk=>trivial),Ad⟩
  rw[if_neg c3]at H;exact absurd H (by simp)
 rw[if_neg c2]at H;exact absurd H (by simp)
def D4.f(a:List (AM))(c:Int)(d:Bool):Option ((List (AM))×Int×Bool):=(some (([]:List (AM)):List (AM))).bind λb=>(if b.length+a.length<2199023255552 then(some ((b++a),c,d))else(none))
theorem D4.calls(r:Option Addr)(t:Nat)(c:List (AM))(j:Int)(k:Bool)(Z:List (AM))(r2:Int)(r3:Bool)(w:World)(L:Kd.C BT w r c.length c)(J:c.length≤t)(h:D4.f c j k=some (Z,r2,r3)) :
  Calls Tryd.prog 71 #[.agg #[.slice r c.length t,.int .i64 j,.bool k]] w λe w'=>∃X:Value,e=.returned (.agg #[X,.int .i64 r2,.bool r3])∧Kd.R BT 32 w' w.heap.size (λ_=>True) X Z∧Below w.heap.size w w':=by
 have aI:=Tryd.underlying60;have M:=a_ L;have ag:=a_ J;clear L J;have HB:=a_ (Below.refl w.heap.size w);unfold D4.f at h;have H:=h;clear h;obtain⟨x,n⟩:∃y_:List (AM),y_=(([]:List (AM))):=⟨_,rfl⟩
 replace H:(if x.length+c.length<2199023255552 then(some ((x++c),j,k))else(none))=some (Z,r2,r3):=by first|(rw[n];with_reducible exact H)|(have y:=(Option.bind_some _ _).symm.trans H;rw[n];with_reducible exact y)|(have y:=(Option.bind_some _ _).symm.trans H;with_reducible exact y)|with_reducible exact H|(rw[n];exact H)|exact H
 have G:=a_ n;clear n;by_cases c2:x.length+c.length<2199023255552
 ·rw[if_pos c2]at H;have U:=a_ c2;clear c2;obtain⟨B,q⟩:∃y_:List (AM),y_=(x++c):=⟨_,rfl⟩
  replace H:(some (B,j,k))=some (Z,r2,r3):=by first|(rw[q];with_reducible exact H)|(have y:=(Option.bind_some _ _).symm.trans H;rw[q];with_reducible exact y)|(have y:=(Option.bind_some _ _).symm.trans H;with_reducible exact y)|with_reducible exact H|(rw[q];exact H)|exact H
  have O:=a_ q;clear q;simp only[Option.some.injEq,Prod.mk.injEq]at H;obtain⟨rfl,rfl,rfl⟩:=H;go_enter Tryd.func71,Tryd.ntmps71;go_wp2_with(first|((with_reducible refine Cd (N:=1) rfl ?_);refine CE 1 (#[.slice r c.length t,.int .i64 j,.bool k]) 60 ?_;intro i hg w3 v A;have a:=a_ (v);have ae:=a_ ((by rw[hg];exact(Ab (Ad)):w.heap.size≤i));have aa:=a_ ((by rw[hg];exact(Ab (Ad)):w.heap.size≤i));replace HB:=a_ (BA (Ad) A);clear A v hg)|((with_reducible refine Cd (N:=2) rfl ?_);refine CE 2 (#[.slice none 0 0,.int .i64 0,.bool false]) 60 ?_;intro l hg w4 v A;have d:=a_ (v);have af:=a_ ((by rw[hg];exact(Ab (Ad)):w.heap.size≤l));have ab:=a_ ((by rw[hg];exact(Ab (Ad)):w.heap.size≤l));have z:=a_ ((by rw[hg];exact Nat.ne_of_lt (AU (g:=i) (o:=.cells #[.slice r c.length t,.int .i64 j,.bool k] 60 (0,0)) (Bp a.o)):i≠l));have m:=a_ ((by rw[hg];exact Nat.ne_of_gt (AU (g:=i) (o:=.cells #[.slice r c.length t,.int .i64 j,.bool k] 60 (0,0)) (Bp a.o)):l≠i));replace a:=a_ (C3 a.o A);replace HB:=a_ (BA (Ad) A);clear A v hg)|((with_reducible refine Cd (N:=3) rfl ?_);refine Kd.DD BT _ 32 ?hg (N:=3) ?hd (xs:=([]:List (AM))) (inner:=[]) (ok:=λ_=>True) (okp:=λ_=>True) ?hr ?hp (λ_ T=>T) trivial (Below.refl _ _) (Nat.le_refl _) (by simp) ?_;(case hd=>rfl);(case hg=>rfl);(case hr=>first|(go_simp;done)|(go_simp;rfl));(case hp=>exact(Bi.none _ _));intro Y w5 K A Du P;clear Du P;(first|rw[<-G.o]at K|(simp only[Int.reduceToNat]at K;rw[<-G.o]at K));have u:=a_ (Kd.AN K (Ab (Ad)));replace HB:=a_ (BA (Ad) A);replace a:=a_ (C3 a.o A);replace d:=a_ (C3 d.o A);clear A K;have aG:=z.o;have aH:=m.o;obtain⟨aC,aD,aE,ay,az,aA⟩:=DK a.o)|((with_reducible refine Bt (b:=.append) (xs:=#[.tmp 3,.tmp 5]) rfl ?_);at_builtin;refine Kd.Co BT (w0:=w) w.heap.size rfl (.tmp 3) (.tmp 5) 24 32 (.agg #[(.int .i64 0),(.int .i64 0),(.int .i64 0),(.int .i64 0),(.int .i64 0),(.int .i64 0),(.string ⟨#[]⟩)]) 64 rfl Tryd.underlying24 C7 rfl (by decide) (by omega) Y x c _ _ _ (λ_=>True) (λ_=>False) rfl rfl ?aO ?aR (λ_ _ h=>h) (λ_ h=>h.elim) ?aF ?aB ?aS ?aL ?_;(case aR=>exact Ft (Kd.Ct M.o HB.o));(case aB=>exact(Ad));(case aF=>exact(λ_ _=>trivial));(case aO=>exact(BC u.o));(case aS=>exact(Ab (Ad)));(case aL=>have:=U.o;omega);intro aJ w9 ho A hg ax;rw[<-O.o]at ho;replace a:=a_ (AJ (g:=i) (o:=.cells #[.slice r c.length t,.int .i64 j,.bool k] 60 (0,0)) (Bp a.o) hg (Kd.Ez u.o a.o (by decide)));replace d:=a_ (AJ (g:=l) (o:=.cells #[.slice none 0 0,.int .i64 0,.bool false] 60 (0,0)) (Bp d.o) hg (Kd.Ez u.o d.o (by decide)));replace HB:=a_ (A);have E:=a_ (ho);clear u;clear ho A hg ax;obtain⟨D,I,W⟩:=Kd.Bg E.o;subst W;obtain⟨ao,aq,ar,ah,ai,aj⟩:=DK a.o;obtain⟨au,av,aw,ak,al,an⟩:=DK d.o));refine bodyPost_ret (results_cell_row rfl _ _ l 60 #[.slice D B.length I,.int .i64 j,.bool k] (0,0) _ rfl (MT m.o d.o) Tryd.underlying60 rfl (by kernel_rfl)) rfl ?_;exact⟨_,C_,by(with_reducible repeat(first|apply Kd.R_alloc|apply Kd.An|apply Kd.As));exact Kd.Aj (L6 (g:=l) (Kd.CQ (p:=⟨i,0,none⟩) (Kd.AF (Kd.AF E.o a.o (by decide)) d.o (by decide)) (λ_ T=>T.1.2) (.slice D B.length I)) (λ_ T=>T.2) (.slice D B.length I) (.int .i64 j) (.bool k)) (λ_ T=>trivial),Ad⟩
 rw[if_neg c2]at H;exact absurd H (by simp)
mutual
def AG.l0:Nat->Int->List (AM)->Int->Bool->List (EI)->List (Dm)->List (AM)->Int->Bool->List (EI)->List (Dm)->Option ((List (AM))×Int×Bool×(List (EI))×(List (Dm)))
 | 0,_,_,_,_,_,_,_,_,_,_,_=>none
 | k+1,o,d,e,g,a,i,j,l,m,c,n=>if o<(a.length:Int)then(if 0≤o then((D7.f ((Aw a o).f0) ((Aw a o).f1) ((Aw a o).f2) ((Aw a o).f3) ((Aw a o).f4) ((Aw a o).f5)).bind λb=>(if c.length<1759218604441 then(AG.l0 k (wrap64 (o+1)) d e g a i j l m (c++[(⟨b.1,b.2.1,b.2.2.1,b.2.2.2.1,b.2.2.2.2.1,b.2.2.2.2.2⟩:EI)]) n)else(none)))else(none))else(AG.l1 k 0 d e g a i j l m c n)
def AG.l1:Nat->Int->List (AM)->Int->Bool->List (EI)->List (Dm)->List (AM)->Int->Bool->List (EI)->List (Dm)->Option ((List (AM))×Int×Bool×(List (EI))×(List (Dm)))
 | 0,_,_,_,_,_,_,_,_,_,_,_=>none
 | k+1,o,i,j,l,m,a,c,d,e,g,b=>if o<(a.length:Int)then(if 0≤o then((some (([]:List (AM)):List (AM))).bind λn=>(if n.length+((AB a o).f2).length<2199023255552 then(if b.length<3518437208883 then(AG.l1 k (wrap64 (o+1)) i j l m a c d e g (b++[(⟨(AB a o).f0,(AB a o).f1,(n++((AB a o).f2))⟩:Dm)]))else(none))else(none)))else(none))else(some (c,d,e,g,b))
end
def AG.f(k:Nat)(d:List (AM))(b:Int)(c:Bool)(e:List (EI))(g:List (Dm)):Option ((List (AM))×Int×Bool×(List (EI))×(List (Dm))):=(D4.f d b c).bind λa=>(AG.l0 k 0 d b c e g a.1 a.2.1 a.2.2 ([]:List (EI)) (([]:List (Dm))))
def AG.T5:Bool×List (List Nat×List Nat):=(true,[([],[]),([0],[0]),([],[]),([2],[2]),([],[]),([3,4],[3,4]),([5],[5]),([6],[6]),([7],[7]),([1,8,7],[1,8]),([0,1,2,3,4,5,6,7,8,9],[]),([10,9,9,0,1,2,3,4,5,6,7,8,9],[9,10])])
def AG.B5:List Nat:=[0,1,0,4,0,28,60,124,252,511,1023,2047]
theorem AG.Nf:ED .any (opsOf Tryd.f61 5)=AG.T5:=by kernel_rfl
theorem AG.J0:DU AG.T5.2 AG.B5=true:=by kernel_rfl
end Go.Proofs.YtlhlpfnljglhoaaDoor.P
