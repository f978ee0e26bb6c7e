/- Joined by programs (wip/shake.py, wip/mini.py). -/
import Derived.Test.YtlhlpfnljglhoaaDoorZCp1
set_option linter.unusedVariables false
set_option linter.unusedSimpArgs false
set_option linter.unusedSectionVars false
set_option maxHeartbeats 8000000
set_option maxRecDepth 100000
namespace Go.Proofs.YtlhlpfnljglhoaaDoor.P
open Go.RowKit Go.Proofs.YtlhlpfnljglhoaaDoorW.PrintWords Go.Proofs.YtlhlpfnljglhoaaDoorW.Bc
def Cb.l0:Nat->List (Ba)->List (AM)->Int->Option ((List (Ba)))
 | 0,_,_,_=>none
 | k+1,e,c,a=>if a<(c.length:Int)then(if 0≤a then((Bz.f k e ((Aa c a).f2.f0) ((Aa c a).f2.f1) ((Aa c a).f2.f2) ((Aa c a).f2.f3) ((Aa c a).f2.f4)).bind λd=>(Cb.l0 k d c (wrap64 (a+1))))else(none))else((some (([]:List (Ba)):List (Ba))).bind λb=>(if b.length+e.length<4398046511104 then(some (b++e))else(none)))
def Cb.f(k:Nat)(l0:List (Ba))(l1:List (AM)):Option ((List (Ba))):=Cb.l0 k l0 l1 0
theorem Cb.calls(k:Nat)(G:Nat->Prop)(A0:Option Addr)(c0:Nat)(l0:List (Ba))(A1:Option Addr)(c1:Nat)(l1:List (AM))(r:List (Ba))(w:World)(aq:Kd.V Dj 68 w w.heap.size (λj=>G j) (.slice A0 l0.length c0) l0)(ae:Kd.C BT w A1 l1.length l1)(ab:l1.length≤c1)(h:Cb.f k l0 l1=some r) :
  Calls Tryd.prog 25 #[.slice A0 l0.length c0,.slice A1 l1.length c1] w λe w'=>∃af:Value,e=.returned (af)∧Kd.R Dj 68 w' w.heap.size (λj=>(w.heap.size≤j)) af r∧Below w.heap.size w w':=by
 have aw:=Tryd.underlying30;have aj:=a_ (show Kd.V Dj 68 w w.heap.size (λj=>(G j∨w.heap.size≤j)) (.slice A0 l0.length c0) l0 from Kd.AH aq (λj y=>.inl y));have ak:=a_ ae;have az:=a_ ab;clear ae ab;have HB:=a_ (Below.refl w.heap.size w);unfold Cb.f at h;have H:=h;clear h;have H':=a_ H;clear H;go_enter Tryd.func25,Tryd.ntmps25;go_wp2;go_loopg [0,5] k (λkq v0 v5 w'=>∃(d:List (Ba)) (a:Int),v5=.int .i64 a∧Ae (Cb.l0 kq d l1 a=some r)∧Ae (kq≤k)∧Ae (Kd.V Dj 68 w' w.heap.size (λj=>(G j∨w.heap.size≤j)) v0 d)∧Ae (Below w.heap.size w w'))
 case atStart=>exact⟨(l0),(0),(Cr),H',⟨Nat.le_refl _⟩,⟨by(with_reducible repeat(first|apply Kd.V_alloc|apply Kd.BF|apply Kd.AR));exact aj.o⟩,⟨Ad⟩⟩
 clear H';try clear c1
 obtain⟨d,a,rfl,HA,U,c,HB⟩:=hrel;cases gk with
 | zero=>exact absurd HA.o (by simp[Cb.l0])
 | succ k1 =>
  have H:=HA.o
  clear HA
  simp only[Cb.l0]at H
  by_cases c3:a<(l1.length:Int)
  ·rw[if_pos c3]at H
   have X:decide (a<(l1.length:Int))=true:=BJ c3
   clear c3
   by_cases c4:0≤a
   ·rw[if_pos c4]at H
    have au:decide (0≤a)=true:=BJ c4
    clear c4
    replace H:=BU H
    obtain⟨I,T,H⟩:=H
    try dsimp only at H
    have A5:=a_ T
    clear T
    have H':=a_ H
    clear H
    have B:0≤(a:Int):=Bu
    have D:a<(l1.length:Int):=Bu
    obtain⟨al,Y,m,n,o,p,q,t,u⟩:=CD ak.o a B D
    cases Y
    replace m:=(Au HB.o m:)
    replace n:=(Au HB.o n:)
    replace o:=(Au HB.o o:)
    replace p:=(Au HB.o p:)
    replace q:=(Au HB.o q:)
    replace t:=(Au HB.o t:)
    replace u:=(Au HB.o u:)
    replace B:=eq_true B
    replace D:=eq_true D
    obtain⟨ai,an,ao⟩:=Kd.Ca c.o
    subst ao
    go_wp2_with(first|((with_reducible refine BN (f:=45) rfl ?_);refine BR 18 Tryd.func45 #[.slice ai d.length an,.agg #[.int .i64 ((Aa l1 a).f2.f0),.int .i64 ((Aa l1 a).f2.f1),.int .i64 ((Aa l1 a).f2.f2),.int .i64 ((Aa l1 a).f2.f3),.string ((Aa l1 a).f2.f4)]] ?_;(with_reducible refine(Bz.calls k1 _ _ d ((Aa l1 a).f2.f0) ((Aa l1 a).f2.f1) ((Aa l1 a).f2.f2) ((Aa l1 a).f2.f3) ((Aa l1 a).f2.f4) I _ ?q' ?z' A5.o).mono ?_);(case q'=>repeat(first|exact(Kd.Bk c.o).2.2|(with_reducible refine Kd.C_alloc ?_ _)|(with_reducible refine Kd.Cz ?_ _)|(with_reducible refine Kd.C_drew ?_)));(case z'=>exact(Kd.Bk c.o).2.1);rintro e w7 ⟨ax,rfl,P,E⟩;refine⟨_,rfl,?_⟩;replace c:=a_ (Kd.Dn (FD c.o) (Kd.BO P) E);have J:=a_ (Kd.AN (Kd.FQ (M:=λj=>(w.heap.size≤j)) P (Ab (Ad)) (λj h_=>h_)) (Ab (Ad)));replace HB:=a_ (BA (Ad) E);(try clear E P)))
    go_roundg k1
    case measure=>have:=U.o;omega
    case rel=>exact⟨(I),(wrap64 (a+1)),(Cr),H',⟨by have:=U.o;omega⟩,⟨Kd.AH (Kd.Oh (by(with_reducible repeat(first|apply Kd.R_alloc|apply Kd.An|apply Kd.As));exact Kd.Aj J.o (λ_ y=>y.1))) (λj y=>by first|exact⟨(.inr (y.1)),y.2⟩|exact(.inr (y)))⟩,⟨Ad⟩⟩
   ·rw[if_neg c4]at H
    exact absurd H (by simp)
  ·rw[if_neg c3]at H
   have X:decide (a<(l1.length:Int))=false:=C1 c3
   clear c3
   obtain⟨v,g⟩:∃y_:List (Ba),y_=(([]:List (Ba))):=⟨_,rfl⟩
   replace H:(if v.length+d.length<4398046511104 then(some (v++d))else(none))=some r:=by first|(rw[g];with_reducible exact H)|(have x:=(Option.bind_some _ _).symm.trans H;rw[g];with_reducible exact x)|(have x:=(Option.bind_some _ _).symm.trans H;with_reducible exact x)|with_reducible exact H|(rw[g];exact H)|exact H
   have A:=a_ g
   clear g
   by_cases c8:v.length+d.length<4398046511104
   ·rw[if_pos c8]at H
    have W:=a_ c8
    clear c8
    obtain⟨ah,i⟩:∃y_:List (Ba),y_=(v++d):=⟨_,rfl⟩
    replace H:(some ah)=some r:=by first|(rw[i];with_reducible exact H)|(have x:=(Option.bind_some _ _).symm.trans H;rw[i];with_reducible exact x)|(have x:=(Option.bind_some _ _).symm.trans H;with_reducible exact x)|with_reducible exact H|(rw[i];exact H)|exact H
    have L:=a_ i
    clear i
    obtain rfl:=C5 H
    go_wp2_with(first|((with_reducible refine Cd (N:=19) rfl ?_);refine Kd.DD Dj _ 68 ?hg (N:=19) ?hd (xs:=([]:List (Ba))) (inner:=[]) (ok:=λ_=>True) (okp:=λ_=>True) ?hr ?hp (λ_ y=>y) trivial (Below.refl _ _) (Nat.le_refl _) (by simp) ?_;(case hd=>rfl);(case hg=>rfl);(case hr=>first|(go_simp;done)|(go_simp;rfl));(case hp=>exact(Bi.none _ _));intro ag w9 l E Du O;clear Du O;(first|rw[<-A.o]at l|(simp only[Int.reduceToNat]at l;rw[<-A.o]at l));replace c:=a_ (Kd.Dn (FD c.o) (Kd.BO l) E);have z:=a_ (Kd.AN (Kd.FQ (M:=λj=>(w.heap.size≤j)) l (Ab (Ad)) (λj h_=>h_)) (Ab (Ad)));replace HB:=a_ (BA (Ad) E);clear E l;obtain⟨ar,av,Z⟩:=Kd.Ca c.o;subst Z)|((with_reducible refine Bt (b:=.append) (xs:=#[.tmp 19,.tmp 20]) rfl ?_);at_builtin;refine Kd.Co Dj (w0:=w) w.heap.size rfl (.tmp 19) (.tmp 20) 23 68 (.agg #[(.int .i64 0),(.int .i64 0),(.string ⟨#[]⟩)]) 32 rfl Tryd.underlying23 EC rfl (by decide) (by omega) ag v d _ _ _ (λj=>(w.heap.size≤j)) (λ_=>False) rfl rfl ?aO ?aR (λ_ _ h=>h) (λ_ h=>h.elim) ?aF ?aB ?aS ?aL ?_;(case aR=>repeat(first|exact(Kd.Bk c.o).2.2|(with_reducible refine Kd.C_alloc ?_ _)|(with_reducible refine Kd.Cz ?_ _)|(with_reducible refine Kd.C_drew ?_)));(case aB=>exact(Ad));(case aF=>exact(λj y=>(Nat.le_trans (Ab (Ad)) y)));(case aO=>exact(by(with_reducible repeat(first|apply Kd.R_alloc|apply Kd.An|apply Kd.As));exact Kd.Aj z.o (λ_ y=>y.1)));(case aS=>exact(Ab (Ad)));(case aL=>have:=W.o;omega);intro ay aA ho E hg aa;rw[<-L.o]at ho;replace c:=a_ (Kd.F8 (ok:=(λj=>(G j∨w.heap.size≤j))) (FD c.o) hg aa);replace HB:=a_ (E);have K:=a_ (ho);clear z;clear ho E hg aa))
    go_ret
    exact⟨_,C_,by(with_reducible repeat(first|apply Kd.R_alloc|apply Kd.An|apply Kd.As));exact K.o,Ad⟩
   ·rw[if_neg c8]at H
    exact absurd H (by simp)
def Ck.f(b:Int):Option (Bool):=(Aq.f b 1 3).bind λa=>(some a)
theorem Ck.calls(c:Int)(r:Bool)(w:World)(h:Ck.f c=some r) :
  Calls Tryd.prog 40 #[.int .i64 c] w λe w'=>e=.returned (.bool r)∧AA w w':=by
 unfold Ck.f at h;have H:=h;clear h;replace H:=BU H;obtain⟨b,a,H⟩:=H;try dsimp only at H
 have d:=a_ a;clear a;obtain rfl:=C5 H;go_enter Tryd.func40,Tryd.ntmps40;go_wp2_with(first|((with_reducible refine BN (f:=20) rfl ?_);refine BR 4 Tryd.func20 #[.int .i64 c,.int .i64 1,.int .i64 3] ?_;(with_reducible refine(Aq.calls c 1 3 b _ d.o).mono ?_);rintro e w' ⟨rfl,⟨nd,rfl⟩⟩;refine⟨_,rfl,?_⟩));go_ret;exact⟨Cr,by repeat(first|exact AA.refl _|apply AA.step)⟩
def C2.f(c:Int):Option (Bool):=(Ck.f c).bind λa=>(if a=true then(some true)else((Bf.f c).bind λb=>(some b)))
theorem C2.calls(b:Int)(r:Bool)(w:World)(h:C2.f b=some r) :
  Calls Tryd.prog 33 #[.int .i64 b] w λe w'=>e=.returned (.bool r)∧AA w w':=by
 unfold C2.f at h;have H:=h;clear h;replace H:=BU H;obtain⟨g,c,H⟩:=H;try dsimp only at H
 have i:=a_ c;clear c;by_cases c3:g=true
 ·subst c3;have H1:(some true)=some r:=by rw[if_pos rfl]at H;exact H
  clear H;have H:=H1;clear H1;obtain rfl:=C5 H;go_enter Tryd.func33,Tryd.ntmps33;go_wp2_with(first|((with_reducible refine BN (f:=40) rfl ?_);refine BR 4 Tryd.func40 #[.int .i64 b] ?_;(with_reducible refine(Ck.calls b true _ i.o).mono ?_);rintro e w' ⟨rfl,⟨nd,rfl⟩⟩;refine⟨_,rfl,?_⟩));go_ret;exact⟨Cr,by repeat(first|exact AA.refl _|apply AA.step)⟩
 replace c3:=Bool.eq_false_iff.mpr c3;subst c3;have H1:((Bf.f b).bind λa=>(some a))=some r:=by rw[if_neg (show¬ (false=true) by decide)]at H;exact H
 clear H;have H:=H1;clear H1;replace H:=BU H;obtain⟨a,d,H⟩:=H;try dsimp only at H
 have j:=a_ d;clear d;obtain rfl:=C5 H;go_enter Tryd.func33,Tryd.ntmps33;go_wp2_with(first|((with_reducible refine BN (f:=40) rfl ?_);refine BR 4 Tryd.func40 #[.int .i64 b] ?_;(with_reducible refine(Ck.calls b false _ i.o).mono ?_);rintro e w' ⟨rfl,⟨nd,rfl⟩⟩;refine⟨_,rfl,?_⟩)|(go_at_call 31;(with_reducible refine(Bf.calls b a _ j.o).mono ?_);rintro e w' ⟨rfl,⟨nd,rfl⟩⟩));go_ret;exact⟨Cr,by repeat(first|exact AA.refl _|apply AA.step)⟩
def Cl.j0:Nat->Bool->Int->Int->Int->Int->ByteArray->Option (Bool)
 | 0,_,_,_,_,_,_=>none
 | k+1,m,b,l,c,a,d=>if m=true then(some false)else(if b=1 then((C2.f c).bind λe=>(if e=true then(if a=0 then(some true)else((Bf.f a).bind λg=>(some g)))else(some false)))else(if b=2 then(if c=0 then(some (a==0))else(some false))else(if b=3 then((C2.f c).bind λi=>(if i=true then(if a=0 then(some (d.toList==([]:List UInt8)))else((Bf.f a).bind λj=>(if j=true then(some (d.toList==([]:List UInt8)))else(some false))))else(some false)))else(some false))))
def Cl.f(k:Nat)(c:Int)(a:Int)(d:Int)(e:Int)(b:ByteArray):Option (Bool):=(Bf.f a).bind λg=>(if g=true then((Bs.f k b).bind λi=>(Cl.j0 k (!i) c a d e b))else(Cl.j0 k true c a d e b))
theorem Cl.calls(k:Nat)(c:Int)(i:Int)(a:Int)(b:Int)(g:ByteArray)(r:Bool)(w:World)(h:Cl.f k c i a b g=some r) :
  Calls Tryd.prog 12 #[.agg #[.int .i64 c,.int .i64 i,.int .i64 a,.int .i64 b,.string g]] w λe w'=>e=.returned (.bool r)∧Below w.heap.size w w':=by
 have cF:=Tryd.underlying30;have HB:=a_ (Below.refl w.heap.size w);unfold Cl.f at h;have H:=h;clear h;have M:=a_ H;clear H;go_enter Tryd.func12,Tryd.ntmps12;go_upto_region 1 with(first|((with_reducible refine Cd (N:=1) rfl ?_);refine CE 1 (#[.int .i64 c,.int .i64 i,.int .i64 a,.int .i64 b,.string g]) 30 ?_;intro u hg w3 K hb;have d:=a_ (K);have aL:=a_ ((by rw[hg];exact(Ab (Ad)):w.heap.size≤u));have aK:=a_ ((by rw[hg];exact(Ab (Ad)):w.heap.size≤u));replace HB:=a_ (BA (Ad) hb);clear hb K hg))
 (try simp only[Act.put,List.setIfInBounds_toArray,List.set_cons_zero,List.set_cons_succ]);go_cut [12] (λcE wc=>∃(kq:Nat) (j:Bool),cE=.bool j∧Ae (Cl.j0 kq j c i a b g=some r)∧Ae (kq≤k)∧Ae (wc.heap[u]?=some (.cells #[.int .i64 c,.int .i64 i,.int .i64 a,.int .i64 b,.string g] 30 (0,0)))∧Ae (Below w.heap.size w wc))
 case first =>
  have H:=M.o;clear M;replace H:=BU H;obtain⟨aI,ai,H⟩:=H;try dsimp only at H
  have A4:=a_ ai;clear ai;by_cases c5:aI=true
  ·subst c5;have H1:((Bs.f k g).bind λv=>(Cl.j0 k (!v) c i a b g))=some r:=by rw[if_pos rfl]at H;exact H
   clear H;have H:=H1;clear H1;replace H:=BU H;obtain⟨v,aj,H⟩:=H;try dsimp only at H
   have A6:=a_ aj;clear aj;have H':=a_ H;clear H;obtain⟨ay,az,aA,aB,aC,ak,al,an,ao,aq⟩:=Cy d.o;go_wp2_with(first|((with_reducible refine BN (f:=31) rfl ?_);refine BR 5 Tryd.func31 #[.int .i64 i] ?_;(with_reducible refine(Bf.calls i true _ A4.o).mono ?_);rintro e w' ⟨rfl,⟨nd,rfl⟩⟩;refine⟨_,rfl,?_⟩)|(go_at_call 32;(with_reducible refine(Bs.calls k g v _ A6.o).mono ?_);rintro e w' ⟨rfl,⟨nd,rfl⟩⟩));go_meet
   exact⟨_,(!v),(Cr),H',⟨by first|omega|exact Nat.le_refl _⟩,⟨Bp d.o⟩,⟨Ad⟩⟩
  replace c5:=Bool.eq_false_iff.mpr c5;subst c5;have H1:(Cl.j0 k true c i a b g)=some r:=by rw[if_neg (show¬ (false=true) by decide)]at H;exact H
  clear H;have H:=H1;clear H1;have H':=a_ H;clear H;obtain⟨aD,aE,aF,aG,aH,ar,au,av,aw,ax⟩:=Cy d.o;go_wp2_with(first|((with_reducible refine BN (f:=31) rfl ?_);refine BR 5 Tryd.func31 #[.int .i64 i] ?_;(with_reducible refine(Bf.calls i false _ A4.o).mono ?_);rintro e w' ⟨rfl,⟨nd,rfl⟩⟩;refine⟨_,rfl,?_⟩));go_meet
  exact⟨_,(true),(Cr),H',⟨by first|omega|exact Nat.le_refl _⟩,⟨Bp d.o⟩,⟨Ad⟩⟩
 clear M;try clear c1
 try clear c5
 try clear ay az aA aB aC ak al an ao aq
 try clear aD aE aF aG aH ar au av aw ax
 obtain⟨kq,j,rfl,HA,cG,d,HB⟩:=hcut;cases kq with
 | zero=>exact absurd HA.o (by simp[Cl.j0])
 | succ cH =>
  have H:=HA.o
  clear HA
  simp only[Cl.j0]at H
  by_cases c9:j=true
  ·subst c9
   have H1:(some false)=some r:=by rw[if_pos rfl]at H;exact H
   clear H
   have H:=H1
   clear H1
   obtain rfl:=C5 H
   go_wp2
   go_ret
   exact⟨C_,Ad⟩
  ·replace c9:=Bool.eq_false_iff.mpr c9
   subst c9
   have H1:(if c=1 then((C2.f a).bind λx=>(if x=true then(if b=0 then(some true)else((Bf.f b).bind λl=>(some l)))else(some false)))else(if c=2 then(if a=0 then(some (b==0))else(some false))else(if c=3 then((C2.f a).bind λy=>(if y=true then(if b=0 then(some (g.toList==([]:List UInt8)))else((Bf.f b).bind λm=>(if m=true then(some (g.toList==([]:List UInt8)))else(some false))))else(some false)))else(some false))))=some r:=by rw[if_neg (show¬ (false=true) by decide)]at H;exact H
   clear H
   have H:=H1
   clear H1
   by_cases Dr:c=1
   ·rw[if_pos Dr]at H
    have O:(c==1)=true:=beq_iff_eq.mpr Dr
    have P:(c != 1)=false:=Ff Dr
    clear Dr
    replace H:=BU H
    obtain⟨x,E,H⟩:=H
    try dsimp only at H
    have L:=a_ E
    clear E
    by_cases A:x=true
    ·subst A
     have H1:(if b=0 then(some true)else((Bf.f b).bind λl=>(some l)))=some r:=by rw[if_pos rfl]at H;exact H
     clear H
     have H:=H1
     clear H1
     by_cases n:b=0
     ·rw[if_pos n]at H
      have T:(b==0)=true:=beq_iff_eq.mpr n
      have U:(b != 0)=false:=Ff n
      clear n
      obtain rfl:=C5 H
      obtain⟨bF,bG,bH,bI,bJ,aM,aN,aO,aP,aQ⟩:=Cy (W:=wc) d.o
      go_wp2_with(first|((with_reducible refine BN (f:=33) rfl ?_);refine BR 19 Tryd.func33 #[.int .i64 a] ?_;(with_reducible refine(C2.calls a true _ L.o).mono ?_);rintro e w' ⟨rfl,⟨nd,rfl⟩⟩;refine⟨_,rfl,?_⟩))
      go_ret
      exact⟨C_,Ad⟩
     ·rw[if_neg n]at H
      have T:(b==0)=false:=Dq n
      have U:(b != 0)=true:=bne_iff_ne.mpr n
      replace H:=BU H
      obtain⟨l,G,H⟩:=H
      try dsimp only at H
      have aJ:=a_ G
      clear G
      obtain rfl:=C5 H
      obtain⟨bK,bL,bM,bN,bO,aR,aS,aT,aU,aV⟩:=Cy (W:=wc) d.o
      go_wp2_with(first|((with_reducible refine BN (f:=33) rfl ?_);refine BR 19 Tryd.func33 #[.int .i64 a] ?_;(with_reducible refine(C2.calls a true _ L.o).mono ?_);rintro e w' ⟨rfl,⟨nd,rfl⟩⟩;refine⟨_,rfl,?_⟩)|(go_at_call 31;(with_reducible refine(Bf.calls b l _ aJ.o).mono ?_);rintro e w' ⟨rfl,⟨nd,rfl⟩⟩))
      go_ret
      exact⟨C_,Ad⟩
    ·replace A:=Bool.eq_false_iff.mpr A
     subst A
     have H1:(some false)=some r:=by rw[if_neg (show¬ (false=true) by decide)]at H;exact H
     clear H
     have H:=H1
     clear H1
     obtain rfl:=C5 H
     obtain⟨bP,bQ,bR,bS,bT,aW,aX,aY,aZ,a0⟩:=Cy (W:=wc) d.o
     go_wp2_with(first|((with_reducible refine BN (f:=33) rfl ?_);refine BR 19 Tryd.func33 #[.int .i64 a] ?_;(with_reducible refine(C2.calls a false _ L.o).mono ?_);rintro e w' ⟨rfl,⟨nd,rfl⟩⟩;refine⟨_,rfl,?_⟩))
     go_ret
     exact⟨C_,Ad⟩
   ·rw[if_neg Dr]at H
    have O:(c==1)=false:=Dq Dr
    have P:(c != 1)=true:=bne_iff_ne.mpr Dr
    by_cases o:c=2
    ·rw[if_pos o]at H
     have X:(c==2)=true:=beq_iff_eq.mpr o
     have Y:(c != 2)=false:=Ff o
     clear o
     by_cases p:a=0
     ·rw[if_pos p]at H
      have Z:(a==0)=true:=beq_iff_eq.mpr p
      have aa:(a != 0)=false:=Ff p
      clear p
      obtain rfl:=C5 H
      obtain⟨bU,bV,bW,bX,bY,a1,a2,a3,a4,a5⟩:=Cy (W:=wc) d.o
      go_wp2
      go_ret
      exact⟨C_,Ad⟩
     ·rw[if_neg p]at H
      have Z:(a==0)=false:=Dq p
      have aa:(a != 0)=true:=bne_iff_ne.mpr p
      obtain rfl:=C5 H
      obtain⟨bZ,b6,b7,b8,b9,a6,a7,a8,a9,ba⟩:=Cy (W:=wc) d.o
      go_wp2
      go_ret
      exact⟨C_,Ad⟩
    ·rw[if_neg o]at H
     have X:(c==2)=false:=Dq o
     have Y:(c != 2)=true:=bne_iff_ne.mpr o
     by_cases q:c=3
     ·rw[if_pos q]at H
      have ab:(c==3)=true:=beq_iff_eq.mpr q
      have ae:(c != 3)=false:=Ff q
      clear q
      replace H:=BU H
      obtain⟨y,I,H⟩:=H
      try dsimp only at H
      have z:=a_ I
      clear I
      by_cases B:y=true
      ·subst B
       have H1:(if b=0 then(some (g.toList==([]:List UInt8)))else((Bf.f b).bind λm=>(if m=true then(some (g.toList==([]:List UInt8)))else(some false))))=some r:=by rw[if_pos rfl]at H;exact H
       clear H
       have H:=H1
       clear H1
       by_cases t:b=0
       ·rw[if_pos t]at H
        have af:(b==0)=true:=beq_iff_eq.mpr t
        have ag:(b != 0)=false:=Ff t
        clear t
        obtain rfl:=C5 H
        obtain⟨b_,ca,cb,cd,cf,bb,bc,bd,be,bf⟩:=Cy (W:=wc) d.o
        go_wp2_with(first|((with_reducible refine BN (f:=33) rfl ?_);refine BR 44 Tryd.func33 #[.int .i64 a] ?_;(with_reducible refine(C2.calls a true _ z.o).mono ?_);rintro e w' ⟨rfl,⟨nd,rfl⟩⟩;refine⟨_,rfl,?_⟩))
        go_ret
        exact⟨C_,Ad⟩
       ·rw[if_neg t]at H
        have af:(b==0)=false:=Dq t
        have ag:(b != 0)=true:=bne_iff_ne.mpr t
        replace H:=BU H
        obtain⟨m,J,H⟩:=H
        try dsimp only at H
        have ah:=a_ J
        clear J
        by_cases D:m=true
        ·subst D
         have H1:(some (g.toList==([]:List UInt8)))=some r:=by rw[if_pos rfl]at H;exact H
         clear H
         have H:=H1
         clear H1
         obtain rfl:=C5 H
         obtain⟨cg,cj,ck,cl,cm,bg,bh,bj,bk,bl⟩:=Cy (W:=wc) d.o
         go_wp2_with(first|((with_reducible refine BN (f:=33) rfl ?_);refine BR 44 Tryd.func33 #[.int .i64 a] ?_;(with_reducible refine(C2.calls a true _ z.o).mono ?_);rintro e w' ⟨rfl,⟨nd,rfl⟩⟩;refine⟨_,rfl,?_⟩)|(go_at_call 31;(with_reducible refine(Bf.calls b true _ ah.o).mono ?_);rintro e w' ⟨rfl,⟨nd,rfl⟩⟩))
         go_ret
         exact⟨C_,Ad⟩
        ·replace D:=Bool.eq_false_iff.mpr D
         subst D
         have H1:(some false)=some r:=by rw[if_neg (show¬ (false=true) by decide)]at H;exact H
         clear H
         have H:=H1
         clear H1
         obtain rfl:=C5 H
         obtain⟨cn,cp,cq,cr,ct,bm,bn,bo,bp,bq⟩:=Cy (W:=wc) d.o
         go_wp2_with(first|((with_reducible refine BN (f:=33) rfl ?_);refine BR 44 Tryd.func33 #[.int .i64 a] ?_;(with_reducible refine(C2.calls a true _ z.o).mono ?_);rintro e w' ⟨rfl,⟨nd,rfl⟩⟩;refine⟨_,rfl,?_⟩)|(go_at_call 31;(with_reducible refine(Bf.calls b false _ ah.o).mono ?_);rintro e w' ⟨rfl,⟨nd,rfl⟩⟩))
         go_ret
         exact⟨C_,Ad⟩
      ·replace B:=Bool.eq_false_iff.mpr B
       subst B
       have H1:(some false)=some r:=by rw[if_neg (show¬ (false=true) by decide)]at H;exact H
       clear H
       have H:=H1
       clear H1
       obtain rfl:=C5 H
       obtain⟨cu,cv,cw,cx,cy,br,bu,bw,bx,bz⟩:=Cy (W:=wc) d.o
       go_wp2_with(first|((with_reducible refine BN (f:=33) rfl ?_);refine BR 44 Tryd.func33 #[.int .i64 a] ?_;(with_reducible refine(C2.calls a false _ z.o).mono ?_);rintro e w' ⟨rfl,⟨nd,rfl⟩⟩;refine⟨_,rfl,?_⟩))
       go_ret
       exact⟨C_,Ad⟩
     ·rw[if_neg q]at H
      have ab:(c==3)=false:=Dq q
      have ae:(c != 3)=true:=bne_iff_ne.mpr q
      obtain rfl:=C5 H
      obtain⟨cz,cA,cB,cC,cD,bA,bB,bC,bD,bE⟩:=Cy (W:=wc) d.o
      go_wp2
      go_ret
      exact⟨C_,Ad⟩
def Bv.f(k:Nat)(a:Int)(d:Int)(b:Int)(c:Int)(e:Int)(g:Int)(i:ByteArray):Option (Bool):=(Aq.f a 1 3).bind λj=>(if j=true then((Aq.f d 1 40).bind λl=>(if l=true then((Cl.f k b c e g i).bind λm=>(if m=true then(if b=1 then(some ((wrap64 (Int.tdiv c 10))==a))else(some true))else(some false)))else(some false)))else(some false))
theorem Bv.calls(k:Nat)(b:Int)(j:Int)(c:Int)(g:Int)(l:Int)(m:Int)(n:ByteArray)(r:Bool)(w:World)(h:Bv.f k b j c g l m n=some r) :
  Calls Tryd.prog 22 #[.agg #[.int .i64 b,.int .i64 j,.int .i64 c,.int .i64 g,.int .i64 l,.int .i64 m,.string n]] w λe w'=>e=.returned (.bool r)∧Below w.heap.size w w':=by
 have bJ:=Tryd.underlying32;have bI:=Tryd.underlying30;have HB:=a_ (Below.refl w.heap.size w);unfold Bv.f at h;have H:=h;clear h;replace H:=BU H;obtain⟨D,x,H⟩:=H;try dsimp only at H
 have v:=a_ x;clear x;by_cases c3:D=true
 ·subst c3;have H1:((Aq.f j 1 40).bind λu=>(if u=true then((Cl.f k c g l m n).bind λt=>(if t=true then(if c=1 then(some ((wrap64 (Int.tdiv g 10))==b))else(some true))else(some false)))else(some false)))=some r:=by rw[if_pos rfl]at H;exact H
  clear H;have H:=H1;clear H1;replace H:=BU H;obtain⟨u,y,H⟩:=H;try dsimp only at H
  have E:=a_ y;clear y;by_cases c5:u=true
  ·subst c5;have H1:((Cl.f k c g l m n).bind λt=>(if t=true then(if c=1 then(some ((wrap64 (Int.tdiv g 10))==b))else(some true))else(some false)))=some r:=by rw[if_pos rfl]at H;exact H
   clear H;have H:=H1;clear H1;replace H:=BU H;obtain⟨t,z,H⟩:=H;try dsimp only at H
   have G:=a_ z;clear z;by_cases c7:t=true
   ·subst c7;have H1:(if c=1 then(some ((wrap64 (Int.tdiv g 10))==b))else(some true))=some r:=by rw[if_pos rfl]at H;exact H
    clear H;have H:=H1;clear H1;by_cases c8:c=1
    ·rw[if_pos c8]at H;have A:(c==1)=true:=beq_iff_eq.mpr c8;have B:(c != 1)=false:=Ff c8;clear c8;obtain rfl:=C5 H;go_enter Tryd.func22,Tryd.ntmps22;go_wp2_with(first|((with_reducible refine Cd (N:=1) rfl ?_);refine CE 1 (#[.int .i64 b,.int .i64 j,.int .i64 c,.int .i64 g,.int .i64 l,.int .i64 m,.string n]) 32 ?_;intro d hg w9 i o;have a:=a_ (i);have q:=a_ ((by rw[hg];exact(Ab (Ad)):w.heap.size≤d));have p:=a_ ((by rw[hg];exact(Ab (Ad)):w.heap.size≤d));replace HB:=a_ (BA (Ad) o);clear o i hg;obtain⟨aQ,aR,aS,aT,aU,aV,aW,I,J,K,L,M,O,P⟩:=Dz a.o)|((with_reducible refine BN (f:=20) rfl ?_);refine BR 5 Tryd.func20 #[.int .i64 b,.int .i64 1,.int .i64 3] ?_;(with_reducible refine(Aq.calls b 1 3 true _ v.o).mono ?_);rintro e w' ⟨rfl,⟨nd,rfl⟩⟩;refine⟨_,rfl,?_⟩)|(go_at_call 20;(with_reducible refine(Aq.calls j 1 40 true _ E.o).mono ?_);rintro e w' ⟨rfl,⟨nd,rfl⟩⟩)|(go_at_call 12;(with_reducible refine(Cl.calls k c g l m n true _ G.o).mono ?_);rintro e bK ⟨rfl,o⟩;replace HB:=a_ (BA (Ad) o);replace a:=a_ (C3 a.o o);(try clear o);obtain⟨aX,aY,aZ,a0,a1,a2,a3,T,U,W,X,Y,Z,aa⟩:=Dz a.o));go_ret;exact⟨C_,Ad⟩
    rw[if_neg c8]at H;have A:(c==1)=false:=Dq c8;have B:(c != 1)=true:=bne_iff_ne.mpr c8;obtain rfl:=C5 H;go_enter Tryd.func22,Tryd.ntmps22;go_wp2_with(first|((with_reducible refine Cd (N:=1) rfl ?_);refine CE 1 (#[.int .i64 b,.int .i64 j,.int .i64 c,.int .i64 g,.int .i64 l,.int .i64 m,.string n]) 32 ?_;intro d hg bL i o;have a:=a_ (i);have q:=a_ ((by rw[hg];exact(Ab (Ad)):w.heap.size≤d));have p:=a_ ((by rw[hg];exact(Ab (Ad)):w.heap.size≤d));replace HB:=a_ (BA (Ad) o);clear o i hg;obtain⟨a4,a5,a6,a7,a8,a9,ba,ab,ae,af,ag,ah,ai,aj⟩:=Dz a.o)|((with_reducible refine BN (f:=20) rfl ?_);refine BR 5 Tryd.func20 #[.int .i64 b,.int .i64 1,.int .i64 3] ?_;(with_reducible refine(Aq.calls b 1 3 true _ v.o).mono ?_);rintro e w' ⟨rfl,⟨nd,rfl⟩⟩;refine⟨_,rfl,?_⟩)|(go_at_call 20;(with_reducible refine(Aq.calls j 1 40 true _ E.o).mono ?_);rintro e w' ⟨rfl,⟨nd,rfl⟩⟩)|(go_at_call 12;(with_reducible refine(Cl.calls k c g l m n true _ G.o).mono ?_);rintro e bM ⟨rfl,o⟩;replace HB:=a_ (BA (Ad) o);replace a:=a_ (C3 a.o o);(try clear o);obtain⟨bb,bc,bd,be,bf,bg,bh,ak,al,an,ao,aq,ar,au⟩:=Dz a.o));go_ret;exact⟨C_,Ad⟩
   replace c7:=Bool.eq_false_iff.mpr c7;subst c7;have H1:(some false)=some r:=by rw[if_neg (show¬ (false=true) by decide)]at H;exact H
   clear H;have H:=H1;clear H1;obtain rfl:=C5 H;go_enter Tryd.func22,Tryd.ntmps22;go_wp2_with(first|((with_reducible refine Cd (N:=1) rfl ?_);refine CE 1 (#[.int .i64 b,.int .i64 j,.int .i64 c,.int .i64 g,.int .i64 l,.int .i64 m,.string n]) 32 ?_;intro d hg bN i o;have a:=a_ (i);have q:=a_ ((by rw[hg];exact(Ab (Ad)):w.heap.size≤d));have p:=a_ ((by rw[hg];exact(Ab (Ad)):w.heap.size≤d));replace HB:=a_ (BA (Ad) o);clear o i hg;obtain⟨bj,bk,bl,bm,bn,bo,bp,av,aw,ax,ay,az,aA,aB⟩:=Dz a.o)|((with_reducible refine BN (f:=20) rfl ?_);refine BR 5 Tryd.func20 #[.int .i64 b,.int .i64 1,.int .i64 3] ?_;(with_reducible refine(Aq.calls b 1 3 true _ v.o).mono ?_);rintro e w' ⟨rfl,⟨nd,rfl⟩⟩;refine⟨_,rfl,?_⟩)|(go_at_call 20;(with_reducible refine(Aq.calls j 1 40 true _ E.o).mono ?_);rintro e w' ⟨rfl,⟨nd,rfl⟩⟩)|(go_at_call 12;(with_reducible refine(Cl.calls k c g l m n false _ G.o).mono ?_);rintro e bO ⟨rfl,o⟩;replace HB:=a_ (BA (Ad) o);replace a:=a_ (C3 a.o o);(try clear o)));go_ret;exact⟨C_,Ad⟩
  replace c5:=Bool.eq_false_iff.mpr c5;subst c5;have H1:(some false)=some r:=by rw[if_neg (show¬ (false=true) by decide)]at H;exact H
  clear H;have H:=H1;clear H1;obtain rfl:=C5 H;go_enter Tryd.func22,Tryd.ntmps22;go_wp2_with(first|((with_reducible refine Cd (N:=1) rfl ?_);refine CE 1 (#[.int .i64 b,.int .i64 j,.int .i64 c,.int .i64 g,.int .i64 l,.int .i64 m,.string n]) 32 ?_;intro d hg bP i o;have a:=a_ (i);have q:=a_ ((by rw[hg];exact(Ab (Ad)):w.heap.size≤d));have p:=a_ ((by rw[hg];exact(Ab (Ad)):w.heap.size≤d));replace HB:=a_ (BA (Ad) o);clear o i hg;obtain⟨bq,br,bu,bw,bx,bz,bA,aC,aD,aE,aF,aG,aH,aI⟩:=Dz a.o)|((with_reducible refine BN (f:=20) rfl ?_);refine BR 5 Tryd.func20 #[.int .i64 b,.int .i64 1,.int .i64 3] ?_;(with_reducible refine(Aq.calls b 1 3 true _ v.o).mono ?_);rintro e w' ⟨rfl,⟨nd,rfl⟩⟩;refine⟨_,rfl,?_⟩)|(go_at_call 20;(with_reducible refine(Aq.calls j 1 40 false _ E.o).mono ?_);rintro e w' ⟨rfl,⟨nd,rfl⟩⟩));go_ret;exact⟨C_,Ad⟩
 replace c3:=Bool.eq_false_iff.mpr c3;subst c3;have H1:(some false)=some r:=by rw[if_neg (show¬ (false=true) by decide)]at H;exact H
 clear H;have H:=H1;clear H1;obtain rfl:=C5 H;go_enter Tryd.func22,Tryd.ntmps22;go_wp2_with(first|((with_reducible refine Cd (N:=1) rfl ?_);refine CE 1 (#[.int .i64 b,.int .i64 j,.int .i64 c,.int .i64 g,.int .i64 l,.int .i64 m,.string n]) 32 ?_;intro d hg bQ i o;have a:=a_ (i);have q:=a_ ((by rw[hg];exact(Ab (Ad)):w.heap.size≤d));have p:=a_ ((by rw[hg];exact(Ab (Ad)):w.heap.size≤d));replace HB:=a_ (BA (Ad) o);clear o i hg;obtain⟨bB,bC,bD,bE,bF,bG,bH,aJ,aK,aL,aM,aN,aO,aP⟩:=Dz a.o)|((with_reducible refine BN (f:=20) rfl ?_);refine BR 5 Tryd.func20 #[.int .i64 b,.int .i64 1,.int .i64 3] ?_;(with_reducible refine(Aq.calls b 1 3 false _ v.o).mono ?_);rintro e w' ⟨rfl,⟨nd,rfl⟩⟩;refine⟨_,rfl,?_⟩));go_ret;exact⟨C_,Ad⟩
def Bm.l0:Nat->List (AM)->Int->Option (Bool)
 | 0,_,_=>none
 | k+1,a,b=>if b<(a.length:Int)then(if 0≤b then((Bv.f k ((Aa a b).f0) ((Aa a b).f1) ((Aa a b).f2.f0) ((Aa a b).f2.f1) ((Aa a b).f2.f2) ((Aa a b).f2.f3) ((Aa a b).f2.f4)).bind λc=>(if c=true then(if b≤(a.length:Int)then((Be.f k (a.take (b:Int).toNat) ((Aa a b).f0)).bind λd=>(if((Aa a b).f1)=(wrap64 (d+1))then(Bm.l0 k a (wrap64 (b+1)))else(some false)))else(none))else(some false)))else(none))else(some (decide ((a.length:Int)≤40)))
def Bm.f(k:Nat)(l0:List (AM)):Option (Bool):=Bm.l0 k l0 0
def Bm.T4:Bool×List (List Nat×List Nat):=(true,[([],[]),([],[]),([0,1],[0,1]),([2],[2]),([3],[3]),([4],[4]),([5,4],[5]),([6],[6]),([6],[6]),([7,8,6],[6,7,8]),([9,6],[6,9]),([10,6],[6,10]),([6],[6]),([6],[6]),([12,13,6],[6,12,13]),([6],[6]),([6],[6]),([15,16,6],[6,15,16]),([17,6],[6,17]),([18,6],[6,18]),([14,19,6,6],[6,14,19]),([20,6],[6,20]),([11,21,6],[6,11,21]),([6,22],[6,22])])
def Bm.B4:List Nat:=[0,0,3,7,15,31,63,127,127,511,1023,2047,127,127,12415,127,127,98431,229503,491647,1044607,2093183,4194303,8388607]
theorem Bm.Ps:ED .any (opsOf Tryd.f78 4)=Bm.T4:=by kernel_rfl
theorem Bm.Mx:DU Bm.T4.2 Bm.B4=true:=by kernel_rfl
theorem Bm.calls(k:Nat)(A0:Option Addr)(c0:Nat)(l0:List (AM))(r:Bool)(w:World)(a9:Kd.C BT w A0 l0.length l0)(a8:l0.length≤c0)(h:Bm.f k l0=some r) :
  Calls Tryd.prog 78 #[.slice A0 l0.length c0] w λe w'=>e=.returned (.bool r)∧Below w.heap.size w w':=by
 have bh:=Tryd.underlying32;have aB:=a_ a9;have a3:=a_ a8;clear a9 a8;have HB:=a_ (Below.refl w.heap.size w);unfold Bm.f at h;have H:=h;clear h;have H':=a_ H;clear H;go_enter Tryd.func78,Tryd.ntmps78;go_wp2;go_loopg [3] k (λkq v3 w'=>∃(a:Int),v3=.int .i64 a∧Ae (Bm.l0 kq l0 a=some r)∧Ae (kq≤k)∧Ae (Below w.heap.size w w'))
 case atStart=>exact⟨(0),(Cr),H',⟨Nat.le_refl _⟩,⟨Ad⟩⟩
 clear H';obtain⟨a,rfl,HA,a4,HB⟩:=hrel;cases gk with
 | zero=>exact absurd HA.o (by simp[Bm.l0])
 | succ k1 =>
  have H:=HA.o
  clear HA
  simp only[Bm.l0]at H
  by_cases c2:a<(l0.length:Int)
  ·rw[if_pos c2]at H
   have a5:decide (a<(l0.length:Int))=true:=BJ c2
   clear c2
   by_cases c3:0≤a
   ·rw[if_pos c3]at H
    have bd:decide (0≤a)=true:=BJ c3
    clear c3
    replace H:=BU H
    obtain⟨ba,a1,H⟩:=H
    try dsimp only at H
    have A4:=a_ a1
    clear a1
    by_cases c5:ba=true
    ·subst c5
     have H1:(if a≤(l0.length:Int)then((Be.f k1 (l0.take (a:Int).toNat) ((Aa l0 a).f0)).bind λau=>(if((Aa l0 a).f1)=(wrap64 (au+1))then(Bm.l0 k1 l0 (wrap64 (a+1)))else(some false)))else(none))=some r:=by rw[if_pos rfl]at H;exact H
     clear H
     have H:=H1
     clear H1
     have be:=eq_true (Bu:0≤a)
     by_cases c7:a≤(l0.length:Int)
     ·rw[if_pos c7]at H
      have bf:=eq_true c7
      have bg:decide (a≤(l0.length:Int))=true:=BJ c7
      clear c7
      obtain⟨av,aw⟩:∃y_:List (AM),y_=(l0.take (a:Int).toNat):=⟨_,rfl⟩
      replace H:((Be.f k1 av ((Aa l0 a).f0)).bind λau=>(if((Aa l0 a).f1)=(wrap64 (au+1))then(Bm.l0 k1 l0 (wrap64 (a+1)))else(some false)))=some r:=by first|(rw[aw];with_reducible exact H)|(have aW:=(Option.bind_some _ _).symm.trans H;rw[aw];with_reducible exact aW)|(have aW:=(Option.bind_some _ _).symm.trans H;with_reducible exact aW)|with_reducible exact H|(rw[aw];exact H)|exact H
      have aC:=a_ aw
      clear aw
      replace H:=BU H
      obtain⟨au,a2,H⟩:=H
      try dsimp only at H
      have A8:=a_ a2
      clear a2
      by_cases c9:((Aa l0 a).f1)=(wrap64 (au+1))
      ·rw[if_pos c9]at H
       have a6:(((Aa l0 a).f1)==(wrap64 (au+1)))=true:=beq_iff_eq.mpr c9
       have a7:(((Aa l0 a).f1) != (wrap64 (au+1)))=false:=Ff c9
       clear c9
       have H':=a_ H
       clear H
       try go_wp2
       replace HB:=a_ (Ay HB.o)
       have aq:0≤(a:Int):=Bu
       have ar:a<(l0.length:Int):=Bu
       obtain⟨b,aD,c,d,g,i,j,l,o⟩:=CD aB.o a aq ar
       have z:=o
       have y:=l
       have x:=j
       have v:=i
       have u:=g
       have t:=d
       have q:=c
       cases aD
       replace c:=(Au HB.o c:)
       replace d:=(Au HB.o d:)
       replace g:=(Au HB.o g:)
       replace i:=(Au HB.o i:)
       replace j:=(Au HB.o j:)
       replace l:=(Au HB.o l:)
       replace o:=(Au HB.o o:)
       replace aq:=eq_true aq
       replace ar:=eq_true ar
       have ax:0≤(a:Int):=Bu
       have az:a<(l0.length:Int):=Bu
       obtain⟨aI,aK,A,B,D,E,G,I,J⟩:=CD aB.o a ax az
       have ag:=J
       have af:=I
       have ae:=G
       have ab:=E
       have aa:=D
       have Z:=B
       have Y:=A
       obtain rfl:b=aI:=(by injection aK)
       replace A:=(Au HB.o A:)
       replace B:=(Au HB.o B:)
       replace D:=(Au HB.o D:)
       replace E:=(Au HB.o E:)
       replace G:=(Au HB.o G:)
       replace I:=(Au HB.o I:)
       replace J:=(Au HB.o J:)
       replace ax:=eq_true ax
       replace az:=eq_true az
       have ay:0≤(a:Int):=Bu
       have aA:a<(l0.length:Int):=Bu
       obtain⟨aJ,aL,L,M,O,T,U,W,X⟩:=CD aB.o a ay aA
       have ao:=X
       have an:=W
       have al:=U
       have ak:=T
       have aj:=O
       have ai:=M
       have ah:=L
       obtain rfl:b=aJ:=(by injection aL)
       replace L:=(Au HB.o L:)
       replace M:=(Au HB.o M:)
       replace O:=(Au HB.o O:)
       replace T:=(Au HB.o T:)
       replace U:=(Au HB.o U:)
       replace W:=(Au HB.o W:)
       replace X:=(Au HB.o X:)
       replace ay:=eq_true ay
       replace aA:=eq_true aA
       refine Ch (n:=24) (S:=λw'=>w'.cell? (b.add ((a).toNat*7))=some (.int .i64 ((Aa l0 a).f0))∧w'.cell? ⟨(b.add ((a).toNat*7)).block,(b.add ((a).toNat*7)).off+1,none⟩=some (.int .i64 ((Aa l0 a).f1))∧w'.cell? ⟨(b.add ((a).toNat*7)).block,(b.add ((a).toNat*7)).off+2,none⟩=some (.int .i64 ((Aa l0 a).f2.f0))∧w'.cell? ⟨(b.add ((a).toNat*7)).block,(b.add ((a).toNat*7)).off+3,none⟩=some (.int .i64 ((Aa l0 a).f2.f1))∧w'.cell? ⟨(b.add ((a).toNat*7)).block,(b.add ((a).toNat*7)).off+4,none⟩=some (.int .i64 ((Aa l0 a).f2.f2))∧w'.cell? ⟨(b.add ((a).toNat*7)).block,(b.add ((a).toNat*7)).off+5,none⟩=some (.int .i64 ((Aa l0 a).f2.f3))∧w'.cell? ⟨(b.add ((a).toNat*7)).block,(b.add ((a).toNat*7)).off+6,none⟩=some (.string ((Aa l0 a).f2.f4))∧w'.cell? (b.add ((a).toNat*7))=some (.int .i64 ((Aa l0 a).f0))∧w'.cell? ⟨(b.add ((a).toNat*7)).block,(b.add ((a).toNat*7)).off+1,none⟩=some (.int .i64 ((Aa l0 a).f1))∧w'.cell? ⟨(b.add ((a).toNat*7)).block,(b.add ((a).toNat*7)).off+2,none⟩=some (.int .i64 ((Aa l0 a).f2.f0))∧w'.cell? ⟨(b.add ((a).toNat*7)).block,(b.add ((a).toNat*7)).off+3,none⟩=some (.int .i64 ((Aa l0 a).f2.f1))∧w'.cell? ⟨(b.add ((a).toNat*7)).block,(b.add ((a).toNat*7)).off+4,none⟩=some (.int .i64 ((Aa l0 a).f2.f2))∧w'.cell? ⟨(b.add ((a).toNat*7)).block,(b.add ((a).toNat*7)).off+5,none⟩=some (.int .i64 ((Aa l0 a).f2.f3))∧w'.cell? ⟨(b.add ((a).toNat*7)).block,(b.add ((a).toNat*7)).off+6,none⟩=some (.string ((Aa l0 a).f2.f4))∧w'.cell? (b.add ((a).toNat*7))=some (.int .i64 ((Aa l0 a).f0))∧w'.cell? ⟨(b.add ((a).toNat*7)).block,(b.add ((a).toNat*7)).off+1,none⟩=some (.int .i64 ((Aa l0 a).f1))∧w'.cell? ⟨(b.add ((a).toNat*7)).block,(b.add ((a).toNat*7)).off+2,none⟩=some (.int .i64 ((Aa l0 a).f2.f0))∧w'.cell? ⟨(b.add ((a).toNat*7)).block,(b.add ((a).toNat*7)).off+3,none⟩=some (.int .i64 ((Aa l0 a).f2.f1))∧w'.cell? ⟨(b.add ((a).toNat*7)).block,(b.add ((a).toNat*7)).off+4,none⟩=some (.int .i64 ((Aa l0 a).f2.f2))∧w'.cell? ⟨(b.add ((a).toNat*7)).block,(b.add ((a).toNat*7)).off+5,none⟩=some (.int .i64 ((Aa l0 a).f2.f3))∧w'.cell? ⟨(b.add ((a).toNat*7)).block,(b.add ((a).toNat*7)).off+6,none⟩=some (.string ((Aa l0 a).f2.f4))) (ds:=[]) #[false,false,false,false,false,false,false,false,false,false,false,false,false,false,false,false,false,false,false,false,false,false,false,false] (by kernel_rfl) rfl rfl ⟨((Au HB.o q:)),((Au HB.o t:)),((Au HB.o u:)),((Au HB.o v:)),((Au HB.o x:)),((Au HB.o y:)),((Au HB.o z:)),((Au HB.o Y:)),((Au HB.o Z:)),((Au HB.o aa:)),((Au HB.o ab:)),((Au HB.o ae:)),((Au HB.o af:)),((Au HB.o ag:)),((Au HB.o ah:)),((Au HB.o ai:)),((Au HB.o aj:)),((Au HB.o ak:)),((Au HB.o al:)),((Au HB.o an:)),((Au HB.o ao:))⟩ (λp=>?_);refine BZ Bm.Ps Bm.Mx (λHT_ HW_=>?_)
       generalize wr.drew=bl at HB c d g i j l o A B D E G I J L M O T U W X p⊢
       refine A_ 0 10 ?_
       refine A_ 1 11 ?_
       refine A_ 2 12 ?_
       refine Jc 3 13 p ?_
       refine EU 4 14 (λK hK=>?_)
       refine Dp Tryd.func22 (by kernel_rfl) rfl #[.agg #[.int .i64 ((Aa l0 a).f0),.int .i64 ((Aa l0 a).f1),.int .i64 ((Aa l0 a).f2.f0),.int .i64 ((Aa l0 a).f2.f1),.int .i64 ((Aa l0 a).f2.f2),.int .i64 ((Aa l0 a).f2.f3),.string ((Aa l0 a).f2.f4)]] (by rfl) rfl rfl Lz ?_
       with_reducible refine(Bv.calls k1 ((Aa l0 a).f0) ((Aa l0 a).f1) ((Aa l0 a).f2.f0) ((Aa l0 a).f2.f1) ((Aa l0 a).f2.f2) ((Aa l0 a).f2.f3) ((Aa l0 a).f2.f4) true _ A4.o).mono ?_
       rintro e bm ⟨rfl,hb⟩
       refine⟨_,rfl,?_⟩
       replace HB:=a_ (BA (Ad) hb)
       try clear hb
       have aZ:(a:Int)≤((l0.length:Int):Int):=Bu
       obtain⟨bj,aM,_,aX,_⟩:=info_parts C7
       have aE:l0.length≤c0:=a3.o
       have aU:Kd.C BT _ (some b) l0.length l0:=aB.o
       have aS:=GJ (P:=Tryd.prog) 24 32 .i64 Tryd.underlying24 aM (some b) l0.length c0 a (Bu) aZ aE
       have aO:=Kd.GB (m:=(a:Int).toNat) aU (by omega)
       have aQ:av.length=(a:Int).toNat:=(by rw[aC.o,List.length_take];omega)
       rw[<-aC.o]at aO
       rw[<-aQ]at aS
       have aH:=a_ aO
       have aG:=a_ (show av.length≤c0 from by omega)
       clear aO aU aE aM aX
       have bb:=a_ aQ
       clear aQ
       replace aZ:=eq_true aZ
       refine hK.out _ _ ⟨((Au HB.o q:)),((Au HB.o t:)),((Au HB.o u:)),((Au HB.o v:)),((Au HB.o x:)),((Au HB.o y:)),((Au HB.o z:)),((Au HB.o Y:)),((Au HB.o Z:)),((Au HB.o aa:)),((Au HB.o ab:)),((Au HB.o ae:)),((Au HB.o af:)),((Au HB.o ag:)),((Au HB.o ah:)),((Au HB.o ai:)),((Au HB.o aj:)),((Au HB.o ak:)),((Au HB.o al:)),((Au HB.o an:)),((Au HB.o ao:))⟩ (λp=>?_)
       clear hK K
       refine Ea 14 ?_
       refine A_ 5 15 ?_
       refine A_ 6 16 ?_
       refine A_ 7 17 ?_
       refine A_ 8 18 ?_
       refine A_ 9 19 ?_
       refine A_ 10 20 ?_
       refine A_ 12 22 ?_
       refine A_ 13 23 ?_
       refine A_ 14 24 ?_
       refine A_ 15 25 ?_
       refine A_ 16 26 ?_
       refine A_ 17 27 ?_
       refine A_ 18 28 ?_
       refine Jc 11 21 p ?_
       refine Jc 19 29 p ?_
       refine EU 20 30 (λK hK=>?_)
       refine Dp Tryd.func63 (by kernel_rfl) rfl #[.slice (some b) av.length c0,.int .i64 ((Aa l0 a).f0)] (by rfl) rfl rfl Lz ?_
       with_reducible refine(Be.calls k1 _ _ av ((Aa l0 a).f0) au _ ?q' ?z' A8.o).mono ?_
       (case q'=>exact Gt aH.o)
       (case z'=>exact aG.o)
       rintro e w' ⟨rfl,⟨nd,rfl⟩⟩
       refine⟨_,rfl,?_⟩
       refine hK.out _ _ ⟨((Au HB.o q:)),((Au HB.o t:)),((Au HB.o u:)),((Au HB.o v:)),((Au HB.o x:)),((Au HB.o y:)),((Au HB.o z:)),((Au HB.o Y:)),((Au HB.o Z:)),((Au HB.o aa:)),((Au HB.o ab:)),((Au HB.o ae:)),((Au HB.o af:)),((Au HB.o ag:)),((Au HB.o ah:)),((Au HB.o ai:)),((Au HB.o aj:)),((Au HB.o ak:)),((Au HB.o al:)),((Au HB.o an:)),((Au HB.o ao:))⟩ (λp=>?_)
       clear hK K
       refine Ea 30 ?_
       refine A_ 21 31 ?_
       refine A_ 22 32 ?_
       refine A_ 23 33 ?_
       refine CT (CU HT_.o (by kernel_rfl)) ?_
       try go_wp2
       go_roundg k1
       case measure=>have:=a4.o;omega
       case rel=>exact⟨(wrap64 (a+1)),(Cr),H',⟨by have:=a4.o;omega⟩,⟨Ad⟩⟩
      ·rw[if_neg c9]at H
       have a6:(((Aa l0 a).f1)==(wrap64 (au+1)))=false:=Dq c9
       have a7:(((Aa l0 a).f1) != (wrap64 (au+1)))=true:=bne_iff_ne.mpr c9
       obtain rfl:=C5 H
       try go_wp2
       replace HB:=a_ (Ay HB.o)
       have aq:0≤(a:Int):=Bu
       have ar:a<(l0.length:Int):=Bu
       obtain⟨b,aD,c,d,g,i,j,l,o⟩:=CD aB.o a aq ar
       have z:=o
       have y:=l
       have x:=j
       have v:=i
       have u:=g
       have t:=d
       have q:=c
       cases aD
       replace c:=(Au HB.o c:)
       replace d:=(Au HB.o d:)
       replace g:=(Au HB.o g:)
       replace i:=(Au HB.o i:)
       replace j:=(Au HB.o j:)
       replace l:=(Au HB.o l:)
       replace o:=(Au HB.o o:)
       replace aq:=eq_true aq
       replace ar:=eq_true ar
       have ax:0≤(a:Int):=Bu
       have az:a<(l0.length:Int):=Bu
       obtain⟨aI,aK,A,B,D,E,G,I,J⟩:=CD aB.o a ax az
       have ag:=J
       have af:=I
       have ae:=G
       have ab:=E
       have aa:=D
       have Z:=B
       have Y:=A
       obtain rfl:b=aI:=(by injection aK)
       replace A:=(Au HB.o A:)
       replace B:=(Au HB.o B:)
       replace D:=(Au HB.o D:)
       replace E:=(Au HB.o E:)
       replace G:=(Au HB.o G:)
       replace I:=(Au HB.o I:)
       replace J:=(Au HB.o J:)
       replace ax:=eq_true ax
       replace az:=eq_true az
       have ay:0≤(a:Int):=Bu
       have aA:a<(l0.length:Int):=Bu
       obtain⟨aJ,aL,L,M,O,T,U,W,X⟩:=CD aB.o a ay aA
       have ao:=X
       have an:=W
       have al:=U
       have ak:=T
       have aj:=O
       have ai:=M
       have ah:=L
       obtain rfl:b=aJ:=(by injection aL)
       replace L:=(Au HB.o L:)
       replace M:=(Au HB.o M:)
       replace O:=(Au HB.o O:)
       replace T:=(Au HB.o T:)
       replace U:=(Au HB.o U:)
       replace W:=(Au HB.o W:)
       replace X:=(Au HB.o X:)
       replace ay:=eq_true ay
       replace aA:=eq_true aA
       refine Ch (n:=24) (S:=λw'=>w'.cell? (b.add ((a).toNat*7))=some (.int .i64 ((Aa l0 a).f0))∧w'.cell? ⟨(b.add ((a).toNat*7)).block,(b.add ((a).toNat*7)).off+1,none⟩=some (.int .i64 ((Aa l0 a).f1))∧w'.cell? ⟨(b.add ((a).toNat*7)).block,(b.add ((a).toNat*7)).off+2,none⟩=some (.int .i64 ((Aa l0 a).f2.f0))∧w'.cell? ⟨(b.add ((a).toNat*7)).block,(b.add ((a).toNat*7)).off+3,none⟩=some (.int .i64 ((Aa l0 a).f2.f1))∧w'.cell? ⟨(b.add ((a).toNat*7)).block,(b.add ((a).toNat*7)).off+4,none⟩=some (.int .i64 ((Aa l0 a).f2.f2))∧w'.cell? ⟨(b.add ((a).toNat*7)).block,(b.add ((a).toNat*7)).off+5,none⟩=some (.int .i64 ((Aa l0 a).f2.f3))∧w'.cell? ⟨(b.add ((a).toNat*7)).block,(b.add ((a).toNat*7)).off+6,none⟩=some (.string ((Aa l0 a).f2.f4))∧w'.cell? (b.add ((a).toNat*7))=some (.int .i64 ((Aa l0 a).f0))∧w'.cell? ⟨(b.add ((a).toNat*7)).block,(b.add ((a).toNat*7)).off+1,none⟩=some (.int .i64 ((Aa l0 a).f1))∧w'.cell? ⟨(b.add ((a).toNat*7)).block,(b.add ((a).toNat*7)).off+2,none⟩=some (.int .i64 ((Aa l0 a).f2.f0))∧w'.cell? ⟨(b.add ((a).toNat*7)).block,(b.add ((a).toNat*7)).off+3,none⟩=some (.int .i64 ((Aa l0 a).f2.f1))∧w'.cell? ⟨(b.add ((a).toNat*7)).block,(b.add ((a).toNat*7)).off+4,none⟩=some (.int .i64 ((Aa l0 a).f2.f2))∧w'.cell? ⟨(b.add ((a).toNat*7)).block,(b.add ((a).toNat*7)).off+5,none⟩=some (.int .i64 ((Aa l0 a).f2.f3))∧w'.cell? ⟨(b.add ((a).toNat*7)).block,(b.add ((a).toNat*7)).off+6,none⟩=some (.string ((Aa l0 a).f2.f4))∧w'.cell? (b.add ((a).toNat*7))=some (.int .i64 ((Aa l0 a).f0))∧w'.cell? ⟨(b.add ((a).toNat*7)).block,(b.add ((a).toNat*7)).off+1,none⟩=some (.int .i64 ((Aa l0 a).f1))∧w'.cell? ⟨(b.add ((a).toNat*7)).block,(b.add ((a).toNat*7)).off+2,none⟩=some (.int .i64 ((Aa l0 a).f2.f0))∧w'.cell? ⟨(b.add ((a).toNat*7)).block,(b.add ((a).toNat*7)).off+3,none⟩=some (.int .i64 ((Aa l0 a).f2.f1))∧w'.cell? ⟨(b.add ((a).toNat*7)).block,(b.add ((a).toNat*7)).off+4,none⟩=some (.int .i64 ((Aa l0 a).f2.f2))∧w'.cell? ⟨(b.add ((a).toNat*7)).block,(b.add ((a).toNat*7)).off+5,none⟩=some (.int .i64 ((Aa l0 a).f2.f3))∧w'.cell? ⟨(b.add ((a).toNat*7)).block,(b.add ((a).toNat*7)).off+6,none⟩=some (.string ((Aa l0 a).f2.f4))) (ds:=[]) #[false,false,false,false,false,false,false,false,false,false,false,false,false,false,false,false,false,false,false,false,false,false,false,false] (by kernel_rfl) rfl rfl ⟨((Au HB.o q:)),((Au HB.o t:)),((Au HB.o u:)),((Au HB.o v:)),((Au HB.o x:)),((Au HB.o y:)),((Au HB.o z:)),((Au HB.o Y:)),((Au HB.o Z:)),((Au HB.o aa:)),((Au HB.o ab:)),((Au HB.o ae:)),((Au HB.o af:)),((Au HB.o ag:)),((Au HB.o ah:)),((Au HB.o ai:)),((Au HB.o aj:)),((Au HB.o ak:)),((Au HB.o al:)),((Au HB.o an:)),((Au HB.o ao:))⟩ (λp=>?_);refine BZ Bm.Ps Bm.Mx (λHT_ HW_=>?_)
       generalize wr.drew=bn at HB c d g i j l o A B D E G I J L M O T U W X p⊢
       refine A_ 0 10 ?_
       refine A_ 1 11 ?_
       refine A_ 2 12 ?_
       refine Jc 3 13 p ?_
       refine EU 4 14 (λK hK=>?_)
       refine Dp Tryd.func22 (by kernel_rfl) rfl #[.agg #[.int .i64 ((Aa l0 a).f0),.int .i64 ((Aa l0 a).f1),.int .i64 ((Aa l0 a).f2.f0),.int .i64 ((Aa l0 a).f2.f1),.int .i64 ((Aa l0 a).f2.f2),.int .i64 ((Aa l0 a).f2.f3),.string ((Aa l0 a).f2.f4)]] (by rfl) rfl rfl Lz ?_
       with_reducible refine(Bv.calls k1 ((Aa l0 a).f0) ((Aa l0 a).f1) ((Aa l0 a).f2.f0) ((Aa l0 a).f2.f1) ((Aa l0 a).f2.f2) ((Aa l0 a).f2.f3) ((Aa l0 a).f2.f4) true _ A4.o).mono ?_
       rintro e bo ⟨rfl,hb⟩
       refine⟨_,rfl,?_⟩
       replace HB:=a_ (BA (Ad) hb)
       try clear hb
       have a0:(a:Int)≤((l0.length:Int):Int):=Bu
       obtain⟨bk,aN,_,aY,_⟩:=info_parts C7
       have aF:l0.length≤c0:=a3.o
       have aV:Kd.C BT _ (some b) l0.length l0:=aB.o
       have aT:=GJ (P:=Tryd.prog) 24 32 .i64 Tryd.underlying24 aN (some b) l0.length c0 a (Bu) a0 aF
       have aP:=Kd.GB (m:=(a:Int).toNat) aV (by omega)
       have aR:av.length=(a:Int).toNat:=(by rw[aC.o,List.length_take];omega)
       rw[<-aC.o]at aP
       rw[<-aR]at aT
       have aH:=a_ aP
       have aG:=a_ (show av.length≤c0 from by omega)
       clear aP aV aF aN aY
       have bc:=a_ aR
       clear aR
       replace a0:=eq_true a0
       refine hK.out _ _ ⟨((Au HB.o q:)),((Au HB.o t:)),((Au HB.o u:)),((Au HB.o v:)),((Au HB.o x:)),((Au HB.o y:)),((Au HB.o z:)),((Au HB.o Y:)),((Au HB.o Z:)),((Au HB.o aa:)),((Au HB.o ab:)),((Au HB.o ae:)),((Au HB.o af:)),((Au HB.o ag:)),((Au HB.o ah:)),((Au HB.o ai:)),((Au HB.o aj:)),((Au HB.o ak:)),((Au HB.o al:)),((Au HB.o an:)),((Au HB.o ao:))⟩ (λp=>?_)
       clear hK K
       refine Ea 14 ?_
       refine A_ 5 15 ?_
       refine A_ 6 16 ?_
       refine A_ 7 17 ?_
       refine A_ 8 18 ?_
       refine A_ 9 19 ?_
       refine A_ 10 20 ?_
       refine A_ 12 22 ?_
       refine A_ 13 23 ?_
       refine A_ 14 24 ?_
       refine A_ 15 25 ?_
       refine A_ 16 26 ?_
       refine A_ 17 27 ?_
       refine A_ 18 28 ?_
       refine Jc 11 21 p ?_
       refine Jc 19 29 p ?_
       refine EU 20 30 (λK hK=>?_)
       refine Dp Tryd.func63 (by kernel_rfl) rfl #[.slice (some b) av.length c0,.int .i64 ((Aa l0 a).f0)] (by rfl) rfl rfl Lz ?_
       with_reducible refine(Be.calls k1 _ _ av ((Aa l0 a).f0) au _ ?q' ?z' A8.o).mono ?_
       (case q'=>exact Gt aH.o)
       (case z'=>exact aG.o)
       rintro e w' ⟨rfl,⟨nd,rfl⟩⟩
       refine⟨_,rfl,?_⟩
       refine hK.out _ _ ⟨((Au HB.o q:)),((Au HB.o t:)),((Au HB.o u:)),((Au HB.o v:)),((Au HB.o x:)),((Au HB.o y:)),((Au HB.o z:)),((Au HB.o Y:)),((Au HB.o Z:)),((Au HB.o aa:)),((Au HB.o ab:)),((Au HB.o ae:)),((Au HB.o af:)),((Au HB.o ag:)),((Au HB.o ah:)),((Au HB.o ai:)),((Au HB.o aj:)),((Au HB.o ak:)),((Au HB.o al:)),((Au HB.o an:)),((Au HB.o ao:))⟩ (λp=>?_)
       clear hK K
       refine Ea 30 ?_
       refine A_ 21 31 ?_
       refine A_ 22 32 ?_
       refine A_ 23 33 ?_
       refine CT (CU HT_.o (by kernel_rfl)) ?_
       try go_wp2
       go_ret
       exact⟨C_,Ad⟩
     ·rw[if_neg c7]at H
      exact absurd H (by simp)
    ·replace c5:=Bool.eq_false_iff.mpr c5
     subst c5
     have H1:(some false)=some r:=by rw[if_neg (show¬ (false=true) by decide)]at H;exact H
     clear H
     have H:=H1
     clear H1
     obtain rfl:=C5 H
     try go_wp2
     replace HB:=a_ (Ay HB.o)
     have aq:0≤(a:Int):=Bu
     have ar:a<(l0.length:Int):=Bu
     obtain⟨b,aD,c,d,g,i,j,l,o⟩:=CD aB.o a aq ar
     have z:=o
     have y:=l
     have x:=j
     have v:=i
     have u:=g
     have t:=d
     have q:=c
     cases aD
     replace c:=(Au HB.o c:)
     replace d:=(Au HB.o d:)
     replace g:=(Au HB.o g:)
     replace i:=(Au HB.o i:)
     replace j:=(Au HB.o j:)
     replace l:=(Au HB.o l:)
     replace o:=(Au HB.o o:)
     replace aq:=eq_true aq
     replace ar:=eq_true ar
     refine Ch (n:=24) (S:=λw'=>w'.cell? (b.add ((a).toNat*7))=some (.int .i64 ((Aa l0 a).f0))∧w'.cell? ⟨(b.add ((a).toNat*7)).block,(b.add ((a).toNat*7)).off+1,none⟩=some (.int .i64 ((Aa l0 a).f1))∧w'.cell? ⟨(b.add ((a).toNat*7)).block,(b.add ((a).toNat*7)).off+2,none⟩=some (.int .i64 ((Aa l0 a).f2.f0))∧w'.cell? ⟨(b.add ((a).toNat*7)).block,(b.add ((a).toNat*7)).off+3,none⟩=some (.int .i64 ((Aa l0 a).f2.f1))∧w'.cell? ⟨(b.add ((a).toNat*7)).block,(b.add ((a).toNat*7)).off+4,none⟩=some (.int .i64 ((Aa l0 a).f2.f2))∧w'.cell? ⟨(b.add ((a).toNat*7)).block,(b.add ((a).toNat*7)).off+5,none⟩=some (.int .i64 ((Aa l0 a).f2.f3))∧w'.cell? ⟨(b.add ((a).toNat*7)).block,(b.add ((a).toNat*7)).off+6,none⟩=some (.string ((Aa l0 a).f2.f4))) (ds:=[]) #[false,false,false,false,false,false,false,false,false,false,false,false,false,false,false,false,false,false,false,false,false,false,false,false] (by kernel_rfl) rfl rfl ⟨((Au HB.o q:)),((Au HB.o t:)),((Au HB.o u:)),((Au HB.o v:)),((Au HB.o x:)),((Au HB.o y:)),((Au HB.o z:))⟩ (λp=>?_);refine BZ Bm.Ps Bm.Mx (λHT_ HW_=>?_)
     generalize wr.drew=bp at HB c d g i j l o p⊢
     refine A_ 0 10 ?_
     refine A_ 1 11 ?_
     refine A_ 2 12 ?_
     refine Iy 3 13 p ?_
     refine EU 4 14 (λK hK=>?_)
     refine Dp Tryd.func22 (by kernel_rfl) rfl #[.agg #[.int .i64 ((Aa l0 a).f0),.int .i64 ((Aa l0 a).f1),.int .i64 ((Aa l0 a).f2.f0),.int .i64 ((Aa l0 a).f2.f1),.int .i64 ((Aa l0 a).f2.f2),.int .i64 ((Aa l0 a).f2.f3),.string ((Aa l0 a).f2.f4)]] (by rfl) rfl rfl Lz ?_
     with_reducible refine(Bv.calls k1 ((Aa l0 a).f0) ((Aa l0 a).f1) ((Aa l0 a).f2.f0) ((Aa l0 a).f2.f1) ((Aa l0 a).f2.f2) ((Aa l0 a).f2.f3) ((Aa l0 a).f2.f4) false _ A4.o).mono ?_
     rintro e bq ⟨rfl,hb⟩
     refine⟨_,rfl,?_⟩
     replace HB:=a_ (BA (Ad) hb)
     try clear hb
     refine hK.out _ _ ⟨((Au HB.o q:)),((Au HB.o t:)),((Au HB.o u:)),((Au HB.o v:)),((Au HB.o x:)),((Au HB.o y:)),((Au HB.o z:))⟩ (λp=>?_)
     clear hK K
     refine Ea 14 ?_
     refine A_ 5 15 ?_
     refine A_ 6 16 ?_
     refine D9 7 17 ?_
     refine D9 8 18 ?_
     refine D9 9 19 ?_
     refine D9 10 20 ?_
     refine D9 11 21 ?_
     refine D9 12 22 ?_
     refine D9 13 23 ?_
     refine D9 14 24 ?_
     refine D9 15 25 ?_
     refine D9 16 26 ?_
     refine D9 17 27 ?_
     refine D9 18 28 ?_
     refine D9 19 29 ?_
     refine D9 20 30 ?_
     refine D9 21 31 ?_
     refine D9 22 32 ?_
     refine A_ 23 33 ?_
     refine CT (CU HT_.o (by kernel_rfl)) ?_
     try go_wp2
     go_ret
     exact⟨C_,Ad⟩
   ·rw[if_neg c3]at H
    exact absurd H (by simp)
  ·rw[if_neg c2]at H
   have a5:decide (a<(l0.length:Int))=false:=C1 c2
   clear c2
   obtain rfl:=C5 H
   go_wp2
   go_ret
   exact⟨C_,Ad⟩
attribute [local go_sem high] MH
def CW.f(k:Nat)(a:List (AM))(b:Int)(e:Bool):Option (Bool):=(Bm.f k a).bind λc=>(if c=true then((Aq.f b 0 (a.length:Int)).bind λd=>(some d))else(some false))
theorem CW.calls(k:Nat)(d:Option Addr)(i:Nat)(a:List (AM))(g:Int)(l:Bool)(r:Bool)(w:World)(q:Kd.C BT w d a.length a)(p:a.length≤i)(h:CW.f k a g l=some r) :
  Calls Tryd.prog 75 #[.agg #[.slice d a.length i,.int .i64 g,.bool l]] w λe w'=>e=.returned (.bool r)∧Below w.heap.size w w':=by
 have ab:=Tryd.underlying60;have o:=a_ q;have n:=a_ p;clear q p;have HB:=a_ (Below.refl w.heap.size w);unfold CW.f at h;have H:=h;clear h;replace H:=BU H;obtain⟨z,x,H⟩:=H;try dsimp only at H
 have J:=a_ x;clear x;by_cases c3:z=true
 ·subst c3;have H1:((Aq.f g 0 (a.length:Int)).bind λt=>(some t))=some r:=by rw[if_pos rfl]at H;exact H
  clear H;have H:=H1;clear H1;replace H:=BU H;obtain⟨t,y,H⟩:=H;try dsimp only at H
  have A4:=a_ y;clear y;obtain rfl:=C5 H;go_enter Tryd.func75,Tryd.ntmps75;go_wp2_with(first|((with_reducible refine Cd (N:=1) rfl ?_);refine CE 1 (#[.slice d a.length i,.int .i64 g,.bool l]) 60 ?_;intro c hg w5 j m;have b:=a_ (j);have v:=a_ ((by rw[hg];exact(Ab (Ad)):w.heap.size≤c));have u:=a_ ((by rw[hg];exact(Ab (Ad)):w.heap.size≤c));replace HB:=a_ (BA (Ad) m);clear m j hg;obtain⟨U,W,X,K,L,M⟩:=DK b.o)|((with_reducible refine BN (f:=78) rfl ?_);refine BR 5 Tryd.func78 #[.slice d a.length i] ?_;(with_reducible refine(Bm.calls k _ _ a true _ ?q' ?z' J.o).mono ?_);(case q'=>exact Gt o.o);(case z'=>exact n.o);rintro e w7 ⟨rfl,m⟩;refine⟨_,rfl,?_⟩;replace HB:=a_ (BA (Ad) m);replace b:=a_ (C3 b.o m);(try clear m);obtain⟨Y,Z,aa,O,P,T⟩:=DK b.o)|(go_at_call 20;(with_reducible refine(Aq.calls g 0 (a.length:Int) t _ A4.o).mono ?_);rintro e w' ⟨rfl,⟨nd,rfl⟩⟩));go_ret;exact⟨C_,Ad⟩
 replace c3:=Bool.eq_false_iff.mpr c3;subst c3;have H1:(some false)=some r:=by rw[if_neg (show¬ (false=true) by decide)]at H;exact H
 clear H;have H:=H1;clear H1;obtain rfl:=C5 H;go_enter Tryd.func75,Tryd.ntmps75;go_wp2_with(first|((with_reducible refine Cd (N:=1) rfl ?_);refine CE 1 (#[.slice d a.length i,.int .i64 g,.bool l]) 60 ?_;intro c hg w9 j m;have b:=a_ (j);have v:=a_ ((by rw[hg];exact(Ab (Ad)):w.heap.size≤c));have u:=a_ ((by rw[hg];exact(Ab (Ad)):w.heap.size≤c));replace HB:=a_ (BA (Ad) m);clear m j hg;obtain⟨E,G,I,A,B,D⟩:=DK b.o)|((with_reducible refine BN (f:=78) rfl ?_);refine BR 5 Tryd.func78 #[.slice d a.length i] ?_;(with_reducible refine(Bm.calls k _ _ a false _ ?q' ?z' J.o).mono ?_);(case q'=>exact Gt o.o);(case z'=>exact n.o);rintro e ae ⟨rfl,m⟩;refine⟨_,rfl,?_⟩;replace HB:=a_ (BA (Ad) m);replace b:=a_ (C3 b.o m);(try clear m)));go_ret;exact⟨C_,Ad⟩
def Di.f(k:Nat)(b:List (AM))(a:Int)(c:Bool)(j:Int):Option ((List (AM))):=(CW.f k b a c).bind λg=>(if g=true then(if c=true then((Aq.f j 0 a).bind λi=>(if i=true then((some (([]:List (AM)):List (AM))).bind λd=>(if 0≤j then(if j≤a then(if a≤(b.length:Int)then((some ((b.take (a:Int).toNat).drop (j:Int).toNat:List (AM))).bind λe=>(if d.length+e.length<2199023255552 then(some (d++e))else(none)))else(none))else(none))else(none)))else(some (([]:List (AM))))))else(some (([]:List (AM)))))else(some (([]:List (AM)))))
theorem Di.calls(k:Nat)(p:Option Addr)(m:Nat)(i:List (AM))(a:Int)(B:Bool)(v:Int)(r:List (AM))(w:World)(al:Kd.C BT w p i.length i)(ai:i.length≤m)(h:Di.f k i a B v=some r) :
  Calls Tryd.prog 73 #[.agg #[.slice p i.length m,.int .i64 a,.bool B],.int .i64 v] w λe w'=>∃aJ:Value,e=.returned (aJ)∧Kd.R BT 32 w' w.heap.size (λ_=>True) aJ r∧Below w.heap.size w w':=by
 have bX:=Tryd.underlying60;have A:=a_ al;have z:=a_ ai;clear al ai;have HB:=a_ (Below.refl w.heap.size w);unfold Di.f at h;have H:=h;clear h;replace H:=BU H;obtain⟨aI,aD,H⟩:=H;try dsimp only at H
 have A3:=a_ aD;clear aD;by_cases c4:aI=true
 ·subst c4;have H1:(if B=true then((Aq.f v 0 a).bind λW=>(if W=true then((some (([]:List (AM)):List (AM))).bind λn=>(if 0≤v then(if v≤a then(if a≤(i.length:Int)then((some ((i.take (a:Int).toNat).drop (v:Int).toNat:List (AM))).bind λj=>(if n.length+j.length<2199023255552 then(some (n++j))else(none)))else(none))else(none))else(none)))else(some (([]:List (AM))))))else(some (([]:List (AM)))))=some r:=by rw[if_pos rfl]at H;exact H
  clear H;have H:=H1;clear H1;by_cases c5:B=true
  ·subst c5;have H1:((Aq.f v 0 a).bind λW=>(if W=true then((some (([]:List (AM)):List (AM))).bind λn=>(if 0≤v then(if v≤a then(if a≤(i.length:Int)then((some ((i.take (a:Int).toNat).drop (v:Int).toNat:List (AM))).bind λj=>(if n.length+j.length<2199023255552 then(some (n++j))else(none)))else(none))else(none))else(none)))else(some (([]:List (AM))))))=some r:=by rw[if_pos rfl]at H;exact H
   clear H;have H:=H1;clear H1;replace H:=BU H;obtain⟨W,aE,H⟩:=H;try dsimp only at H
   have A6:=a_ aE;clear aE;by_cases c7:W=true
   ·subst c7;have H1:((some (([]:List (AM)):List (AM))).bind λn=>(if 0≤v then(if v≤a then(if a≤(i.length:Int)then((some ((i.take (a:Int).toNat).drop (v:Int).toNat:List (AM))).bind λj=>(if n.length+j.length<2199023255552 then(some (n++j))else(none)))else(none))else(none))else(none)))=some r:=by rw[if_pos rfl]at H;exact H
    clear H;have H:=H1;clear H1;obtain⟨n,D⟩:∃y_:List (AM),y_=(([]:List (AM))):=⟨_,rfl⟩
    replace H:(if 0≤v then(if v≤a then(if a≤(i.length:Int)then((some ((i.take (a:Int).toNat).drop (v:Int).toNat:List (AM))).bind λj=>(if n.length+j.length<2199023255552 then(some (n++j))else(none)))else(none))else(none))else(none))=some r:=by first|(rw[D];with_reducible exact H)|(have q:=(Option.bind_some _ _).symm.trans H;rw[D];with_reducible exact q)|(have q:=(Option.bind_some _ _).symm.trans H;with_reducible exact q)|with_reducible exact H|(rw[D];exact H)|exact H
    have ab:=a_ D;clear D;by_cases c8:0≤v
    ·rw[if_pos c8]at H;have bT:=eq_true c8;have bU:decide (0≤v)=true:=BJ c8;clear c8;by_cases c9:v≤a
     ·rw[if_pos c9]at H;have bV:=eq_true c9;have bW:decide (v≤a)=true:=BJ c9;clear c9;by_cases Dr:a≤(i.length:Int)
      ·rw[if_pos Dr]at H;have bN:=eq_true Dr;have bO:decide (a≤(i.length:Int))=true:=BJ Dr;clear Dr;obtain⟨j,E⟩:∃y_:List (AM),y_=((i.take (a:Int).toNat).drop (v:Int).toNat):=⟨_,rfl⟩
       replace H:(if n.length+j.length<2199023255552 then(some (n++j))else(none))=some r:=by first|(rw[E];with_reducible exact H)|(have q:=(Option.bind_some _ _).symm.trans H;rw[E];with_reducible exact q)|(have q:=(Option.bind_some _ _).symm.trans H;with_reducible exact q)|with_reducible exact H|(rw[E];exact H)|exact H
       have ae:=a_ E;clear E;by_cases ao:n.length+j.length<2199023255552
       ·rw[if_pos ao]at H;have az:=a_ ao;clear ao;obtain⟨aM,G⟩:∃y_:List (AM),y_=(n++j):=⟨_,rfl⟩
        replace H:(some aM)=some r:=by first|(rw[G];with_reducible exact H)|(have q:=(Option.bind_some _ _).symm.trans H;rw[G];with_reducible exact q)|(have q:=(Option.bind_some _ _).symm.trans H;with_reducible exact q)|with_reducible exact H|(rw[G];exact H)|exact H
        have aA:=a_ G;clear G;obtain rfl:=C5 H;go_enter Tryd.func73,Tryd.ntmps73;go_wp2_with(first|((with_reducible refine Cd (N:=2) rfl ?_);refine CE 2 (#[.slice p i.length m,.int .i64 a,.bool true]) 60 ?_;intro l hg b9 u t;have d:=a_ (u);have Y:=a_ ((by rw[hg];exact(Ab (Ad)):w.heap.size≤l));have X:=a_ ((by rw[hg];exact(Ab (Ad)):w.heap.size≤l));replace HB:=a_ (BA (Ad) t);clear t u hg;obtain⟨bl,bm,bn,aV,aW,aX⟩:=DK d.o)|((with_reducible refine BN (f:=75) rfl ?_);refine BR 6 Tryd.func75 #[.agg #[.slice p i.length m,.int .i64 a,.bool true]] ?_;(with_reducible refine(CW.calls k _ _ i a true true _ ?q' ?z' A3.o).mono ?_);(case q'=>exact Gt A.o);(case z'=>exact z.o);rintro e b_ ⟨rfl,t⟩;refine⟨_,rfl,?_⟩;replace HB:=a_ (BA (Ad) t);replace d:=a_ (C3 d.o t);(try clear t);obtain⟨bo,bp,bq,aY,aZ,a0⟩:=DK d.o)|(go_at_call 20;(with_reducible refine(Aq.calls v 0 a true _ A6.o).mono ?_);rintro e w' ⟨rfl,⟨nd,rfl⟩⟩)|((with_reducible refine Cd (N:=21) rfl ?_);refine Kd.DD BT _ 32 ?hg (N:=21) ?hd (xs:=([]:List (AM))) (inner:=[]) (ok:=λ_=>True) (okp:=λ_=>True) ?hr ?hp (λ_ hk=>hk) trivial (Below.refl _ _) (Nat.le_refl _) (by simp) ?_;(case hd=>rfl);(case hg=>rfl);(case hr=>first|(go_simp;done)|(go_simp;rfl));(case hp=>exact(Bi.none _ _));intro aK ca L t Du x;clear Du x;(first|rw[<-ab.o]at L|(simp only[Int.reduceToNat]at L;rw[<-ab.o]at L));have Z:=a_ (Kd.AN L (Ab (Ad)));replace HB:=a_ (BA (Ad) t);replace d:=a_ (C3 d.o t);clear t L;obtain⟨br,bu,bw,a2,a3,a4⟩:=DK d.o;have aC:(a:Int)≤((i.length:Int):Int):=Bu;obtain⟨bY,ak,_,an,_⟩:=info_parts C7;have y:i.length≤m:=z.o;have ar:Kd.C BT _ p i.length i:=A.o;have aH:(v:Int)≤(a:Int):=Bu;have aG:(0:Int)≤(v:Int):=Bu;have aq:=Lc (P:=Tryd.prog) 24 32 .i64 .i64 Tryd.underlying24 ak 7 an p i.length m v a aG aH aC y;have U:=Kd.Ob (lo:=(v:Int).toNat) (hi:=(a:Int).toNat) (c:=m) ar (by omega) (by omega) y;obtain⟨aT,hA19⟩:∃A1,A1=(if m=(v:Int).toNat then p else(p:Option Addr).map (·.add ((v:Int).toNat*7))):=⟨_,rfl⟩;obtain⟨bP,aj⟩:∃c1,c1=m-(v:Int).toNat:=⟨_,rfl⟩;have aa:j.length=(a:Int).toNat-(v:Int).toNat:=(by rw[ae.o,List.length_drop,List.length_take] <;> omega);rw[show((i).take (a:Int).toNat).drop (v:Int).toNat=j from ae.o.symm]at U;replace U:Kd.C BT _ aT j.length j:=(by rw[hA19];exact U);rw[<-aa,<-hA19,<-aj]at aq;have ay:=a_ U;have aU:=a_ (show j.length≤bP from by rw[aa,aj];exact Nat.sub_le_sub_right (Nat.le_trans (by omega) y) _);clear U ar y ak an aj;have bS:=a_ aa;have bR:=a_ hA19;clear aa hA19;replace aC:=eq_true aC)|((with_reducible refine Bt (b:=.append) (xs:=#[.tmp 21,.tmp 27]) rfl ?_);at_builtin;refine Kd.Co BT (w0:=w) w.heap.size rfl (.tmp 21) (.tmp 27) 24 32 (.agg #[(.int .i64 0),(.int .i64 0),(.int .i64 0),(.int .i64 0),(.int .i64 0),(.int .i64 0),(.string ⟨#[]⟩)]) 64 rfl Tryd.underlying24 C7 rfl (by decide) (by omega) aK n j _ _ _ (λ_=>True) (λ_=>False) rfl rfl ?aO ?aR (λ_ _ h=>h) (λ_ h=>h.elim) ?aF ?aB ?aS ?aL ?_;(case aR=>exact Ft (Kd.Ct ay.o HB.o));(case aB=>exact(Ad));(case aF=>exact(λ_ _=>trivial));(case aO=>exact(BC Z.o));(case aS=>exact(Ab (Ad)));(case aL=>have:=az.o;omega);intro bZ cb ho t hg bQ;rw[<-aA.o]at ho;replace d:=a_ (AJ (g:=l) (o:=.cells #[.slice p i.length m,.int .i64 a,.bool true] 60 (0,0)) (Bp d.o) hg (Kd.Ez Z.o d.o (by decide)));replace HB:=a_ (t);have au:=a_ (ho);clear Z;clear ho t hg bQ));go_ret;exact⟨_,C_,by(with_reducible repeat(first|apply Kd.R_alloc|apply Kd.An|apply Kd.As));exact au.o,Ad⟩
       rw[if_neg ao]at H;exact absurd H (by simp)
      rw[if_neg Dr]at H;exact absurd H (by simp)
     rw[if_neg c9]at H;exact absurd H (by simp)
    rw[if_neg c8]at H;exact absurd H (by simp)
   replace c7:=Bool.eq_false_iff.mpr c7;subst c7;have H1:(some (([]:List (AM))))=some r:=by rw[if_neg (show¬ (false=true) by decide)]at H;exact H
   clear H;have H:=H1;clear H1;obtain⟨aN,I⟩:∃y_:List (AM),y_=(([]:List (AM))):=⟨_,rfl⟩
   replace H:(some aN)=some r:=by first|(rw[I];with_reducible exact H)|(have q:=(Option.bind_some _ _).symm.trans H;rw[I];with_reducible exact q)|(have q:=(Option.bind_some _ _).symm.trans H;with_reducible exact q)|with_reducible exact H|(rw[I];exact H)|exact H
   have af:=a_ I;clear I;obtain rfl:=C5 H;go_enter Tryd.func73,Tryd.ntmps73;go_wp2_with(first|((with_reducible refine Cd (N:=2) rfl ?_);refine CE 2 (#[.slice p i.length m,.int .i64 a,.bool true]) 60 ?_;intro l hg cd u t;have d:=a_ (u);have Y:=a_ ((by rw[hg];exact(Ab (Ad)):w.heap.size≤l));have X:=a_ ((by rw[hg];exact(Ab (Ad)):w.heap.size≤l));replace HB:=a_ (BA (Ad) t);clear t u hg;obtain⟨bx,bz,bA,a5,a6,a7⟩:=DK d.o)|((with_reducible refine BN (f:=75) rfl ?_);refine BR 6 Tryd.func75 #[.agg #[.slice p i.length m,.int .i64 a,.bool true]] ?_;(with_reducible refine(CW.calls k _ _ i a true true _ ?q' ?z' A3.o).mono ?_);(case q'=>exact Gt A.o);(case z'=>exact z.o);rintro e cf ⟨rfl,t⟩;refine⟨_,rfl,?_⟩;replace HB:=a_ (BA (Ad) t);replace d:=a_ (C3 d.o t);(try clear t);obtain⟨bB,bC,bD,a8,a9,ba⟩:=DK d.o)|(go_at_call 20;(with_reducible refine(Aq.calls v 0 a false _ A6.o).mono ?_);rintro e w' ⟨rfl,⟨nd,rfl⟩⟩)|((with_reducible refine Cd (N:=20) rfl ?_);refine Kd.DD BT _ 32 ?hg (N:=20) ?hd (xs:=([]:List (AM))) (inner:=[]) (ok:=λ_=>True) (okp:=λ_=>True) ?hr ?hp (λ_ hk=>hk) trivial (Below.refl _ _) (Nat.le_refl _) (by simp) ?_;(case hd=>rfl);(case hg=>rfl);(case hr=>first|(go_simp;done)|(go_simp;rfl));(case hp=>exact(Bi.none _ _));intro b6 cg M t Du x;clear Du x;(first|rw[<-af.o]at M|(simp only[Int.reduceToNat]at M;rw[<-af.o]at M));have av:=a_ (Kd.AN M (Ab (Ad)));replace HB:=a_ (BA (Ad) t);replace d:=a_ (C3 d.o t);clear t M));go_ret;exact⟨_,C_,by(with_reducible repeat(first|apply Kd.R_alloc|apply Kd.An|apply Kd.As));exact av.o,Ad⟩
  replace c5:=Bool.eq_false_iff.mpr c5;subst c5;have H1:(some (([]:List (AM))))=some r:=by rw[if_neg (show¬ (false=true) by decide)]at H;exact H
  clear H;have H:=H1;clear H1;obtain⟨aP,J⟩:∃y_:List (AM),y_=(([]:List (AM))):=⟨_,rfl⟩
  replace H:(some aP)=some r:=by first|(rw[J];with_reducible exact H)|(have q:=(Option.bind_some _ _).symm.trans H;rw[J];with_reducible exact q)|(have q:=(Option.bind_some _ _).symm.trans H;with_reducible exact q)|with_reducible exact H|(rw[J];exact H)|exact H
  have ag:=a_ J;clear J;obtain rfl:=C5 H;go_enter Tryd.func73,Tryd.ntmps73;go_wp2_with(first|((with_reducible refine Cd (N:=2) rfl ?_);refine CE 2 (#[.slice p i.length m,.int .i64 a,.bool false]) 60 ?_;intro l hg cj u t;have d:=a_ (u);have Y:=a_ ((by rw[hg];exact(Ab (Ad)):w.heap.size≤l));have X:=a_ ((by rw[hg];exact(Ab (Ad)):w.heap.size≤l));replace HB:=a_ (BA (Ad) t);clear t u hg;obtain⟨bE,bF,bG,bb,bc,bd⟩:=DK d.o)|((with_reducible refine BN (f:=75) rfl ?_);refine BR 6 Tryd.func75 #[.agg #[.slice p i.length m,.int .i64 a,.bool false]] ?_;(with_reducible refine(CW.calls k _ _ i a false true _ ?q' ?z' A3.o).mono ?_);(case q'=>exact Gt A.o);(case z'=>exact z.o);rintro e ck ⟨rfl,t⟩;refine⟨_,rfl,?_⟩;replace HB:=a_ (BA (Ad) t);replace d:=a_ (C3 d.o t);(try clear t);obtain⟨bH,bI,bJ,be,bf,bg⟩:=DK d.o)|((with_reducible refine Cd (N:=20) rfl ?_);refine Kd.DD BT _ 32 ?hg (N:=20) ?hd (xs:=([]:List (AM))) (inner:=[]) (ok:=λ_=>True) (okp:=λ_=>True) ?hr ?hp (λ_ hk=>hk) trivial (Below.refl _ _) (Nat.le_refl _) (by simp) ?_;(case hd=>rfl);(case hg=>rfl);(case hr=>first|(go_simp;done)|(go_simp;rfl));(case hp=>exact(Bi.none _ _));intro b7 cl O t Du x;clear Du x;(first|rw[<-ag.o]at O|(simp only[Int.reduceToNat]at O;rw[<-ag.o]at O));have aw:=a_ (Kd.AN O (Ab (Ad)));replace HB:=a_ (BA (Ad) t);replace d:=a_ (C3 d.o t);clear t O));go_ret;exact⟨_,C_,by(with_reducible repeat(first|apply Kd.R_alloc|apply Kd.An|apply Kd.As));exact aw.o,Ad⟩
 replace c4:=Bool.eq_false_iff.mpr c4;subst c4;have H1:(some (([]:List (AM))))=some r:=by rw[if_neg (show¬ (false=true) by decide)]at H;exact H
 clear H;have H:=H1;clear H1;obtain⟨aQ,K⟩:∃y_:List (AM),y_=(([]:List (AM))):=⟨_,rfl⟩
 replace H:(some aQ)=some r:=by first|(rw[K];with_reducible exact H)|(have q:=(Option.bind_some _ _).symm.trans H;rw[K];with_reducible exact q)|(have q:=(Option.bind_some _ _).symm.trans H;with_reducible exact q)|with_reducible exact H|(rw[K];exact H)|exact H
 have ah:=a_ K;clear K;obtain rfl:=C5 H;go_enter Tryd.func73,Tryd.ntmps73;go_wp2_with(first|((with_reducible refine Cd (N:=2) rfl ?_);refine CE 2 (#[.slice p i.length m,.int .i64 a,.bool B]) 60 ?_;intro l hg cm u t;have d:=a_ (u);have Y:=a_ ((by rw[hg];exact(Ab (Ad)):w.heap.size≤l));have X:=a_ ((by rw[hg];exact(Ab (Ad)):w.heap.size≤l));replace HB:=a_ (BA (Ad) t);clear t u hg;obtain⟨bK,bL,bM,bh,bj,bk⟩:=DK d.o)|((with_reducible refine BN (f:=75) rfl ?_);refine BR 6 Tryd.func75 #[.agg #[.slice p i.length m,.int .i64 a,.bool B]] ?_;(with_reducible refine(CW.calls k _ _ i a B false _ ?q' ?z' A3.o).mono ?_);(case q'=>exact Gt A.o);(case z'=>exact z.o);rintro e cn ⟨rfl,t⟩;refine⟨_,rfl,?_⟩;replace HB:=a_ (BA (Ad) t);replace d:=a_ (C3 d.o t);(try clear t))|((with_reducible refine Cd (N:=20) rfl ?_);refine Kd.DD BT _ 32 ?hg (N:=20) ?hd (xs:=([]:List (AM))) (inner:=[]) (ok:=λ_=>True) (okp:=λ_=>True) ?hr ?hp (λ_ hk=>hk) trivial (Below.refl _ _) (Nat.le_refl _) (by simp) ?_;(case hd=>rfl);(case hg=>rfl);(case hr=>first|(go_simp;done)|(go_simp;rfl));(case hp=>exact(Bi.none _ _));intro b8 cp T t Du x;clear Du x;(first|rw[<-ah.o]at T|(simp only[Int.reduceToNat]at T;rw[<-ah.o]at T));have ax:=a_ (Kd.AN T (Ab (Ad)));replace HB:=a_ (BA (Ad) t);replace d:=a_ (C3 d.o t);clear t T));go_ret;exact⟨_,C_,by(with_reducible repeat(first|apply Kd.R_alloc|apply Kd.An|apply Kd.As));exact ax.o,Ad⟩
def D5.f(a:List (AM))(b:Int)(e:Bool)(g:Int):Option ((List (AM))×Int×Bool):=(some (([]:List (AM)):List (AM))).bind λc=>(if 0≤(mn (a.length:Int) (wrap64 (b+g)))then(if(mn (a.length:Int) (wrap64 (b+g)))≤(a.length:Int)then((some (a.take ((mn (a.length:Int) (wrap64 (b+g))):Int).toNat:List (AM))).bind λd=>(if c.length+d.length<2199023255552 then(some ((c++d),b,e))else(none)))else(none))else(none))
theorem D5.calls(u:Option Addr)(q:Nat)(a:List (AM))(c:Int)(j:Bool)(a1:Int)(r1:List (AM))(r2:Int)(r3:Bool)(w:World)(Z:Kd.C BT w u a.length a)(X:a.length≤q)(h:D5.f a c j a1=some (r1,r2,r3)) :
  Calls Tryd.prog 69 #[.agg #[.slice u a.length q,.int .i64 c,.bool j],.int .i64 a1] w λe w'=>∃ar:Value,e=.returned (.agg #[ar,.int .i64 r2,.bool r3])∧Kd.R BT 32 w' w.heap.size (λ_=>True) ar r1∧Below w.heap.size w w':=by
 have a8:=Tryd.underlying60;have ah:=a_ Z;have ag:=a_ X;clear Z X;have HB:=a_ (Below.refl w.heap.size w);unfold D5.f at h;have H:=h;clear h;obtain⟨r,y⟩:∃y_:List (AM),y_=(([]:List (AM))):=⟨_,rfl⟩
 replace H:(if 0≤(mn (a.length:Int) (wrap64 (c+a1)))then(if(mn (a.length:Int) (wrap64 (c+a1)))≤(a.length:Int)then((some (a.take ((mn (a.length:Int) (wrap64 (c+a1))):Int).toNat:List (AM))).bind λi=>(if r.length+i.length<2199023255552 then(some ((r++i),c,j))else(none)))else(none))else(none))=some (r1,r2,r3):=by first|(rw[y];with_reducible exact H)|(have v:=(Option.bind_some _ _).symm.trans H;rw[y];with_reducible exact v)|(have v:=(Option.bind_some _ _).symm.trans H;with_reducible exact v)|with_reducible exact H|(rw[y];exact H)|exact H
 have T:=a_ y;clear y;obtain⟨t,K⟩:∃j_:Int,(mn (a.length:Int) (wrap64 (c+a1)))=j_:=⟨_,rfl⟩
 replace H:(if 0≤(t)then(if(t)≤(a.length:Int)then((some (a.take ((t):Int).toNat:List (AM))).bind λi=>(if r.length+i.length<2199023255552 then(some ((r++i),c,j))else(none)))else(none))else(none))=some (r1,r2,r3):=by first|(rw[K]at H;exact H)|(simp only[K]at H⊢;exact H)
 have aZ:(if(wrap64 (c+a1))<(a.length:Int)then(wrap64 (c+a1))else(a.length:Int))=t:=K;by_cases c4:0≤(t)
 ·rw[if_pos c4]at H;have a4:=eq_true c4;have a5:decide (0≤(t))=true:=BJ c4;clear c4;by_cases c5:(t)≤(a.length:Int)
  ·rw[if_pos c5]at H;have a6:=eq_true c5;have a7:decide ((t)≤(a.length:Int))=true:=BJ c5;clear c5;obtain⟨i,z⟩:∃y_:List (AM),y_=(a.take ((t):Int).toNat):=⟨_,rfl⟩
   replace H:(if r.length+i.length<2199023255552 then(some ((r++i),c,j))else(none))=some (r1,r2,r3):=by first|(rw[z];with_reducible exact H)|(have v:=(Option.bind_some _ _).symm.trans H;rw[z];with_reducible exact v)|(have v:=(Option.bind_some _ _).symm.trans H;with_reducible exact v)|with_reducible exact H|(rw[z];exact H)|exact H
   have U:=a_ z;clear z;by_cases c6:r.length+i.length<2199023255552
   ·rw[if_pos c6]at H;have ao:=a_ c6;clear c6;obtain⟨L,A⟩:∃y_:List (AM),y_=(r++i):=⟨_,rfl⟩
    replace H:(some (L,c,j))=some (r1,r2,r3):=by first|(rw[A];with_reducible exact H)|(have v:=(Option.bind_some _ _).symm.trans H;rw[A];with_reducible exact v)|(have v:=(Option.bind_some _ _).symm.trans H;with_reducible exact v)|with_reducible exact H|(rw[A];exact H)|exact H
    have aj:=a_ A;clear A;simp only[Option.some.injEq,Prod.mk.injEq]at H;obtain⟨rfl,rfl,rfl⟩:=H;go_enter Tryd.func69,Tryd.ntmps69;go_wp2_with(first|((with_reducible refine Cd (N:=2) rfl ?_);refine CE 2 (#[.slice u a.length q,.int .i64 c,.bool j]) 60 ?_;intro l hg w7 D J;have d:=a_ (D);have ax:=a_ ((by rw[hg];exact(Ab (Ad)):w.heap.size≤l));have av:=a_ ((by rw[hg];exact(Ab (Ad)):w.heap.size≤l));replace HB:=a_ (BA (Ad) J);clear J D hg)|((with_reducible refine Cd (N:=4) rfl ?_);refine CE 4 (#[.slice none 0 0,.int .i64 0,.bool false]) 60 ?_;intro n hg w8 D J;have k:=a_ (D);have ay:=a_ ((by rw[hg];exact(Ab (Ad)):w.heap.size≤n));have aw:=a_ ((by rw[hg];exact(Ab (Ad)):w.heap.size≤n));have I:=a_ ((by rw[hg];exact Nat.ne_of_lt (AU (g:=l) (o:=.cells #[.slice u a.length q,.int .i64 c,.bool j] 60 (0,0)) (Bp d.o)):l≠n));have x:=a_ ((by rw[hg];exact Nat.ne_of_gt (AU (g:=l) (o:=.cells #[.slice u a.length q,.int .i64 c,.bool j] 60 (0,0)) (Bp d.o)):n≠l));replace d:=a_ (C3 d.o J);replace HB:=a_ (BA (Ad) J);clear J D hg)|((with_reducible refine Cd (N:=5) rfl ?_);refine Kd.DD BT _ 32 ?hg (N:=5) ?hd (xs:=([]:List (AM))) (inner:=[]) (ok:=λ_=>True) (okp:=λ_=>True) ?hr ?hp (λ_ hk=>hk) trivial (Below.refl _ _) (Nat.le_refl _) (by simp) ?_;(case hd=>rfl);(case hg=>rfl);(case hr=>first|(go_simp;done)|(go_simp;rfl));(case hp=>exact(Bi.none _ _));intro au w9 E J Du ak;clear Du ak;(first|rw[<-T.o]at E|(simp only[Int.reduceToNat]at E;rw[<-T.o]at E));have B:=a_ (Kd.AN E (Ab (Ad)));replace HB:=a_ (BA (Ad) J);replace d:=a_ (C3 d.o J);replace k:=a_ (C3 k.o J);clear J E;have a0:=I.o;have a2:=x.o;obtain⟨aM,aN,aP,aA,aC,aD⟩:=DK d.o;have an:((t):Int)≤((a.length:Int):Int):=Bu;obtain⟨a9,Y,_,al,_⟩:=info_parts C7;have G:a.length≤q:=ag.o;have af:Kd.C BT _ u a.length a:=ah.o;have ae:=GJ (P:=Tryd.prog) 24 32 .i64 Tryd.underlying24 Y u a.length q (t) (Bu) an G;have aa:=Kd.GB (m:=((t):Int).toNat) af (by omega);have ab:i.length=((t):Int).toNat:=(by rw[U.o,List.length_take];omega);rw[<-U.o]at aa;rw[<-ab]at ae;have ai:=a_ aa;have az:=a_ (show i.length≤q from by omega);clear aa af G Y al;have a3:=a_ ab;clear ab;replace an:=eq_true an)|((with_reducible refine Bt (b:=.append) (xs:=#[.tmp 5,.tmp 16]) rfl ?_);at_builtin;refine Kd.Co BT (w0:=w) w.heap.size rfl (.tmp 5) (.tmp 16) 24 32 (.agg #[(.int .i64 0),(.int .i64 0),(.int .i64 0),(.int .i64 0),(.int .i64 0),(.int .i64 0),(.string ⟨#[]⟩)]) 64 rfl Tryd.underlying24 C7 rfl (by decide) (by omega) au r i _ _ _ (λ_=>True) (λ_=>False) rfl rfl ?aO ?aR (λ_ _ h=>h) (λ_ h=>h.elim) ?aF ?aB ?aS ?aL ?_;(case aR=>exact Ft (Kd.Ct ai.o HB.o));(case aB=>exact(Ad));(case aF=>exact(λ_ _=>trivial));(case aO=>exact(BC B.o));(case aS=>exact(Ab (Ad)));(case aL=>have:=ao.o;omega);intro ba bb ho J hg aY;rw[<-aj.o]at ho;replace d:=a_ (AJ (g:=l) (o:=.cells #[.slice u a.length q,.int .i64 c,.bool j] 60 (0,0)) (Bp d.o) hg (Kd.Ez B.o d.o (by decide)));replace k:=a_ (AJ (g:=n) (o:=.cells #[.slice none 0 0,.int .i64 0,.bool false] 60 (0,0)) (Bp k.o) hg (Kd.Ez B.o k.o (by decide)));replace HB:=a_ (J);have O:=a_ (ho);clear B;clear ho J hg aY;obtain⟨M,W,aq⟩:=Kd.Bg O.o;subst aq;obtain⟨aQ,aT,aU,aE,aG,aH⟩:=DK d.o;obtain⟨aV,aW,aX,aI,aJ,aK⟩:=DK k.o));refine bodyPost_ret (results_cell_row rfl _ _ n 60 #[.slice M L.length W,.int .i64 c,.bool j] (0,0) _ rfl (MT x.o k.o) Tryd.underlying60 rfl (by kernel_rfl)) rfl ?_;exact⟨_,by first|rfl|(simp[BK,BM] <;> rfl)|(simp only[<-K];first|rfl|(simp[BK,BM] <;> rfl))|(simp[*,BK,BM] <;> rfl),by(with_reducible repeat(first|apply Kd.R_alloc|apply Kd.An|apply Kd.As));exact Kd.Aj (L6 (g:=n) (Kd.CQ (p:=⟨l,0,none⟩) (Kd.AF (Kd.AF O.o d.o (by decide)) k.o (by decide)) (λ_ hk=>hk.1.2) (.slice M L.length W)) (λ_ hk=>hk.2) (.slice M L.length W) (.int .i64 c) (.bool j)) (λ_ hk=>trivial),Ad⟩
   rw[if_neg c6]at H;exact absurd H (by simp)
  rw[if_neg c5]at H;exact absurd H (by simp)
 rw[if_neg c4]at H;exact absurd H (by simp)
def BQ.l0:Nat->List (AM)->Int->Int->Int->Int->Int->Int->Int->ByteArray->Option (Bool)
 | 0,_,_,_,_,_,_,_,_,_=>none
 | k+1,l,j,a,b,c,d,e,g,i=>if j<(l.length:Int)then(if 0≤j then(if(((Aa l j).f0)==a&&(((Aa l j).f1)==b&&((((Aa l j).f2.f0)==c&&(((Aa l j).f2.f1)==d&&(((Aa l j).f2.f2)==e&&(((Aa l j).f2.f3)==g&&((((Aa l j).f2.f4).toList)==i.toList))))))))=true then(some true)else(BQ.l0 k l (wrap64 (j+1)) a b c d e g i))else(none))else(some false)
def BQ.f(k:Nat)(l0:List (AM))(a:Int)(b:Int)(c:Int)(d:Int)(e:Int)(g:Int)(i:ByteArray):Option (Bool):=BQ.l0 k l0 0 a b c d e g i
theorem BQ.calls(k:Nat)(Z:Option Addr)(c0:Nat)(l0:List (AM))(b:Int)(c:Int)(d:Int)(g:Int)(i:Int)(j:Int)(l:ByteArray)(r:Bool)(w:World)(U:Kd.C BT w Z l0.length l0)(T:l0.length≤c0)(h:BQ.f k l0 b c d g i j l=some r) :
  Calls Tryd.prog 80 #[.slice Z l0.length c0,.agg #[.int .i64 b,.int .i64 c,.int .i64 d,.int .i64 g,.int .i64 i,.int .i64 j,.string l]] w λe w'=>e=.returned (.bool r)∧Below w.heap.size w w':=by
 have aK:=Tryd.underlying32;have K:=a_ U;have aL:=a_ T;clear U T;have HB:=a_ (Below.refl w.heap.size w);unfold BQ.f at h;have H:=h;clear h;have X:=a_ H;clear H;go_enter Tryd.func80,Tryd.ntmps80;go_wp2_with(first|((with_reducible refine Cd (N:=3) rfl ?_);refine CE 3 (#[.int .i64 b,.int .i64 c,.int .i64 d,.int .i64 g,.int .i64 i,.int .i64 j,.string l]) 32 ?_;intro m hg w3 y G;have x:=a_ (y);have D:=a_ ((by rw[hg];exact(Ab (Ad)):w.heap.size≤m));have B:=a_ ((by rw[hg];exact(Ab (Ad)):w.heap.size≤m));replace HB:=a_ (BA (Ad) G);clear G y hg));repeat(go_quiet(first|((with_reducible refine Cd (N:=3) rfl ?_);refine CE 3 (#[.int .i64 b,.int .i64 c,.int .i64 d,.int .i64 g,.int .i64 i,.int .i64 j,.string l]) 32 ?_;intro m hg w3 y G;have x:=a_ (y);have D:=a_ ((by rw[hg];exact(Ab (Ad)):w.heap.size≤m));have B:=a_ ((by rw[hg];exact(Ab (Ad)):w.heap.size≤m));replace HB:=a_ (BA (Ad) G);clear G y hg));try go_wp2_with(first|((with_reducible refine Cd (N:=3) rfl ?_);refine CE 3 (#[.int .i64 b,.int .i64 c,.int .i64 d,.int .i64 g,.int .i64 i,.int .i64 j,.string l]) 32 ?_;intro m hg w3 y G;have x:=a_ (y);have D:=a_ ((by rw[hg];exact(Ab (Ad)):w.heap.size≤m));have B:=a_ ((by rw[hg];exact(Ab (Ad)):w.heap.size≤m));replace HB:=a_ (BA (Ad) G);clear G y hg)))
 go_loopg [5] k (λkq v5 w'=>∃(a:Int),v5=.int .i64 a∧Ae (BQ.l0 kq l0 a b c d g i j l=some r)∧Ae (kq≤k)∧Ae (w'.heap[m]?=some (.cells #[.int .i64 b,.int .i64 c,.int .i64 d,.int .i64 g,.int .i64 i,.int .i64 j,.string l] 32 (0,0)))∧Ae (Below w.heap.size w w'))
 case atStart=>exact⟨(0),(Cr),X,⟨Nat.le_refl _⟩,⟨Bp x.o⟩,⟨Ad⟩⟩
 clear X;try clear p2
 obtain⟨a,rfl,Y,J,x,HB⟩:=hrel;cases gk with
 | zero=>exact absurd Y.o (by simp[BQ.l0])
 | succ k1 =>
  have H:=Y.o
  clear Y
  simp only[BQ.l0]at H
  by_cases c4:a<(l0.length:Int)
  ·rw[if_pos c4]at H
   have L:decide (a<(l0.length:Int))=true:=BJ c4
   clear c4
   by_cases c5:0≤a
   ·rw[if_pos c5]at H
    have aI:decide (0≤a)=true:=BJ c5
    clear c5
    by_cases c6:(((Aa l0 a).f0)==b&&(((Aa l0 a).f1)==c&&((((Aa l0 a).f2.f0)==d&&(((Aa l0 a).f2.f1)==g&&(((Aa l0 a).f2.f2)==i&&(((Aa l0 a).f2.f3)==j&&((((Aa l0 a).f2.f4).toList)==l.toList))))))))=true
    ·rw[if_pos c6]at H
     have M:(((Aa l0 a).f0)==b&&(((Aa l0 a).f1)==c&&((((Aa l0 a).f2.f0)==d&&(((Aa l0 a).f2.f1)==g&&(((Aa l0 a).f2.f2)==i&&(((Aa l0 a).f2.f3)==j&&((((Aa l0 a).f2.f4).toList)==l.toList))))))))=true:=c6
     (try(have O:decide (((Aa l0 a).f0)=b&&(((Aa l0 a).f1)==c&&((((Aa l0 a).f2.f0)==d&&(((Aa l0 a).f2.f1)==g&&(((Aa l0 a).f2.f2)==i&&(((Aa l0 a).f2.f3)==j&&((((Aa l0 a).f2.f4).toList)==l.toList))))))))=true:=by simpa using c6))
     (try(have P:(((Aa l0 a).f0)==b&&(((Aa l0 a).f1)==c&&((((Aa l0 a).f2.f0)==d&&(((Aa l0 a).f2.f1)==g&&(((Aa l0 a).f2.f2)==i&&(((Aa l0 a).f2.f3)==j&&((((Aa l0 a).f2.f4).toList)==l.toList))))))))=true:=by simpa using c6))
     clear c6
     obtain rfl:=C5 H
     have z:0≤(a:Int):=Bu
     have A:a<(l0.length:Int):=Bu
     obtain⟨I,E,n,o,p,q,t,u,v⟩:=CD K.o a z A
     cases E
     replace n:=(Au HB.o n:)
     replace o:=(Au HB.o o:)
     replace p:=(Au HB.o p:)
     replace q:=(Au HB.o q:)
     replace t:=(Au HB.o t:)
     replace u:=(Au HB.o u:)
     replace v:=(Au HB.o v:)
     replace z:=eq_true z
     replace A:=eq_true A
     obtain⟨au,av,aw,ax,ay,az,aA,aa,ab,ae,af,ag,ah,ai⟩:=Dz (W:=wr) x.o
     go_wp2
     repeat(go_quiet(fail);try go_wp2)
     go_ret
     exact⟨C_,Ad⟩
    ·rw[if_neg c6]at H
     have M:(((Aa l0 a).f0)==b&&(((Aa l0 a).f1)==c&&((((Aa l0 a).f2.f0)==d&&(((Aa l0 a).f2.f1)==g&&(((Aa l0 a).f2.f2)==i&&(((Aa l0 a).f2.f3)==j&&((((Aa l0 a).f2.f4).toList)==l.toList))))))))=false:=by simpa using c6
     (try(have O:decide (((Aa l0 a).f0)=b&&(((Aa l0 a).f1)==c&&((((Aa l0 a).f2.f0)==d&&(((Aa l0 a).f2.f1)==g&&(((Aa l0 a).f2.f2)==i&&(((Aa l0 a).f2.f3)==j&&((((Aa l0 a).f2.f4).toList)==l.toList))))))))=false:=by simpa using c6))
     (try(have P:(((Aa l0 a).f0)==b&&(((Aa l0 a).f1)==c&&((((Aa l0 a).f2.f0)==d&&(((Aa l0 a).f2.f1)==g&&(((Aa l0 a).f2.f2)==i&&(((Aa l0 a).f2.f3)==j&&((((Aa l0 a).f2.f4).toList)==l.toList))))))))=false:=by simpa using c6))
     (try(have aJ:¬ (((Aa l0 a).f0)=b&&(((Aa l0 a).f1)==c&&((((Aa l0 a).f2.f0)==d&&(((Aa l0 a).f2.f1)==g&&(((Aa l0 a).f2.f2)==i&&(((Aa l0 a).f2.f3)==j&&((((Aa l0 a).f2.f4).toList)==l.toList)))))))):=by simpa using c6))
     clear c6
     have X:=a_ H
     clear H
     have z:0≤(a:Int):=Bu
     have A:a<(l0.length:Int):=Bu
     obtain⟨I,E,n,o,p,q,t,u,v⟩:=CD K.o a z A
     cases E
     replace n:=(Au HB.o n:)
     replace o:=(Au HB.o o:)
     replace p:=(Au HB.o p:)
     replace q:=(Au HB.o q:)
     replace t:=(Au HB.o t:)
     replace u:=(Au HB.o u:)
     replace v:=(Au HB.o v:)
     replace z:=eq_true z
     replace A:=eq_true A
     obtain⟨aB,aC,aD,aE,aF,aG,aH,aj,ak,al,an,ao,aq,ar⟩:=Dz (W:=wr) x.o
     go_wp2
     repeat(go_quiet(fail);try go_wp2)
     go_roundg k1
     case measure=>have:=J.o;omega
     case rel=>exact⟨(wrap64 (a+1)),(Cr),X,⟨by have:=J.o;omega⟩,⟨Bp x.o⟩,⟨Ad⟩⟩
   ·rw[if_neg c5]at H
    exact absurd H (by simp)
  ·rw[if_neg c4]at H
   have L:decide (a<(l0.length:Int))=false:=C1 c4
   clear c4
   obtain rfl:=C5 H
   go_wp2
   repeat(go_quiet(fail);try go_wp2)
   go_ret
   exact⟨C_,Ad⟩
def B_.f(k:Nat)(l0:List (AM))(a:Int)(b:Int)(c:Int)(d:Int)(e:Int)(g:Int)(i:ByteArray):Option ((List (AM))×Int):=(Be.f k l0 a).bind λn=>((BQ.f k l0 a b c d e g i).bind λo=>(if o=true then(some (l0,0))else(if b=(wrap64 (n+1))then(if(l0.length:Int)≥40 then(some (l0,(-1)))else((some (([]:List (AM)):List (AM))).bind λj=>(if j.length+l0.length<2199023255552 then((some (j++l0:List (AM))).bind λl=>((some (([(⟨a,b,(⟨c,d,e,g,i⟩:Et)⟩:AM)]:List (AM)):List (AM))).bind λm=>(if l.length+m.length<2199023255552 then(some ((l++m),1))else(none))))else(none))))else(some (l0,(-1))))))
def B_.T6:Bool×List (List Nat×List Nat):=(true,[([],[]),([],[]),([0,1],[0,1]),([],[]),([3],[3]),([2,4,2],[2,4]),([5,5,0,1,2,3,4,5],[5]),([6,0,1,2,3,4,5,6],[])])
def B_.B6:List Nat:=[0,0,3,0,8,31,63,127]
theorem B_.QC:ED .any (opsOf Tryd.f79 6)=B_.T6:=by kernel_rfl
theorem B_.PX:DU B_.T6.2 B_.B6=true:=by kernel_rfl
end Go.Proofs.YtlhlpfnljglhoaaDoor.P
namespace Go.Proofs.YtlhlpfnljglhoaaDoor.P
open Go.RowKit Go.Proofs.YtlhlpfnljglhoaaDoorW.PrintWords Go.Proofs.YtlhlpfnljglhoaaDoorW.Bc
theorem B_.calls(k:Nat)(aj:Nat->Prop)(A0:Option Addr)(c0:Nat)(l0:List (AM))(c:Int)(d:Int)(l:Int)(m:Int)(p:Int)(q:Int)(r:ByteArray)(r1:List (AM))(r2:Int)(w:World)(cE:Kd.V BT 32 w w.heap.size (λv=>aj v) (.slice A0 l0.length c0) l0)(h:B_.f k l0 c d l m p q r=some (r1,r2)) :
  Calls Tryd.prog 79 #[.slice A0 l0.length c0,.agg #[.int .i64 c,.int .i64 d,.int .i64 l,.int .i64 m,.int .i64 p,.int .i64 q,.string r]] w λe w'=>∃aV:Value,e=.returned (.tuple #[aV,.int .i64 r2])∧Kd.V BT 32 w' w.heap.size (λv=>(aj v∨w.heap.size≤v)) aV r1∧Below w.heap.size w w':=by
 have cW:=Tryd.underlying32;have t:=a_ (show Kd.V BT 32 w w.heap.size (λv=>(aj v∨w.heap.size≤v)) (.slice A0 l0.length c0) l0 from Kd.AH cE (λv u=>.inl u));have HB:=a_ (Below.refl w.heap.size w);unfold B_.f at h;have H:=h;clear h;replace H:=BU H;obtain⟨P,aE,H⟩:=H;try dsimp only at H
 have A3:=a_ aE;clear aE;replace H:=BU H;obtain⟨aU,aG,H⟩:=H;try dsimp only at H
 have A4:=a_ aG;clear aG;by_cases c5:aU=true
 ·subst c5;have H1:(some (l0,0))=some (r1,r2):=by rw[if_pos rfl]at H;exact H
  clear H;have H:=H1;clear H1;simp only[Option.some.injEq,Prod.mk.injEq]at H;obtain⟨rfl,rfl⟩:=H;go_enter Tryd.func79,Tryd.ntmps79;go_wp2_with(first|((with_reducible refine Cd (N:=3) rfl ?_);refine CE 3 (#[.int .i64 c,.int .i64 d,.int .i64 l,.int .i64 m,.int .i64 p,.int .i64 q,.string r]) 32 ?_;intro b hg w6 O y;have a:=a_ (O);have al:=a_ ((by rw[hg];exact(Ab (Ad)):w.heap.size≤b));have ak:=a_ ((by rw[hg];exact(Ab (Ad)):w.heap.size≤b));replace t:=a_ (Kd.BE (Kd.CY (FD t.o) b (Nat.le_of_eq hg.symm)) y);replace HB:=a_ (BA (Ad) y);clear y O hg;obtain⟨cP,cQ,cR,cS,cT,cU,cV,cI,cJ,cK,cL,cM,cN,cO⟩:=Dz a.o)|((with_reducible refine BN (f:=63) rfl ?_);refine BR 10 Tryd.func63 #[.slice A0 l0.length c0,.int .i64 c] ?_;(with_reducible refine(Be.calls k _ _ l0 c P _ ?q' ?z' A3.o).mono ?_);(case q'=>repeat(first|exact(Kd.Bk t.o).2.2|(with_reducible refine Kd.C_alloc ?_ _)|(with_reducible refine Kd.Cz ?_ _)|(with_reducible refine Kd.C_drew ?_)));(case z'=>exact(Kd.Bk t.o).2.1);rintro e w' ⟨rfl,⟨nd,rfl⟩⟩;refine⟨_,rfl,?_⟩)|((with_reducible refine BN (f:=80) rfl ?_);refine BR 14 Tryd.func80 #[.slice A0 l0.length c0,.agg #[.int .i64 c,.int .i64 d,.int .i64 l,.int .i64 m,.int .i64 p,.int .i64 q,.string r]] ?_;(with_reducible refine(BQ.calls k _ _ l0 c d l m p q r true _ ?q' ?z' A4.o).mono ?_);(case q'=>repeat(first|exact(Kd.Bk t.o).2.2|(with_reducible refine Kd.C_alloc ?_ _)|(with_reducible refine Kd.Cz ?_ _)|(with_reducible refine Kd.C_drew ?_)));(case z'=>exact(Kd.Bk t.o).2.1);rintro e w8 ⟨rfl,y⟩;refine⟨_,rfl,?_⟩;replace t:=a_ (Kd.BE (FD t.o) y);replace HB:=a_ (BA (Ad) y);replace a:=a_ (C3 a.o y);(try clear y)));go_ret2;exact⟨_,C_,by(with_reducible repeat(first|apply Kd.V_alloc|apply Kd.BF|apply Kd.AR));exact Kd.AH t.o (λ_ u=>u.1),Ad⟩
 replace c5:=Bool.eq_false_iff.mpr c5;subst c5;have H1:(if d=(wrap64 (P+1))then(if(l0.length:Int)≥40 then(some (l0,(-1)))else((some (([]:List (AM)):List (AM))).bind λU=>(if U.length+l0.length<2199023255552 then((some (U++l0:List (AM))).bind λG=>((some (([(⟨c,d,(⟨l,m,p,q,r⟩:Et)⟩:AM)]:List (AM)):List (AM))).bind λA=>(if G.length+A.length<2199023255552 then(some ((G++A),1))else(none))))else(none))))else(some (l0,(-1))))=some (r1,r2):=by rw[if_neg (show¬ (false=true) by decide)]at H;exact H
 clear H;have H:=H1;clear H1;by_cases c9:d=(wrap64 (P+1))
 ·rw[if_pos c9]at H;have aH:(d==(wrap64 (P+1)))=true:=beq_iff_eq.mpr c9;have aI:(d != (wrap64 (P+1)))=false:=Ff c9;clear c9;by_cases Dr:(l0.length:Int)≥40
  ·rw[if_pos Dr]at H;have aC:decide (40≤(l0.length:Int))=true:=BJ Dr;have aD:decide (40≤l0.length)=true:=BJ (by omega);clear Dr;simp only[Option.some.injEq,Prod.mk.injEq]at H;obtain⟨rfl,rfl⟩:=H;go_enter Tryd.func79,Tryd.ntmps79;go_wp2_with(first|((with_reducible refine Cd (N:=3) rfl ?_);refine CE 3 (#[.int .i64 c,.int .i64 d,.int .i64 l,.int .i64 m,.int .i64 p,.int .i64 q,.string r]) 32 ?_;intro b hg cY O y;have a:=a_ (O);have al:=a_ ((by rw[hg];exact(Ab (Ad)):w.heap.size≤b));have ak:=a_ ((by rw[hg];exact(Ab (Ad)):w.heap.size≤b));replace t:=a_ (Kd.BE (Kd.CY (FD t.o) b (Nat.le_of_eq hg.symm)) y);replace HB:=a_ (BA (Ad) y);clear y O hg;obtain⟨bJ,bK,bL,bM,bN,bO,bP,aY,aZ,a0,a1,a2,a3,a4⟩:=Dz a.o)|((with_reducible refine BN (f:=63) rfl ?_);refine BR 10 Tryd.func63 #[.slice A0 l0.length c0,.int .i64 c] ?_;(with_reducible refine(Be.calls k _ _ l0 c P _ ?q' ?z' A3.o).mono ?_);(case q'=>repeat(first|exact(Kd.Bk t.o).2.2|(with_reducible refine Kd.C_alloc ?_ _)|(with_reducible refine Kd.Cz ?_ _)|(with_reducible refine Kd.C_drew ?_)));(case z'=>exact(Kd.Bk t.o).2.1);rintro e w' ⟨rfl,⟨nd,rfl⟩⟩;refine⟨_,rfl,?_⟩)|((with_reducible refine BN (f:=80) rfl ?_);refine BR 14 Tryd.func80 #[.slice A0 l0.length c0,.agg #[.int .i64 c,.int .i64 d,.int .i64 l,.int .i64 m,.int .i64 p,.int .i64 q,.string r]] ?_;(with_reducible refine(BQ.calls k _ _ l0 c d l m p q r false _ ?q' ?z' A4.o).mono ?_);(case q'=>repeat(first|exact(Kd.Bk t.o).2.2|(with_reducible refine Kd.C_alloc ?_ _)|(with_reducible refine Kd.Cz ?_ _)|(with_reducible refine Kd.C_drew ?_)));(case z'=>exact(Kd.Bk t.o).2.1);rintro e cZ ⟨rfl,y⟩;refine⟨_,rfl,?_⟩;replace t:=a_ (Kd.BE (FD t.o) y);replace HB:=a_ (BA (Ad) y);replace a:=a_ (C3 a.o y);(try clear y);obtain⟨bQ,bR,bS,bT,bU,bV,bW,a5,a6,a7,a8,a9,ba,bb⟩:=Dz a.o));go_ret2;exact⟨_,C_,by(with_reducible repeat(first|apply Kd.V_alloc|apply Kd.BF|apply Kd.AR));exact Kd.AH t.o (λ_ u=>u.1),Ad⟩
  rw[if_neg Dr]at H;have aC:decide (40≤(l0.length:Int))=false:=C1 Dr;have aD:decide (40≤l0.length)=false:=C1 (by omega);clear Dr;obtain⟨U,ae⟩:∃y_:List (AM),y_=(([]:List (AM))):=⟨_,rfl⟩
  replace H:(if U.length+l0.length<2199023255552 then((some (U++l0:List (AM))).bind λG=>((some (([(⟨c,d,(⟨l,m,p,q,r⟩:Et)⟩:AM)]:List (AM)):List (AM))).bind λA=>(if G.length+A.length<2199023255552 then(some ((G++A),1))else(none))))else(none))=some (r1,r2):=by first|(rw[ae];with_reducible exact H)|(have W:=(Option.bind_some _ _).symm.trans H;rw[ae];with_reducible exact W)|(have W:=(Option.bind_some _ _).symm.trans H;with_reducible exact W)|with_reducible exact H|(rw[ae];exact H)|exact H
  have ai:=a_ ae;clear ae;by_cases ar:U.length+l0.length<2199023255552
  ·rw[if_pos ar]at H;have an:=a_ ar;clear ar;obtain⟨G,af⟩:∃y_:List (AM),y_=(U++l0):=⟨_,rfl⟩
   replace H:((some (([(⟨c,d,(⟨l,m,p,q,r⟩:Et)⟩:AM)]:List (AM)):List (AM))).bind λA=>(if G.length+A.length<2199023255552 then(some ((G++A),1))else(none)))=some (r1,r2):=by first|(rw[af];with_reducible exact H)|(have W:=(Option.bind_some _ _).symm.trans H;rw[af];with_reducible exact W)|(have W:=(Option.bind_some _ _).symm.trans H;with_reducible exact W)|with_reducible exact H|(rw[af];exact H)|exact H
   have ao:=a_ af;clear af;obtain⟨A,ag⟩:∃y_:List (AM),y_=(([(⟨c,d,(⟨l,m,p,q,r⟩:Et)⟩:AM)]:List (AM))):=⟨_,rfl⟩
   replace H:(if G.length+A.length<2199023255552 then(some ((G++A),1))else(none))=some (r1,r2):=by first|(rw[ag];with_reducible exact H)|(have W:=(Option.bind_some _ _).symm.trans H;rw[ag];with_reducible exact W)|(have W:=(Option.bind_some _ _).symm.trans H;with_reducible exact W)|with_reducible exact H|(rw[ag];exact H)|exact H
   have Y:=a_ ag;clear ag;by_cases au:G.length+A.length<2199023255552
   ·rw[if_pos au]at H;have az:=a_ au;clear au;obtain⟨aX,ah⟩:∃y_:List (AM),y_=(G++A):=⟨_,rfl⟩
    replace H:(some (aX,1))=some (r1,r2):=by first|(rw[ah];with_reducible exact H)|(have W:=(Option.bind_some _ _).symm.trans H;rw[ah];with_reducible exact W)|(have W:=(Option.bind_some _ _).symm.trans H;with_reducible exact W)|with_reducible exact H|(rw[ah];exact H)|exact H
    have aA:=a_ ah;clear ah;simp only[Option.some.injEq,Prod.mk.injEq]at H;obtain⟨rfl,rfl⟩:=H;go_enter Tryd.func79,Tryd.ntmps79;try go_wp2_with(first|((with_reducible refine Cd (N:=3) rfl ?_);refine CE 3 (#[.int .i64 c,.int .i64 d,.int .i64 l,.int .i64 m,.int .i64 p,.int .i64 q,.string r]) 32 ?_;intro b hg c1 O y;have a:=a_ (O);have al:=a_ ((by rw[hg];exact(Ab (Ad)):w.heap.size≤b));have ak:=a_ ((by rw[hg];exact(Ab (Ad)):w.heap.size≤b));replace t:=a_ (Kd.BE (Kd.CY (FD t.o) b (Nat.le_of_eq hg.symm)) y);replace HB:=a_ (BA (Ad) y);clear y O hg;obtain⟨bX,bY,bZ,b6,b7,b8,b9,bc,bd,be,bf,bg,bh,bj⟩:=Dz a.o)|((with_reducible refine BN (f:=63) rfl ?_);refine BR 10 Tryd.func63 #[.slice A0 l0.length c0,.int .i64 c] ?_;(with_reducible refine(Be.calls k _ _ l0 c P _ ?q' ?z' A3.o).mono ?_);(case q'=>repeat(first|exact(Kd.Bk t.o).2.2|(with_reducible refine Kd.C_alloc ?_ _)|(with_reducible refine Kd.Cz ?_ _)|(with_reducible refine Kd.C_drew ?_)));(case z'=>exact(Kd.Bk t.o).2.1);rintro e w' ⟨rfl,⟨nd,rfl⟩⟩;refine⟨_,rfl,?_⟩)|((with_reducible refine BN (f:=80) rfl ?_);refine BR 14 Tryd.func80 #[.slice A0 l0.length c0,.agg #[.int .i64 c,.int .i64 d,.int .i64 l,.int .i64 m,.int .i64 p,.int .i64 q,.string r]] ?_;(with_reducible refine(BQ.calls k _ _ l0 c d l m p q r false _ ?q' ?z' A4.o).mono ?_);(case q'=>repeat(first|exact(Kd.Bk t.o).2.2|(with_reducible refine Kd.C_alloc ?_ _)|(with_reducible refine Kd.Cz ?_ _)|(with_reducible refine Kd.C_drew ?_)));(case z'=>exact(Kd.Bk t.o).2.1);rintro e cF ⟨rfl,y⟩;refine⟨_,rfl,?_⟩;replace t:=a_ (Kd.BE (FD t.o) y);replace HB:=a_ (BA (Ad) y);replace a:=a_ (C3 a.o y);(try clear y);obtain⟨b_,ca,cb,cd,cf,cg,cj,bk,bl,bm,bn,bo,bp,bq⟩:=Dz a.o))
    replace t:=a_ (Kd.AR t.o);replace a:=a_ (DA a.o);replace HB:=a_ (Ay HB.o);refine Ch (n:=8) (S:=λw'=>w'.cell? ⟨b,0,none⟩=some (.int .i64 c)∧w'.cell? ⟨b,1,none⟩=some (.int .i64 d)∧w'.cell? ⟨b,2,none⟩=some (.int .i64 l)∧w'.cell? ⟨b,3,none⟩=some (.int .i64 m)∧w'.cell? ⟨b,4,none⟩=some (.int .i64 p)∧w'.cell? ⟨b,5,none⟩=some (.int .i64 q)∧w'.cell? ⟨b,6,none⟩=some (.string r)) (ds:=[]) #[false,false,false,false,false,false,false,false] (by kernel_rfl) rfl rfl ⟨(AO a.o 0).trans rfl,(AO a.o 1).trans rfl,(AO a.o 2).trans rfl,(AO a.o 3).trans rfl,(AO a.o 4).trans rfl,(AO a.o 5).trans rfl,(AO a.o 6).trans rfl⟩ (λz=>?_);refine BZ B_.QC B_.PX (λHT_ HW_=>?_);generalize cF.drew=c_ at t a HB z⊢;refine A_ 1 29 ?_;refine Iy 3 31 z ?_;refine Lk (σ:=Value×Value×Value) 3 #[true,true,true,true,true,false,false,false] (λs_=>[(28,s_.1),(30,s_.2.1),(32,s_.2.2)]) (λs_ w'=>(w'.cell? ⟨b,0,none⟩=some (.int .i64 c)∧w'.cell? ⟨b,1,none⟩=some (.int .i64 d)∧w'.cell? ⟨b,2,none⟩=some (.int .i64 l)∧w'.cell? ⟨b,3,none⟩=some (.int .i64 m)∧w'.cell? ⟨b,4,none⟩=some (.int .i64 p)∧w'.cell? ⟨b,5,none⟩=some (.int .i64 q)∧w'.cell? ⟨b,6,none⟩=some (.string r))∧(Kd.V BT 32 w' w.heap.size (λv=>(aj v∨w.heap.size≤v)∧some v≠(s_.2.1:Value).ownBlock∧some v≠(s_.2.2:Value).ownBlock∧v≠b) (.slice A0 l0.length c0) l0)∧(Kd.R BT 32 w' w.heap.size (λv=>(w.heap.size≤v)∧some v≠(s_.2.2:Value).ownBlock∧v≠b) s_.2.1 G)∧(Kd.R BT 32 w' w.heap.size (λv=>(w.heap.size≤v)∧some v≠(s_.2.1:Value).ownBlock∧v≠b) s_.2.2 A)∧(w'.heap[b]?=some (.cells #[.int .i64 c,.int .i64 d,.int .i64 l,.int .i64 m,.int .i64 p,.int .i64 q,.string r] 32 (0,0)))∧(Below w.heap.size w w')) ?_ ?_;rotate_left
    ·intro aq;refine KT (i:=0) (j:=4) (Ni:=some 28) (Nj:=some 32) #[true,true,false,true,false,false,false,false] #[false,true,false,true,true,false,false,false] rfl rfl rfl rfl (JP HT_.o (by kernel_rfl)) (by decide) (by decide) (λK hK=>?_) (λK hK=>?_)
     ·skip;refine Kd.CR BT _ 32 ?hg (N:=28) ?hd (xs:=([]:List (AM))) (inner:=[]) (ok:=λ_=>True) (okp:=λ_=>True) ?hr ?hp (λ_ u=>u) trivial (Below.refl _ _) (Nat.le_refl _) (by simp) ?_;(case hd=>rfl);(case hg=>rfl);(case hr=>first|(go_simp;done)|(go_simp;rfl));(case hp=>exact(Bi.none _ _));intro Z cG I y Du L;clear Du L;(first|rw[<-ai.o]at I|(simp only[Int.reduceToNat]at I;rw[<-ai.o]at I));replace t:=a_ (Kd.Dn (FD t.o) (Kd.BO I) y);have B:=a_ (Kd.AN (Kd.Io (Kd.FQ (M:=λv=>(w.heap.size≤v)) I (Ab (Ad)) (λv h_=>h_)) (g:=b) (o:=.cells #[.int .i64 c,.int .i64 d,.int .i64 l,.int .i64 m,.int .i64 p,.int .i64 q,.string r] 32 (0,0)) (Bp a.o)) (Ab (Ad)));replace HB:=a_ (BA (Ad) y);replace a:=a_ (C3 a.o y);clear y I;refine hK.out _ _ ⟨(AO a.o 0).trans rfl,(AO a.o 1).trans rfl,(AO a.o 2).trans rfl,(AO a.o 3).trans rfl,(AO a.o 4).trans rfl,(AO a.o 5).trans rfl,(AO a.o 6).trans rfl⟩ (λz=>?_);clear hK K;refine Ea 28 ?_;refine KT (i:=2) (j:=4) (Ni:=some 30) (Nj:=some 32) #[true,true,true,true,false,false,false,false] #[true,true,false,true,true,false,false,false] rfl rfl rfl rfl (JP HT_.o (by kernel_rfl)) (by decide) (by decide) (λK hK=>?_) (λK hK=>?_)
      ·skip;refine Kd.Bo BT (w0:=w) w.heap.size (by rfl) (.tmp 28) (.tmp 29) 24 32 (.agg #[(.int .i64 0),(.int .i64 0),(.int .i64 0),(.int .i64 0),(.int .i64 0),(.int .i64 0),(.string ⟨#[]⟩)]) 64 rfl Tryd.underlying24 C7 rfl (by decide) (by omega) Z U l0 _ _ _ (λv=>(w.heap.size≤v)∧v≠b) (λ_=>False) rfl rfl ?aO ?aR (λ_ _ h=>h) (λ_ h=>h.elim) ?aF ?aB ?aS ?aL ?_;(case aR=>repeat(first|exact(Kd.Bk t.o).2.2|(with_reducible refine Kd.C_alloc ?_ _)|(with_reducible refine Kd.Cz ?_ _)|(with_reducible refine Kd.C_drew ?_)));(case aB=>exact(Ad));(case aF=>exact(λv u=>⟨(Nat.le_trans (Ab (Ad)) u),Kd.EB (g:=b) (o:=.cells #[.int .i64 c,.int .i64 d,.int .i64 l,.int .i64 m,.int .i64 p,.int .i64 q,.string r] 32 (0,0)) (Bp a.o) v u⟩));(case aO=>exact(by(with_reducible repeat(first|apply Kd.R_alloc|apply Kd.An|apply Kd.As));exact Kd.Aj B.o (λ_ u=>⟨u.1.1,u.2⟩)));(case aS=>exact(Ab (Ad)));(case aL=>have:=an.o;omega);intro T aW ho y hg X;rw[<-ao.o]at ho;replace t:=a_ (Kd.F8 (ok:=(λv=>(aj v∨w.heap.size≤v)∧v≠b)) (FD t.o) hg X);replace a:=a_ (AJ (g:=b) (o:=.cells #[.int .i64 c,.int .i64 d,.int .i64 l,.int .i64 m,.int .i64 p,.int .i64 q,.string r] 32 (0,0)) (Bp a.o) hg (Kd.Hq B.o (λ_ u=>u.2)));replace HB:=a_ (y);have D:=a_ (ho);clear B;clear ho y hg X;refine hK.out _ _ ⟨(AO a.o 0).trans rfl,(AO a.o 1).trans rfl,(AO a.o 2).trans rfl,(AO a.o 3).trans rfl,(AO a.o 4).trans rfl,(AO a.o 5).trans rfl,(AO a.o 6).trans rfl⟩ (λz=>?_);clear hK K;refine Ea 30 ?_;refine EU 4 32 (λK hK=>?_);refine Kd.CR BT _ 32 ?hg (N:=32) ?hd (xs:=([(⟨c,d,(⟨l,m,p,q,r⟩:Et)⟩:AM)]:List (AM))) (inner:=[.int .i64 c,.int .i64 d,.int .i64 l,.int .i64 m,.int .i64 p,.int .i64 q,.string r]) (ok:=λ_=>True) (okp:=λ_=>True) ?hr ?hp (λ_ u=>u) trivial (Below.refl _ _) (Nat.le_refl _) (by simp) ?_;(case hd=>rfl);(case hg=>rfl);(case hr=>first|(go_simp;done)|(go_simp;rfl));(case hp=>exact(Bi.c7 (show Kd.M BT _ _ _ (⟨c,d,(⟨l,m,p,q,r⟩:Et)⟩:AM) [.int .i64 c,.int .i64 d,.int .i64 l,.int .i64 m,.int .i64 p,.int .i64 q,.string r]from(Ex _ _ _ (⟨c,d,(⟨l,m,p,q,r⟩:Et)⟩:AM) )) (Bi.none _ _)));intro J da ab y Du L;clear Du L;(first|rw[<-Y.o]at ab|(simp only[Int.reduceToNat]at ab;rw[<-Y.o]at ab));replace t:=a_ (Kd.Dn (FD t.o) (Kd.BO ab) y);have x:=a_ (Kd.AN (Kd.Io (Kd.DC (Kd.FQ (M:=λv=>(w.heap.size≤v)) ab (Ab (Ad)) (λv h_=>h_)) (Kd.DQ (BC D.o))) (g:=b) (o:=.cells #[.int .i64 c,.int .i64 d,.int .i64 l,.int .i64 m,.int .i64 p,.int .i64 q,.string r] 32 (0,0)) (Bp a.o)) (Ab (Ad)));replace D:=a_ (Kd.CB (BC D.o) (Kd.BO ab) y);replace HB:=a_ (BA (Ad) y);replace a:=a_ (C3 a.o y);clear y ab;refine hK.out _ _ ⟨(AO a.o 0).trans rfl,(AO a.o 1).trans rfl,(AO a.o 2).trans rfl,(AO a.o 3).trans rfl,(AO a.o 4).trans rfl,(AO a.o 5).trans rfl,(AO a.o 6).trans rfl⟩ (λz=>?_);clear hK K;refine Ea 32 ?_;exact Fj (by simp only[Eh,Act.put,List.setIfInBounds_toArray,List.set_cons_zero,List.set_cons_succ]) (aq (Z,T,J) _ ⟨z,(by(with_reducible repeat(first|apply Kd.V_alloc|apply Kd.BF|apply Kd.AR));exact Kd.AH t.o (λ_ u=>⟨u.1.1.1,⟨u.1.2,⟨u.2,u.1.1.2⟩⟩⟩)),(by(with_reducible repeat(first|apply Kd.R_alloc|apply Kd.An|apply Kd.As));exact Kd.Aj D.o (λ_ u=>⟨u.1.1,⟨u.2,u.1.2⟩⟩)),(by(with_reducible repeat(first|apply Kd.R_alloc|apply Kd.An|apply Kd.As));exact Kd.Aj x.o (λ_ u=>⟨u.1.1.1,⟨u.1.2,u.2⟩⟩)),(Bp a.o),(Ad)⟩)
      skip;refine Kd.CR BT _ 32 ?hg (N:=32) ?hd (xs:=([(⟨c,d,(⟨l,m,p,q,r⟩:Et)⟩:AM)]:List (AM))) (inner:=[.int .i64 c,.int .i64 d,.int .i64 l,.int .i64 m,.int .i64 p,.int .i64 q,.string r]) (ok:=λ_=>True) (okp:=λ_=>True) ?hr ?hp (λ_ u=>u) trivial (Below.refl _ _) (Nat.le_refl _) (by simp) ?_;(case hd=>rfl);(case hg=>rfl);(case hr=>first|(go_simp;done)|(go_simp;rfl));(case hp=>exact(Bi.c7 (show Kd.M BT _ _ _ (⟨c,d,(⟨l,m,p,q,r⟩:Et)⟩:AM) [.int .i64 c,.int .i64 d,.int .i64 l,.int .i64 m,.int .i64 p,.int .i64 q,.string r]from(Ex _ _ _ (⟨c,d,(⟨l,m,p,q,r⟩:Et)⟩:AM) )) (Bi.none _ _)));intro J aW E y Du L;clear Du L;(first|rw[<-Y.o]at E|(simp only[Int.reduceToNat]at E;rw[<-Y.o]at E));replace t:=a_ (Kd.Dn (FD t.o) (Kd.BO E) y);have x:=a_ (Kd.AN (Kd.Io (Kd.DC (Kd.FQ (M:=λv=>(w.heap.size≤v)) E (Ab (Ad)) (λv h_=>h_)) (Kd.DQ (BC B.o))) (g:=b) (o:=.cells #[.int .i64 c,.int .i64 d,.int .i64 l,.int .i64 m,.int .i64 p,.int .i64 q,.string r] 32 (0,0)) (Bp a.o)) (Ab (Ad)));replace B:=a_ (Kd.CB (BC B.o) (Kd.BO E) y);replace HB:=a_ (BA (Ad) y);replace a:=a_ (C3 a.o y);clear y E;refine hK.out _ _ ⟨(AO a.o 0).trans rfl,(AO a.o 1).trans rfl,(AO a.o 2).trans rfl,(AO a.o 3).trans rfl,(AO a.o 4).trans rfl,(AO a.o 5).trans rfl,(AO a.o 6).trans rfl⟩ (λz=>?_);clear hK K;refine Ea 32 ?_;refine EU 2 30 (λK hK=>?_);refine Kd.Bo BT (w0:=w) w.heap.size (by rfl) (.tmp 28) (.tmp 29) 24 32 (.agg #[(.int .i64 0),(.int .i64 0),(.int .i64 0),(.int .i64 0),(.int .i64 0),(.int .i64 0),(.string ⟨#[]⟩)]) 64 rfl Tryd.underlying24 C7 rfl (by decide) (by omega) Z U l0 _ _ _ (λv=>(w.heap.size≤v)∧some v≠(J:Value).ownBlock∧v≠b) (λ_=>False) rfl rfl ?aO ?aR (λ_ _ h=>h) (λ_ h=>h.elim) ?aF ?aB ?aS ?aL ?_;(case aR=>repeat(first|exact(Kd.Bk t.o).2.2|(with_reducible refine Kd.C_alloc ?_ _)|(with_reducible refine Kd.Cz ?_ _)|(with_reducible refine Kd.C_drew ?_)));(case aB=>exact(Ad));(case aF=>exact(λv u=>⟨(Nat.le_trans (Ab (Ad)) u),Kd.EA (Kd.DQ (BC x.o)) v u,Kd.EB (g:=b) (o:=.cells #[.int .i64 c,.int .i64 d,.int .i64 l,.int .i64 m,.int .i64 p,.int .i64 q,.string r] 32 (0,0)) (Bp a.o) v u⟩));(case aO=>exact(by(with_reducible repeat(first|apply Kd.R_alloc|apply Kd.An|apply Kd.As));exact Kd.Aj B.o (λ_ u=>⟨u.1.1.1,⟨u.2,u.1.2⟩⟩)));(case aS=>exact(Ab (Ad)));(case aL=>have:=an.o;omega);intro T cH ho y hg X;rw[<-ao.o]at ho;replace t:=a_ (Kd.F8 (ok:=(λv=>(aj v∨w.heap.size≤v)∧some v≠(J:Value).ownBlock∧v≠b)) (by(with_reducible repeat(first|apply Kd.V_alloc|apply Kd.BF|apply Kd.AR));exact Kd.AH t.o (λ_ u=>⟨⟨u.1.1.1,⟨u.2,u.1.1.2⟩⟩,u.1.2⟩)) hg X);replace a:=a_ (AJ (g:=b) (o:=.cells #[.int .i64 c,.int .i64 d,.int .i64 l,.int .i64 m,.int .i64 p,.int .i64 q,.string r] 32 (0,0)) (Bp a.o) hg (Kd.Hq B.o (λ_ u=>u.1.2)));replace x:=a_ (Kd.Ei (ok:=(λv=>(w.heap.size≤v)∧v≠b)) (by(with_reducible repeat(first|apply Kd.R_alloc|apply Kd.An|apply Kd.As));exact Kd.Aj x.o (λ_ u=>⟨⟨u.1.1.1,u.2⟩,u.1.2⟩)) hg X);replace HB:=a_ (y);have D:=a_ (ho);clear B;clear ho y hg X;refine hK.out _ _ ⟨(AO a.o 0).trans rfl,(AO a.o 1).trans rfl,(AO a.o 2).trans rfl,(AO a.o 3).trans rfl,(AO a.o 4).trans rfl,(AO a.o 5).trans rfl,(AO a.o 6).trans rfl⟩ (λz=>?_);clear hK K;refine Ea 30 ?_;exact Fj (by simp only[Eh,Act.put,List.setIfInBounds_toArray,List.set_cons_zero,List.set_cons_succ]) (aq (Z,T,J) _ ⟨z,(by(with_reducible repeat(first|apply Kd.V_alloc|apply Kd.BF|apply Kd.AR));exact Kd.AH t.o (λ_ u=>⟨u.1.1,⟨u.2,⟨u.1.2.1,u.1.2.2⟩⟩⟩)),(BC D.o),(by(with_reducible repeat(first|apply Kd.R_alloc|apply Kd.An|apply Kd.As));exact Kd.Aj x.o (λ_ u=>⟨u.1.1,⟨u.2,u.1.2⟩⟩)),(Bp a.o),(Ad)⟩)
     skip;refine Kd.CR BT _ 32 ?hg (N:=32) ?hd (xs:=([(⟨c,d,(⟨l,m,p,q,r⟩:Et)⟩:AM)]:List (AM))) (inner:=[.int .i64 c,.int .i64 d,.int .i64 l,.int .i64 m,.int .i64 p,.int .i64 q,.string r]) (ok:=λ_=>True) (okp:=λ_=>True) ?hr ?hp (λ_ u=>u) trivial (Below.refl _ _) (Nat.le_refl _) (by simp) ?_;(case hd=>rfl);(case hg=>rfl);(case hr=>first|(go_simp;done)|(go_simp;rfl));(case hp=>exact(Bi.c7 (show Kd.M BT _ _ _ (⟨c,d,(⟨l,m,p,q,r⟩:Et)⟩:AM) [.int .i64 c,.int .i64 d,.int .i64 l,.int .i64 m,.int .i64 p,.int .i64 q,.string r]from(Ex _ _ _ (⟨c,d,(⟨l,m,p,q,r⟩:Et)⟩:AM) )) (Bi.none _ _)));intro J cG I y Du L;clear Du L;(first|rw[<-Y.o]at I|(simp only[Int.reduceToNat]at I;rw[<-Y.o]at I));replace t:=a_ (Kd.Dn (FD t.o) (Kd.BO I) y);have x:=a_ (Kd.AN (Kd.Io (Kd.FQ (M:=λv=>(w.heap.size≤v)) I (Ab (Ad)) (λv h_=>h_)) (g:=b) (o:=.cells #[.int .i64 c,.int .i64 d,.int .i64 l,.int .i64 m,.int .i64 p,.int .i64 q,.string r] 32 (0,0)) (Bp a.o)) (Ab (Ad)));replace HB:=a_ (BA (Ad) y);replace a:=a_ (C3 a.o y);clear y I;refine hK.out _ _ ⟨(AO a.o 0).trans rfl,(AO a.o 1).trans rfl,(AO a.o 2).trans rfl,(AO a.o 3).trans rfl,(AO a.o 4).trans rfl,(AO a.o 5).trans rfl,(AO a.o 6).trans rfl⟩ (λz=>?_);clear hK K;refine Ea 32 ?_;refine EU 0 28 (λK hK=>?_);refine Kd.CR BT _ 32 ?hg (N:=28) ?hd (xs:=([]:List (AM))) (inner:=[]) (ok:=λ_=>True) (okp:=λ_=>True) ?hr ?hp (λ_ u=>u) trivial (Below.refl _ _) (Nat.le_refl _) (by simp) ?_;(case hd=>rfl);(case hg=>rfl);(case hr=>first|(go_simp;done)|(go_simp;rfl));(case hp=>exact(Bi.none _ _));intro Z aW E y Du L;clear Du L;(first|rw[<-ai.o]at E|(simp only[Int.reduceToNat]at E;rw[<-ai.o]at E));replace t:=a_ (Kd.Dn (FD t.o) (Kd.BO E) y);have B:=a_ (Kd.AN (Kd.Io (Kd.DC (Kd.FQ (M:=λv=>(w.heap.size≤v)) E (Ab (Ad)) (λv h_=>h_)) (Kd.DQ (BC x.o))) (g:=b) (o:=.cells #[.int .i64 c,.int .i64 d,.int .i64 l,.int .i64 m,.int .i64 p,.int .i64 q,.string r] 32 (0,0)) (Bp a.o)) (Ab (Ad)));replace x:=a_ (Kd.CB (BC x.o) (Kd.BO E) y);replace HB:=a_ (BA (Ad) y);replace a:=a_ (C3 a.o y);clear y E;refine hK.out _ _ ⟨(AO a.o 0).trans rfl,(AO a.o 1).trans rfl,(AO a.o 2).trans rfl,(AO a.o 3).trans rfl,(AO a.o 4).trans rfl,(AO a.o 5).trans rfl,(AO a.o 6).trans rfl⟩ (λz=>?_);clear hK K;refine Ea 28 ?_;refine EU 2 30 (λK hK=>?_);refine Kd.Bo BT (w0:=w) w.heap.size (by rfl) (.tmp 28) (.tmp 29) 24 32 (.agg #[(.int .i64 0),(.int .i64 0),(.int .i64 0),(.int .i64 0),(.int .i64 0),(.int .i64 0),(.string ⟨#[]⟩)]) 64 rfl Tryd.underlying24 C7 rfl (by decide) (by omega) Z U l0 _ _ _ (λv=>(w.heap.size≤v)∧some v≠(J:Value).ownBlock∧v≠b) (λ_=>False) rfl rfl ?aO ?aR (λ_ _ h=>h) (λ_ h=>h.elim) ?aF ?aB ?aS ?aL ?_;(case aR=>repeat(first|exact(Kd.Bk t.o).2.2|(with_reducible refine Kd.C_alloc ?_ _)|(with_reducible refine Kd.Cz ?_ _)|(with_reducible refine Kd.C_drew ?_)));(case aB=>exact(Ad));(case aF=>exact(λv u=>⟨(Nat.le_trans (Ab (Ad)) u),Kd.EA (Kd.DQ (BC x.o)) v u,Kd.EB (g:=b) (o:=.cells #[.int .i64 c,.int .i64 d,.int .i64 l,.int .i64 m,.int .i64 p,.int .i64 q,.string r] 32 (0,0)) (Bp a.o) v u⟩));(case aO=>exact(by(with_reducible repeat(first|apply Kd.R_alloc|apply Kd.An|apply Kd.As));exact Kd.Aj B.o (λ_ u=>⟨u.1.1.1,⟨u.1.2,u.2⟩⟩)));(case aS=>exact(Ab (Ad)));(case aL=>have:=an.o;omega);intro T cH ho y hg X;rw[<-ao.o]at ho;replace t:=a_ (Kd.F8 (ok:=(λv=>(aj v∨w.heap.size≤v)∧some v≠(J:Value).ownBlock∧v≠b)) (by(with_reducible repeat(first|apply Kd.V_alloc|apply Kd.BF|apply Kd.AR));exact Kd.AH t.o (λ_ u=>⟨⟨u.1.1.1,⟨u.1.2,u.1.1.2⟩⟩,u.2⟩)) hg X);replace a:=a_ (AJ (g:=b) (o:=.cells #[.int .i64 c,.int .i64 d,.int .i64 l,.int .i64 m,.int .i64 p,.int .i64 q,.string r] 32 (0,0)) (Bp a.o) hg (Kd.Hq B.o (λ_ u=>u.2)));replace x:=a_ (Kd.Ei (ok:=(λv=>(w.heap.size≤v)∧v≠b)) (by(with_reducible repeat(first|apply Kd.R_alloc|apply Kd.An|apply Kd.As));exact Kd.Aj x.o (λ_ u=>⟨⟨u.1.1.1,u.1.2⟩,u.2⟩)) hg X);replace HB:=a_ (y);have D:=a_ (ho);clear B;clear ho y hg X;refine hK.out _ _ ⟨(AO a.o 0).trans rfl,(AO a.o 1).trans rfl,(AO a.o 2).trans rfl,(AO a.o 3).trans rfl,(AO a.o 4).trans rfl,(AO a.o 5).trans rfl,(AO a.o 6).trans rfl⟩ (λz=>?_);clear hK K;refine Ea 30 ?_;exact Fj (by simp only[Eh,Act.put,List.setIfInBounds_toArray,List.set_cons_zero,List.set_cons_succ]) (aq (Z,T,J) _ ⟨z,(by(with_reducible repeat(first|apply Kd.V_alloc|apply Kd.BF|apply Kd.AR));exact Kd.AH t.o (λ_ u=>⟨u.1.1,⟨u.2,⟨u.1.2.1,u.1.2.2⟩⟩⟩)),(BC D.o),(by(with_reducible repeat(first|apply Kd.R_alloc|apply Kd.An|apply Kd.As));exact Kd.Aj x.o (λ_ u=>⟨u.1.1,⟨u.2,u.1.2⟩⟩)),(Bp a.o),(Ad)⟩)
    rintro⟨Z,T,J⟩ aa ⟨cD,aM,aN,aP,aQ,aT⟩;replace t:Ae (Kd.V BT 32 aa w.heap.size (λv=>(aj v∨w.heap.size≤v)∧some v≠(T:Value).ownBlock∧some v≠(J:Value).ownBlock∧v≠b) (.slice A0 l0.length c0) l0):=⟨aM⟩
    have D:Ae (Kd.R BT 32 aa w.heap.size (λv=>(w.heap.size≤v)∧some v≠(J:Value).ownBlock∧v≠b) T G):=⟨aN⟩
    have x:Ae (Kd.R BT 32 aa w.heap.size (λv=>(w.heap.size≤v)∧some v≠(T:Value).ownBlock∧v≠b) J A):=⟨aP⟩
    replace a:Ae (aa.heap[b]?=some (.cells #[.int .i64 c,.int .i64 d,.int .i64 l,.int .i64 m,.int .i64 p,.int .i64 q,.string r] 32 (0,0))):=⟨aQ⟩
    replace HB:Ae (Below w.heap.size w aa):=⟨aT⟩
    clear aM aN aP aQ aT;have z:aa.cell? ⟨b,0,none⟩=some (.int .i64 c)∧aa.cell? ⟨b,1,none⟩=some (.int .i64 d)∧aa.cell? ⟨b,2,none⟩=some (.int .i64 l)∧aa.cell? ⟨b,3,none⟩=some (.int .i64 m)∧aa.cell? ⟨b,4,none⟩=some (.int .i64 p)∧aa.cell? ⟨b,5,none⟩=some (.int .i64 q)∧aa.cell? ⟨b,6,none⟩=some (.string r):=cD;obtain⟨av,aw,ax⟩:=Kd.Bg x.o;(first|subst ax|(injection ax with aJ cA aK;have cB:=aJ.symm;have cC:=aK.symm;clear aJ cA aK;subst cB;subst cC));refine Fj (a':=?_) ?_ ?_;rotate_left
    ·simp only[Eh,Act.put,List.setIfInBounds_toArray,List.set_cons_zero,List.set_cons_succ];rfl
    refine EU 5 33 (λK hK=>?_);refine Kd.Bo BT (w0:=w) w.heap.size (by rfl) (.tmp 30) (.tmp 32) 24 32 (.agg #[(.int .i64 0),(.int .i64 0),(.int .i64 0),(.int .i64 0),(.int .i64 0),(.int .i64 0),(.string ⟨#[]⟩)]) 64 rfl Tryd.underlying24 C7 rfl (by decide) (by omega) T G A _ _ _ (λv=>(w.heap.size≤v)∧some v≠(.slice av A.length aw:Value).ownBlock∧v≠b) (λ_=>False) rfl rfl ?aO ?aR (λ_ _ h=>h) (λ_ h=>h.elim) ?aF ?aB ?aS ?aL ?_;(case aR=>exact Ft (Kd.AD x.o).2.2);(case aB=>exact(Ad));(case aF=>exact(λv u=>⟨(Nat.le_trans (Ab (Ad)) u),Kd.EA (Kd.DQ (BC x.o)) v u,Kd.EB (g:=b) (o:=.cells #[.int .i64 c,.int .i64 d,.int .i64 l,.int .i64 m,.int .i64 p,.int .i64 q,.string r] 32 (0,0)) (Bp a.o) v u⟩));(case aO=>exact(BC D.o));(case aS=>exact(Ab (Ad)));(case aL=>have:=az.o;omega);intro cX db ho y hg X;rw[<-aA.o]at ho;replace t:=a_ (Kd.F8 (ok:=(λv=>(aj v∨w.heap.size≤v)∧some v≠(.slice av A.length aw:Value).ownBlock∧v≠b)) (by(with_reducible repeat(first|apply Kd.V_alloc|apply Kd.BF|apply Kd.AR));exact Kd.AH t.o (λ_ u=>⟨⟨u.1,⟨u.2.2.1,u.2.2.2⟩⟩,u.2.1⟩)) hg X);replace a:=a_ (AJ (g:=b) (o:=.cells #[.int .i64 c,.int .i64 d,.int .i64 l,.int .i64 m,.int .i64 p,.int .i64 q,.string r] 32 (0,0)) (Bp a.o) hg (Kd.Hq D.o (λ_ u=>u.2.2)));replace x:=a_ (Kd.Ei (ok:=(λv=>(w.heap.size≤v)∧v≠b)) (by(with_reducible repeat(first|apply Kd.R_alloc|apply Kd.An|apply Kd.As));exact Kd.Aj x.o (λ_ u=>⟨⟨u.1,u.2.2⟩,u.2.1⟩)) hg X);replace HB:=a_ (y);have ay:=a_ (ho);clear D;clear ho y hg X;refine hK.out _ _ ⟨(AO a.o 0).trans rfl,(AO a.o 1).trans rfl,(AO a.o 2).trans rfl,(AO a.o 3).trans rfl,(AO a.o 4).trans rfl,(AO a.o 5).trans rfl,(AO a.o 6).trans rfl⟩ (λz=>?_);clear hK K;refine Ea 33 ?_;refine A_ 6 4 ?_;refine A_ 7 5 ?_;refine CT (CU HT_.o (by kernel_rfl)) ?_;try go_wp2
    go_ret2;exact⟨_,C_,Kd.AH (Kd.Oh (by(with_reducible repeat(first|apply Kd.R_alloc|apply Kd.An|apply Kd.As));exact Kd.Aj ay.o (λ_ u=>u.1))) (λv u=>by first|exact⟨(.inr (u.1)),u.2⟩|exact(.inr (u))),Ad⟩
   rw[if_neg au]at H;exact absurd H (by simp)
  rw[if_neg ar]at H;exact absurd H (by simp)
 rw[if_neg c9]at H;have aH:(d==(wrap64 (P+1)))=false:=Dq c9;have aI:(d != (wrap64 (P+1)))=true:=bne_iff_ne.mpr c9;simp only[Option.some.injEq,Prod.mk.injEq]at H;obtain⟨rfl,rfl⟩:=H;go_enter Tryd.func79,Tryd.ntmps79;go_wp2_with(first|((with_reducible refine Cd (N:=3) rfl ?_);refine CE 3 (#[.int .i64 c,.int .i64 d,.int .i64 l,.int .i64 m,.int .i64 p,.int .i64 q,.string r]) 32 ?_;intro b hg dc O y;have a:=a_ (O);have al:=a_ ((by rw[hg];exact(Ab (Ad)):w.heap.size≤b));have ak:=a_ ((by rw[hg];exact(Ab (Ad)):w.heap.size≤b));replace t:=a_ (Kd.BE (Kd.CY (FD t.o) b (Nat.le_of_eq hg.symm)) y);replace HB:=a_ (BA (Ad) y);clear y O hg;obtain⟨ck,cl,cm,cn,cp,cq,cr,br,bu,bw,bx,bz,bA,bB⟩:=Dz a.o)|((with_reducible refine BN (f:=63) rfl ?_);refine BR 10 Tryd.func63 #[.slice A0 l0.length c0,.int .i64 c] ?_;(with_reducible refine(Be.calls k _ _ l0 c P _ ?q' ?z' A3.o).mono ?_);(case q'=>repeat(first|exact(Kd.Bk t.o).2.2|(with_reducible refine Kd.C_alloc ?_ _)|(with_reducible refine Kd.Cz ?_ _)|(with_reducible refine Kd.C_drew ?_)));(case z'=>exact(Kd.Bk t.o).2.1);rintro e w' ⟨rfl,⟨nd,rfl⟩⟩;refine⟨_,rfl,?_⟩)|((with_reducible refine BN (f:=80) rfl ?_);refine BR 14 Tryd.func80 #[.slice A0 l0.length c0,.agg #[.int .i64 c,.int .i64 d,.int .i64 l,.int .i64 m,.int .i64 p,.int .i64 q,.string r]] ?_;(with_reducible refine(BQ.calls k _ _ l0 c d l m p q r false _ ?q' ?z' A4.o).mono ?_);(case q'=>repeat(first|exact(Kd.Bk t.o).2.2|(with_reducible refine Kd.C_alloc ?_ _)|(with_reducible refine Kd.Cz ?_ _)|(with_reducible refine Kd.C_drew ?_)));(case z'=>exact(Kd.Bk t.o).2.1);rintro e dd ⟨rfl,y⟩;refine⟨_,rfl,?_⟩;replace t:=a_ (Kd.BE (FD t.o) y);replace HB:=a_ (BA (Ad) y);replace a:=a_ (C3 a.o y);(try clear y);obtain⟨ct,cu,cv,cw,cx,cy,cz,bC,bD,bE,bF,bG,bH,bI⟩:=Dz a.o));go_ret2;exact⟨_,C_,by(with_reducible repeat(first|apply Kd.V_alloc|apply Kd.BF|apply Kd.AR));exact Kd.AH t.o (λ_ u=>u.1),Ad⟩
def D6.f(k:Nat)(d:List (AM))(b:Int)(a:Bool)(e:Int)(g:Int)(i:Int)(j:Int)(l:Int)(m:Int)(n:ByteArray):Option ((List (AM))×Int×Bool×Bool):=(B_.f k d e g i j l m n).bind λc=>(if a=true then(if c.2=1 then(some (c.1,b,a,true))else(some (d,b,a,false)))else(some (d,b,a,false)))
theorem D6.calls(k:Nat)(T:Nat->Prop)(n:Option Addr)(q:Nat)(j:List (AM))(m:Int)(ak:Bool)(x:Int)(y:Int)(z:Int)(A:Int)(B:Int)(D:Int)(E:ByteArray)(r1:List (AM))(r2:Int)(r3:Bool)(r4:Bool)(w:World)(ao:Kd.V BT 32 w w.heap.size (λv=>T v) (.slice n j.length q) j)(h:D6.f k j m ak x y z A B D E=some (r1,r2,r3,r4)) :
  Calls Tryd.prog 76 #[.agg #[.slice n j.length q,.int .i64 m,.bool ak],.agg #[.int .i64 x,.int .i64 y,.int .i64 z,.int .i64 A,.int .i64 B,.int .i64 D,.string E]] w λe w'=>∃aw:Value,e=.returned (.tuple #[.agg #[aw,.int .i64 r2,.bool r3],.bool r4])∧Kd.V BT 32 w' w.heap.size (λv=>(T v∨w.heap.size≤v)) aw r1∧Below w.heap.size w w':=by
 have cE:=Tryd.underlying60;have cD:=Tryd.underlying32;have i:=a_ (show Kd.V BT 32 w w.heap.size (λv=>(T v∨w.heap.size≤v)) (.slice n j.length q) j from Kd.AH ao (λv U=>.inl U));have HB:=a_ (Below.refl w.heap.size w);unfold D6.f at h;have H:=h;clear h;replace H:=BU H;obtain⟨⟨Y,X⟩,aq,H⟩:=H;try dsimp only at H
 have A3:=a_ aq;clear aq;by_cases c4:ak=true
 ·subst c4;have H1:(if X=1 then(some (Y,m,true,true))else(some (j,m,true,false)))=some (r1,r2,r3,r4):=by rw[if_pos rfl]at H;exact H
  clear H;have H:=H1;clear H1;by_cases c5:X=1
  ·rw[if_pos c5]at H;have ar:(X==1)=true:=beq_iff_eq.mpr c5;have au:(X != 1)=false:=Ff c5;clear c5;simp only[Option.some.injEq,Prod.mk.injEq]at H;obtain⟨rfl,rfl,rfl,rfl⟩:=H;go_enter Tryd.func76,Tryd.ntmps76;go_wp2_with(first|((with_reducible refine Cd (N:=2) rfl ?_);refine CE 2 (#[.slice n j.length q,.int .i64 m,.bool true]) 60 ?_;intro b hg w6 r u;have c:=a_ (r);have ah:=a_ ((by rw[hg];exact(Ab (Ad)):w.heap.size≤b));have ae:=a_ ((by rw[hg];exact(Ab (Ad)):w.heap.size≤b));replace i:=a_ (Kd.BE (Kd.CY (FD i.o) b (Nat.le_of_eq hg.symm)) u);replace HB:=a_ (BA (Ad) u);clear u r hg)|((with_reducible refine Cd (N:=3) rfl ?_);refine CE 3 (#[.int .i64 x,.int .i64 y,.int .i64 z,.int .i64 A,.int .i64 B,.int .i64 D,.string E]) 32 ?_;intro d hg w7 r u;have l:=a_ (r);have ai:=a_ ((by rw[hg];exact(Ab (Ad)):w.heap.size≤d));have af:=a_ ((by rw[hg];exact(Ab (Ad)):w.heap.size≤d));have I:=a_ ((by rw[hg];exact Nat.ne_of_lt (AU (g:=b) (o:=.cells #[.slice n j.length q,.int .i64 m,.bool true] 60 (0,0)) (Bp c.o)):b≠d));have K:=a_ ((by rw[hg];exact Nat.ne_of_gt (AU (g:=b) (o:=.cells #[.slice n j.length q,.int .i64 m,.bool true] 60 (0,0)) (Bp c.o)):d≠b));replace i:=a_ (Kd.BE (Kd.CY (FD i.o) d (Nat.le_of_eq hg.symm)) u);replace c:=a_ (C3 c.o u);replace HB:=a_ (BA (Ad) u);clear u r hg)|((with_reducible refine Cd (N:=4) rfl ?_);refine CE 4 (#[.slice none 0 0,.int .i64 0,.bool false]) 60 ?_;intro a hg w8 r u;have t:=a_ (r);have aj:=a_ ((by rw[hg];exact(Ab (Ad)):w.heap.size≤a));have ag:=a_ ((by rw[hg];exact(Ab (Ad)):w.heap.size≤a));have J:=a_ ((by rw[hg];exact Nat.ne_of_lt (AU (g:=b) (o:=.cells #[.slice n j.length q,.int .i64 m,.bool true] 60 (0,0)) (Bp c.o)):b≠a));have G:=a_ ((by rw[hg];exact Nat.ne_of_gt (AU (g:=b) (o:=.cells #[.slice n j.length q,.int .i64 m,.bool true] 60 (0,0)) (Bp c.o)):a≠b));have L:=a_ ((by rw[hg];exact Nat.ne_of_lt (AU (g:=d) (o:=.cells #[.int .i64 x,.int .i64 y,.int .i64 z,.int .i64 A,.int .i64 B,.int .i64 D,.string E] 32 (0,0)) (Bp l.o)):d≠a));have M:=a_ ((by rw[hg];exact Nat.ne_of_gt (AU (g:=d) (o:=.cells #[.int .i64 x,.int .i64 y,.int .i64 z,.int .i64 A,.int .i64 B,.int .i64 D,.string E] 32 (0,0)) (Bp l.o)):a≠d));replace i:=a_ (Kd.BE (Kd.CY (FD i.o) a (Nat.le_of_eq hg.symm)) u);replace c:=a_ (C3 c.o u);replace l:=a_ (C3 l.o u);replace HB:=a_ (BA (Ad) u);clear u r hg;have cB:=I.o;have cC:=K.o;have cj:=J.o;have ct:=G.o;obtain⟨bk,bl,bm,ax,ay,az⟩:=DK c.o;have ck:=L.o;have cu:=M.o;obtain⟨bn,bo,bp,bq,br,bu,bw,aA,aB,aC,aD,aE,aF,aG⟩:=Dz l.o)|((with_reducible refine BN (f:=79) rfl ?_);refine BR 12 Tryd.func79 #[.slice n j.length q,.agg #[.int .i64 x,.int .i64 y,.int .i64 z,.int .i64 A,.int .i64 B,.int .i64 D,.string E]] ?_;(with_reducible refine(B_.calls k (λv=>((((T v∨w.heap.size≤v)∧v≠b)∧v≠d)∧v≠a)) _ _ j x y z A B D E Y X _ ?q' A3.o).mono ?_);(case q'=>exact i.o);rintro e cF ⟨an,rfl,aa,u⟩;refine⟨_,rfl,?_⟩;replace i:=a_ (Kd.BE (FD i.o) u);have Z:=a_ (Kd.Js (Kd.AH (Fc:=λv=>(T v∨w.heap.size≤v)∧v≠b∧v≠d∧v≠a) aa (λv W=>⟨Or.elim W (λP=>P.1.1.1) (λO=>(.inr (Nat.le_trans (Ab (Ad)) O))),Or.elim W (λP=>P.1.1.2) (λO=>(Kd.EB (g:=b) (o:=.cells #[.slice n j.length q,.int .i64 m,.bool true] 60 (0,0)) (Bp c.o) v O)),Or.elim W (λP=>P.1.2) (λO=>(Kd.EB (g:=d) (o:=.cells #[.int .i64 x,.int .i64 y,.int .i64 z,.int .i64 A,.int .i64 B,.int .i64 D,.string E] 32 (0,0)) (Bp l.o) v O)),Or.elim W (λP=>P.2) (λO=>(Kd.EB (g:=a) (o:=.cells #[.slice none 0 0,.int .i64 0,.bool false] 60 (0,0)) (Bp t.o) v O))⟩)) (Ab (Ad)));replace HB:=a_ (BA (Ad) u);replace c:=a_ (C3 c.o u);replace l:=a_ (C3 l.o u);replace t:=a_ (C3 t.o u);(try clear u aa);obtain⟨bx,bz,bA,aH,aI,aJ⟩:=DK c.o;obtain⟨ab,al,av⟩:=Kd.Ca Z.o;subst av;obtain⟨bB,bC,bD,aK,aL,aM⟩:=DK t.o));refine bodyPost_ret (Dh rfl _ _ a 60 #[.slice ab Y.length al,.int .i64 m,.bool true] (0,0) _ rfl (MT G.o t.o) Tryd.underlying60 rfl (by kernel_rfl)) rfl ?_;exact⟨_,C_,by(with_reducible repeat(first|apply Kd.V_alloc|apply Kd.BF|apply Kd.AR));exact Kd.AH (Kd.Bb (p:=⟨a,2,none⟩) (Kd.Bb (p:=⟨a,1,none⟩) (Kd.Bb (p:=⟨a,0,none⟩) (Kd.Bb (p:=⟨b,0,none⟩) (Kd.AH (Kd.AH Z.o (λv U=>(⟨U,U.2.1⟩:_∧v≠b))) (λv U=>(⟨U,U.1.2.2.2⟩:_∧v≠a))) (λ_ U=>U.1.2) (.slice ab Y.length al)) (λ_ U=>U.2) (.slice ab Y.length al)) (λ_ U=>U.2) (.int .i64 m)) (λ_ U=>U.2) (.bool true)) (λ_ U=>U.1.1.1),Ad⟩
  rw[if_neg c5]at H;have ar:(X==1)=false:=Dq c5;have au:(X != 1)=true:=bne_iff_ne.mpr c5;simp only[Option.some.injEq,Prod.mk.injEq]at H;obtain⟨rfl,rfl,rfl,rfl⟩:=H;go_enter Tryd.func76,Tryd.ntmps76;go_wp2_with(first|((with_reducible refine Cd (N:=2) rfl ?_);refine CE 2 (#[.slice n j.length q,.int .i64 m,.bool true]) 60 ?_;intro b hg cG r u;have c:=a_ (r);have ah:=a_ ((by rw[hg];exact(Ab (Ad)):w.heap.size≤b));have ae:=a_ ((by rw[hg];exact(Ab (Ad)):w.heap.size≤b));replace i:=a_ (Kd.BE (Kd.CY (FD i.o) b (Nat.le_of_eq hg.symm)) u);replace HB:=a_ (BA (Ad) u);clear u r hg)|((with_reducible refine Cd (N:=3) rfl ?_);refine CE 3 (#[.int .i64 x,.int .i64 y,.int .i64 z,.int .i64 A,.int .i64 B,.int .i64 D,.string E]) 32 ?_;intro d hg cH r u;have l:=a_ (r);have ai:=a_ ((by rw[hg];exact(Ab (Ad)):w.heap.size≤d));have af:=a_ ((by rw[hg];exact(Ab (Ad)):w.heap.size≤d));have I:=a_ ((by rw[hg];exact Nat.ne_of_lt (AU (g:=b) (o:=.cells #[.slice n j.length q,.int .i64 m,.bool true] 60 (0,0)) (Bp c.o)):b≠d));have K:=a_ ((by rw[hg];exact Nat.ne_of_gt (AU (g:=b) (o:=.cells #[.slice n j.length q,.int .i64 m,.bool true] 60 (0,0)) (Bp c.o)):d≠b));replace i:=a_ (Kd.BE (Kd.CY (FD i.o) d (Nat.le_of_eq hg.symm)) u);replace c:=a_ (C3 c.o u);replace HB:=a_ (BA (Ad) u);clear u r hg)|((with_reducible refine Cd (N:=4) rfl ?_);refine CE 4 (#[.slice none 0 0,.int .i64 0,.bool false]) 60 ?_;intro a hg cI r u;have t:=a_ (r);have aj:=a_ ((by rw[hg];exact(Ab (Ad)):w.heap.size≤a));have ag:=a_ ((by rw[hg];exact(Ab (Ad)):w.heap.size≤a));have J:=a_ ((by rw[hg];exact Nat.ne_of_lt (AU (g:=b) (o:=.cells #[.slice n j.length q,.int .i64 m,.bool true] 60 (0,0)) (Bp c.o)):b≠a));have G:=a_ ((by rw[hg];exact Nat.ne_of_gt (AU (g:=b) (o:=.cells #[.slice n j.length q,.int .i64 m,.bool true] 60 (0,0)) (Bp c.o)):a≠b));have L:=a_ ((by rw[hg];exact Nat.ne_of_lt (AU (g:=d) (o:=.cells #[.int .i64 x,.int .i64 y,.int .i64 z,.int .i64 A,.int .i64 B,.int .i64 D,.string E] 32 (0,0)) (Bp l.o)):d≠a));have M:=a_ ((by rw[hg];exact Nat.ne_of_gt (AU (g:=d) (o:=.cells #[.int .i64 x,.int .i64 y,.int .i64 z,.int .i64 A,.int .i64 B,.int .i64 D,.string E] 32 (0,0)) (Bp l.o)):a≠d));replace i:=a_ (Kd.BE (Kd.CY (FD i.o) a (Nat.le_of_eq hg.symm)) u);replace c:=a_ (C3 c.o u);replace l:=a_ (C3 l.o u);replace HB:=a_ (BA (Ad) u);clear u r hg;have cl:=I.o;have cv:=K.o;have cm:=J.o;have cw:=G.o;obtain⟨bE,bF,bG,aN,aO,aP⟩:=DK c.o;have cn:=L.o;have cx:=M.o;obtain⟨bH,bI,bJ,bK,bL,bM,bN,aQ,aR,aS,aT,aU,aV,aW⟩:=Dz l.o)|((with_reducible refine BN (f:=79) rfl ?_);refine BR 12 Tryd.func79 #[.slice n j.length q,.agg #[.int .i64 x,.int .i64 y,.int .i64 z,.int .i64 A,.int .i64 B,.int .i64 D,.string E]] ?_;(with_reducible refine(B_.calls k (λv=>((((T v∨w.heap.size≤v)∧v≠b)∧v≠d)∧v≠a)) _ _ j x y z A B D E Y X _ ?q' A3.o).mono ?_);(case q'=>exact i.o);rintro e cJ ⟨an,rfl,aa,u⟩;refine⟨_,rfl,?_⟩;replace i:=a_ (Kd.BE (FD i.o) u);have Z:=a_ (Kd.Js (Kd.AH (Fc:=λv=>(T v∨w.heap.size≤v)∧v≠b∧v≠d∧v≠a) aa (λv W=>⟨Or.elim W (λP=>P.1.1.1) (λO=>(.inr (Nat.le_trans (Ab (Ad)) O))),Or.elim W (λP=>P.1.1.2) (λO=>(Kd.EB (g:=b) (o:=.cells #[.slice n j.length q,.int .i64 m,.bool true] 60 (0,0)) (Bp c.o) v O)),Or.elim W (λP=>P.1.2) (λO=>(Kd.EB (g:=d) (o:=.cells #[.int .i64 x,.int .i64 y,.int .i64 z,.int .i64 A,.int .i64 B,.int .i64 D,.string E] 32 (0,0)) (Bp l.o) v O)),Or.elim W (λP=>P.2) (λO=>(Kd.EB (g:=a) (o:=.cells #[.slice none 0 0,.int .i64 0,.bool false] 60 (0,0)) (Bp t.o) v O))⟩)) (Ab (Ad)));replace HB:=a_ (BA (Ad) u);replace c:=a_ (C3 c.o u);replace l:=a_ (C3 l.o u);replace t:=a_ (C3 t.o u);(try clear u aa);obtain⟨bO,bP,bQ,aX,aY,aZ⟩:=DK c.o;obtain⟨bR,bS,bT,a0,a1,a2⟩:=DK t.o));refine bodyPost_ret (Dh rfl _ _ a 60 #[.slice n j.length q,.int .i64 m,.bool true] (0,0) _ rfl (NP t.o) Tryd.underlying60 rfl (by kernel_rfl)) rfl ?_;exact⟨_,C_,by(with_reducible repeat(first|apply Kd.V_alloc|apply Kd.BF|apply Kd.AR));exact Kd.AH (Kd.Bb (p:=⟨a,2,none⟩) (Kd.Bb (p:=⟨a,1,none⟩) (Kd.Bb (p:=⟨a,0,none⟩) (Kd.AH i.o (λv U=>(⟨U,U.2⟩:_∧v≠a))) (λ_ U=>U.2) (.slice n j.length q)) (λ_ U=>U.2) (.int .i64 m)) (λ_ U=>U.2) (.bool true)) (λ_ U=>U.1.1.1.1),Ad⟩
 replace c4:=Bool.eq_false_iff.mpr c4;subst c4;have H1:(some (j,m,false,false))=some (r1,r2,r3,r4):=by rw[if_neg (show¬ (false=true) by decide)]at H;exact H
 clear H;have H:=H1;clear H1;simp only[Option.some.injEq,Prod.mk.injEq]at H;obtain⟨rfl,rfl,rfl,rfl⟩:=H;go_enter Tryd.func76,Tryd.ntmps76;go_wp2_with(first|((with_reducible refine Cd (N:=2) rfl ?_);refine CE 2 (#[.slice n j.length q,.int .i64 m,.bool false]) 60 ?_;intro b hg cK r u;have c:=a_ (r);have ah:=a_ ((by rw[hg];exact(Ab (Ad)):w.heap.size≤b));have ae:=a_ ((by rw[hg];exact(Ab (Ad)):w.heap.size≤b));replace i:=a_ (Kd.BE (Kd.CY (FD i.o) b (Nat.le_of_eq hg.symm)) u);replace HB:=a_ (BA (Ad) u);clear u r hg)|((with_reducible refine Cd (N:=3) rfl ?_);refine CE 3 (#[.int .i64 x,.int .i64 y,.int .i64 z,.int .i64 A,.int .i64 B,.int .i64 D,.string E]) 32 ?_;intro d hg cL r u;have l:=a_ (r);have ai:=a_ ((by rw[hg];exact(Ab (Ad)):w.heap.size≤d));have af:=a_ ((by rw[hg];exact(Ab (Ad)):w.heap.size≤d));have I:=a_ ((by rw[hg];exact Nat.ne_of_lt (AU (g:=b) (o:=.cells #[.slice n j.length q,.int .i64 m,.bool false] 60 (0,0)) (Bp c.o)):b≠d));have K:=a_ ((by rw[hg];exact Nat.ne_of_gt (AU (g:=b) (o:=.cells #[.slice n j.length q,.int .i64 m,.bool false] 60 (0,0)) (Bp c.o)):d≠b));replace i:=a_ (Kd.BE (Kd.CY (FD i.o) d (Nat.le_of_eq hg.symm)) u);replace c:=a_ (C3 c.o u);replace HB:=a_ (BA (Ad) u);clear u r hg)|((with_reducible refine Cd (N:=4) rfl ?_);refine CE 4 (#[.slice none 0 0,.int .i64 0,.bool false]) 60 ?_;intro a hg cM r u;have t:=a_ (r);have aj:=a_ ((by rw[hg];exact(Ab (Ad)):w.heap.size≤a));have ag:=a_ ((by rw[hg];exact(Ab (Ad)):w.heap.size≤a));have J:=a_ ((by rw[hg];exact Nat.ne_of_lt (AU (g:=b) (o:=.cells #[.slice n j.length q,.int .i64 m,.bool false] 60 (0,0)) (Bp c.o)):b≠a));have G:=a_ ((by rw[hg];exact Nat.ne_of_gt (AU (g:=b) (o:=.cells #[.slice n j.length q,.int .i64 m,.bool false] 60 (0,0)) (Bp c.o)):a≠b));have L:=a_ ((by rw[hg];exact Nat.ne_of_lt (AU (g:=d) (o:=.cells #[.int .i64 x,.int .i64 y,.int .i64 z,.int .i64 A,.int .i64 B,.int .i64 D,.string E] 32 (0,0)) (Bp l.o)):d≠a));have M:=a_ ((by rw[hg];exact Nat.ne_of_gt (AU (g:=d) (o:=.cells #[.int .i64 x,.int .i64 y,.int .i64 z,.int .i64 A,.int .i64 B,.int .i64 D,.string E] 32 (0,0)) (Bp l.o)):a≠d));replace i:=a_ (Kd.BE (Kd.CY (FD i.o) a (Nat.le_of_eq hg.symm)) u);replace c:=a_ (C3 c.o u);replace l:=a_ (C3 l.o u);replace HB:=a_ (BA (Ad) u);clear u r hg;have cp:=I.o;have cy:=K.o;have cq:=J.o;have cz:=G.o;obtain⟨bU,bV,bW,a3,a4,a5⟩:=DK c.o;have cr:=L.o;have cA:=M.o;obtain⟨bX,bY,bZ,b6,b7,b8,b9,a6,a7,a8,a9,ba,bb,bc⟩:=Dz l.o)|((with_reducible refine BN (f:=79) rfl ?_);refine BR 12 Tryd.func79 #[.slice n j.length q,.agg #[.int .i64 x,.int .i64 y,.int .i64 z,.int .i64 A,.int .i64 B,.int .i64 D,.string E]] ?_;(with_reducible refine(B_.calls k (λv=>((((T v∨w.heap.size≤v)∧v≠b)∧v≠d)∧v≠a)) _ _ j x y z A B D E Y X _ ?q' A3.o).mono ?_);(case q'=>exact i.o);rintro e cN ⟨an,rfl,aa,u⟩;refine⟨_,rfl,?_⟩;replace i:=a_ (Kd.BE (FD i.o) u);have Z:=a_ (Kd.Js (Kd.AH (Fc:=λv=>(T v∨w.heap.size≤v)∧v≠b∧v≠d∧v≠a) aa (λv W=>⟨Or.elim W (λP=>P.1.1.1) (λO=>(.inr (Nat.le_trans (Ab (Ad)) O))),Or.elim W (λP=>P.1.1.2) (λO=>(Kd.EB (g:=b) (o:=.cells #[.slice n j.length q,.int .i64 m,.bool false] 60 (0,0)) (Bp c.o) v O)),Or.elim W (λP=>P.1.2) (λO=>(Kd.EB (g:=d) (o:=.cells #[.int .i64 x,.int .i64 y,.int .i64 z,.int .i64 A,.int .i64 B,.int .i64 D,.string E] 32 (0,0)) (Bp l.o) v O)),Or.elim W (λP=>P.2) (λO=>(Kd.EB (g:=a) (o:=.cells #[.slice none 0 0,.int .i64 0,.bool false] 60 (0,0)) (Bp t.o) v O))⟩)) (Ab (Ad)));replace HB:=a_ (BA (Ad) u);replace c:=a_ (C3 c.o u);replace l:=a_ (C3 l.o u);replace t:=a_ (C3 t.o u);(try clear u aa);obtain⟨b_,ca,cb,bd,be,bf⟩:=DK c.o;obtain⟨cd,cf,cg,bg,bh,bj⟩:=DK t.o));refine bodyPost_ret (Dh rfl _ _ a 60 #[.slice n j.length q,.int .i64 m,.bool false] (0,0) _ rfl (NP t.o) Tryd.underlying60 rfl (by kernel_rfl)) rfl ?_;exact⟨_,C_,by(with_reducible repeat(first|apply Kd.V_alloc|apply Kd.BF|apply Kd.AR));exact Kd.AH (Kd.Bb (p:=⟨a,2,none⟩) (Kd.Bb (p:=⟨a,1,none⟩) (Kd.Bb (p:=⟨a,0,none⟩) (Kd.AH i.o (λv U=>(⟨U,U.2⟩:_∧v≠a))) (λ_ U=>U.2) (.slice n j.length q)) (λ_ U=>U.2) (.int .i64 m)) (λ_ U=>U.2) (.bool false)) (λ_ U=>U.1.1.1.1),Ad⟩
attribute [local go_sem high] MH
mutual
def Ap.j0:Nat->Int->List (AM)->Bool->Int->Int->List (Ba)->List (AM)->Int->Int->Option (Int×Int×(List (Ba))×(List (AM))×Int×Int×Bool)
 | 0,_,_,_,_,_,_,_,_,_=>none
 | k+1,j,l,i,b,a,c,d,e,g=>if i=true then(some (b,a,c,d,e,g,false))else(Ap.l0 k l (mx (wrap64 (a-j)) 0) b a c d e g b a c d e g)
def Ap.l0:Nat->List (AM)->Int->Int->Int->List (Ba)->List (AM)->Int->Int->Int->Int->List (Ba)->List (AM)->Int->Int->Option (Int×Int×(List (Ba))×(List (AM))×Int×Int×Bool)
 | 0,_,_,_,_,_,_,_,_,_,_,_,_,_,_=>none
 | k+1,q,p,b,c,d,e,g,i,j,l,m,a,n,o=>if p<(q.length:Int)then(if 0≤p then(if((Aa q p).f0)=b then(if(a.length:Int)=0 then(some (b,c,d,e,g,i,false))else(if 0<(a.length:Int)then(if(!(((Aa a 0).f0)==((Aa q p).f0)) || (!(((Aa a 0).f1)==((Aa q p).f1)) || ((!(((Aa a 0).f2.f0)==((Aa q p).f2.f0)) || (!(((Aa a 0).f2.f1)==((Aa q p).f2.f1)) || (!(((Aa a 0).f2.f2)==((Aa q p).f2.f2)) || (!(((Aa a 0).f2.f3)==((Aa q p).f2.f3)) || (!((((Aa a 0).f2.f4).toList)==(((Aa q p).f2.f4).toList))))))))))=true then(some (b,c,d,e,g,i,false))else(if 1≤(a.length:Int)then((Bz.f k m ((Aa q p).f2.f0) ((Aa q p).f2.f1) ((Aa q p).f2.f2) ((Aa q p).f2.f3) ((Aa q p).f2.f4)).bind λr=>(Ap.l0 k q (wrap64 (p+1)) b c d e g i j (wrap64 (l+1)) r (a.drop 1) (wrap64 (n+1)) o))else(none)))else(none)))else((Bz.f k m ((Aa q p).f2.f0) ((Aa q p).f2.f1) ((Aa q p).f2.f2) ((Aa q p).f2.f3) ((Aa q p).f2.f4)).bind λt=>(Ap.l0 k q (wrap64 (p+1)) b c d e g i j (wrap64 (l+1)) t a n o)))else(none))else(some (j,l,m,a,n,o,true))
end
def Ap.f(k:Nat)(b:Int)(a:Int)(e:List (Ba))(g:List (AM))(c:Int)(d:Int)(i:Int)(j:List (AM)):Option (Int×Int×(List (Ba))×(List (AM))×Int×Int×Bool):=if i>a then(Ap.j0 k i j true b a e g c d)else(Ap.j0 k i j (decide ((wrap64 (i+(j.length:Int)))>40)) b a e g c d)
def Ap.T7:Bool×List (List Nat×List Nat):=(true,[([],[]),([],[]),([0,1],[0,1]),([2],[2]),([3],[3]),([],[]),([5],[5]),([4,6],[4,6])])
def Ap.B7:List Nat:=[0,0,3,7,15,0,32,127]
theorem Ap.N5:ED .any (opsOf Tryd.f77 7)=Ap.T7:=by kernel_rfl
theorem Ap.K8:DU Ap.T7.2 Ap.B7=true:=by kernel_rfl
def Ap.T8:Bool×List (List Nat×List Nat):=(true,[([],[]),([0],[0]),([1],[1]),([2],[2]),([3],[3]),([4],[4]),([5,4],[4,5]),([6,4],[4,6]),([7,4],[4,7]),([4],[4]),([4],[4]),([9,10,4],[4,9,10]),([11,4],[4,11]),([8,12,4],[4,8,12]),([4,13],[4,13])])
def Ap.B8:List Nat:=[0,1,3,7,15,31,63,127,255,31,31,1567,3615,8191,16383]
theorem Ap.Pt:ED .any (opsOf Tryd.f77 8)=Ap.T8:=by kernel_rfl
theorem Ap.My:DU Ap.T8.2 Ap.B8=true:=by kernel_rfl
def Ap.QF:Bool×List (List Nat×List Nat):=(true,[([],[]),([0],[0]),([],[]),([],[]),([2,3],[2,3]),([4],[4]),([5],[5]),([1,6],[1,6]),([0,1,2,3,4,5,6,7],[]),([8,7,7,0,1,2,3,4,5,6,7],[7,8])])
def Ap.QI:List Nat:=[0,1,0,0,12,28,60,127,255,511]
theorem Ap.OC:ED .any (opsOf Tryd.f77 12)=Ap.QF:=by kernel_rfl
theorem Ap.Mw:DU Ap.QF.2 Ap.QI=true:=by kernel_rfl
end Go.Proofs.YtlhlpfnljglhoaaDoor.P
