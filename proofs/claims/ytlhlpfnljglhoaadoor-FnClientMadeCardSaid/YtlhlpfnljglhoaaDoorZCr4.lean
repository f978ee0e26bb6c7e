/- Joined by programs (wip/shake.py, wip/mini.py). -/
import Derived.Test.YtlhlpfnljglhoaaDoorZCr3
set_option linter.unusedVariables false
set_option linter.unusedSimpArgs false
set_option linter.unusedSectionVars false
set_option maxHeartbeats 8000000
set_option maxRecDepth 100000
open Go.Proofs.YtlhlpfnljglhoaaDoorW
namespace Go.Proofs.YtlhlpfnljglhoaaDoor.P
open Go.RowKit Go.Proofs.YtlhlpfnljglhoaaDoorW.PrintWords Go.Proofs.YtlhlpfnljglhoaaDoorW.Bb
attribute [local go_sem high] Ky
theorem Aq.calls(k:Nat)(E:Int)(X:Int)(aD:Nat->Prop)(al:Option Addr)(ao:Nat)(T:List (Ba))(aE:Nat->Prop)(an:Option Addr)(aq:Nat)(U:List (AQ))(ai:Int)(I:Int)(a1:Int)(A2:Option Addr)(c2:Nat)(Y:List (AQ))(r1:Int)(r2:Int)(r3:List (Ba))(r4:List (AQ))(r5:Int)(r6:Int)(r7:Bool)(w:World)(e1:Kd.V Dd 68 w w.heap.size (λL=>aD L) (.slice al T.length ao) T)(e2:Kd.V Ck 32 w w.heap.size (λL=>aE L) (.slice an U.length aq) U)(fx:Kd.C Ck w A2 Y.length Y)(fl:Y.length≤c2)(h:Aq.f k E X T U ai I a1 Y=some (r1,r2,r3,r4,r5,r6,r7)) :
  Calls Tryd.prog 77 #[.agg #[.int .i64 E,.int .i64 X,.slice al T.length ao,.slice an U.length aq,.int .i64 ai,.int .i64 I],.int .i64 a1,.slice A2 Y.length c2] w λe w'=>∃fy fz:Value,e=.returned (.tuple #[.agg #[.int .i64 r1,.int .i64 r2,fy,fz,.int .i64 r5,.int .i64 r6],.bool r7])∧Kd.V Dd 68 w' w.heap.size (λL=>((aD L∨aE L)∨w.heap.size≤L)) fy r3∧Kd.V Ck 32 w' w.heap.size (λL=>((aD L∨aE L)∨w.heap.size≤L)) fz r4∧Below w.heap.size w w':=by
 have jk:=RP;have jm:=Sk;have jl:=RW;have bq:=a_ (show Kd.V Dd 68 w w.heap.size (λL=>((aD L∨aE L)∨w.heap.size≤L)) (.slice al T.length ao) T from Kd.AD e1 (λL l=>.inl (.inl l)));have br:=a_ (show Kd.V Ck 32 w w.heap.size (λL=>((aD L∨aE L)∨w.heap.size≤L)) (.slice an U.length aq) U from Kd.AD e2 (λL l=>.inl (.inr l)));have bV:=a_ fx;have jr:=a_ fl;clear fx fl;have HB:=a_ (RG w.heap.size w);unfold Aq.f at h;have H:=h;clear h;have dF:=a_ H;clear H;go_enter Tryd.func77,Tryd.ntmps77;go_upto_region 1 with(first|((with_reducible refine BV (N:=3) rfl ?_);refine Cy 3 (#[.int .i64 E,.int .i64 X,.slice al T.length ao,.slice an U.length aq,.int .i64 ai,.int .i64 I]) 26 ?_;intro D hg w5 bA hb;have x:=a_ (bA);have fG:=BD w hg;have fD:=BD w hg;replace bq:=a_ (Kd.Bh (Kd.CO (Dj bq.o) D (Sd hg.symm)) hb);replace br:=a_ (Kd.Bh (Kd.CO (Dj br.o) D (Sd hg.symm)) hb);replace HB:=Bw hb;clear hb bA hg)|((with_reducible refine BV (N:=6) rfl ?_);refine Cy 6 (#[.int .i64 0,.int .i64 0,.slice none 0 0,.slice none 0 0,.int .i64 0,.int .i64 0]) 26 ?_;intro y hg w6 bA hb;have B:=a_ (bA);have fH:=BD w hg;have fE:=BD w hg;have aF:=a_ ((by rw[hg];exact RN (Av (g:=D) (o:=.cells #[.int .i64 E,.int .i64 X,.slice al T.length ao,.slice an U.length aq,.int .i64 ai,.int .i64 I] 26 (0,0)) (Bc x.o)):D≠y));have aG:=a_ ((by rw[hg];exact RM (Av (g:=D) (o:=.cells #[.int .i64 E,.int .i64 X,.slice al T.length ao,.slice an U.length aq,.int .i64 ai,.int .i64 I] 26 (0,0)) (Bc x.o)):y≠D));replace bq:=a_ (Kd.Bh (Kd.CO (Dj bq.o) y (Sd hg.symm)) hb);replace br:=a_ (Kd.Bh (Kd.CO (Dj br.o) y (Sd hg.symm)) hb);replace x:=a_ (Cr x.o hb);replace HB:=Bw hb;clear hb bA hg))
 (try simp only[Act.put,List.setIfInBounds_toArray,List.set_cons_zero,List.set_cons_succ]);go_cut [20] (λv20 wc=>∃(kq:Nat) (bU:Bool),v20=.bool bU∧Ac (Aq.j0 kq a1 Y bU E X T U ai I=some (r1,r2,r3,r4,r5,r6,r7))∧Ac (kq≤k)∧Ac (Kd.V Dd 68 wc w.heap.size (λL=>((aD L∨aE L)∨w.heap.size≤L)∧L≠D∧L≠y) (.slice al T.length ao) T)∧Ac (Kd.V Ck 32 wc w.heap.size (λL=>((aD L∨aE L)∨w.heap.size≤L)∧L≠D∧L≠y) (.slice an U.length aq) U)∧Ac (wc.heap[D]?=some (.cells #[.int .i64 E,.int .i64 X,(.slice al T.length ao),(.slice an U.length aq),.int .i64 ai,.int .i64 I] 26 (0,0)))∧Ac (wc.heap[y]?=some (.cells #[.int .i64 0,.int .i64 0,(.slice none 0 0),(.slice none 0 0),.int .i64 0,.int .i64 0] 26 (0,0)))∧Ac (Below w.heap.size w wc))
 case first =>
  have H:=dF.o;clear dF;by_cases c7:a1>X
  ·rw[Ry c7]at H;have bC:decide (X<a1)=true:=BM c7;clear c7;(first|rw[bC]|(simp only[BJ,BP];rw[bC])|skip);have H':=a_ H;clear H;have jg:=aF.o;have jh:=aG.o;obtain⟨dp,dq,dr,du,dv,dw,dh,di,dj,dk,dm,dn⟩:=BT x.o;go_wp2;go_meet
   exact⟨_,(true),(CA),H',⟨by first|omega|exact RB _⟩,⟨by refine Dj ?_;exact Kd.AD bq.o (λ_ l=>⟨l.1.1,⟨l.1.2,l.2⟩⟩)⟩,⟨by refine Dj ?_;exact Kd.AD br.o (λ_ l=>⟨l.1.1,⟨l.1.2,l.2⟩⟩)⟩,⟨Bc x.o⟩,⟨Bc B.o⟩,⟨Ag⟩⟩
  rw[Rz c7]at H;have bC:decide (X<a1)=false:=C9 c7;clear c7;(first|rw[bC]|(simp only[BJ,BP];rw[bC])|skip);have H':=a_ H;clear H;have ig:=aF.o;have iE:=aG.o;obtain⟨cI,cJ,cK,cL,cM,cN,cC,cD,cE,cF,cG,cH⟩:=BT x.o;go_wp2;go_meet
  exact⟨_,(decide ((wrap64 (a1+(Y.length:Int)))>40)),(CA),H',⟨by first|omega|exact RB _⟩,⟨by refine Dj ?_;exact Kd.AD bq.o (λ_ l=>⟨l.1.1,⟨l.1.2,l.2⟩⟩)⟩,⟨by refine Dj ?_;exact Kd.AD br.o (λ_ l=>⟨l.1.1,⟨l.1.2,l.2⟩⟩)⟩,⟨Bc x.o⟩,⟨Bc B.o⟩,⟨Ag⟩⟩
 clear dF;try clear c1
 try clear c2
 try clear c7
 try clear bC
 try clear cI cJ cK cL cM cN cC cD cE cF cG cH
 try clear dp dq dr du dv dw dh di dj dk dm dn
 obtain⟨kq,bU,rfl,HA,c_,r,t,x,B,HB⟩:=hcut;cases kq with
 | zero=>exact absurd HA.o (by simp[Aq.j0])
 | succ de =>
  have H:=HA.o
  clear HA
  simp only[Aq.j0]at H
  by_cases cO:bU=true
  ·subst cO
   have H1:(some (E,X,T,U,ai,I,false))=some (r1,r2,r3,r4,r5,r6,r7):=by rw[Ry rfl]at H;exact H
   clear H
   have H:=H1
   clear H1
   simp only[Option.some.injEq,Prod.mk.injEq]at H
   obtain⟨rfl,rfl,rfl,rfl,rfl,rfl,rfl⟩:=H
   have ih:=aF.o
   have iF:=aG.o
   obtain⟨ek,en,eo,ep,er,et,dG,dH,dI,dJ,dK,dL⟩:=BT (W:=wc) x.o
   obtain⟨eu,ev,ew,ey,ez,eA,dM,dN,dO,dP,dQ,dR⟩:=BT (W:=wc) B.o
   go_wp2
   refine RH (CJ rfl _ _ y 26 #[.int .i64 E,.int .i64 X,.slice al T.length ao,.slice an U.length aq,.int .i64 ai,.int .i64 I] (0,0) _ rfl (F4 B.o) RP rfl (by kernel_rfl)) rfl ?_
   exact⟨_,_,C8,by refine Dj ?_;exact Kd.AD (Kd.AA (p:=⟨y,5,none⟩) (Kd.AA (p:=⟨y,4,none⟩) (Kd.AA (p:=⟨y,3,none⟩) (Kd.AA (p:=⟨y,2,none⟩) (Kd.AA (p:=⟨y,1,none⟩) (Kd.AA (p:=⟨y,0,none⟩) (Kd.AD r.o (λL l=>(⟨l,l.2.2⟩:_∧L≠y))) (λ_ l=>l.2) (.int .i64 E)) (λ_ l=>l.2) (.int .i64 X)) (λ_ l=>l.2) (.slice al T.length ao)) (λ_ l=>l.2) (.slice an U.length aq)) (λ_ l=>l.2) (.int .i64 ai)) (λ_ l=>l.2) (.int .i64 I)) (λ_ l=>l.1.1),by refine Dj ?_;exact Kd.AD (Kd.AA (p:=⟨y,5,none⟩) (Kd.AA (p:=⟨y,4,none⟩) (Kd.AA (p:=⟨y,3,none⟩) (Kd.AA (p:=⟨y,2,none⟩) (Kd.AA (p:=⟨y,1,none⟩) (Kd.AA (p:=⟨y,0,none⟩) (Kd.AD t.o (λL l=>(⟨l,l.2.2⟩:_∧L≠y))) (λ_ l=>l.2) (.int .i64 E)) (λ_ l=>l.2) (.int .i64 X)) (λ_ l=>l.2) (.slice al T.length ao)) (λ_ l=>l.2) (.slice an U.length aq)) (λ_ l=>l.2) (.int .i64 ai)) (λ_ l=>l.2) (.int .i64 I)) (λ_ l=>l.1.1),Ag⟩
  ·replace cO:=RE.mpr cO
   subst cO
   have H1:(Aq.l0 de Y (mx (wrap64 (X-a1)) 0) E X T U ai I E X T U ai I)=some (r1,r2,r3,r4,r5,r6,r7):=by rw[Rz (show¬ (false=true) by decide)]at H;exact H
   clear H
   have H:=H1
   clear H1
   obtain⟨cW,a8⟩:∃j_:Int,(mx (wrap64 (X-a1)) 0)=j_:=⟨_,rfl⟩
   replace H:(Aq.l0 de Y cW E X T U ai I E X T U ai I)=some (r1,r2,r3,r4,r5,r6,r7):=by first|(rw[a8]at H;exact H)|(simp only[a8]at H⊢;exact H)
   have fA:(if(wrap64 (X-a1))<0 then 0 else(wrap64 (X-a1)))=cW:=a8
   have H':=a_ H
   clear H
   have ij:=aF.o
   have iG:=aG.o
   obtain⟨eB,eC,eD,eE,eF,eG,dS,dT,dU,dV,dW,dX⟩:=BT (W:=wc) x.o
   go_wp2_with(first|((with_reducible refine BV (N:=8) rfl ?_);refine Cy 8 (#[.int .i64 0,.int .i64 0,.slice none 0 0,.slice none 0 0,.int .i64 0,.int .i64 0]) 26 ?_;intro d hg js bA hb;have q:=a_ (bA);have fI:=BD w hg;have fF:=BD w hg;have aj:=a_ ((by rw[hg];exact RN (Av (g:=D) (o:=.cells #[.int .i64 E,.int .i64 X,.slice al T.length ao,.slice an U.length aq,.int .i64 ai,.int .i64 I] 26 (0,0)) (Bc x.o)):D≠d));have au:=a_ ((by rw[hg];exact RM (Av (g:=D) (o:=.cells #[.int .i64 E,.int .i64 X,.slice al T.length ao,.slice an U.length aq,.int .i64 ai,.int .i64 I] 26 (0,0)) (Bc x.o)):d≠D));have ak:=a_ ((by rw[hg];exact RN (Av (g:=y) (o:=.cells #[.int .i64 0,.int .i64 0,.slice none 0 0,.slice none 0 0,.int .i64 0,.int .i64 0] 26 (0,0)) (Bc B.o)):y≠d));have av:=a_ ((by rw[hg];exact RM (Av (g:=y) (o:=.cells #[.int .i64 0,.int .i64 0,.slice none 0 0,.slice none 0 0,.int .i64 0,.int .i64 0] 26 (0,0)) (Bc B.o)):d≠y));replace r:=a_ (Kd.Bh (Kd.CO (Dj r.o) d (Sd hg.symm)) hb);replace t:=a_ (Kd.Bh (Kd.CO (Dj t.o) d (Sd hg.symm)) hb);replace x:=a_ (Cr x.o hb);replace B:=a_ (Cr B.o hb);replace HB:=Bw hb;clear hb bA hg;have ik:=au.o;have iH:=aj.o;have il:=av.o;have iI:=ak.o;obtain⟨eH,eI,eJ,eK,eL,eM,dY,dZ,d_,ea,ec,ed⟩:=BT q.o;obtain⟨eN,eO,eP,eQ,eR,eS,ee,ef,eg,eh,ei,ej⟩:=BT x.o))
   go_loopg [9] de (λkq v9 w'=>∃(a:Int) (aZ:Int) (a0:Int) (a2:Int) (a3:Int) (A:Int) (J:List (Ba)) (b:List (AQ)) (z:Int) (u504002:Value) (u504003:Value),v9=.int .i64 a∧Ac (Aq.l0 kq Y a E X T U ai I E A J b z I=some (r1,r2,r3,r4,r5,r6,r7))∧Ac (kq≤de)∧Ac (Kd.V Dd 68 w' w.heap.size (λL=>((aD L∨aE L)∨w.heap.size≤L)∧L≠D∧L≠y∧L≠d) (.slice al T.length ao) T)∧Ac (Kd.V Ck 32 w' w.heap.size (λL=>((aD L∨aE L)∨w.heap.size≤L)∧L≠D∧L≠y∧L≠d) (.slice an U.length aq) U)∧Ac (Kd.V Dd 68 w' w.heap.size (λL=>((aD L∨aE L)∨w.heap.size≤L)∧L≠D∧L≠y∧L≠d) u504002 J)∧Ac (Kd.V Ck 32 w' w.heap.size (λL=>((aD L∨aE L)∨w.heap.size≤L)∧L≠D∧L≠y∧L≠d) u504003 b)∧Ac (w'.heap[D]?=some (.cells #[.int .i64 E,.int .i64 X,(.slice al T.length ao),(.slice an U.length aq),.int .i64 ai,.int .i64 I] 26 (0,0)))∧Ac (w'.heap[y]?=some (.cells #[.int .i64 aZ,.int .i64 a0,(.slice none 0 0),(.slice none 0 0),.int .i64 a2,.int .i64 a3] 26 (0,0)))∧Ac (w'.heap[d]?=some (.cells #[.int .i64 E,.int .i64 A,u504002,u504003,.int .i64 z,.int .i64 I] 26 (0,0)))∧Ac (Below w.heap.size w w'))
   case atStart=>exact⟨(cW),(0),(0),(0),(0),(X),(T),(U),(ai),(.slice al T.length ao),(.slice an U.length aq),(by first|rfl|(simp;done)|(simp only[<-a8] <;> (first|rfl|simp))|(simp[*];done)),H',⟨RB _⟩,⟨by refine Dj ?_;exact Kd.AD (Kd.AA (p:=⟨d,5,none⟩) (Kd.AA (p:=⟨d,4,none⟩) (Kd.AA (p:=⟨d,3,none⟩) (Kd.AA (p:=⟨d,2,none⟩) (Kd.AA (p:=⟨d,1,none⟩) (Kd.AA (p:=⟨d,0,none⟩) (Kd.AD r.o (λL l=>(⟨l,l.2⟩:_∧L≠d))) (λ_ l=>l.2) (.int .i64 E)) (λ_ l=>l.2) (.int .i64 X)) (λ_ l=>l.2) (.slice al T.length ao)) (λ_ l=>l.2) (.slice an U.length aq)) (λ_ l=>l.2) (.int .i64 ai)) (λ_ l=>l.2) (.int .i64 I)) (λ_ l=>⟨l.1.1.1,⟨l.1.1.2.1,⟨l.1.1.2.2,l.1.2⟩⟩⟩)⟩,⟨by refine Dj ?_;exact Kd.AD (Kd.AA (p:=⟨d,5,none⟩) (Kd.AA (p:=⟨d,4,none⟩) (Kd.AA (p:=⟨d,3,none⟩) (Kd.AA (p:=⟨d,2,none⟩) (Kd.AA (p:=⟨d,1,none⟩) (Kd.AA (p:=⟨d,0,none⟩) (Kd.AD t.o (λL l=>(⟨l,l.2⟩:_∧L≠d))) (λ_ l=>l.2) (.int .i64 E)) (λ_ l=>l.2) (.int .i64 X)) (λ_ l=>l.2) (.slice al T.length ao)) (λ_ l=>l.2) (.slice an U.length aq)) (λ_ l=>l.2) (.int .i64 ai)) (λ_ l=>l.2) (.int .i64 I)) (λ_ l=>⟨l.1.1.1,⟨l.1.1.2.1,⟨l.1.1.2.2,l.1.2⟩⟩⟩)⟩,⟨by refine Dj ?_;exact Kd.AD (Kd.AA (p:=⟨d,5,none⟩) (Kd.AA (p:=⟨d,4,none⟩) (Kd.AA (p:=⟨d,3,none⟩) (Kd.AA (p:=⟨d,2,none⟩) (Kd.AA (p:=⟨d,1,none⟩) (Kd.AA (p:=⟨d,0,none⟩) (Kd.AD r.o (λL l=>(⟨l,l.2⟩:_∧L≠d))) (λ_ l=>l.2) (.int .i64 E)) (λ_ l=>l.2) (.int .i64 X)) (λ_ l=>l.2) (.slice al T.length ao)) (λ_ l=>l.2) (.slice an U.length aq)) (λ_ l=>l.2) (.int .i64 ai)) (λ_ l=>l.2) (.int .i64 I)) (λ_ l=>⟨l.1.1.1,⟨l.1.1.2.1,⟨l.1.1.2.2,l.1.2⟩⟩⟩)⟩,⟨by refine Dj ?_;exact Kd.AD (Kd.AA (p:=⟨d,5,none⟩) (Kd.AA (p:=⟨d,4,none⟩) (Kd.AA (p:=⟨d,3,none⟩) (Kd.AA (p:=⟨d,2,none⟩) (Kd.AA (p:=⟨d,1,none⟩) (Kd.AA (p:=⟨d,0,none⟩) (Kd.AD t.o (λL l=>(⟨l,l.2⟩:_∧L≠d))) (λ_ l=>l.2) (.int .i64 E)) (λ_ l=>l.2) (.int .i64 X)) (λ_ l=>l.2) (.slice al T.length ao)) (λ_ l=>l.2) (.slice an U.length aq)) (λ_ l=>l.2) (.int .i64 ai)) (λ_ l=>l.2) (.int .i64 I)) (λ_ l=>⟨l.1.1.1,⟨l.1.1.2.1,⟨l.1.1.2.2,l.1.2⟩⟩⟩)⟩,⟨CZ aj.o x.o⟩,⟨CZ ak.o B.o⟩,⟨F4 q.o⟩,⟨Ag⟩⟩
   case round =>
    clear H'
    try clear c1
    try clear c2
    try clear c7
    try clear bC
    try clear cO
    try clear cI cJ cK cL cM cN cC cD cE cF cG cH
    try clear ek en eo ep er et dG dH dI dJ dK dL
    try clear eu ev ew ey ez eA dM dN dO dP dQ dR
    try clear eB eC eD eE eF eG dS dT dU dV dW dX
    try clear eH eI eJ eK eL eM dY dZ d_ ea ec ed
    try clear eN eO eP eQ eR eS ee ef eg eh ei ej
    try clear dp dq dr du dv dw dh di dj dk dm dn
    obtain⟨a,aZ,a0,a2,a3,A,J,b,z,u504002,u504003,rfl,HA,da,r,t,v,u,x,B,q,HB⟩:=hrel
    cases gk with
    | zero=>exact absurd HA.o (by simp[Aq.l0])
    | succ k2 =>
     have H:=HA.o
     clear HA
     simp only[Aq.l0]at H
     by_cases cv:a<(Y.length:Int)
     ·rw[Ry cv]at H
      have eV:decide (a<(Y.length:Int))=true:=BM cv
      clear cv
      by_cases db:0≤a
      ·rw[Ry db]at H
       have h6:decide (0≤a)=true:=BM db
       clear db
       by_cases cn:((Aa Y a).f0)=E
       ·rw[Ry cn]at H
        have eW:(((Aa Y a).f0)==E)=true:=RO.mpr cn
        have eX:(((Aa Y a).f0) != E)=false:=Fc cn
        clear cn
        by_cases bW:(b.length:Int)=0
        ·rw[Ry bW]at H
         have eY:((b.length:Int)==0)=true:=RO.mpr bW
         have eZ:((b.length:Int) != 0)=false:=Fc bW
         clear bW
         simp only[Option.some.injEq,Prod.mk.injEq]at H
         obtain⟨rfl,rfl,rfl,rfl,rfl,rfl,rfl⟩:=H
         try go_wp2
         replace r:=a_ (Kd.BO r.o)
         replace t:=a_ (Kd.BO t.o)
         replace v:=a_ (Kd.BO v.o)
         replace u:=a_ (Kd.BO u.o)
         replace x:=a_ (Du x.o)
         replace B:=a_ (Du B.o)
         replace q:=a_ (Du q.o)
         replace HB:=a_ (Ay HB.o)
         have aX:0≤(a:Int):=Bv
         have aY:a<(Y.length:Int):=Bv
         obtain⟨j,bD,Z,aa,ab,ae,af,ag,ah⟩:=CQ bV.o a aX aY
         have aW:=ah
         have aV:=ag
         have aU:=af
         have aT:=ae
         have aS:=ab
         have aR:=aa
         have aQ:=Z
         cases bD
         replace Z:=(Az HB.o Z:)
         replace aa:=(Az HB.o aa:)
         replace ab:=(Az HB.o ab:)
         replace ae:=(Az HB.o ae:)
         replace af:=(Az HB.o af:)
         replace ag:=(Az HB.o ag:)
         replace ah:=(Az HB.o ah:)
         replace aX:=RA aX
         replace aY:=RA aY
         refine Cl (n:=8) (S:=λw'=>w'.cell? ⟨D,0,none⟩=some (.int .i64 E)∧w'.cell? ⟨D,1,none⟩=some (.int .i64 X)∧w'.cell? ⟨D,2,none⟩=some (.slice al T.length ao)∧w'.cell? ⟨D,3,none⟩=some (.slice an U.length aq)∧w'.cell? ⟨D,4,none⟩=some (.int .i64 ai)∧w'.cell? ⟨D,5,none⟩=some (.int .i64 I)∧w'.cell? (j.add ((a).toNat*7))=some (.int .i64 ((Aa Y a).f0))∧w'.cell? ⟨(j.add ((a).toNat*7)).block,(j.add ((a).toNat*7)).off+1,none⟩=some (.int .i64 ((Aa Y a).f1))∧w'.cell? ⟨(j.add ((a).toNat*7)).block,(j.add ((a).toNat*7)).off+2,none⟩=some (.int .i64 ((Aa Y a).f2.f0))∧w'.cell? ⟨(j.add ((a).toNat*7)).block,(j.add ((a).toNat*7)).off+3,none⟩=some (.int .i64 ((Aa Y a).f2.f1))∧w'.cell? ⟨(j.add ((a).toNat*7)).block,(j.add ((a).toNat*7)).off+4,none⟩=some (.int .i64 ((Aa Y a).f2.f2))∧w'.cell? ⟨(j.add ((a).toNat*7)).block,(j.add ((a).toNat*7)).off+5,none⟩=some (.int .i64 ((Aa Y a).f2.f3))∧w'.cell? ⟨(j.add ((a).toNat*7)).block,(j.add ((a).toNat*7)).off+6,none⟩=some (.string ((Aa Y a).f2.f4))) (ds:=[]) #[false,false,false,false,false,false,false,false] (by kernel_rfl) rfl rfl ⟨(Ax x.o 0).trans rfl,(Ax x.o 1).trans rfl,(Ax x.o 2).trans rfl,(Ax x.o 3).trans rfl,(Ax x.o 4).trans rfl,(Ax x.o 5).trans rfl,((Az HB.o aQ:)),((Az HB.o aR:)),((Az HB.o aS:)),((Az HB.o aT:)),((Az HB.o aU:)),((Az HB.o aV:)),((Az HB.o aW:))⟩ (λG=>?_);refine B1 Aq.OD Aq.LA (λHT_ HW_=>?_)
         generalize wr.drew=iW at r t v u x B q HB Z aa ab ae af ag ah G⊢
         refine Bf 0 34 ?_
         refine Bf 1 35 ?_
         refine Bf 2 36 ?_
         refine Bf 3 37 ?_
         refine Bf 5 39 ?_
         refine Fg 4 38 G ?_
         refine Fg 6 40 G ?_
         refine Bf 7 41 ?_
         refine CV (CT HT_.o (by kernel_rfl)) ?_
         try go_wp2
         replace r:=a_ (Kd.BO r.o)
         replace t:=a_ (Kd.BO t.o)
         replace v:=a_ (Kd.BO v.o)
         replace u:=a_ (Kd.BO u.o)
         replace x:=a_ (Du x.o)
         replace B:=a_ (Du B.o)
         replace q:=a_ (Du q.o)
         replace HB:=a_ (Ay HB.o)
         obtain⟨fc,fe,dx⟩:=Kd.Cd u.o
         (first|subst dx|(injection dx with a4 bu a5;have bw:=a4.symm;have bx:=a5.symm;clear a4 bu a5;subst bw;subst bx))
         refine Cl (n:=15) (S:=λw'=>w'.cell? ⟨d,0,none⟩=some (.int .i64 E)∧w'.cell? ⟨d,1,none⟩=some (.int .i64 A)∧w'.cell? ⟨d,2,none⟩=some (u504002)∧w'.cell? ⟨d,3,none⟩=some (.slice fc b.length fe)∧w'.cell? ⟨d,4,none⟩=some (.int .i64 z)∧w'.cell? ⟨d,5,none⟩=some (.int .i64 I)) (ds:=[]) #[false,false,false,false,false,false,false,false,false,false,false,false,false,false,false] (by kernel_rfl) rfl rfl ⟨(Ax q.o 0).trans rfl,(Ax q.o 1).trans rfl,(Ax q.o 2).trans rfl,(Ax q.o 3).trans rfl,(Ax q.o 4).trans rfl,(Ax q.o 5).trans rfl⟩ (λG=>?_);refine B1 Aq.P3 Aq.MY (λHT_ HW_=>?_)
         generalize iW.drew=jt at r t v u x B q HB G⊢
         refine Bf 0 42 ?_
         refine NI 1 43 G ?_
         refine Bf 2 44 ?_
         refine Bf 3 45 ?_
         refine Bf 4 46 ?_
         refine DD 5 47 ?_
         refine DD 6 48 ?_
         refine DD 7 49 ?_
         refine DD 8 50 ?_
         refine DD 9 51 ?_
         refine DD 10 52 ?_
         refine DD 11 53 ?_
         refine DD 12 54 ?_
         refine DD 13 55 ?_
         refine Bf 14 56 ?_
         refine CV (CT HT_.o (by kernel_rfl)) ?_
         have im:=aF.o
         have iJ:=aG.o
         have iq:=aj.o
         have iK:=au.o
         obtain⟨gS,gT,gU,gV,gW,gX,fK,fL,fM,fN,fO,fP⟩:=BT x.o
         have ir:=ak.o
         have iL:=av.o
         obtain⟨gY,gZ,g0,g1,g2,g3,fQ,fR,fS,fT,fU,fV⟩:=BT B.o
         try go_wp2
         refine RH (CJ rfl _ _ y 26 #[.int .i64 E,.int .i64 X,.slice al T.length ao,.slice an U.length aq,.int .i64 ai,.int .i64 I] (0,0) _ rfl (F4 B.o) RP rfl (by kernel_rfl)) rfl ?_
         exact⟨_,_,by first|rfl|(simp[Cp,Cq] <;> rfl)|(simp only[<-a8];first|rfl|(simp[Cp,Cq] <;> rfl))|(simp[*,Cp,Cq] <;> rfl),by refine Dj ?_;exact Kd.AD (Kd.AA (p:=⟨y,5,none⟩) (Kd.AA (p:=⟨y,4,none⟩) (Kd.AA (p:=⟨y,3,none⟩) (Kd.AA (p:=⟨y,2,none⟩) (Kd.AA (p:=⟨y,1,none⟩) (Kd.AA (p:=⟨y,0,none⟩) (Kd.AD r.o (λL l=>(⟨l,l.2.2.1⟩:_∧L≠y))) (λ_ l=>l.2) (.int .i64 E)) (λ_ l=>l.2) (.int .i64 X)) (λ_ l=>l.2) (.slice al T.length ao)) (λ_ l=>l.2) (.slice an U.length aq)) (λ_ l=>l.2) (.int .i64 ai)) (λ_ l=>l.2) (.int .i64 I)) (λ_ l=>l.1.1),by refine Dj ?_;exact Kd.AD (Kd.AA (p:=⟨y,5,none⟩) (Kd.AA (p:=⟨y,4,none⟩) (Kd.AA (p:=⟨y,3,none⟩) (Kd.AA (p:=⟨y,2,none⟩) (Kd.AA (p:=⟨y,1,none⟩) (Kd.AA (p:=⟨y,0,none⟩) (Kd.AD t.o (λL l=>(⟨l,l.2.2.1⟩:_∧L≠y))) (λ_ l=>l.2) (.int .i64 E)) (λ_ l=>l.2) (.int .i64 X)) (λ_ l=>l.2) (.slice al T.length ao)) (λ_ l=>l.2) (.slice an U.length aq)) (λ_ l=>l.2) (.int .i64 ai)) (λ_ l=>l.2) (.int .i64 I)) (λ_ l=>l.1.1),Ag⟩
        ·rw[Rz bW]at H
         have eY:((b.length:Int)==0)=false:=Dr bW
         have eZ:((b.length:Int) != 0)=true:=RX.mpr bW
         have h7:¬ (b=[]):=λh_=>bW (by rw[h_];rfl)
         by_cases dc:0<(b.length:Int)
         ·rw[Ry dc]at H
          have h8:decide (0<(b.length:Int))=true:=BM dc
          have h9:decide (0<b.length)=true:=BM (by omega)
          clear dc
          by_cases cw:(!(((Aa b 0).f0)==((Aa Y a).f0)) || (!(((Aa b 0).f1)==((Aa Y a).f1)) || ((!(((Aa b 0).f2.f0)==((Aa Y a).f2.f0)) || (!(((Aa b 0).f2.f1)==((Aa Y a).f2.f1)) || (!(((Aa b 0).f2.f2)==((Aa Y a).f2.f2)) || (!(((Aa b 0).f2.f3)==((Aa Y a).f2.f3)) || (!((((Aa b 0).f2.f4).toList)==(((Aa Y a).f2.f4).toList))))))))))=true
          ·rw[Ry cw]at H
           have e0:(!(((Aa b 0).f0)==((Aa Y a).f0)) || (!(((Aa b 0).f1)==((Aa Y a).f1)) || ((!(((Aa b 0).f2.f0)==((Aa Y a).f2.f0)) || (!(((Aa b 0).f2.f1)==((Aa Y a).f2.f1)) || (!(((Aa b 0).f2.f2)==((Aa Y a).f2.f2)) || (!(((Aa b 0).f2.f3)==((Aa Y a).f2.f3)) || (!((((Aa b 0).f2.f4).toList)==(((Aa Y a).f2.f4).toList))))))))))=true:=cw
           clear cw
           simp only[Option.some.injEq,Prod.mk.injEq]at H
           obtain⟨rfl,rfl,rfl,rfl,rfl,rfl,rfl⟩:=H
           try go_wp2
           replace r:=a_ (Kd.BO r.o)
           replace t:=a_ (Kd.BO t.o)
           replace v:=a_ (Kd.BO v.o)
           replace u:=a_ (Kd.BO u.o)
           replace x:=a_ (Du x.o)
           replace B:=a_ (Du B.o)
           replace q:=a_ (Du q.o)
           replace HB:=a_ (Ay HB.o)
           have aX:0≤(a:Int):=Bv
           have aY:a<(Y.length:Int):=Bv
           obtain⟨j,bD,Z,aa,ab,ae,af,ag,ah⟩:=CQ bV.o a aX aY
           have aW:=ah
           have aV:=ag
           have aU:=af
           have aT:=ae
           have aS:=ab
           have aR:=aa
           have aQ:=Z
           cases bD
           replace Z:=(Az HB.o Z:)
           replace aa:=(Az HB.o aa:)
           replace ab:=(Az HB.o ab:)
           replace ae:=(Az HB.o ae:)
           replace af:=(Az HB.o af:)
           replace ag:=(Az HB.o ag:)
           replace ah:=(Az HB.o ah:)
           replace aX:=RA aX
           replace aY:=RA aY
           refine Cl (n:=8) (S:=λw'=>w'.cell? ⟨D,0,none⟩=some (.int .i64 E)∧w'.cell? ⟨D,1,none⟩=some (.int .i64 X)∧w'.cell? ⟨D,2,none⟩=some (.slice al T.length ao)∧w'.cell? ⟨D,3,none⟩=some (.slice an U.length aq)∧w'.cell? ⟨D,4,none⟩=some (.int .i64 ai)∧w'.cell? ⟨D,5,none⟩=some (.int .i64 I)∧w'.cell? (j.add ((a).toNat*7))=some (.int .i64 ((Aa Y a).f0))∧w'.cell? ⟨(j.add ((a).toNat*7)).block,(j.add ((a).toNat*7)).off+1,none⟩=some (.int .i64 ((Aa Y a).f1))∧w'.cell? ⟨(j.add ((a).toNat*7)).block,(j.add ((a).toNat*7)).off+2,none⟩=some (.int .i64 ((Aa Y a).f2.f0))∧w'.cell? ⟨(j.add ((a).toNat*7)).block,(j.add ((a).toNat*7)).off+3,none⟩=some (.int .i64 ((Aa Y a).f2.f1))∧w'.cell? ⟨(j.add ((a).toNat*7)).block,(j.add ((a).toNat*7)).off+4,none⟩=some (.int .i64 ((Aa Y a).f2.f2))∧w'.cell? ⟨(j.add ((a).toNat*7)).block,(j.add ((a).toNat*7)).off+5,none⟩=some (.int .i64 ((Aa Y a).f2.f3))∧w'.cell? ⟨(j.add ((a).toNat*7)).block,(j.add ((a).toNat*7)).off+6,none⟩=some (.string ((Aa Y a).f2.f4))) (ds:=[]) #[false,false,false,false,false,false,false,false] (by kernel_rfl) rfl rfl ⟨(Ax x.o 0).trans rfl,(Ax x.o 1).trans rfl,(Ax x.o 2).trans rfl,(Ax x.o 3).trans rfl,(Ax x.o 4).trans rfl,(Ax x.o 5).trans rfl,((Az HB.o aQ:)),((Az HB.o aR:)),((Az HB.o aS:)),((Az HB.o aT:)),((Az HB.o aU:)),((Az HB.o aV:)),((Az HB.o aW:))⟩ (λG=>?_);refine B1 Aq.OD Aq.LA (λHT_ HW_=>?_)
           generalize wr.drew=iX at r t v u x B q HB Z aa ab ae af ag ah G⊢
           refine Bf 0 34 ?_
           refine Bf 1 35 ?_
           refine Bf 2 36 ?_
           refine Bf 3 37 ?_
           refine Bf 5 39 ?_
           refine Fg 4 38 G ?_
           refine Fg 6 40 G ?_
           refine Bf 7 41 ?_
           refine CV (CT HT_.o (by kernel_rfl)) ?_
           try go_wp2
           replace r:=a_ (Kd.BO r.o)
           replace t:=a_ (Kd.BO t.o)
           replace v:=a_ (Kd.BO v.o)
           replace u:=a_ (Kd.BO u.o)
           replace x:=a_ (Du x.o)
           replace B:=a_ (Du B.o)
           replace q:=a_ (Du q.o)
           replace HB:=a_ (Ay HB.o)
           obtain⟨jc,fg,dy⟩:=Kd.Cd u.o
           (first|subst dy|(injection dy with a4 bu a5;have bw:=a4.symm;have bx:=a5.symm;clear a4 bu a5;subst bw;subst bx))
           have bL:0≤(0:Int):=(by omega)
           have bN:0<(b.length:Int):=Bv
           obtain⟨O,cS,aw,ax,ay,az,aA,aB,aC⟩:=CQ (Kd.AY u.o).2.2 0 bL bN
           cases cS
           have fb:(0<b.length)=True:=RA (by omega)
           (try rw[show((0:Int)).toNat=0 from rfl]at aw)
           (try rw[show 0*7=0 from rfl]at aw)
           (try rw[Sa]at aw)
           (try rw[show((0:Int)).toNat=0 from rfl]at ax)
           (try rw[show 0*7=0 from rfl]at ax)
           (try rw[Sa]at ax)
           (try rw[show((0:Int)).toNat=0 from rfl]at ay)
           (try rw[show 0*7=0 from rfl]at ay)
           (try rw[Sa]at ay)
           (try rw[show((0:Int)).toNat=0 from rfl]at az)
           (try rw[show 0*7=0 from rfl]at az)
           (try rw[Sa]at az)
           (try rw[show((0:Int)).toNat=0 from rfl]at aA)
           (try rw[show 0*7=0 from rfl]at aA)
           (try rw[Sa]at aA)
           (try rw[show((0:Int)).toNat=0 from rfl]at aB)
           (try rw[show 0*7=0 from rfl]at aB)
           (try rw[Sa]at aB)
           (try rw[show((0:Int)).toNat=0 from rfl]at aC)
           (try rw[show 0*7=0 from rfl]at aC)
           (try rw[Sa]at aC)
           replace bL:=RA bL
           replace bN:=RA bN
           have bM:0≤(a:Int):=Bv
           have bO:a<(Y.length:Int):=Bv
           obtain⟨cm,cT,aH,aI,aJ,aK,aL,aM,aN⟩:=CQ bV.o a bM bO
           have bK:=aN
           have bJ:=aM
           have bI:=aL
           have bH:=aK
           have bG:=aJ
           have bF:=aI
           have bE:=aH
           obtain rfl:j=cm:=(by injection cT)
           replace aH:=(Az HB.o aH:)
           replace aI:=(Az HB.o aI:)
           replace aJ:=(Az HB.o aJ:)
           replace aK:=(Az HB.o aK:)
           replace aL:=(Az HB.o aL:)
           replace aM:=(Az HB.o aM:)
           replace aN:=(Az HB.o aN:)
           replace bM:=RA bM
           replace bO:=RA bO
           refine Cl (n:=15) (S:=λw'=>w'.cell? ⟨d,0,none⟩=some (.int .i64 E)∧w'.cell? ⟨d,1,none⟩=some (.int .i64 A)∧w'.cell? ⟨d,2,none⟩=some (u504002)∧w'.cell? ⟨d,3,none⟩=some (.slice (some O) b.length fg)∧w'.cell? ⟨d,4,none⟩=some (.int .i64 z)∧w'.cell? ⟨d,5,none⟩=some (.int .i64 I)∧w'.cell? O=some (.int .i64 ((Aa b 0).f0))∧w'.cell? ⟨O.block,O.off+1,none⟩=some (.int .i64 ((Aa b 0).f1))∧w'.cell? ⟨O.block,O.off+2,none⟩=some (.int .i64 ((Aa b 0).f2.f0))∧w'.cell? ⟨O.block,O.off+3,none⟩=some (.int .i64 ((Aa b 0).f2.f1))∧w'.cell? ⟨O.block,O.off+4,none⟩=some (.int .i64 ((Aa b 0).f2.f2))∧w'.cell? ⟨O.block,O.off+5,none⟩=some (.int .i64 ((Aa b 0).f2.f3))∧w'.cell? ⟨O.block,O.off+6,none⟩=some (.string ((Aa b 0).f2.f4))∧w'.cell? (j.add ((a).toNat*7))=some (.int .i64 ((Aa Y a).f0))∧w'.cell? ⟨(j.add ((a).toNat*7)).block,(j.add ((a).toNat*7)).off+1,none⟩=some (.int .i64 ((Aa Y a).f1))∧w'.cell? ⟨(j.add ((a).toNat*7)).block,(j.add ((a).toNat*7)).off+2,none⟩=some (.int .i64 ((Aa Y a).f2.f0))∧w'.cell? ⟨(j.add ((a).toNat*7)).block,(j.add ((a).toNat*7)).off+3,none⟩=some (.int .i64 ((Aa Y a).f2.f1))∧w'.cell? ⟨(j.add ((a).toNat*7)).block,(j.add ((a).toNat*7)).off+4,none⟩=some (.int .i64 ((Aa Y a).f2.f2))∧w'.cell? ⟨(j.add ((a).toNat*7)).block,(j.add ((a).toNat*7)).off+5,none⟩=some (.int .i64 ((Aa Y a).f2.f3))∧w'.cell? ⟨(j.add ((a).toNat*7)).block,(j.add ((a).toNat*7)).off+6,none⟩=some (.string ((Aa Y a).f2.f4))) (ds:=[]) #[false,false,false,false,false,false,false,false,false,false,false,false,false,false,false] (by kernel_rfl) rfl rfl ⟨(Ax q.o 0).trans rfl,(Ax q.o 1).trans rfl,(Ax q.o 2).trans rfl,(Ax q.o 3).trans rfl,(Ax q.o 4).trans rfl,(Ax q.o 5).trans rfl,aw,ax,ay,az,aA,aB,aC,((Az HB.o bE:)),((Az HB.o bF:)),((Az HB.o bG:)),((Az HB.o bH:)),((Az HB.o bI:)),((Az HB.o bJ:)),((Az HB.o bK:))⟩ (λG=>?_);refine B1 Aq.P3 Aq.MY (λHT_ HW_=>?_)
           generalize iX.drew=ju at r t v u x B q HB aw ax ay az aA aB aC aH aI aJ aK aL aM aN G⊢
           refine Bf 0 42 ?_
           refine Ix 1 43 G ?_
           refine Bf 2 44 ?_
           refine Bf 3 45 ?_
           refine Bf 4 46 ?_
           refine Bf 5 47 ?_
           refine Bf 9 51 ?_
           refine Bf 10 52 ?_
           refine Bf 11 53 ?_
           refine Ix 6 48 G ?_
           refine Bf 7 49 ?_
           refine Ix 8 50 G ?_
           refine Ix 12 54 G ?_
           refine Bf 13 55 ?_
           refine Bf 14 56 ?_
           refine CV (CT HT_.o (by kernel_rfl)) ?_
           have iu:=aF.o
           have iM:=aG.o
           have iv:=aj.o
           have iN:=au.o
           obtain⟨g4,g5,g6,g7,g8,g9,fW,fX,fY,fZ,f_,ga⟩:=BT x.o
           have iw:=ak.o
           have iO:=av.o
           obtain⟨g_,ha,hc,hd,hf,hh,gb,gf,gg,gh,gi,gj⟩:=BT B.o
           try go_wp2
           refine RH (CJ rfl _ _ y 26 #[.int .i64 E,.int .i64 X,.slice al T.length ao,.slice an U.length aq,.int .i64 ai,.int .i64 I] (0,0) _ rfl (F4 B.o) RP rfl (by kernel_rfl)) rfl ?_
           exact⟨_,_,by first|rfl|(simp[Cp,Cq] <;> rfl)|(simp only[<-a8];first|rfl|(simp[Cp,Cq] <;> rfl))|(simp[*,Cp,Cq] <;> rfl),by refine Dj ?_;exact Kd.AD (Kd.AA (p:=⟨y,5,none⟩) (Kd.AA (p:=⟨y,4,none⟩) (Kd.AA (p:=⟨y,3,none⟩) (Kd.AA (p:=⟨y,2,none⟩) (Kd.AA (p:=⟨y,1,none⟩) (Kd.AA (p:=⟨y,0,none⟩) (Kd.AD r.o (λL l=>(⟨l,l.2.2.1⟩:_∧L≠y))) (λ_ l=>l.2) (.int .i64 E)) (λ_ l=>l.2) (.int .i64 X)) (λ_ l=>l.2) (.slice al T.length ao)) (λ_ l=>l.2) (.slice an U.length aq)) (λ_ l=>l.2) (.int .i64 ai)) (λ_ l=>l.2) (.int .i64 I)) (λ_ l=>l.1.1),by refine Dj ?_;exact Kd.AD (Kd.AA (p:=⟨y,5,none⟩) (Kd.AA (p:=⟨y,4,none⟩) (Kd.AA (p:=⟨y,3,none⟩) (Kd.AA (p:=⟨y,2,none⟩) (Kd.AA (p:=⟨y,1,none⟩) (Kd.AA (p:=⟨y,0,none⟩) (Kd.AD t.o (λL l=>(⟨l,l.2.2.1⟩:_∧L≠y))) (λ_ l=>l.2) (.int .i64 E)) (λ_ l=>l.2) (.int .i64 X)) (λ_ l=>l.2) (.slice al T.length ao)) (λ_ l=>l.2) (.slice an U.length aq)) (λ_ l=>l.2) (.int .i64 ai)) (λ_ l=>l.2) (.int .i64 I)) (λ_ l=>l.1.1),Ag⟩
          ·rw[Rz cw]at H
           have e0:(!(((Aa b 0).f0)==((Aa Y a).f0)) || (!(((Aa b 0).f1)==((Aa Y a).f1)) || ((!(((Aa b 0).f2.f0)==((Aa Y a).f2.f0)) || (!(((Aa b 0).f2.f1)==((Aa Y a).f2.f1)) || (!(((Aa b 0).f2.f2)==((Aa Y a).f2.f2)) || (!(((Aa b 0).f2.f3)==((Aa Y a).f2.f3)) || (!((((Aa b 0).f2.f4).toList)==(((Aa Y a).f2.f4).toList))))))))))=false:=by simpa using cw
           clear cw
           by_cases cP:1≤(b.length:Int)
           ·rw[Ry cP]at H
            have ia:=RA cP
            have ib:decide (1≤(b.length:Int))=true:=BM cP
            clear cP
            obtain⟨ar,hy_⟩:=EM (b.drop 1)
            replace H:((BC.f k2 J ((Aa Y a).f2.f0) ((Aa Y a).f2.f1) ((Aa Y a).f2.f2) ((Aa Y a).f2.f3) ((Aa Y a).f2.f4)).bind λa7=>(Aq.l0 k2 Y (wrap64 (a+1)) E X T U ai I E (wrap64 (A+1)) a7 ar (wrap64 (z+1)) I))=some (r1,r2,r3,r4,r5,r6,r7):=EN
            have cB:=a_ hy_
            clear hy_
            replace H:=BR H
            obtain⟨a7,df,H⟩:=H
            try dsimp only at H
            have fB:=a_ df
            clear df
            have H':=a_ H
            clear H
            try go_wp2
            replace r:=a_ (Kd.BO r.o)
            replace t:=a_ (Kd.BO t.o)
            replace v:=a_ (Kd.BO v.o)
            replace u:=a_ (Kd.BO u.o)
            replace x:=a_ (Du x.o)
            replace B:=a_ (Du B.o)
            replace q:=a_ (Du q.o)
            replace HB:=a_ (Ay HB.o)
            have aX:0≤(a:Int):=Bv
            have aY:a<(Y.length:Int):=Bv
            obtain⟨j,bD,Z,aa,ab,ae,af,ag,ah⟩:=CQ bV.o a aX aY
            have aW:=ah
            have aV:=ag
            have aU:=af
            have aT:=ae
            have aS:=ab
            have aR:=aa
            have aQ:=Z
            cases bD
            replace Z:=(Az HB.o Z:)
            replace aa:=(Az HB.o aa:)
            replace ab:=(Az HB.o ab:)
            replace ae:=(Az HB.o ae:)
            replace af:=(Az HB.o af:)
            replace ag:=(Az HB.o ag:)
            replace ah:=(Az HB.o ah:)
            replace aX:=RA aX
            replace aY:=RA aY
            refine Cl (n:=8) (S:=λw'=>w'.cell? ⟨D,0,none⟩=some (.int .i64 E)∧w'.cell? ⟨D,1,none⟩=some (.int .i64 X)∧w'.cell? ⟨D,2,none⟩=some (.slice al T.length ao)∧w'.cell? ⟨D,3,none⟩=some (.slice an U.length aq)∧w'.cell? ⟨D,4,none⟩=some (.int .i64 ai)∧w'.cell? ⟨D,5,none⟩=some (.int .i64 I)∧w'.cell? (j.add ((a).toNat*7))=some (.int .i64 ((Aa Y a).f0))∧w'.cell? ⟨(j.add ((a).toNat*7)).block,(j.add ((a).toNat*7)).off+1,none⟩=some (.int .i64 ((Aa Y a).f1))∧w'.cell? ⟨(j.add ((a).toNat*7)).block,(j.add ((a).toNat*7)).off+2,none⟩=some (.int .i64 ((Aa Y a).f2.f0))∧w'.cell? ⟨(j.add ((a).toNat*7)).block,(j.add ((a).toNat*7)).off+3,none⟩=some (.int .i64 ((Aa Y a).f2.f1))∧w'.cell? ⟨(j.add ((a).toNat*7)).block,(j.add ((a).toNat*7)).off+4,none⟩=some (.int .i64 ((Aa Y a).f2.f2))∧w'.cell? ⟨(j.add ((a).toNat*7)).block,(j.add ((a).toNat*7)).off+5,none⟩=some (.int .i64 ((Aa Y a).f2.f3))∧w'.cell? ⟨(j.add ((a).toNat*7)).block,(j.add ((a).toNat*7)).off+6,none⟩=some (.string ((Aa Y a).f2.f4))) (ds:=[]) #[false,false,false,false,false,false,false,false] (by kernel_rfl) rfl rfl ⟨(Ax x.o 0).trans rfl,(Ax x.o 1).trans rfl,(Ax x.o 2).trans rfl,(Ax x.o 3).trans rfl,(Ax x.o 4).trans rfl,(Ax x.o 5).trans rfl,((Az HB.o aQ:)),((Az HB.o aR:)),((Az HB.o aS:)),((Az HB.o aT:)),((Az HB.o aU:)),((Az HB.o aV:)),((Az HB.o aW:))⟩ (λG=>?_);refine B1 Aq.OD Aq.LA (λHT_ HW_=>?_)
            generalize wr.drew=iY at r t v u x B q HB Z aa ab ae af ag ah G⊢
            refine Bf 0 34 ?_
            refine Bf 1 35 ?_
            refine Bf 2 36 ?_
            refine Bf 3 37 ?_
            refine Bf 5 39 ?_
            refine Fg 4 38 G ?_
            refine Fg 6 40 G ?_
            refine Bf 7 41 ?_
            refine CV (CT HT_.o (by kernel_rfl)) ?_
            try go_wp2
            replace r:=a_ (Kd.BO r.o)
            replace t:=a_ (Kd.BO t.o)
            replace v:=a_ (Kd.BO v.o)
            replace u:=a_ (Kd.BO u.o)
            replace x:=a_ (Du x.o)
            replace B:=a_ (Du B.o)
            replace q:=a_ (Du q.o)
            replace HB:=a_ (Ay HB.o)
            obtain⟨jd,bz,dz⟩:=Kd.Cd u.o
            (first|subst dz|(injection dz with a4 bu a5;have bw:=a4.symm;have bx:=a5.symm;clear a4 bu a5;subst bw;subst bx))
            have bL:0≤(0:Int):=(by omega)
            have bN:0<(b.length:Int):=Bv
            obtain⟨O,cS,aw,ax,ay,az,aA,aB,aC⟩:=CQ (Kd.AY u.o).2.2 0 bL bN
            cases cS
            have fb:(0<b.length)=True:=RA (by omega)
            (try rw[show((0:Int)).toNat=0 from rfl]at aw)
            (try rw[show 0*7=0 from rfl]at aw)
            (try rw[Sa]at aw)
            (try rw[show((0:Int)).toNat=0 from rfl]at ax)
            (try rw[show 0*7=0 from rfl]at ax)
            (try rw[Sa]at ax)
            (try rw[show((0:Int)).toNat=0 from rfl]at ay)
            (try rw[show 0*7=0 from rfl]at ay)
            (try rw[Sa]at ay)
            (try rw[show((0:Int)).toNat=0 from rfl]at az)
            (try rw[show 0*7=0 from rfl]at az)
            (try rw[Sa]at az)
            (try rw[show((0:Int)).toNat=0 from rfl]at aA)
            (try rw[show 0*7=0 from rfl]at aA)
            (try rw[Sa]at aA)
            (try rw[show((0:Int)).toNat=0 from rfl]at aB)
            (try rw[show 0*7=0 from rfl]at aB)
            (try rw[Sa]at aB)
            (try rw[show((0:Int)).toNat=0 from rfl]at aC)
            (try rw[show 0*7=0 from rfl]at aC)
            (try rw[Sa]at aC)
            replace bL:=RA bL
            replace bN:=RA bN
            have bM:0≤(a:Int):=Bv
            have bO:a<(Y.length:Int):=Bv
            obtain⟨cm,cT,aH,aI,aJ,aK,aL,aM,aN⟩:=CQ bV.o a bM bO
            have bK:=aN
            have bJ:=aM
            have bI:=aL
            have bH:=aK
            have bG:=aJ
            have bF:=aI
            have bE:=aH
            obtain rfl:j=cm:=(by injection cT)
            replace aH:=(Az HB.o aH:)
            replace aI:=(Az HB.o aI:)
            replace aJ:=(Az HB.o aJ:)
            replace aK:=(Az HB.o aK:)
            replace aL:=(Az HB.o aL:)
            replace aM:=(Az HB.o aM:)
            replace aN:=(Az HB.o aN:)
            replace bM:=RA bM
            replace bO:=RA bO
            refine Cl (n:=15) (S:=λw'=>w'.cell? ⟨d,0,none⟩=some (.int .i64 E)∧w'.cell? ⟨d,1,none⟩=some (.int .i64 A)∧w'.cell? ⟨d,2,none⟩=some (u504002)∧w'.cell? ⟨d,3,none⟩=some (.slice (some O) b.length bz)∧w'.cell? ⟨d,4,none⟩=some (.int .i64 z)∧w'.cell? ⟨d,5,none⟩=some (.int .i64 I)∧w'.cell? O=some (.int .i64 ((Aa b 0).f0))∧w'.cell? ⟨O.block,O.off+1,none⟩=some (.int .i64 ((Aa b 0).f1))∧w'.cell? ⟨O.block,O.off+2,none⟩=some (.int .i64 ((Aa b 0).f2.f0))∧w'.cell? ⟨O.block,O.off+3,none⟩=some (.int .i64 ((Aa b 0).f2.f1))∧w'.cell? ⟨O.block,O.off+4,none⟩=some (.int .i64 ((Aa b 0).f2.f2))∧w'.cell? ⟨O.block,O.off+5,none⟩=some (.int .i64 ((Aa b 0).f2.f3))∧w'.cell? ⟨O.block,O.off+6,none⟩=some (.string ((Aa b 0).f2.f4))∧w'.cell? (j.add ((a).toNat*7))=some (.int .i64 ((Aa Y a).f0))∧w'.cell? ⟨(j.add ((a).toNat*7)).block,(j.add ((a).toNat*7)).off+1,none⟩=some (.int .i64 ((Aa Y a).f1))∧w'.cell? ⟨(j.add ((a).toNat*7)).block,(j.add ((a).toNat*7)).off+2,none⟩=some (.int .i64 ((Aa Y a).f2.f0))∧w'.cell? ⟨(j.add ((a).toNat*7)).block,(j.add ((a).toNat*7)).off+3,none⟩=some (.int .i64 ((Aa Y a).f2.f1))∧w'.cell? ⟨(j.add ((a).toNat*7)).block,(j.add ((a).toNat*7)).off+4,none⟩=some (.int .i64 ((Aa Y a).f2.f2))∧w'.cell? ⟨(j.add ((a).toNat*7)).block,(j.add ((a).toNat*7)).off+5,none⟩=some (.int .i64 ((Aa Y a).f2.f3))∧w'.cell? ⟨(j.add ((a).toNat*7)).block,(j.add ((a).toNat*7)).off+6,none⟩=some (.string ((Aa Y a).f2.f4))) (ds:=[]) #[false,false,false,false,false,false,false,false,false,false,false,false,false,false,false] (by kernel_rfl) rfl rfl ⟨(Ax q.o 0).trans rfl,(Ax q.o 1).trans rfl,(Ax q.o 2).trans rfl,(Ax q.o 3).trans rfl,(Ax q.o 4).trans rfl,(Ax q.o 5).trans rfl,aw,ax,ay,az,aA,aB,aC,((Az HB.o bE:)),((Az HB.o bF:)),((Az HB.o bG:)),((Az HB.o bH:)),((Az HB.o bI:)),((Az HB.o bJ:)),((Az HB.o bK:))⟩ (λG=>?_);refine B1 Aq.P3 Aq.MY (λHT_ HW_=>?_)
            generalize iY.drew=bP at r t v u x B q HB aw ax ay az aA aB aC aH aI aJ aK aL aM aN G⊢
            refine Bf 0 42 ?_
            refine Ix 1 43 G ?_
            refine Bf 2 44 ?_
            refine Bf 3 45 ?_
            refine Bf 4 46 ?_
            refine Bf 5 47 ?_
            refine Bf 9 51 ?_
            refine Bf 10 52 ?_
            refine Bf 11 53 ?_
            refine Ix 6 48 G ?_
            refine Bf 7 49 ?_
            refine Ix 8 50 G ?_
            refine Ix 12 54 G ?_
            refine Bf 13 55 ?_
            refine Bf 14 56 ?_
            refine CV (CT HT_.o (by kernel_rfl)) ?_
            have ix:=au.o
            have iP:=aj.o
            have iy:=av.o
            have iQ:=ak.o
            obtain⟨hj,hn,ho,hp,hq,hr,gl,gm,gn,gp,gq,gr⟩:=BT q.o
            have fa:(1:Int)≤((b.length:Int):Int):=Bv
            obtain⟨jn,cU,_,cV,_⟩:=S3 Dv
            have ba:b.length≤bz:=(Kd.AY u.o).2.1
            have dE:Kd.F Ck _ _ (some O) b.length b:=(Kd.Kv (base:=w.heap.size) u.o).2.2
            have dd:=Gs (P:=Tryd.prog) 24 32 .i64 R8 cU 7 cV (some O) b.length bz 1 (by omega) fa
            have bX:=Kd.OL (m:=(1:Int).toNat) (c:=bz) dE (by omega) ba
            obtain⟨aO,hA54⟩:∃A1,A1=(if bz=(1:Int).toNat then(some O)else((some O):Option Addr).map (·.add ((1:Int).toNat*7))):=⟨_,rfl⟩
            obtain⟨aP,cu⟩:∃c1,c1=bz-(1:Int).toNat:=⟨_,rfl⟩
            have cl:ar.length=b.length-(1:Int).toNat:=(by rw[cB.o,R9] <;> omega)
            rw[show(b).drop (1:Int).toNat=ar from cB.o.symm]at bX
            replace bX:Kd.F Ck _ _ aO ar.length ar:=(by rw[hA54];exact bX)
            rw[<-cl,<-hA54,<-cu]at dd
            have a6:=a_ (show Kd.V Ck 32 _ w.heap.size _ (.slice aO ar.length aP) ar from Kd.N5 (by rw[cl,cu];exact SV ba _) bX)
            have fJ:=a_ (show ar.length≤aP from by rw[cl,cu];exact SV ba _)
            clear bX dE ba cU cV cu
            have jf:=a_ cl
            have je:=a_ hA54
            clear cl hA54
            replace fa:=RA fa
            try go_wp2
            have n0_:Ac (Kd.V Dd 68 ((bP.setCell ⟨d,3,none⟩ (.slice aO ar.length aP)).setCell ⟨d,4,none⟩ (.int .i64 (wrap64 (z+1)))) w.heap.size (λL=>((aD L∨aE L)∨w.heap.size≤L)∧L≠D∧L≠y∧L≠d) (.slice al T.length ao) T):=⟨by refine Dj ?_;exact Kd.AD (Kd.AA (p:=⟨d,4,none⟩) (Kd.AA (p:=⟨d,3,none⟩) (Kd.AD r.o (λL l=>(⟨l,l.2.2.2⟩:_∧L≠d))) (λ_ l=>l.2) (.slice aO ar.length aP)) (λ_ l=>l.2) (.int .i64 (wrap64 (z+1)))) (λ_ l=>⟨l.1.1,⟨l.1.2.1,⟨l.1.2.2.1,l.1.2.2.2⟩⟩⟩)⟩
            have e3:Ac (Kd.V Ck 32 ((bP.setCell ⟨d,3,none⟩ (.slice aO ar.length aP)).setCell ⟨d,4,none⟩ (.int .i64 (wrap64 (z+1)))) w.heap.size (λL=>((aD L∨aE L)∨w.heap.size≤L)∧L≠D∧L≠y∧L≠d) (.slice an U.length aq) U):=⟨by refine Dj ?_;exact Kd.AD (Kd.AA (p:=⟨d,4,none⟩) (Kd.AA (p:=⟨d,3,none⟩) (Kd.AD t.o (λL l=>(⟨l,l.2.2.2⟩:_∧L≠d))) (λ_ l=>l.2) (.slice aO ar.length aP)) (λ_ l=>l.2) (.int .i64 (wrap64 (z+1)))) (λ_ l=>⟨l.1.1,⟨l.1.2.1,⟨l.1.2.2.1,l.1.2.2.2⟩⟩⟩)⟩
            have e4:Ac (Kd.V Dd 68 ((bP.setCell ⟨d,3,none⟩ (.slice aO ar.length aP)).setCell ⟨d,4,none⟩ (.int .i64 (wrap64 (z+1)))) w.heap.size (λL=>((aD L∨aE L)∨w.heap.size≤L)∧L≠D∧L≠y∧L≠d) u504002 J):=⟨by refine Dj ?_;exact Kd.AD (Kd.AA (p:=⟨d,4,none⟩) (Kd.AA (p:=⟨d,3,none⟩) (Kd.AD v.o (λL l=>(⟨l,l.2.2.2⟩:_∧L≠d))) (λ_ l=>l.2) (.slice aO ar.length aP)) (λ_ l=>l.2) (.int .i64 (wrap64 (z+1)))) (λ_ l=>⟨l.1.1,⟨l.1.2.1,⟨l.1.2.2.1,l.1.2.2.2⟩⟩⟩)⟩
            have e5:Ac (Kd.V Ck 32 ((bP.setCell ⟨d,3,none⟩ (.slice aO ar.length aP)).setCell ⟨d,4,none⟩ (.int .i64 (wrap64 (z+1)))) w.heap.size (λL=>((aD L∨aE L)∨w.heap.size≤L)∧L≠D∧L≠y∧L≠d) (.slice (some O) b.length bz) b):=⟨by refine Dj ?_;exact Kd.AD (Kd.AA (p:=⟨d,4,none⟩) (Kd.AA (p:=⟨d,3,none⟩) (Kd.AD u.o (λL l=>(⟨l,l.2.2.2⟩:_∧L≠d))) (λ_ l=>l.2) (.slice aO ar.length aP)) (λ_ l=>l.2) (.int .i64 (wrap64 (z+1)))) (λ_ l=>⟨l.1.1,⟨l.1.2.1,⟨l.1.2.2.1,l.1.2.2.2⟩⟩⟩)⟩
            have e6:Ac (Kd.V Ck 32 ((bP.setCell ⟨d,3,none⟩ (.slice aO ar.length aP)).setCell ⟨d,4,none⟩ (.int .i64 (wrap64 (z+1)))) w.heap.size (λL=>((aD L∨aE L)∨w.heap.size≤L)∧L≠D∧L≠y∧L≠d) (.slice aO ar.length aP) ar):=⟨by refine Dj ?_;exact Kd.AD (Kd.AA (p:=⟨d,4,none⟩) (Kd.AA (p:=⟨d,3,none⟩) (Kd.AD a6.o (λL l=>(⟨l,l.2.2.2⟩:_∧L≠d))) (λ_ l=>l.2) (.slice aO ar.length aP)) (λ_ l=>l.2) (.int .i64 (wrap64 (z+1)))) (λ_ l=>⟨l.1.1,⟨l.1.2.1,⟨l.1.2.2.1,l.1.2.2.2⟩⟩⟩)⟩
            have e7:Ac (((bP.setCell ⟨d,3,none⟩ (.slice aO ar.length aP)).setCell ⟨d,4,none⟩ (.int .i64 (wrap64 (z+1)))).heap[D]?=some (.cells #[.int .i64 E,.int .i64 X,.slice al T.length ao,.slice an U.length aq,.int .i64 ai,.int .i64 I] 26 (0,0))):=⟨CZ aj.o x.o⟩
            have e8:Ac (((bP.setCell ⟨d,3,none⟩ (.slice aO ar.length aP)).setCell ⟨d,4,none⟩ (.int .i64 (wrap64 (z+1)))).heap[y]?=some (.cells #[.int .i64 aZ,.int .i64 a0,.slice none 0 0,.slice none 0 0,.int .i64 a2,.int .i64 a3] 26 (0,0))):=⟨CZ ak.o B.o⟩
            have e9:Ac (((bP.setCell ⟨d,3,none⟩ (.slice aO ar.length aP)).setCell ⟨d,4,none⟩ (.int .i64 (wrap64 (z+1)))).heap[d]?=some (.cells #[.int .i64 E,.int .i64 A,u504002,.slice aO ar.length aP,.int .i64 (wrap64 (z+1)),.int .i64 I] 26 (0,0))):=⟨by(with_reducible repeat(first|refine Fz ?_ _|refine Du ?_|refine EG ?_ _));refine BF (cs:=#[.int .i64 E,.int .i64 A,u504002,.slice aO ar.length aP,.int .i64 z,.int .i64 I]) ?_ 4 _ rfl;(with_reducible repeat(first|refine Fz ?_ _|refine Du ?_|refine EG ?_ _));refine BF (cs:=#[.int .i64 E,.int .i64 A,u504002,.slice (some O) b.length bz,.int .i64 z,.int .i64 I]) ?_ 3 _ rfl;(with_reducible repeat(first|refine Fz ?_ _|refine Du ?_|refine EG ?_ _));exact q.o⟩
            have e_:Ac (Below w.heap.size w ((bP.setCell ⟨d,3,none⟩ (.slice aO ar.length aP)).setCell ⟨d,4,none⟩ (.int .i64 (wrap64 (z+1))))):=⟨Ag⟩
            (try clear r)
            (try clear t)
            (try clear v)
            (try clear u)
            (try clear a6)
            (try clear x)
            (try clear B)
            (try clear q)
            (try clear HB)
            generalize ((bP.setCell ⟨d,3,none⟩ (.slice aO ar.length aP)).setCell ⟨d,4,none⟩ (.int .i64 (wrap64 (z+1))))=iZ at n0_ e3 e4 e5 e6 e7 e8 e9 e_⊢
            have r:=n0_
            have t:=e3
            have v:=e4
            have u:=e5
            have a6:=e6
            have x:=e7
            have B:=e8
            have q:=e9
            have HB:=e_
            clear n0_ e3 e4 e5 e6 e7 e8 e9 e_
            replace r:=a_ (Kd.BO r.o)
            replace t:=a_ (Kd.BO t.o)
            replace v:=a_ (Kd.BO v.o)
            replace u:=a_ (Kd.BO u.o)
            replace a6:=a_ (Kd.BO a6.o)
            replace x:=a_ (Du x.o)
            replace B:=a_ (Du B.o)
            replace q:=a_ (Du q.o)
            replace HB:=a_ (Ay HB.o)
            have cX:0≤(a:Int):=Bv
            have cZ:a<(Y.length:Int):=Bv
            obtain⟨eT,fh,bb,bc,bd,be,bf,bg,bh⟩:=CQ bV.o a cX cZ
            have b_:=bh
            have b9:=bg
            have b8:=bf
            have b7:=be
            have b6:=bd
            have bZ:=bc
            have bY:=bb
            obtain rfl:j=eT:=(by injection fh)
            replace bb:=(Az HB.o bb:)
            replace bc:=(Az HB.o bc:)
            replace bd:=(Az HB.o bd:)
            replace be:=(Az HB.o be:)
            replace bf:=(Az HB.o bf:)
            replace bg:=(Az HB.o bg:)
            replace bh:=(Az HB.o bh:)
            replace cX:=RA cX
            replace cZ:=RA cZ
            obtain⟨cp,cr,dA⟩:=Kd.Cd v.o
            (first|subst dA|(injection dA with a4 bu a5;have bw:=a4.symm;have bx:=a5.symm;clear a4 bu a5;subst bw;subst bx))
            refine Cl (n:=10) (S:=λw'=>w'.cell? ⟨d,0,none⟩=some (.int .i64 E)∧w'.cell? ⟨d,1,none⟩=some (.int .i64 A)∧w'.cell? ⟨d,2,none⟩=some (.slice cp J.length cr)∧w'.cell? ⟨d,3,none⟩=some (.slice aO ar.length aP)∧w'.cell? ⟨d,4,none⟩=some (.int .i64 (wrap64 (z+1)))∧w'.cell? ⟨d,5,none⟩=some (.int .i64 I)∧w'.cell? (j.add ((a).toNat*7))=some (.int .i64 ((Aa Y a).f0))∧w'.cell? ⟨(j.add ((a).toNat*7)).block,(j.add ((a).toNat*7)).off+1,none⟩=some (.int .i64 ((Aa Y a).f1))∧w'.cell? ⟨(j.add ((a).toNat*7)).block,(j.add ((a).toNat*7)).off+2,none⟩=some (.int .i64 ((Aa Y a).f2.f0))∧w'.cell? ⟨(j.add ((a).toNat*7)).block,(j.add ((a).toNat*7)).off+3,none⟩=some (.int .i64 ((Aa Y a).f2.f1))∧w'.cell? ⟨(j.add ((a).toNat*7)).block,(j.add ((a).toNat*7)).off+4,none⟩=some (.int .i64 ((Aa Y a).f2.f2))∧w'.cell? ⟨(j.add ((a).toNat*7)).block,(j.add ((a).toNat*7)).off+5,none⟩=some (.int .i64 ((Aa Y a).f2.f3))∧w'.cell? ⟨(j.add ((a).toNat*7)).block,(j.add ((a).toNat*7)).off+6,none⟩=some (.string ((Aa Y a).f2.f4))) (ds:=[9]) #[false,false,false,false,false,false,false,false,false,false] (by kernel_rfl) rfl rfl ⟨(Ax q.o 0).trans rfl,(Ax q.o 1).trans rfl,(Ax q.o 2).trans rfl,(Ax q.o 3).trans rfl,(Ax q.o 4).trans rfl,(Ax q.o 5).trans rfl,((Az HB.o bY:)),((Az HB.o bZ:)),((Az HB.o b6:)),((Az HB.o b7:)),((Az HB.o b8:)),((Az HB.o b9:)),((Az HB.o b_:))⟩ (λG=>?_);refine B1 Aq.Pb Aq.MW (λHT_ HW_=>?_)
            generalize iZ.drew=jv at r t v u a6 x B q HB bb bc bd be bf bg bh G⊢
            refine Bf 0 66 ?_
            refine Bf 2 68 ?_
            refine Bf 3 69 ?_
            refine Bf 4 70 ?_
            refine Bf 5 71 ?_
            refine Fg 1 67 G ?_
            refine Fg 6 72 G ?_
            refine E7 7 73 (λK hK=>?_)
            refine C7 TU (by kernel_rfl) rfl #[.slice cp J.length cr,.agg #[.int .i64 ((Aa Y a).f2.f0),.int .i64 ((Aa Y a).f2.f1),.int .i64 ((Aa Y a).f2.f2),.int .i64 ((Aa Y a).f2.f3),.string ((Aa Y a).f2.f4)]] (by rfl) rfl rfl JV ?_
            with_reducible refine(BC.calls k2 _ _ J ((Aa Y a).f2.f0) ((Aa Y a).f2.f1) ((Aa Y a).f2.f2) ((Aa Y a).f2.f3) ((Aa Y a).f2.f4) a7 _ ?q' ?z' fB.o).mono ?_
            (case q'=>repeat(first|exact(Kd.AY v.o).2.2|(with_reducible refine Kd.C_alloc ?_ _)|(with_reducible refine Kd.B_ ?_ _)|(with_reducible refine Kd.C_drew ?_)))
            (case z'=>exact(Kd.AY v.o).2.1)
            rintro e i_ ⟨jo,rfl,a9,hb⟩
            refine⟨_,rfl,?_⟩
            replace r:=a_ (Kd.DA (Dj r.o) (Kd.Ch a9) hb)
            replace t:=a_ (Kd.DA (Dj t.o) (Kd.Ch a9) hb)
            replace v:=a_ (Kd.DA (Dj v.o) (Kd.Ch a9) hb)
            replace u:=a_ (Kd.DA (Dj u.o) (Kd.Ch a9) hb)
            replace a6:=a_ (Kd.DA (Dj a6.o) (Kd.Ch a9) hb)
            have cz:=a_ (Kd.AU (Kd.FE (M:=λL=>(w.heap.size≤L)) a9 (Af (Ag)) (λL h_=>h_)) (Af (Ag)))
            replace HB:=Bw hb
            replace x:=a_ (Cr x.o hb)
            replace B:=a_ (Cr B.o hb)
            replace q:=a_ (Cr q.o hb)
            try clear hb a9
            obtain⟨bQ,bS,dB⟩:=Kd.Be cz.o
            (first|subst dB|(injection dB with a4 bu a5;have bw:=a4.symm;have bx:=a5.symm;clear a4 bu a5;subst bw;subst bx))
            refine hK.out _ _ ⟨(Ax q.o 0).trans rfl,(Ax q.o 1).trans rfl,(Ax q.o 2).trans rfl,(Ax q.o 3).trans rfl,(Ax q.o 4).trans rfl,(Ax q.o 5).trans rfl,((Az HB.o bY:)),((Az HB.o bZ:)),((Az HB.o b6:)),((Az HB.o b7:)),((Az HB.o b8:)),((Az HB.o b9:)),((Az HB.o b_:))⟩ (λG=>?_)
            clear hK K
            refine Er 73 ?_
            refine Bf 8 74 ?_
            refine Fe (i:=9) (N:=none) #[true,true,true,true,true,true,true,true,true,true] rfl rfl (Gc HT_.o (by kernel_rfl)) (by decide) (λK hK=>?_)
            have ji:i_.cell? ⟨d,2,none⟩=some (.slice cp J.length cr):=(Ax q.o 2).trans rfl
            have ic:=BU q.o 2
            have ft:=aj.o
            have fu:=ak.o
            have fm:=au.o
            have fo:=av.o
            refine EL (w1:=?_) (by rfl) rfl ?_ ?_
            rotate_left
            ·go_simp
             rfl
            refine hK.out _ _ ?_
            clear hK K
            refine CV (CT HT_.o (by kernel_rfl)) ?_
            obtain⟨ht,hv,hx,hy,hA,hC,gu,gv,gw,gx,gy,gz⟩:=BT q.o
            try go_wp2
            go_roundg k2
            case measure=>have:=c_.o;have:=da.o;omega
            case rel=>exact⟨(wrap64 (a+1)),(aZ),(a0),(a2),(a3),(wrap64 (A+1)),(a7),(ar),(wrap64 (z+1)),(.slice bQ a7.length bS),(.slice aO ar.length aP),(CA),H',⟨by have:=c_.o;have:=da.o;omega⟩,⟨by refine Dj ?_;exact Kd.AD (Kd.AA (p:=⟨d,1,none⟩) (Kd.AA (p:=⟨d,2,none⟩) (Kd.AD r.o (λL l=>(⟨l,l.1.2.2.2⟩:_∧L≠d))) (λ_ l=>l.2) (.slice bQ a7.length bS)) (λ_ l=>l.2) (.int .i64 (wrap64 (A+1)))) (λ_ l=>⟨l.1.1.1,⟨l.1.1.2.1,⟨l.1.1.2.2.1,l.1.1.2.2.2⟩⟩⟩)⟩,⟨by refine Dj ?_;exact Kd.AD (Kd.AA (p:=⟨d,1,none⟩) (Kd.AA (p:=⟨d,2,none⟩) (Kd.AD t.o (λL l=>(⟨l,l.1.2.2.2⟩:_∧L≠d))) (λ_ l=>l.2) (.slice bQ a7.length bS)) (λ_ l=>l.2) (.int .i64 (wrap64 (A+1)))) (λ_ l=>⟨l.1.1.1,⟨l.1.1.2.1,⟨l.1.1.2.2.1,l.1.1.2.2.2⟩⟩⟩)⟩,⟨Kd.AD (Kd.MH (Kd.CS (p:=⟨d,1,none⟩) (Kd.CS (p:=⟨d,2,none⟩) (Kd.Aj (Kd.Aj (Kd.Aj (Kd.Aj cz.o x.o (by decide)) B.o (by decide)) q.o (by decide)) q.o (by decide)) (λ_ l=>l.2) (.slice bQ a7.length bS)) (λ_ l=>l.2) (.int .i64 (wrap64 (A+1))))) (λL l=>⟨.inr l.1.1.1.1.1,l.1.1.1.2,l.1.1.2,l.1.2⟩)⟩,⟨by refine Dj ?_;exact Kd.AD (Kd.AA (p:=⟨d,1,none⟩) (Kd.AA (p:=⟨d,2,none⟩) (Kd.AD a6.o (λL l=>(⟨l,l.1.2.2.2⟩:_∧L≠d))) (λ_ l=>l.2) (.slice bQ a7.length bS)) (λ_ l=>l.2) (.int .i64 (wrap64 (A+1)))) (λ_ l=>⟨l.1.1.1,⟨l.1.1.2.1,⟨l.1.1.2.2.1,l.1.1.2.2.2⟩⟩⟩)⟩,⟨CZ aj.o x.o⟩,⟨CZ ak.o B.o⟩,⟨by(with_reducible repeat(first|refine Fz ?_ _|refine Du ?_|refine EG ?_ _));refine BF (cs:=#[.int .i64 E,.int .i64 A,.slice bQ a7.length bS,.slice aO ar.length aP,.int .i64 (wrap64 (z+1)),.int .i64 I]) ?_ 1 _ rfl;(with_reducible repeat(first|refine Fz ?_ _|refine Du ?_|refine EG ?_ _));refine BF (cs:=#[.int .i64 E,.int .i64 A,.slice cp J.length cr,.slice aO ar.length aP,.int .i64 (wrap64 (z+1)),.int .i64 I]) ?_ 2 _ rfl;(with_reducible repeat(first|refine Fz ?_ _|refine Du ?_|refine EG ?_ _));exact q.o⟩,⟨Ag⟩⟩
           ·rw[Rz cP]at H
            exact absurd H (by simp)
         ·rw[Rz dc]at H
          exact absurd H (by simp)
       ·rw[Rz cn]at H
        have eW:(((Aa Y a).f0)==E)=false:=Dr cn
        have eX:(((Aa Y a).f0) != E)=true:=RX.mpr cn
        replace H:=BR H
        obtain⟨bB,dg,H⟩:=H
        try dsimp only at H
        have fC:=a_ dg
        clear dg
        have H':=a_ H
        clear H
        try go_wp2
        replace r:=a_ (Kd.BO r.o)
        replace t:=a_ (Kd.BO t.o)
        replace v:=a_ (Kd.BO v.o)
        replace u:=a_ (Kd.BO u.o)
        replace x:=a_ (Du x.o)
        replace B:=a_ (Du B.o)
        replace q:=a_ (Du q.o)
        replace HB:=a_ (Ay HB.o)
        have aX:0≤(a:Int):=Bv
        have aY:a<(Y.length:Int):=Bv
        obtain⟨j,bD,Z,aa,ab,ae,af,ag,ah⟩:=CQ bV.o a aX aY
        have aW:=ah
        have aV:=ag
        have aU:=af
        have aT:=ae
        have aS:=ab
        have aR:=aa
        have aQ:=Z
        cases bD
        replace Z:=(Az HB.o Z:)
        replace aa:=(Az HB.o aa:)
        replace ab:=(Az HB.o ab:)
        replace ae:=(Az HB.o ae:)
        replace af:=(Az HB.o af:)
        replace ag:=(Az HB.o ag:)
        replace ah:=(Az HB.o ah:)
        replace aX:=RA aX
        replace aY:=RA aY
        refine Cl (n:=8) (S:=λw'=>w'.cell? ⟨D,0,none⟩=some (.int .i64 E)∧w'.cell? ⟨D,1,none⟩=some (.int .i64 X)∧w'.cell? ⟨D,2,none⟩=some (.slice al T.length ao)∧w'.cell? ⟨D,3,none⟩=some (.slice an U.length aq)∧w'.cell? ⟨D,4,none⟩=some (.int .i64 ai)∧w'.cell? ⟨D,5,none⟩=some (.int .i64 I)∧w'.cell? (j.add ((a).toNat*7))=some (.int .i64 ((Aa Y a).f0))∧w'.cell? ⟨(j.add ((a).toNat*7)).block,(j.add ((a).toNat*7)).off+1,none⟩=some (.int .i64 ((Aa Y a).f1))∧w'.cell? ⟨(j.add ((a).toNat*7)).block,(j.add ((a).toNat*7)).off+2,none⟩=some (.int .i64 ((Aa Y a).f2.f0))∧w'.cell? ⟨(j.add ((a).toNat*7)).block,(j.add ((a).toNat*7)).off+3,none⟩=some (.int .i64 ((Aa Y a).f2.f1))∧w'.cell? ⟨(j.add ((a).toNat*7)).block,(j.add ((a).toNat*7)).off+4,none⟩=some (.int .i64 ((Aa Y a).f2.f2))∧w'.cell? ⟨(j.add ((a).toNat*7)).block,(j.add ((a).toNat*7)).off+5,none⟩=some (.int .i64 ((Aa Y a).f2.f3))∧w'.cell? ⟨(j.add ((a).toNat*7)).block,(j.add ((a).toNat*7)).off+6,none⟩=some (.string ((Aa Y a).f2.f4))) (ds:=[]) #[false,false,false,false,false,false,false,false] (by kernel_rfl) rfl rfl ⟨(Ax x.o 0).trans rfl,(Ax x.o 1).trans rfl,(Ax x.o 2).trans rfl,(Ax x.o 3).trans rfl,(Ax x.o 4).trans rfl,(Ax x.o 5).trans rfl,((Az HB.o aQ:)),((Az HB.o aR:)),((Az HB.o aS:)),((Az HB.o aT:)),((Az HB.o aU:)),((Az HB.o aV:)),((Az HB.o aW:))⟩ (λG=>?_);refine B1 Aq.OD Aq.LA (λHT_ HW_=>?_)
        generalize wr.drew=ja at r t v u x B q HB Z aa ab ae af ag ah G⊢
        refine Bf 0 34 ?_
        refine Bf 1 35 ?_
        refine Bf 2 36 ?_
        refine Bf 3 37 ?_
        refine Bf 5 39 ?_
        refine Fg 4 38 G ?_
        refine Fg 6 40 G ?_
        refine Bf 7 41 ?_
        refine CV (CT HT_.o (by kernel_rfl)) ?_
        try go_wp2
        replace r:=a_ (Kd.BO r.o)
        replace t:=a_ (Kd.BO t.o)
        replace v:=a_ (Kd.BO v.o)
        replace u:=a_ (Kd.BO u.o)
        replace x:=a_ (Du x.o)
        replace B:=a_ (Du B.o)
        replace q:=a_ (Du q.o)
        replace HB:=a_ (Ay HB.o)
        have cY:0≤(a:Int):=Bv
        have c0:a<(Y.length:Int):=Bv
        obtain⟨eU,fi,bj,bk,bl,bm,bn,bo,bp⟩:=CQ bV.o a cY c0
        have ck:=bp
        have cj:=bo
        have cg:=bn
        have cf:=bm
        have cd:=bl
        have cb:=bk
        have ca:=bj
        obtain rfl:j=eU:=(by injection fi)
        replace bj:=(Az HB.o bj:)
        replace bk:=(Az HB.o bk:)
        replace bl:=(Az HB.o bl:)
        replace bm:=(Az HB.o bm:)
        replace bn:=(Az HB.o bn:)
        replace bo:=(Az HB.o bo:)
        replace bp:=(Az HB.o bp:)
        replace cY:=RA cY
        replace c0:=RA c0
        obtain⟨cq,ct,dC⟩:=Kd.Cd v.o
        (first|subst dC|(injection dC with a4 bu a5;have bw:=a4.symm;have bx:=a5.symm;clear a4 bu a5;subst bw;subst bx))
        refine Cl (n:=10) (S:=λw'=>w'.cell? ⟨d,0,none⟩=some (.int .i64 E)∧w'.cell? ⟨d,1,none⟩=some (.int .i64 A)∧w'.cell? ⟨d,2,none⟩=some (.slice cq J.length ct)∧w'.cell? ⟨d,3,none⟩=some (u504003)∧w'.cell? ⟨d,4,none⟩=some (.int .i64 z)∧w'.cell? ⟨d,5,none⟩=some (.int .i64 I)∧w'.cell? (j.add ((a).toNat*7))=some (.int .i64 ((Aa Y a).f0))∧w'.cell? ⟨(j.add ((a).toNat*7)).block,(j.add ((a).toNat*7)).off+1,none⟩=some (.int .i64 ((Aa Y a).f1))∧w'.cell? ⟨(j.add ((a).toNat*7)).block,(j.add ((a).toNat*7)).off+2,none⟩=some (.int .i64 ((Aa Y a).f2.f0))∧w'.cell? ⟨(j.add ((a).toNat*7)).block,(j.add ((a).toNat*7)).off+3,none⟩=some (.int .i64 ((Aa Y a).f2.f1))∧w'.cell? ⟨(j.add ((a).toNat*7)).block,(j.add ((a).toNat*7)).off+4,none⟩=some (.int .i64 ((Aa Y a).f2.f2))∧w'.cell? ⟨(j.add ((a).toNat*7)).block,(j.add ((a).toNat*7)).off+5,none⟩=some (.int .i64 ((Aa Y a).f2.f3))∧w'.cell? ⟨(j.add ((a).toNat*7)).block,(j.add ((a).toNat*7)).off+6,none⟩=some (.string ((Aa Y a).f2.f4))) (ds:=[9]) #[false,false,false,false,false,false,false,false,false,false] (by kernel_rfl) rfl rfl ⟨(Ax q.o 0).trans rfl,(Ax q.o 1).trans rfl,(Ax q.o 2).trans rfl,(Ax q.o 3).trans rfl,(Ax q.o 4).trans rfl,(Ax q.o 5).trans rfl,((Az HB.o ca:)),((Az HB.o cb:)),((Az HB.o cd:)),((Az HB.o cf:)),((Az HB.o cg:)),((Az HB.o cj:)),((Az HB.o ck:))⟩ (λG=>?_);refine B1 Aq.Pb Aq.MW (λHT_ HW_=>?_)
        generalize ja.drew=jw at r t v u x B q HB bj bk bl bm bn bo bp G⊢
        refine Bf 0 66 ?_
        refine Bf 2 68 ?_
        refine Bf 3 69 ?_
        refine Bf 4 70 ?_
        refine Bf 5 71 ?_
        refine Fg 1 67 G ?_
        refine Fg 6 72 G ?_
        refine E7 7 73 (λK hK=>?_)
        refine C7 TU (by kernel_rfl) rfl #[.slice cq J.length ct,.agg #[.int .i64 ((Aa Y a).f2.f0),.int .i64 ((Aa Y a).f2.f1),.int .i64 ((Aa Y a).f2.f2),.int .i64 ((Aa Y a).f2.f3),.string ((Aa Y a).f2.f4)]] (by rfl) rfl rfl JV ?_
        with_reducible refine(BC.calls k2 _ _ J ((Aa Y a).f2.f0) ((Aa Y a).f2.f1) ((Aa Y a).f2.f2) ((Aa Y a).f2.f3) ((Aa Y a).f2.f4) bB _ ?q' ?z' fC.o).mono ?_
        (case q'=>repeat(first|exact(Kd.AY v.o).2.2|(with_reducible refine Kd.C_alloc ?_ _)|(with_reducible refine Kd.B_ ?_ _)|(with_reducible refine Kd.C_drew ?_)))
        (case z'=>exact(Kd.AY v.o).2.1)
        rintro e jb ⟨jq,rfl,a9,hb⟩
        refine⟨_,rfl,?_⟩
        replace r:=a_ (Kd.DA (Dj r.o) (Kd.Ch a9) hb)
        replace t:=a_ (Kd.DA (Dj t.o) (Kd.Ch a9) hb)
        replace v:=a_ (Kd.DA (Dj v.o) (Kd.Ch a9) hb)
        replace u:=a_ (Kd.DA (Dj u.o) (Kd.Ch a9) hb)
        have cA:=a_ (Kd.AU (Kd.FE (M:=λL=>(w.heap.size≤L)) a9 (Af (Ag)) (λL h_=>h_)) (Af (Ag)))
        replace HB:=Bw hb
        replace x:=a_ (Cr x.o hb)
        replace B:=a_ (Cr B.o hb)
        replace q:=a_ (Cr q.o hb)
        try clear hb a9
        obtain⟨bR,bT,dD⟩:=Kd.Be cA.o
        (first|subst dD|(injection dD with a4 bu a5;have bw:=a4.symm;have bx:=a5.symm;clear a4 bu a5;subst bw;subst bx))
        refine hK.out _ _ ⟨(Ax q.o 0).trans rfl,(Ax q.o 1).trans rfl,(Ax q.o 2).trans rfl,(Ax q.o 3).trans rfl,(Ax q.o 4).trans rfl,(Ax q.o 5).trans rfl,((Az HB.o ca:)),((Az HB.o cb:)),((Az HB.o cd:)),((Az HB.o cf:)),((Az HB.o cg:)),((Az HB.o cj:)),((Az HB.o ck:))⟩ (λG=>?_)
        clear hK K
        refine Er 73 ?_
        refine Bf 8 74 ?_
        refine Fe (i:=9) (N:=none) #[true,true,true,true,true,true,true,true,true,true] rfl rfl (Gc HT_.o (by kernel_rfl)) (by decide) (λK hK=>?_)
        have jj:jb.cell? ⟨d,2,none⟩=some (.slice cq J.length ct):=(Ax q.o 2).trans rfl
        have ie:=BU q.o 2
        have fv:=aj.o
        have fw:=ak.o
        have fp:=au.o
        have fq:=av.o
        refine EL (w1:=?_) (by rfl) rfl ?_ ?_
        rotate_left
        ·go_simp
         rfl
        refine hK.out _ _ ?_
        clear hK K
        refine CV (CT HT_.o (by kernel_rfl)) ?_
        have iz:=au.o
        have iR:=aj.o
        have iA:=av.o
        have iS:=ak.o
        obtain⟨hG,hH,hJ,hL,hM,hO,gA,gB,gC,gD,gE,gF⟩:=BT q.o
        try go_wp2
        go_roundg k2
        case measure=>have:=c_.o;have:=da.o;omega
        case rel=>exact⟨(wrap64 (a+1)),(aZ),(a0),(a2),(a3),(wrap64 (A+1)),(bB),(b),(z),(.slice bR bB.length bT),(u504003),(CA),H',⟨by have:=c_.o;have:=da.o;omega⟩,⟨by refine Dj ?_;exact Kd.AD (Kd.AA (p:=⟨d,1,none⟩) (Kd.AA (p:=⟨d,2,none⟩) (Kd.AD r.o (λL l=>(⟨l,l.1.2.2.2⟩:_∧L≠d))) (λ_ l=>l.2) (.slice bR bB.length bT)) (λ_ l=>l.2) (.int .i64 (wrap64 (A+1)))) (λ_ l=>⟨l.1.1.1,⟨l.1.1.2.1,⟨l.1.1.2.2.1,l.1.1.2.2.2⟩⟩⟩)⟩,⟨by refine Dj ?_;exact Kd.AD (Kd.AA (p:=⟨d,1,none⟩) (Kd.AA (p:=⟨d,2,none⟩) (Kd.AD t.o (λL l=>(⟨l,l.1.2.2.2⟩:_∧L≠d))) (λ_ l=>l.2) (.slice bR bB.length bT)) (λ_ l=>l.2) (.int .i64 (wrap64 (A+1)))) (λ_ l=>⟨l.1.1.1,⟨l.1.1.2.1,⟨l.1.1.2.2.1,l.1.1.2.2.2⟩⟩⟩)⟩,⟨Kd.AD (Kd.MH (Kd.CS (p:=⟨d,1,none⟩) (Kd.CS (p:=⟨d,2,none⟩) (Kd.Aj (Kd.Aj (Kd.Aj (Kd.Aj cA.o x.o (by decide)) B.o (by decide)) q.o (by decide)) q.o (by decide)) (λ_ l=>l.2) (.slice bR bB.length bT)) (λ_ l=>l.2) (.int .i64 (wrap64 (A+1))))) (λL l=>⟨.inr l.1.1.1.1.1,l.1.1.1.2,l.1.1.2,l.1.2⟩)⟩,⟨by refine Dj ?_;exact Kd.AD (Kd.AA (p:=⟨d,1,none⟩) (Kd.AA (p:=⟨d,2,none⟩) (Kd.AD u.o (λL l=>(⟨l,l.1.2.2.2⟩:_∧L≠d))) (λ_ l=>l.2) (.slice bR bB.length bT)) (λ_ l=>l.2) (.int .i64 (wrap64 (A+1)))) (λ_ l=>⟨l.1.1.1,⟨l.1.1.2.1,⟨l.1.1.2.2.1,l.1.1.2.2.2⟩⟩⟩)⟩,⟨CZ aj.o x.o⟩,⟨CZ ak.o B.o⟩,⟨by(with_reducible repeat(first|refine Fz ?_ _|refine Du ?_|refine EG ?_ _));refine BF (cs:=#[.int .i64 E,.int .i64 A,.slice bR bB.length bT,u504003,.int .i64 z,.int .i64 I]) ?_ 1 _ rfl;(with_reducible repeat(first|refine Fz ?_ _|refine Du ?_|refine EG ?_ _));refine BF (cs:=#[.int .i64 E,.int .i64 A,.slice cq J.length ct,u504003,.int .i64 z,.int .i64 I]) ?_ 2 _ rfl;(with_reducible repeat(first|refine Fz ?_ _|refine Du ?_|refine EG ?_ _));exact q.o⟩,⟨Ag⟩⟩
      ·rw[Rz db]at H
       exact absurd H (by simp)
     ·rw[Rz cv]at H
      have eV:decide (a<(Y.length:Int))=false:=C9 cv
      clear cv
      simp only[Option.some.injEq,Prod.mk.injEq]at H
      obtain⟨rfl,rfl,rfl,rfl,rfl,rfl,rfl⟩:=H
      have iB:=au.o
      have iT:=aj.o
      have iC:=av.o
      have iU:=ak.o
      obtain⟨hP,hQ,hS,hT,hU,hV,gG,gH,gI,gJ,gK,gL⟩:=BT (W:=wr) q.o
      have iD:=aG.o
      have iV:=aF.o
      obtain⟨hW,hX,hY,hZ,h2,h5,gM,gN,gO,gP,gQ,gR⟩:=BT (W:=wr) B.o
      obtain⟨cx,cQ,fj⟩:=Kd.Cd v.o
      subst fj
      obtain⟨cy,cR,fk⟩:=Kd.Cd u.o
      subst fk
      go_wp2
      refine RH (CJ rfl _ _ y 26 #[.int .i64 E,.int .i64 A,.slice cx J.length cQ,.slice cy b.length cR,.int .i64 z,.int .i64 I] (0,0) _ rfl (F4 B.o) RP rfl (by kernel_rfl)) rfl ?_
      exact⟨_,_,by first|rfl|(simp[Cp,Cq] <;> rfl)|(simp only[<-a8];first|rfl|(simp[Cp,Cq] <;> rfl))|(simp[*,Cp,Cq] <;> rfl),by refine Dj ?_;exact Kd.AD (Kd.AA (p:=⟨y,5,none⟩) (Kd.AA (p:=⟨y,4,none⟩) (Kd.AA (p:=⟨y,3,none⟩) (Kd.AA (p:=⟨y,2,none⟩) (Kd.AA (p:=⟨y,1,none⟩) (Kd.AA (p:=⟨y,0,none⟩) (Kd.AD v.o (λL l=>(⟨l,l.2.2.1⟩:_∧L≠y))) (λ_ l=>l.2) (.int .i64 E)) (λ_ l=>l.2) (.int .i64 A)) (λ_ l=>l.2) (.slice cx J.length cQ)) (λ_ l=>l.2) (.slice cy b.length cR)) (λ_ l=>l.2) (.int .i64 z)) (λ_ l=>l.2) (.int .i64 I)) (λ_ l=>l.1.1),by refine Dj ?_;exact Kd.AD (Kd.AA (p:=⟨y,5,none⟩) (Kd.AA (p:=⟨y,4,none⟩) (Kd.AA (p:=⟨y,3,none⟩) (Kd.AA (p:=⟨y,2,none⟩) (Kd.AA (p:=⟨y,1,none⟩) (Kd.AA (p:=⟨y,0,none⟩) (Kd.AD u.o (λL l=>(⟨l,l.2.2.1⟩:_∧L≠y))) (λ_ l=>l.2) (.int .i64 E)) (λ_ l=>l.2) (.int .i64 A)) (λ_ l=>l.2) (.slice cx J.length cQ)) (λ_ l=>l.2) (.slice cy b.length cR)) (λ_ l=>l.2) (.int .i64 z)) (λ_ l=>l.2) (.int .i64 I)) (λ_ l=>l.1.1),Ag⟩
end Go.Proofs.YtlhlpfnljglhoaaDoor.P
namespace Go.Proofs.YtlhlpfnljglhoaaDoor.P
open Go.RowKit Go.Proofs.YtlhlpfnljglhoaaDoorW.PrintWords Go.Proofs.YtlhlpfnljglhoaaDoorW.Bb Go.Proofs.YtlhlpfnljglhoaaDoorW.Dm
structure Hx (w W:World) (zs:List Nat) (bs:List Bx) (D:World->Prop):Prop where
 hB:Below w.heap.size w W
 B:BX w W zs (λ_=>False) bs
 hl:∀k,k∈zs->k<W.heap.size
 hD:Cx D W (λk=>k∉zs)
section
variable {w W W1:World} {zs:List Nat} {bs:List Bx} {D D':World->Prop}
theorem Hx.start(w:World):Hx w w [] [] (λ_=>True):=⟨RG _ _,BX.start _ _ _,λ_ a=>(TA a).elim,λ_ _=>trivial⟩
theorem Hx.Ja(h:Hx w W zs bs D)(hD:Cx D' W (λk=>k∉zs)):Hx w W zs bs D':=⟨h.hB,h.B,h.hl,hD⟩
theorem Hx.now(h:Hx w W zs bs D):D W:=Cx.now h.hD
theorem Hx.below(h:Hx w W zs bs D)(a:Below W.heap.size W W1):Hx w W1 zs bs D :=
 ⟨IY h.hB a,h.B.below a,λk c=>R_ (h.hl k c) a.size,Cx.step h.hD (λk _ b=>a.block k b)⟩
theorem Hx.drew(h:Hx w W zs bs D):Hx w W.drew zs bs D :=
 ⟨E2 h.hB,⟨h.B.at_,h.B.nd,h.B.ge,h.B.mem,Kept.drew h.B.hK⟩,h.hl,Cx.step h.hD (λ_ _ _=>rfl)⟩
theorem Hx.box(h:Hx w W zs bs D){a:Nat}{cs:List Value}{t:Nat}(i:a=W.heap.size)(d:Below W.heap.size W W1)(b:W1.heap[a]?=some (.cells cs.toArray t (0,0))):Hx w W1 (a::zs) (⟨a,cs,t⟩::bs) D :=
  ⟨IY h.hB d,h.B.new i d b,λk c=>(Sl.1 c).elim (λe=>e ▸ Av b) (λc=>R_ (h.hl k c) d.size),
   Cx.mono (Cx.step (Cx.bound h.hD) (λk _ g=>d.block k g)) (λk c=>not_cons c.1 (by have:=c.2;omega))⟩
theorem Hx.put(h:Hx w W zs bs D)(i j:Nat){a t:Nat}{cs:List Value}(x:Value)(c:bs[i]?=some ⟨a,cs,t⟩):Hx w (W.setCell ⟨a,j,none⟩ x) zs (bs.set i ⟨a,cs.set j x,t⟩) D:=by have hm:=So c;have b:w.heap.size≤a:=h.B.ge _ hm;have hz:a∈zs:=h.B.mem _ hm;exact⟨DK h.hB b,h.B.set i j x c,λk d=>by simpa[World.setCell]using h.hl k d,Cx.step h.hD (λk g _=>Su W ⟨a,j,none⟩ x k (λe=>g (by rw[e];exact hz)))⟩
theorem Hx.write{row:Option Nat}(h:Hx w W zs bs D)(hg:W.grownBy W1 row)(b:Below w.heap.size W W1)(d:∀k,row=some k->k∉zs∧w.heap.size≤k)(hD:Cx D' W1 (λk=>k∉zs)):Hx w W1 zs bs D' :=
 ⟨⟨b.os.trans h.hB.os,b.tape.trans h.hB.tape,b.output.trans h.hB.output,RJ h.hB.size b.size,λk a=>(b.block k a).trans (h.hB.block k a)⟩,⟨λq c=>AO (h.B.at_ q c) hg (λe=>(d _ e.symm).1 (h.B.mem q c)),h.B.nd,h.B.ge,h.B.mem,h.B.hK.DJ hg (λk a=>.inr (d k a).2)⟩,λk a=>R_ (h.hl k a) hg.size,hD⟩
theorem Hx.OZ(h:Hx w W zs bs D){k:Nat}(a:W.heap.size≤k):k∉zs:=λe=>by have:=h.hl k e;omega
theorem Hx.ID(h:Hx w W zs bs D)(i:Nat){q t:Nat}{n g e d c b b0 b1 b2 b3 b4 b5:Value}(m:bs[i]?=some ⟨q,[n,g,e,d,c,b],t⟩):Hx w ((((((W.setCell ⟨q,0,none⟩ b0).setCell ⟨q,1,none⟩ b1).setCell ⟨q,2,none⟩ b2).setCell ⟨q,3,none⟩ b3).setCell ⟨q,4,none⟩ b4).setCell ⟨q,5,none⟩ b5) zs (bs.set i ⟨q,[b0,b1,b2,b3,b4,b5],t⟩) D:=by have hl:i<bs.length:=(RL.1 m).1;have h1:=h.put i 0 b0 m;have j:=h1.put i 1 (a:=q) (cs:=[b0,g,e,d,c,b]) (t:=t) b1 (by rw[RC hl];rfl);rw[RQ]at j;have h3:=j.put i 2 (a:=q) (cs:=[b0,b1,e,d,c,b]) (t:=t) b2 (by rw[RC hl];rfl);rw[RQ]at h3;have h4:=h3.put i 3 (a:=q) (cs:=[b0,b1,b2,d,c,b]) (t:=t) b3 (by rw[RC hl];rfl);rw[RQ]at h4;have k:=h4.put i 4 (a:=q) (cs:=[b0,b1,b2,b3,c,b]) (t:=t) b4 (by rw[RC hl];rfl);rw[RQ]at k;have l:=k.put i 5 (a:=q) (cs:=[b0,b1,b2,b3,b4,b]) (t:=t) b5 (by rw[RC hl];rfl);rw[RQ]at l;exact l
theorem Hx.Q_(h:Hx w W zs bs D)(i:Nat){q t:Nat}{r k g e d c b b0 b1 b2 b3 b4 b5 j:Value}(p:bs[i]?=some ⟨q,[r,k,g,e,d,c,b],t⟩):Hx w (((((((W.setCell ⟨q,0,none⟩ b0).setCell ⟨q,1,none⟩ b1).setCell ⟨q,2,none⟩ b2).setCell ⟨q,3,none⟩ b3).setCell ⟨q,4,none⟩ b4).setCell ⟨q,5,none⟩ b5).setCell ⟨q,6,none⟩ j) zs (bs.set i ⟨q,[b0,b1,b2,b3,b4,b5,j],t⟩) D:=by have hl:i<bs.length:=(RL.1 p).1;have h1:=h.put i 0 b0 p;have l:=h1.put i 1 (a:=q) (cs:=[b0,k,g,e,d,c,b]) (t:=t) b1 (by rw[RC hl];rfl);rw[RQ]at l;have h3:=l.put i 2 (a:=q) (cs:=[b0,b1,g,e,d,c,b]) (t:=t) b2 (by rw[RC hl];rfl);rw[RQ]at h3;have h4:=h3.put i 3 (a:=q) (cs:=[b0,b1,b2,e,d,c,b]) (t:=t) b3 (by rw[RC hl];rfl);rw[RQ]at h4;have m:=h4.put i 4 (a:=q) (cs:=[b0,b1,b2,b3,d,c,b]) (t:=t) b4 (by rw[RC hl];rfl);rw[RQ]at m;have n:=m.put i 5 (a:=q) (cs:=[b0,b1,b2,b3,b4,c,b]) (t:=t) b5 (by rw[RC hl];rfl);rw[RQ]at n;have o:=n.put i 6 (a:=q) (cs:=[b0,b1,b2,b3,b4,b5,b]) (t:=t) j (by rw[RC hl];rfl);rw[RQ]at o;exact o
end
theorem BX.c7{w W:World}{zs:List Nat}{S:Nat->Prop}{bs:List Bx}(h:BX w W zs S bs)(i:Nat){g t:Nat}{a b c d e f x:Value}(k:bs[i]?=some ⟨g,[a,b,c,d,e,f,x],t⟩):W.cell? ⟨g,0,none⟩=some a∧W.cell? ⟨g,1,none⟩=some b∧W.cell? ⟨g,2,none⟩=some c∧W.cell? ⟨g,3,none⟩=some d∧W.cell? ⟨g,4,none⟩=some e∧W.cell? ⟨g,5,none⟩=some f∧W.cell? ⟨g,6,none⟩=some x∧∀j,W.frozen? ⟨g,j,none⟩=false :=
 ⟨h.cell i 0 k rfl,h.cell i 1 k rfl,h.cell i 2 k rfl,h.cell i 3 k rfl,h.cell i 4 k rfl,h.cell i 5 k rfl,h.cell i 6 k rfl,λj=>h.fr i j k⟩
theorem Oy{W:World}{g:Nat}{x:AQ}{base:Nat}{ok:Nat->Prop}(h:W.heap[g]?=some (.cells #[.int .i64 x.f0,.int .i64 x.f1,.int .i64 x.f2.f0,.int .i64 x.f2.f1,.int .i64 x.f2.f2,.int .i64 x.f2.f3,.string x.f2.f4] 32 (0,0))) :
  C0 (λy cs=>Ck.M W base ok y cs) Ck.sz W (some ⟨g,0,none⟩) 1 [x]:=by
 refine⟨rfl,by decide,λ_=>⟨⟨g,0,none⟩,rfl,λj p b=>?_⟩⟩
 have a:j=0∧p=x:=by
  cases j with
  | zero=>exact⟨rfl,(CW b).symm⟩
  | succ j=>simp at b
 obtain⟨rfl,rfl⟩:=a;refine⟨_,rfl,EX W base ok p,λi u hu=>?_⟩;rw[add_plain,Ax h];simpa using hu
end Go.Proofs.YtlhlpfnljglhoaaDoor.P
namespace Go.Proofs.YtlhlpfnljglhoaaDoor.P
open Go.RowKit Go.Proofs.YtlhlpfnljglhoaaDoorW.PrintWords Go.Proofs.YtlhlpfnljglhoaaDoorW.Bb
def Bs.j0:Nat->Bool->Int->Int->List (Ba)->List (AQ)->Int->Int->Int->Int->Int->Int->ByteArray->Int->Int->Int->Int->Int->Int->ByteArray->Option (Int×Int×(List (Ba))×(List (AQ))×Int×Int×Bool)
 | 0,_,_,_,_,_,_,_,_,_,_,_,_,_,_,_,_,_,_,_=>none
 | k+1,D,b,c,d,a,e,g,q,y,z,A,B,i,j,l,m,n,o,p=>if D=true then(some (b,c,d,a,e,g,false))else(if q=1 then((some (([]:List (AQ)):List (AQ))).bind λr=>(if r.length+a.length<2199023255552 then((some (r++a:List (AQ))).bind λt=>((some (([(⟨i,j,(⟨l,m,n,o,p⟩:E0)⟩:AQ)]:List (AQ)):List (AQ))).bind λu=>(if t.length+u.length<2199023255552 then(some (b,c,d,(t++u),e,wrap64 (g+1),true))else(none))))else(none)))else((some (([]:List (AQ)):List (AQ))).bind λv=>(if v.length+a.length<2199023255552 then((some (v++a:List (AQ))).bind λw=>((some (([(⟨i,j,(⟨l,m,n,o,p⟩:E0)⟩:AQ)]:List (AQ)):List (AQ))).bind λx=>(if w.length+x.length<2199023255552 then(some (b,c,d,(w++x),e,g,true))else(none))))else(none))))
def Bs.f(k:Nat)(a:Int)(m:Int)(n:List (Ba))(j:List (AQ))(d:Int)(l:Int)(b:Int)(c:Int)(e:Int)(g:Int)(i:ByteArray):Option (Int×Int×(List (Ba))×(List (AQ))×Int×Int×Bool):=(BA.f k a (wrap64 ((wrap64 (d+(j.length:Int)))+1)) b c e g i).bind λo=>(if o=true then(if b=1 then((C5.f a (wrap64 (l+1))).bind λp=>(Bs.j0 k (c != p) a m n j d l b c e g i a (wrap64 ((wrap64 (d+(j.length:Int)))+1)) b c e g i))else(Bs.j0 k false a m n j d l b c e g i a (wrap64 ((wrap64 (d+(j.length:Int)))+1)) b c e g i))else(Bs.j0 k true a m n j d l b c e g i a (wrap64 ((wrap64 (d+(j.length:Int)))+1)) b c e g i))
theorem Bs.calls(k:Nat)(c:Int)(X:Int)(aj:Nat->Prop)(Z:Option Addr)(ab:Nat)(E:List (Ba))(ak:Nat->Prop)(aa:Option Addr)(ae:Nat)(b:List (AQ))(d:Int)(A:Int)(g:Int)(m:Int)(o:Int)(r:Int)(u:ByteArray)(r1:Int)(r2:Int)(r3:List (Ba))(r4:List (AQ))(r5:Int)(r6:Int)(r7:Bool)(w:World)(av:Kd.V Dd 68 w w.heap.size (λk_=>aj k_) (.slice Z E.length ab) E)(aw:Kd.V Ck 32 w w.heap.size (λk_=>ak k_) (.slice aa b.length ae) b)(h:Bs.f k c X E b d A g m o r u=some (r1,r2,r3,r4,r5,r6,r7)) :
  Calls Tryd.prog 26 #[.agg #[.int .i64 c,.int .i64 X,.slice Z E.length ab,.slice aa b.length ae,.int .i64 d,.int .i64 A],.agg #[.int .i64 g,.int .i64 m,.int .i64 o,.int .i64 r,.string u]] w λe w'=>∃aG aH:Value,e=.returned (.tuple #[.agg #[.int .i64 r1,.int .i64 r2,aG,aH,.int .i64 r5,.int .i64 r6],.bool r7])∧Kd.V Dd 68 w' w.heap.size (λk_=>((aj k_∨ak k_)∨w.heap.size≤k_)) aG r3∧Kd.V Ck 32 w' w.heap.size (λk_=>((aj k_∨ak k_)∨w.heap.size≤k_)) aH r4∧Below w.heap.size w w':=by
 have aK:=RP;have aL:=RW;have aM:=Sk;have H2:=a_ av;have H3:=a_ aw;unfold Bs.f at h;replace h:=BR h;obtain⟨ok,aE,h⟩:=h;have HE:=a_ aE;have M:=a_ (Hx.start w);clear aE av aw;go_enter Tryd.func26,Tryd.ntmps26
 go_upto_region 2 with(first
  | ((with_reducible refine BV (N:=2) rfl ?_);refine Cy 2 (#[.int .i64 c,.int .i64 X,.slice Z E.length ab,.slice aa b.length ae,.int .i64 d,.int .i64 A]) 26 ?_;intro gA hg w1 B U;have D:=M.o.box (cs:=[.int .i64 c,.int .i64 X,.slice Z E.length ab,.slice aa b.length ae,.int .i64 d,.int .i64 A]) hg U B;clear M B U hg;have M:=a_ D;clear D)
  | ((with_reducible refine BV (N:=3) rfl ?_);refine Cy 3 (#[.int .i64 g,.int .i64 m,.int .i64 o,.int .i64 r,.string u]) 30 ?_;intro gO hg w2 B U;have D:=M.o.box (cs:=[.int .i64 g,.int .i64 m,.int .i64 o,.int .i64 r,.string u]) hg U B;clear M B U hg;have M:=a_ D;clear D)
  | ((with_reducible refine BV (N:=4) rfl ?_);refine Cy 4 (#[.int .i64 0,.int .i64 0,.slice none 0 0,.slice none 0 0,.int .i64 0,.int .i64 0]) 26 ?_;intro gR hg w3 B U;have D:=M.o.box (cs:=[.int .i64 0,.int .i64 0,.slice none 0 0,.slice none 0 0,.int .i64 0,.int .i64 0]) hg U B;clear M B U hg;have M:=a_ D;clear D;obtain⟨p0,p1,p2,Y,p4,p5,py⟩:=M.o.B.c6 2 rfl;obtain⟨o0,o1,o2,o3,o4,oy⟩:=M.o.B.c5 1 rfl;obtain⟨t0,t1,t2,t3,t4,t5,ty⟩:=M.o.B.c6 0 rfl)
  | ((with_reducible refine BV (N:=6) rfl ?_);refine Cy 6 (#[.int .i64 0,.int .i64 0,.int .i64 0,.int .i64 0,.int .i64 0,.int .i64 0,.string ⟨#[]⟩]) 32 ?_;intro z hg w4 B U;have D:=M.o.box (cs:=[.int .i64 0,.int .i64 0,.int .i64 0,.int .i64 0,.int .i64 0,.int .i64 0,.string ⟨#[]⟩]) hg U B;clear M p0 p1 p2 Y p4 p5 py o0 o1 o2 o3 o4 oy t0 t1 t2 t3 t4 t5 ty B U hg;have M:=a_ D;clear D;obtain⟨p0,p1,p2,Y,p4,p5,py⟩:=M.o.B.c6 3 rfl;obtain⟨o0,o1,o2,o3,o4,oy⟩:=M.o.B.c5 2 rfl;obtain⟨t0,t1,t2,t3,t4,t5,ty⟩:=M.o.B.c6 1 rfl;obtain⟨G,I,J,L,O,P,T,ey⟩:=M.o.B.c7 0 rfl)
  | ((with_reducible refine Dc (t:=32) (p:=6) rfl ?_);refine CY (t:=32) (p:=6) (v:=?q') (w1:=(((((((w4.setCell ⟨z,0,none⟩ (.int .i64 c)).setCell ⟨z,1,none⟩ (.int .i64 (wrap64 (wrap64 (d+(b.length:Int))+1)))).setCell ⟨z,2,none⟩ (.int .i64 g)).setCell ⟨z,3,none⟩ (.int .i64 m)).setCell ⟨z,4,none⟩ (.int .i64 o)).setCell ⟨z,5,none⟩ (.int .i64 r)).setCell ⟨z,6,none⟩ (.string u))) ?hg ?ho ?hn ?hr ?_;(case ho=>rfl);(case hg=>rfl);(case hn=>rfl);(case hr=>first|(go_simp;done)|(go_simp;rfl));intro w5 hw;have D:Hx w _ [z,gR,gO,gA] [⟨z,[.int .i64 c,.int .i64 (wrap64 (wrap64 (d+(b.length:Int))+1)),.int .i64 g,.int .i64 m,.int .i64 o,.int .i64 r,.string u],32⟩,⟨gR,[.int .i64 0,.int .i64 0,.slice none 0 0,.slice none 0 0,.int .i64 0,.int .i64 0],26⟩,⟨gO,[.int .i64 g,.int .i64 m,.int .i64 o,.int .i64 r,.string u],30⟩,⟨gA,[.int .i64 c,.int .i64 X,.slice Z E.length ab,.slice aa b.length ae,.int .i64 d,.int .i64 A],26⟩] _:=M.o.Q_ 0 rfl;rw[<-hw]at D;clear M hw p0 p1 p2 Y p4 p5 py o0 o1 o2 o3 o4 oy t0 t1 t2 t3 t4 t5 ty G I J L O P T ey;have M:=a_ D;clear D;obtain⟨p0,p1,p2,Y,p4,p5,py⟩:=M.o.B.c6 3 rfl;obtain⟨o0,o1,o2,o3,o4,oy⟩:=M.o.B.c5 2 rfl;obtain⟨t0,t1,t2,t3,t4,t5,ty⟩:=M.o.B.c6 1 rfl;obtain⟨G,I,J,L,O,P,T,ey⟩:=M.o.B.c7 0 rfl))
 cases k with
 | zero =>
  exfalso
  have h0:∀x:Bool,(Bs.j0 0 x c X E b d A g m o r u c (wrap64 (wrap64 (d+(b.length:Int))+1)) g m o r u)=none:=λ_=>rfl
  simp only[h0]at h
  split at h
  ·split at h
   ·obtain⟨_,_,h⟩:=BR h;exact absurd h (by simp)
   ·exact absurd h (by simp)
  ·exact absurd h (by simp)
 | succ k =>
  cases ok with
  | false =>
   rw[Rz (by decide)]at h
   simp only[Bs.j0,if_true]at h
   simp only[Option.some.injEq,Prod.mk.injEq]at h;obtain⟨rfl,rfl,rfl,rfl,rfl,rfl,rfl⟩:=h
   have Md:=a_ M.o.drew
   clear M
   have M:=Md
   clear Md
   refine Cl (n:=19) (S:=λw'=>w'.cell? ⟨z,0,none⟩=some (.int .i64 c)∧w'.cell? ⟨z,1,none⟩=some (.int .i64 (wrap64 (wrap64 (d+(b.length:Int))+1)))∧w'.cell? ⟨z,2,none⟩=some (.int .i64 g)∧w'.cell? ⟨z,3,none⟩=some (.int .i64 m)∧w'.cell? ⟨z,4,none⟩=some (.int .i64 o)∧w'.cell? ⟨z,5,none⟩=some (.int .i64 r)∧w'.cell? ⟨z,6,none⟩=some (.string u)∧w'.cell? ⟨gO,0,none⟩=some (.int .i64 g)∧w'.cell? ⟨gO,1,none⟩=some (.int .i64 m)∧w'.cell? ⟨gA,0,none⟩=some (.int .i64 c)∧w'.cell? ⟨gA,5,none⟩=some (.int .i64 A)) (ds:=[]) #[false,false,false,false,false,false,false,false,false,false,false,false,false,false,false,false,false,false,false] (by kernel_rfl) rfl rfl ⟨G,I,J,L,O,P,T,o0,o1,p0,p5⟩ (λy=>?_)
   refine F5 0 18 y ?_
   refine E7 1 19 (λK hK=>?_)
   refine C7 SW (by kernel_rfl) rfl #[.agg #[.int .i64 c,.int .i64 (wrap64 (wrap64 (d+(b.length:Int))+1)),.int .i64 g,.int .i64 m,.int .i64 o,.int .i64 r,.string u]] (by rfl) rfl rfl (by simp only[List.map_toArray,List.map_cons,List.map_nil];rfl) ?_
   with_reducible refine(BA.calls (k+1) c (wrap64 (wrap64 (d+(b.length:Int))+1)) g m o r u false _ HE.o).mono ?_
   rintro e w6 ⟨rfl,U⟩
   refine⟨_,rfl,?_⟩
   have D:=M.o.below U
   clear M U p0 p1 p2 Y p4 p5 py o0 o1 o2 o3 o4 oy t0 t1 t2 t3 t4 t5 ty G I J L O P T ey
   have M:=a_ D
   clear D
   obtain⟨p0,p1,p2,Y,p4,p5,py⟩:=M.o.B.c6 3 rfl;obtain⟨o0,o1,o2,o3,o4,oy⟩:=M.o.B.c5 2 rfl;obtain⟨t0,t1,t2,t3,t4,t5,ty⟩:=M.o.B.c6 1 rfl;obtain⟨G,I,J,L,O,P,T,ey⟩:=M.o.B.c7 0 rfl
   refine hK.out _ _ ⟨G,I,J,L,O,P,T,o0,o1,p0,p5⟩ (λy=>?_)
   clear hK K
   refine Er 19 ?_
   refine Bf 2 20 ?_
   refine Bf 3 21 ?_
   refine DD 4 22 ?_
   refine DD 5 23 ?_
   refine DD 6 24 ?_
   refine DD 7 25 ?_
   refine DD 8 26 ?_
   refine DD 9 27 ?_
   refine DD 10 28 ?_
   refine DD 11 29 ?_
   refine DD 12 30 ?_
   refine DD 13 31 ?_
   refine DD 14 32 ?_
   refine DD 15 33 ?_
   refine DD 16 34 ?_
   refine DD 17 35 ?_
   refine Bf 18 36 ?_
   refine CV (by kernel_rfl) ?_
   have ax:gR≠gA:=M.o.B.ne (i:=1) (i':=3) rfl rfl (by decide)
   have aF:gA≠gR:=λe=>ax e.symm
   go_wp2
   have D2:Hx w _ _ _ _:=M.o.ID 1 (b0:=.int .i64 c) (b1:=.int .i64 X) (b2:=.slice Z E.length ab) (b3:=.slice aa b.length ae) (b4:=.int .i64 d) (b5:=.int .i64 A) rfl
   have DB:=D2.B.Ex 1 rfl
   refine RH (CJ rfl _ _ gR 26 #[.int .i64 c,.int .i64 X,.slice Z E.length ab,.slice aa b.length ae,.int .i64 d,.int .i64 A] (0,0) _ rfl DB RP rfl (by kernel_rfl)) rfl ?_
   exact⟨_,_,rfl,Kd.AD (Kd.Bh H2.o D2.hB) (λk hk=>.inl (.inl hk)),Kd.AD (Kd.Bh H3.o D2.hB) (λk hk=>.inl (.inr hk)),D2.hB⟩
  | true =>
   rw[Ry rfl]at h
   have HP:=a_ (show(A=A)from rfl)
   rcases Classical.em (g=1)with k1|k1
   rotate_left
   rw[Rz k1]at h
   have cb:(g==1)=false:=Dr k1
   simp only[Bs.j0,Bool.false_eq_true,if_false]at h
   rw[Rz k1]at h
   have Md:=a_ M.o.drew
   clear M
   have M:=Md
   clear Md
   refine Cl (n:=19) (S:=λw'=>w'.cell? ⟨z,0,none⟩=some (.int .i64 c)∧w'.cell? ⟨z,1,none⟩=some (.int .i64 (wrap64 (wrap64 (d+(b.length:Int))+1)))∧w'.cell? ⟨z,2,none⟩=some (.int .i64 g)∧w'.cell? ⟨z,3,none⟩=some (.int .i64 m)∧w'.cell? ⟨z,4,none⟩=some (.int .i64 o)∧w'.cell? ⟨z,5,none⟩=some (.int .i64 r)∧w'.cell? ⟨z,6,none⟩=some (.string u)∧w'.cell? ⟨gO,0,none⟩=some (.int .i64 g)∧w'.cell? ⟨gO,1,none⟩=some (.int .i64 m)∧w'.cell? ⟨gA,0,none⟩=some (.int .i64 c)∧w'.cell? ⟨gA,5,none⟩=some (.int .i64 A)) (ds:=[]) #[false,false,false,false,false,false,false,false,false,false,false,false,false,false,false,false,false,false,false] (by kernel_rfl) rfl rfl ⟨G,I,J,L,O,P,T,o0,o1,p0,p5⟩ (λy=>?_)
   refine F5 0 18 y ?_
   refine E7 1 19 (λK hK=>?_)
   refine C7 SW (by kernel_rfl) rfl #[.agg #[.int .i64 c,.int .i64 (wrap64 (wrap64 (d+(b.length:Int))+1)),.int .i64 g,.int .i64 m,.int .i64 o,.int .i64 r,.string u]] (by rfl) rfl rfl (by simp only[List.map_toArray,List.map_cons,List.map_nil];rfl) ?_
   with_reducible refine(BA.calls (k+1) c (wrap64 (wrap64 (d+(b.length:Int))+1)) g m o r u true _ HE.o).mono ?_
   rintro e w6 ⟨rfl,U⟩
   refine⟨_,rfl,?_⟩
   have D:=M.o.below U
   clear M U p0 p1 p2 Y p4 p5 py o0 o1 o2 o3 o4 oy t0 t1 t2 t3 t4 t5 ty G I J L O P T ey
   have M:=a_ D
   clear D
   obtain⟨p0,p1,p2,Y,p4,p5,py⟩:=M.o.B.c6 3 rfl;obtain⟨o0,o1,o2,o3,o4,oy⟩:=M.o.B.c5 2 rfl;obtain⟨t0,t1,t2,t3,t4,t5,ty⟩:=M.o.B.c6 1 rfl;obtain⟨G,I,J,L,O,P,T,ey⟩:=M.o.B.c7 0 rfl
   refine hK.out _ _ ⟨G,I,J,L,O,P,T,o0,o1,p0,p5⟩ (λy=>?_)
   clear hK K
   refine Er 19 ?_
   refine Bf 2 20 ?_
   refine Bf 3 21 ?_
   refine Bf 4 22 ?_
   refine F5 5 23 y ?_
   refine Bf 6 24 ?_
   refine Bf 7 25 ?_
   refine DD 8 26 ?_
   refine DD 9 27 ?_
   refine DD 10 28 ?_
   refine DD 11 29 ?_
   refine DD 12 30 ?_
   refine DD 13 31 ?_
   refine DD 14 32 ?_
   refine DD 15 33 ?_
   refine DD 16 34 ?_
   refine Bf 17 35 ?_
   refine Bf 18 36 ?_
   refine CV (by kernel_rfl) ?_
   obtain⟨mm,ao⟩:∃x,x=A:=⟨_,rfl⟩
   go_upto_region 6 with(fail)
   rw[<-ao]at h
   obtain⟨w8,aq⟩:∃x,x=w6:=⟨_,rfl⟩
   rw[<-aq]
   have D:Hx w w8 [z,gR,gO,gA] [⟨z,[.int .i64 c,.int .i64 (wrap64 (wrap64 (d+(b.length:Int))+1)),.int .i64 g,.int .i64 m,.int .i64 o,.int .i64 r,.string u],32⟩,⟨gR,[.int .i64 0,.int .i64 0,.slice none 0 0,.slice none 0 0,.int .i64 0,.int .i64 0],26⟩,⟨gO,[.int .i64 g,.int .i64 m,.int .i64 o,.int .i64 r,.string u],30⟩,⟨gA,[.int .i64 c,.int .i64 X,.slice Z E.length ab,.slice aa b.length ae,.int .i64 d,.int .i64 mm],26⟩] (λ_=>True):=by rw[aq,ao];exact M.o
   clear M p0 p1 p2 Y p4 p5 py o0 o1 o2 o3 o4 oy t0 t1 t2 t3 t4 t5 ty G I J L O P T ey
   have M:=a_ D
   clear D ao cb k1 aq
   rotate_left
   rw[Ry k1]at h
   have cb:(g==1)=true:=RO.mpr k1
   have K1:=a_ k1
   clear k1
   replace h:=BR h;obtain⟨mv,aD,h⟩:=h
   have HM:=a_ aD
   clear aD
   have Md:=a_ M.o.drew
   clear M
   have M:=Md
   clear Md
   refine Cl (n:=19) (S:=λw'=>w'.cell? ⟨z,0,none⟩=some (.int .i64 c)∧w'.cell? ⟨z,1,none⟩=some (.int .i64 (wrap64 (wrap64 (d+(b.length:Int))+1)))∧w'.cell? ⟨z,2,none⟩=some (.int .i64 g)∧w'.cell? ⟨z,3,none⟩=some (.int .i64 m)∧w'.cell? ⟨z,4,none⟩=some (.int .i64 o)∧w'.cell? ⟨z,5,none⟩=some (.int .i64 r)∧w'.cell? ⟨z,6,none⟩=some (.string u)∧w'.cell? ⟨gO,0,none⟩=some (.int .i64 g)∧w'.cell? ⟨gO,1,none⟩=some (.int .i64 m)∧w'.cell? ⟨gA,0,none⟩=some (.int .i64 c)∧w'.cell? ⟨gA,5,none⟩=some (.int .i64 A)) (ds:=[]) #[false,false,false,false,false,false,false,false,false,false,false,false,false,false,false,false,false,false,false] (by kernel_rfl) rfl rfl ⟨G,I,J,L,O,P,T,o0,o1,p0,p5⟩ (λy=>?_)
   refine F5 0 18 y ?_
   refine E7 1 19 (λK hK=>?_)
   refine C7 SW (by kernel_rfl) rfl #[.agg #[.int .i64 c,.int .i64 (wrap64 (wrap64 (d+(b.length:Int))+1)),.int .i64 g,.int .i64 m,.int .i64 o,.int .i64 r,.string u]] (by rfl) rfl rfl (by simp only[List.map_toArray,List.map_cons,List.map_nil];rfl) ?_
   with_reducible refine(BA.calls (k+1) c (wrap64 (wrap64 (d+(b.length:Int))+1)) g m o r u true _ HE.o).mono ?_
   rintro e w6 ⟨rfl,U⟩
   refine⟨_,rfl,?_⟩
   have D:=M.o.below U
   clear M U p0 p1 p2 Y p4 p5 py o0 o1 o2 o3 o4 oy t0 t1 t2 t3 t4 t5 ty G I J L O P T ey
   have M:=a_ D
   clear D
   obtain⟨p0,p1,p2,Y,p4,p5,py⟩:=M.o.B.c6 3 rfl;obtain⟨o0,o1,o2,o3,o4,oy⟩:=M.o.B.c5 2 rfl;obtain⟨t0,t1,t2,t3,t4,t5,ty⟩:=M.o.B.c6 1 rfl;obtain⟨G,I,J,L,O,P,T,ey⟩:=M.o.B.c7 0 rfl
   refine hK.out _ _ ⟨G,I,J,L,O,P,T,o0,o1,p0,p5⟩ (λy=>?_)
   clear hK K
   refine Er 19 ?_
   refine Bf 2 20 ?_
   refine Bf 3 21 ?_
   refine Bf 4 22 ?_
   refine F5 5 23 y ?_
   refine Bf 6 24 ?_
   refine Bf 7 25 ?_
   refine Bf 8 26 ?_
   refine Bf 10 28 ?_
   refine Bf 12 30 ?_
   refine F5 9 27 y ?_
   refine F5 11 29 y ?_
   refine F5 13 31 y ?_
   refine Bf 14 32 ?_
   refine E7 15 33 (λK hK=>?_)
   refine C7 Tryd.func44 (by kernel_rfl) rfl #[.int .i64 c,.int .i64 (wrap64 (A+1))] (by rfl) rfl rfl (by simp only[List.map_toArray,List.map_cons,List.map_nil];rfl) ?_
   with_reducible refine(C5.calls c (wrap64 (A+1)) mv _ HM.o).mono ?_
   rintro e w7 ⟨rfl,hd⟩
   refine⟨_,rfl,?_⟩
   have D:=M.o.below hd.below
   clear M hd p0 p1 p2 Y p4 p5 py o0 o1 o2 o3 o4 oy t0 t1 t2 t3 t4 t5 ty G I J L O P T ey
   have M:=a_ D
   clear D
   obtain⟨p0,p1,p2,Y,p4,p5,py⟩:=M.o.B.c6 3 rfl;obtain⟨o0,o1,o2,o3,o4,oy⟩:=M.o.B.c5 2 rfl;obtain⟨t0,t1,t2,t3,t4,t5,ty⟩:=M.o.B.c6 1 rfl;obtain⟨G,I,J,L,O,P,T,ey⟩:=M.o.B.c7 0 rfl
   refine hK.out _ _ ⟨G,I,J,L,O,P,T,o0,o1,p0,p5⟩ (λy=>?_)
   clear hK K
   refine Er 33 ?_
   refine Bf 16 34 ?_
   refine Bf 17 35 ?_
   refine Bf 18 36 ?_
   refine CV (by kernel_rfl) ?_
   by_cases cm:(m != mv)=true
   ·rw[cm]at h
    simp only[Bs.j0,if_true]at h
    simp only[Option.some.injEq,Prod.mk.injEq]at h;obtain⟨rfl,rfl,rfl,rfl,rfl,rfl,rfl⟩:=h
    have ax:gR≠gA:=M.o.B.ne (i:=1) (i':=3) rfl rfl (by decide)
    have aF:gA≠gR:=λe=>ax e.symm
    go_wp2
    have D2:Hx w _ _ _ _:=M.o.ID 1 (b0:=.int .i64 c) (b1:=.int .i64 X) (b2:=.slice Z E.length ab) (b3:=.slice aa b.length ae) (b4:=.int .i64 d) (b5:=.int .i64 A) rfl
    have DB:=D2.B.Ex 1 rfl
    refine RH (CJ rfl _ _ gR 26 #[.int .i64 c,.int .i64 X,.slice Z E.length ab,.slice aa b.length ae,.int .i64 d,.int .i64 A] (0,0) _ rfl DB RP rfl (by kernel_rfl)) rfl ?_
    exact⟨_,_,rfl,Kd.AD (Kd.Bh H2.o D2.hB) (λk hk=>.inl (.inl hk)),Kd.AD (Kd.Bh H3.o D2.hB) (λk hk=>.inl (.inr hk)),D2.hB⟩
   have aB:(m != mv)=false:=by simpa using cm
   rw[aB]at h
   clear cm
   simp only[Bs.j0,Bool.false_eq_true,if_false]at h
   rw[Ry K1.o]at h
   obtain⟨mm,ao⟩:∃x,x=wrap64 (A+1):=⟨_,rfl⟩
   go_upto_region 6 with(fail)
   rw[<-ao]at h
   obtain⟨w8,aq⟩:∃x,x=(w7.setCell ⟨gA,5,none⟩ (.int .i64 (wrap64 (A+1)))):=⟨_,rfl⟩
   rw[<-aq]
   have D:Hx w w8 [z,gR,gO,gA] [⟨z,[.int .i64 c,.int .i64 (wrap64 (wrap64 (d+(b.length:Int))+1)),.int .i64 g,.int .i64 m,.int .i64 o,.int .i64 r,.string u],32⟩,⟨gR,[.int .i64 0,.int .i64 0,.slice none 0 0,.slice none 0 0,.int .i64 0,.int .i64 0],26⟩,⟨gO,[.int .i64 g,.int .i64 m,.int .i64 o,.int .i64 r,.string u],30⟩,⟨gA,[.int .i64 c,.int .i64 X,.slice Z E.length ab,.slice aa b.length ae,.int .i64 d,.int .i64 mm],26⟩] (λ_=>True):=by rw[aq,ao];exact M.o.put 3 5 (.int .i64 (wrap64 (A+1))) rfl
   clear M p0 p1 p2 Y p4 p5 py o0 o1 o2 o3 o4 oy t0 t1 t2 t3 t4 t5 ty G I J L O P T ey
   have M:=a_ D
   clear D ao cb aB K1 HM aq
   all_goals(
    simp only[Option.bind_some,List.nil_append,List.length_nil,List.length_singleton,Nat.zero_add]at h
    split at h
    rotate_left
    ·exact absurd h (by simp)
    split at h
    rotate_left
    ·exact absurd h (by simp)
    rename_i aJ aC
    have LG:=a_ aC
    clear aJ aC
    obtain⟨ln,az⟩:∃l:List AQ,l=b++[(⟨c,(wrap64 (wrap64 (d+(b.length:Int))+1)),⟨g,m,o,r,u⟩⟩:AQ)]:=⟨_,rfl⟩
    rw[<-az]at h
    have aI:=a_ az
    clear az
    simp only[Option.some.injEq,Prod.mk.injEq]at h;obtain⟨rfl,rfl,rfl,rfl,rfl,rfl,rfl⟩:=h
    obtain⟨p0,p1,p2,Y,p4,p5,py⟩:=M.o.B.c6 3 rfl;obtain⟨o0,o1,o2,o3,o4,oy⟩:=M.o.B.c5 2 rfl;obtain⟨t0,t1,t2,t3,t4,t5,ty⟩:=M.o.B.c6 1 rfl;obtain⟨G,I,J,L,O,P,T,ey⟩:=M.o.B.c7 0 rfl
    have Md:=a_ M.o.drew
    clear M
    have M:=Md
    clear Md
    refine Cl (n:=9) (S:=λw'=>w'.cell? ⟨gA,3,none⟩=some (.slice aa b.length ae)∧w'.cell? ⟨z,0,none⟩=some (.int .i64 c)∧w'.cell? ⟨z,1,none⟩=some (.int .i64 (wrap64 (wrap64 (d+(b.length:Int))+1)))∧w'.cell? ⟨z,2,none⟩=some (.int .i64 g)∧w'.cell? ⟨z,3,none⟩=some (.int .i64 m)∧w'.cell? ⟨z,4,none⟩=some (.int .i64 o)∧w'.cell? ⟨z,5,none⟩=some (.int .i64 r)∧w'.cell? ⟨z,6,none⟩=some (.string u)) (ds:=[8]) #[false,false,false,false,false,false,false,false,false] (by kernel_rfl) rfl rfl ⟨Y,G,I,J,L,O,P,T⟩ (λy=>?_)
    generalize w8.drew=w9 at M y⊢
    refine Bf 1 46 ?_
    refine QT 2 47 y ?_
    refine QT 4 49 y ?_
    refine Nd (σ:=Value×Value×Nat) 3 #[true,true,true,true,true,true,false,false,false] ((λs=>[(45,s.1),(48,s.2.1),(50,.slice (some ⟨s.2.2,0,none⟩) 1 1)])) ((λs w'=>Ac (Hx w w' [s.2.2,z,gR,gO,gA] [⟨s.2.2,[.int .i64 c,.int .i64 (wrap64 (wrap64 (d+(b.length:Int))+1)),.int .i64 g,.int .i64 m,.int .i64 o,.int .i64 r,.string u],32⟩,⟨z,[.int .i64 c,.int .i64 (wrap64 (wrap64 (d+(b.length:Int))+1)),.int .i64 g,.int .i64 m,.int .i64 o,.int .i64 r,.string u],32⟩,⟨gR,[.int .i64 0,.int .i64 0,.slice none 0 0,.slice none 0 0,.int .i64 0,.int .i64 0],26⟩,⟨gO,[.int .i64 g,.int .i64 m,.int .i64 o,.int .i64 r,.string u],30⟩,⟨gA,[.int .i64 c,.int .i64 X,.slice Z E.length ab,.slice aa b.length ae,.int .i64 d,.int .i64 mm],26⟩] (λW=>Kd.R Ck 32 W w.heap.size (λk=>k∉[s.2.2,z,gR,gO,gA]) s.2.1 b)))) ?_ ?_
    rotate_left
    ·intro al
     refine NM (i:=0) (j:=5) (Ni:=some 45) (Nj:=some 50) #[true,true,true,false,true,false,false,false,false] #[false,true,true,false,true,true,false,false,false] rfl rfl rfl rfl (by kernel_rfl) (by decide) (by decide) (λK hK=>?_) (λK hK=>?_)
     ·skip
      refine Kd.DU Ck _ 32 ?hg (N:=45) ?hd (xs:=([]:List AQ)) (inner:=[]) (ok:=λk=>k∉[z,gR,gO,gA]) (okp:=λ_=>False) ?hr ?hp (λ_ h=>h.elim) (M.o.OZ (RB _)) (RG _ _) (RB _) (by simp) ?_;(case hd=>rfl);(case hg=>rfl);(case hr=>first|(go_simp;done)|(go_simp;rfl));(case hp=>exact(Bn.none _ _))
      intro ah wa ho U DN au
      have hr:=Kd.AU ho M.o.hB.size
      have D:=(M.o.below U).Ja (D':=(λW=>Kd.R Ck 32 W w.heap.size (λk=>k∉[z,gR,gO,gA]) ah [])) (λW' hW=>Kd.Eo hr hW)
      clear ho U DN au hr
      clear M p0 p1 p2 Y p4 p5 py o0 o1 o2 o3 o4 oy t0 t1 t2 t3 t4 t5 ty G I J L O P T ey
      have M:=a_ D
      clear D
      obtain⟨p0,p1,p2,Y,p4,p5,py⟩:=M.o.B.c6 3 rfl;obtain⟨o0,o1,o2,o3,o4,oy⟩:=M.o.B.c5 2 rfl;obtain⟨t0,t1,t2,t3,t4,t5,ty⟩:=M.o.B.c6 1 rfl;obtain⟨G,I,J,L,O,P,T,ey⟩:=M.o.B.c7 0 rfl
      refine hK.out _ _ ⟨Y,G,I,J,L,O,P,T⟩ (λy=>?_)
      clear hK K
      refine Er 45 ?_
      refine NM (i:=3) (j:=5) (Ni:=some 48) (Nj:=some 50) #[true,true,true,true,true,false,false,false,false] #[true,true,true,false,true,true,false,false,false] rfl rfl rfl rfl (by kernel_rfl) (by decide) (by decide) (λK hK=>?_) (λK hK=>?_)
      ·skip
       refine Kd.Cb Ck w.heap.size (by rfl) (.tmp 45) (.tmp 47) 24 32 (.agg #[(.int .i64 0),(.int .i64 0),(.int .i64 0),(.int .i64 0),(.int .i64 0),(.int .i64 0),(.string ⟨#[]⟩)]) 64 rfl R8 Dv rfl (by decide) (by omega) ah [] b _ _ _ (λk=>k∉[z,gR,gO,gA]) (λ_=>False) rfl rfl M.o.now ((Kd.AY (Kd.Bh H3.o M.o.hB)).2.2) (λ_ _ h=>h) (λ_ h=>h.elim) (λk hk=>M.o.OZ hk) (RG _ _) M.o.hB.size (by have:=LG.o;(try simp only[List.length_nil,List.length_singleton]);omega) ?_
       intro ai ar ho U hg an
       rw[SZ]at ho
       have D:=M.o.write hg U (λk hk=>⟨M.o.now.1 k hk,((Kd.C4 M.o.now).1 k hk).2.1⟩) (D':=(λW=>Kd.R Ck 32 W w.heap.size (λk=>k∉[z,gR,gO,gA]) ai b)) (λW' hW=>Kd.Eo ho hW)
       clear ho U hg an
       clear M p0 p1 p2 Y p4 p5 py o0 o1 o2 o3 o4 oy t0 t1 t2 t3 t4 t5 ty G I J L O P T ey
       have M:=a_ D
       clear D
       obtain⟨p0,p1,p2,Y,p4,p5,py⟩:=M.o.B.c6 3 rfl;obtain⟨o0,o1,o2,o3,o4,oy⟩:=M.o.B.c5 2 rfl;obtain⟨t0,t1,t2,t3,t4,t5,ty⟩:=M.o.B.c6 1 rfl;obtain⟨G,I,J,L,O,P,T,ey⟩:=M.o.B.c7 0 rfl
       refine hK.out _ _ ⟨Y,G,I,J,L,O,P,T⟩ (λy=>?_)
       clear hK K
       refine Er 48 ?_
       refine E7 5 50 (λK hK=>?_)
       refine Gi (w1:=?_) (v:=?_) (by rfl) rfl ?_ ?_
       rotate_left 2
       ·go_simp
        constructor
        ·rfl
        ·rfl
       obtain⟨ay,ag⟩:∃x,x=World.alloc ar (.cells #[.int .i64 c,.int .i64 (wrap64 (wrap64 (d+(b.length:Int))+1)),.int .i64 g,.int .i64 m,.int .i64 o,.int .i64 r,.string u] 32 (0,0)):=⟨_,rfl⟩
       have U:Below ar.heap.size ar ay:=by rw[ag];exact FT (RG _ _) _
       have B:ay.heap[ar.heap.size]?=some (.cells #[.int .i64 c,.int .i64 (wrap64 (wrap64 (d+(b.length:Int))+1)),.int .i64 g,.int .i64 m,.int .i64 o,.int .i64 r,.string u] 32 (0,0)):=by rw[ag];exact EW _ _
       have D0:=M.o.box (a:=ar.heap.size) (cs:=[.int .i64 c,.int .i64 (wrap64 (wrap64 (d+(b.length:Int))+1)),.int .i64 g,.int .i64 m,.int .i64 o,.int .i64 r,.string u]) rfl U B
       have hr:Kd.R Ck 32 ay w.heap.size (λk=>k∉(ar.heap.size::[z,gR,gO,gA])) ai b:=Kd.AJ (Kd.Ai (Kd.C4 M.o.now) (λk hk e=>(Sl.1 e).elim (λq=>by have:=hk.2.2.1;omega) hk.1)) U
       rw[<-ag]
       obtain⟨af,hg⟩:∃x,x=ar.heap.size:=⟨_,rfl⟩
       rw[<-hg]at D0 hr
       rw[<-hg]
       have D:=D0.Ja (D':=(λW=>Kd.R Ck 32 W w.heap.size (λk=>k∉[af,z,gR,gO,gA]) ai b)) (λW' hW=>Kd.Eo hr hW)
       clear D0 U B ag hg hr
       clear M p0 p1 p2 Y p4 p5 py o0 o1 o2 o3 o4 oy t0 t1 t2 t3 t4 t5 ty G I J L O P T ey
       have M:=a_ D
       clear D
       obtain⟨p0,p1,p2,Y,p4,p5,py⟩:=M.o.B.c6 4 rfl;obtain⟨o0,o1,o2,o3,o4,oy⟩:=M.o.B.c5 3 rfl;obtain⟨t0,t1,t2,t3,t4,t5,ty⟩:=M.o.B.c6 2 rfl;obtain⟨G,I,J,L,O,P,T,ey⟩:=M.o.B.c7 1 rfl
       refine hK.out _ _ ⟨Y,G,I,J,L,O,P,T⟩ (λy=>?_)
       clear hK K
       refine Er 50 ?_
       exact FI (by simp only[Ff,Act.put,List.setIfInBounds_toArray,List.set_cons_zero,List.set_cons_succ]) (al (ah,ai,af) _ M)
      ·skip
       refine Gi (w1:=?_) (v:=?_) (by rfl) rfl ?_ ?_
       rotate_left 2
       ·go_simp
        constructor
        ·rfl
        ·rfl
       obtain⟨aA,ag⟩:∃x,x=World.alloc wa (.cells #[.int .i64 c,.int .i64 (wrap64 (wrap64 (d+(b.length:Int))+1)),.int .i64 g,.int .i64 m,.int .i64 o,.int .i64 r,.string u] 32 (0,0)):=⟨_,rfl⟩
       have U:Below wa.heap.size wa aA:=by rw[ag];exact FT (RG _ _) _
       have B:aA.heap[wa.heap.size]?=some (.cells #[.int .i64 c,.int .i64 (wrap64 (wrap64 (d+(b.length:Int))+1)),.int .i64 g,.int .i64 m,.int .i64 o,.int .i64 r,.string u] 32 (0,0)):=by rw[ag];exact EW _ _
       have D0:=M.o.box (a:=wa.heap.size) (cs:=[.int .i64 c,.int .i64 (wrap64 (wrap64 (d+(b.length:Int))+1)),.int .i64 g,.int .i64 m,.int .i64 o,.int .i64 r,.string u]) rfl U B
       have hr:Kd.R Ck 32 aA w.heap.size (λk=>k∉(wa.heap.size::[z,gR,gO,gA])) ah []:=Kd.AJ (Kd.Ai (Kd.C4 M.o.now) (λk hk e=>(Sl.1 e).elim (λq=>by have:=hk.2.2.1;omega) hk.1)) U
       rw[<-ag]
       obtain⟨af,hg⟩:∃x,x=wa.heap.size:=⟨_,rfl⟩
       rw[<-hg]at D0 hr
       rw[<-hg]
       have D:=D0.Ja (D':=(λW=>Kd.R Ck 32 W w.heap.size (λk=>k∉[af,z,gR,gO,gA]) ah [])) (λW' hW=>Kd.Eo hr hW)
       clear D0 U B ag hg hr
       clear M p0 p1 p2 Y p4 p5 py o0 o1 o2 o3 o4 oy t0 t1 t2 t3 t4 t5 ty G I J L O P T ey
       have M:=a_ D
       clear D
       obtain⟨p0,p1,p2,Y,p4,p5,py⟩:=M.o.B.c6 4 rfl;obtain⟨o0,o1,o2,o3,o4,oy⟩:=M.o.B.c5 3 rfl;obtain⟨t0,t1,t2,t3,t4,t5,ty⟩:=M.o.B.c6 2 rfl;obtain⟨G,I,J,L,O,P,T,ey⟩:=M.o.B.c7 1 rfl
       refine hK.out _ _ ⟨Y,G,I,J,L,O,P,T⟩ (λy=>?_)
       clear hK K
       refine Er 50 ?_
       refine E7 3 48 (λK hK=>?_)
       refine Kd.Cb Ck w.heap.size (by rfl) (.tmp 45) (.tmp 47) 24 32 (.agg #[(.int .i64 0),(.int .i64 0),(.int .i64 0),(.int .i64 0),(.int .i64 0),(.int .i64 0),(.string ⟨#[]⟩)]) 64 rfl R8 Dv rfl (by decide) (by omega) ah [] b _ _ _ (λk=>k∉[af,z,gR,gO,gA]) (λ_=>False) rfl rfl M.o.now ((Kd.AY (Kd.Bh H3.o M.o.hB)).2.2) (λ_ _ h=>h) (λ_ h=>h.elim) (λk hk=>M.o.OZ hk) (RG _ _) M.o.hB.size (by have:=LG.o;(try simp only[List.length_nil,List.length_singleton]);omega) ?_
       intro ai aN ho U hg an
       rw[SZ]at ho
       have D:=M.o.write hg U (λk hk=>⟨M.o.now.1 k hk,((Kd.C4 M.o.now).1 k hk).2.1⟩) (D':=(λW=>Kd.R Ck 32 W w.heap.size (λk=>k∉[af,z,gR,gO,gA]) ai b)) (λW' hW=>Kd.Eo ho hW)
       clear ho U hg an
       clear M p0 p1 p2 Y p4 p5 py o0 o1 o2 o3 o4 oy t0 t1 t2 t3 t4 t5 ty G I J L O P T ey
       have M:=a_ D
       clear D
       obtain⟨p0,p1,p2,Y,p4,p5,py⟩:=M.o.B.c6 4 rfl;obtain⟨o0,o1,o2,o3,o4,oy⟩:=M.o.B.c5 3 rfl;obtain⟨t0,t1,t2,t3,t4,t5,ty⟩:=M.o.B.c6 2 rfl;obtain⟨G,I,J,L,O,P,T,ey⟩:=M.o.B.c7 1 rfl
       refine hK.out _ _ ⟨Y,G,I,J,L,O,P,T⟩ (λy=>?_)
       clear hK K
       refine Er 48 ?_
       exact FI (by simp only[Ff,Act.put,List.setIfInBounds_toArray,List.set_cons_zero,List.set_cons_succ]) (al (ah,ai,af) _ M)
     ·skip
      refine Gi (w1:=?_) (v:=?_) (by rfl) rfl ?_ ?_
      rotate_left 2
      ·go_simp
       constructor
       ·rfl
       ·rfl
      obtain⟨wc,ag⟩:∃x,x=World.alloc w9 (.cells #[.int .i64 c,.int .i64 (wrap64 (wrap64 (d+(b.length:Int))+1)),.int .i64 g,.int .i64 m,.int .i64 o,.int .i64 r,.string u] 32 (0,0)):=⟨_,rfl⟩
      have U:Below w9.heap.size w9 wc:=by rw[ag];exact FT (RG _ _) _
      have B:wc.heap[w9.heap.size]?=some (.cells #[.int .i64 c,.int .i64 (wrap64 (wrap64 (d+(b.length:Int))+1)),.int .i64 g,.int .i64 m,.int .i64 o,.int .i64 r,.string u] 32 (0,0)):=by rw[ag];exact EW _ _
      have D0:=M.o.box (a:=w9.heap.size) (cs:=[.int .i64 c,.int .i64 (wrap64 (wrap64 (d+(b.length:Int))+1)),.int .i64 g,.int .i64 m,.int .i64 o,.int .i64 r,.string u]) rfl U B
      rw[<-ag]
      obtain⟨af,hg⟩:∃x,x=w9.heap.size:=⟨_,rfl⟩
      rw[<-hg]at D0
      rw[<-hg]
      have D:=D0
      clear D0 U B ag hg
      clear M p0 p1 p2 Y p4 p5 py o0 o1 o2 o3 o4 oy t0 t1 t2 t3 t4 t5 ty G I J L O P T ey
      have M:=a_ D
      clear D
      obtain⟨p0,p1,p2,Y,p4,p5,py⟩:=M.o.B.c6 4 rfl;obtain⟨o0,o1,o2,o3,o4,oy⟩:=M.o.B.c5 3 rfl;obtain⟨t0,t1,t2,t3,t4,t5,ty⟩:=M.o.B.c6 2 rfl;obtain⟨G,I,J,L,O,P,T,ey⟩:=M.o.B.c7 1 rfl
      refine hK.out _ _ ⟨Y,G,I,J,L,O,P,T⟩ (λy=>?_)
      clear hK K
      refine Er 50 ?_
      refine E7 0 45 (λK hK=>?_)
      refine Kd.DU Ck _ 32 ?hg (N:=45) ?hd (xs:=([]:List AQ)) (inner:=[]) (ok:=λk=>k∉[af,z,gR,gO,gA]) (okp:=λ_=>False) ?hr ?hp (λ_ h=>h.elim) (M.o.OZ (RB _)) (RG _ _) (RB _) (by simp) ?_;(case hd=>rfl);(case hg=>rfl);(case hr=>first|(go_simp;done)|(go_simp;rfl));(case hp=>exact(Bn.none _ _))
      intro ah aR ho U DN au
      have hr:=Kd.AU ho M.o.hB.size
      have D:=(M.o.below U).Ja (D':=(λW=>Kd.R Ck 32 W w.heap.size (λk=>k∉[af,z,gR,gO,gA]) ah [])) (λW' hW=>Kd.Eo hr hW)
      clear ho U DN au hr
      clear M p0 p1 p2 Y p4 p5 py o0 o1 o2 o3 o4 oy t0 t1 t2 t3 t4 t5 ty G I J L O P T ey
      have M:=a_ D
      clear D
      obtain⟨p0,p1,p2,Y,p4,p5,py⟩:=M.o.B.c6 4 rfl;obtain⟨o0,o1,o2,o3,o4,oy⟩:=M.o.B.c5 3 rfl;obtain⟨t0,t1,t2,t3,t4,t5,ty⟩:=M.o.B.c6 2 rfl;obtain⟨G,I,J,L,O,P,T,ey⟩:=M.o.B.c7 1 rfl
      refine hK.out _ _ ⟨Y,G,I,J,L,O,P,T⟩ (λy=>?_)
      clear hK K
      refine Er 45 ?_
      refine E7 3 48 (λK hK=>?_)
      refine Kd.Cb Ck w.heap.size (by rfl) (.tmp 45) (.tmp 47) 24 32 (.agg #[(.int .i64 0),(.int .i64 0),(.int .i64 0),(.int .i64 0),(.int .i64 0),(.int .i64 0),(.string ⟨#[]⟩)]) 64 rfl R8 Dv rfl (by decide) (by omega) ah [] b _ _ _ (λk=>k∉[af,z,gR,gO,gA]) (λ_=>False) rfl rfl M.o.now ((Kd.AY (Kd.Bh H3.o M.o.hB)).2.2) (λ_ _ h=>h) (λ_ h=>h.elim) (λk hk=>M.o.OZ hk) (RG _ _) M.o.hB.size (by have:=LG.o;(try simp only[List.length_nil,List.length_singleton]);omega) ?_
      intro ai aO ho U hg an
      rw[SZ]at ho
      have D:=M.o.write hg U (λk hk=>⟨M.o.now.1 k hk,((Kd.C4 M.o.now).1 k hk).2.1⟩) (D':=(λW=>Kd.R Ck 32 W w.heap.size (λk=>k∉[af,z,gR,gO,gA]) ai b)) (λW' hW=>Kd.Eo ho hW)
      clear ho U hg an
      clear M p0 p1 p2 Y p4 p5 py o0 o1 o2 o3 o4 oy t0 t1 t2 t3 t4 t5 ty G I J L O P T ey
      have M:=a_ D
      clear D
      obtain⟨p0,p1,p2,Y,p4,p5,py⟩:=M.o.B.c6 4 rfl;obtain⟨o0,o1,o2,o3,o4,oy⟩:=M.o.B.c5 3 rfl;obtain⟨t0,t1,t2,t3,t4,t5,ty⟩:=M.o.B.c6 2 rfl;obtain⟨G,I,J,L,O,P,T,ey⟩:=M.o.B.c7 1 rfl
      refine hK.out _ _ ⟨Y,G,I,J,L,O,P,T⟩ (λy=>?_)
      clear hK K
      refine Er 48 ?_
      exact FI (by simp only[Ff,Act.put,List.setIfInBounds_toArray,List.set_cons_zero,List.set_cons_succ]) (al (ah,ai,af) _ M)
    rintro⟨ah,ai,af⟩ w10 M
    dsimp only at M
    obtain⟨p0,p1,p2,Y,p4,p5,py⟩:=M.o.B.c6 4 rfl;obtain⟨o0,o1,o2,o3,o4,oy⟩:=M.o.B.c5 3 rfl;obtain⟨t0,t1,t2,t3,t4,t5,ty⟩:=M.o.B.c6 2 rfl;obtain⟨G,I,J,L,O,P,T,ey⟩:=M.o.B.c7 1 rfl
    have y:(λw':World=>w'.cell? ⟨gA,3,none⟩=some (.slice aa b.length ae)∧w'.cell? ⟨z,0,none⟩=some (.int .i64 c)∧w'.cell? ⟨z,1,none⟩=some (.int .i64 (wrap64 (wrap64 (d+(b.length:Int))+1)))∧w'.cell? ⟨z,2,none⟩=some (.int .i64 g)∧w'.cell? ⟨z,3,none⟩=some (.int .i64 m)∧w'.cell? ⟨z,4,none⟩=some (.int .i64 o)∧w'.cell? ⟨z,5,none⟩=some (.int .i64 r)∧w'.cell? ⟨z,6,none⟩=some (.string u)) w10:=⟨Y,G,I,J,L,O,P,T⟩
    refine FI (a':=?_) ?_ ?_
    rotate_left
    ·simp only[Ff,Act.put,List.setIfInBounds_toArray,List.set_cons_zero,List.set_cons_succ]
     rfl
    refine E7 6 51 (λK hK=>?_)
    refine Kd.Cb Ck w.heap.size (by rfl) (.tmp 48) (.tmp 50) 24 32 (.agg #[(.int .i64 0),(.int .i64 0),(.int .i64 0),(.int .i64 0),(.int .i64 0),(.int .i64 0),(.string ⟨#[]⟩)]) 64 rfl R8 Dv rfl (by decide) (by omega) ai b [(⟨c,(wrap64 (wrap64 (d+(b.length:Int))+1)),⟨g,m,o,r,u⟩⟩:AQ)] _ _ _ (λk=>k∉[af,z,gR,gO,gA]) (λ_=>False) rfl rfl M.o.now (Oy (base:=w.heap.size) (ok:=λ_=>False) (x:=(⟨c,(wrap64 (wrap64 (d+(b.length:Int))+1)),⟨g,m,o,r,u⟩⟩:AQ)) (M.o.B.Ex 0 rfl)) (λ_ _ h=>h) (λ_ h=>h.elim) (λk hk=>M.o.OZ hk) (RG _ _) M.o.hB.size (by have:=LG.o;(try simp only[List.length_nil,List.length_singleton]);omega) ?_
    intro aP aQ ho U hg an
    rw[<-aI.o]at ho
    obtain⟨B9,b9,e9⟩:=Kd.Be ho
    subst e9
    have D:=M.o.write hg U (λk hk=>⟨M.o.now.1 k hk,((Kd.C4 M.o.now).1 k hk).2.1⟩) (D':=(λW=>Kd.R Ck 32 W w.heap.size (λk=>k∉[af,z,gR,gO,gA]) (.slice B9 ln.length b9) ln)) (λW' hW=>Kd.Eo ho hW)
    clear ho U hg an
    clear M p0 p1 p2 Y p4 p5 py o0 o1 o2 o3 o4 oy t0 t1 t2 t3 t4 t5 ty G I J L O P T ey
    have M:=a_ D
    clear D
    obtain⟨p0,p1,p2,Y,p4,p5,py⟩:=M.o.B.c6 4 rfl;obtain⟨o0,o1,o2,o3,o4,oy⟩:=M.o.B.c5 3 rfl;obtain⟨t0,t1,t2,t3,t4,t5,ty⟩:=M.o.B.c6 2 rfl;obtain⟨G,I,J,L,O,P,T,ey⟩:=M.o.B.c7 1 rfl
    refine hK.out _ _ ⟨Y,G,I,J,L,O,P,T⟩ (λy=>?_)
    clear hK K
    refine Er 51 ?_
    refine Bf 7 52 ?_
    refine Fe (i:=8) (N:=none) #[true,true,true,true,true,true,true,true,true] rfl rfl (by kernel_rfl) (by decide) (λK hK=>?_)
    refine EL (w1:=?_) (by rfl) rfl ?_ ?_
    rotate_left
    ·go_simp
     rfl
    refine hK.out _ _ ?_
    clear hK K
    refine CV (by kernel_rfl) ?_
    have ax:gR≠gA:=M.o.B.ne (i:=2) (i':=4) rfl rfl (by decide)
    have aF:gA≠gR:=λe=>ax e.symm
    go_wp2
    have D2:Hx w _ _ _ _:=(M.o.put 4 3 (.slice B9 ln.length b9) rfl).ID 2 (b0:=.int .i64 c) (b1:=.int .i64 X) (b2:=.slice Z E.length ab) (b3:=.slice B9 ln.length b9) (b4:=.int .i64 d) (b5:=.int .i64 mm) rfl
    have DB:=D2.B.Ex 2 rfl
    refine RH (CJ rfl _ _ gR 26 #[.int .i64 c,.int .i64 X,.slice Z E.length ab,.slice B9 ln.length b9,.int .i64 d,.int .i64 mm] (0,0) _ rfl DB RP rfl (by kernel_rfl)) rfl ?_
    exact⟨_,_,rfl,Kd.AD (Kd.Bh H2.o D2.hB) (λk hk=>.inl (.inl hk)),Kd.AD (Kd.MH (Kd.Ai (Kd.C4 D2.now) (λk hk=>hk.2.1))) (λk hk=>.inr (by first|exact hk|exact hk.1)),D2.hB⟩)
end Go.Proofs.YtlhlpfnljglhoaaDoor.P
