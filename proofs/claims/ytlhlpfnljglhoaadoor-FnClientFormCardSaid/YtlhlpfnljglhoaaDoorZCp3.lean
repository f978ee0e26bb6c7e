/- Joined by programs (wip/shake.py, wip/mini.py). -/
import Derived.Test.YtlhlpfnljglhoaaDoorZCp2
set_option linter.unusedVariables false
set_option linter.unusedSimpArgs false
set_option linter.unusedSectionVars false
set_option maxHeartbeats 8000000
set_option maxRecDepth 100000
namespace Go.Proofs.YtlhlpfnljglhoaaDoor.P
open Go.RowKit Go.Proofs.YtlhlpfnljglhoaaDoorW.PrintWords Go.Proofs.YtlhlpfnljglhoaaDoorW.Bc
attribute [local go_sem high] MH
theorem Ap.calls(k:Nat)(E:Int)(X:Int)(aD:Nat->Prop)(al:Option Addr)(ao:Nat)(T:List (Ba))(aE:Nat->Prop)(an:Option Addr)(aq:Nat)(U:List (AM))(ai:Int)(I:Int)(a1:Int)(A2:Option Addr)(c2:Nat)(Y:List (AM))(r1:Int)(r2:Int)(r3:List (Ba))(r4:List (AM))(r5:Int)(r6:Int)(r7:Bool)(w:World)(e3:Kd.V Dj 68 w w.heap.size (λL=>aD L) (.slice al T.length ao) T)(e4:Kd.V BT 32 w w.heap.size (λL=>aE L) (.slice an U.length aq) U)(fz:Kd.C BT w A2 Y.length Y)(fo:Y.length≤c2)(h:Ap.f k E X T U ai I a1 Y=some (r1,r2,r3,r4,r5,r6,r7)) :
  Calls Tryd.prog 77 #[.agg #[.int .i64 E,.int .i64 X,.slice al T.length ao,.slice an U.length aq,.int .i64 ai,.int .i64 I],.int .i64 a1,.slice A2 Y.length c2] w λe w'=>∃fA fB:Value,e=.returned (.tuple #[.agg #[.int .i64 r1,.int .i64 r2,fA,fB,.int .i64 r5,.int .i64 r6],.bool r7])∧Kd.V Dj 68 w' w.heap.size (λL=>((aD L∨aE L)∨w.heap.size≤L)) fA r3∧Kd.V BT 32 w' w.heap.size (λL=>((aD L∨aE L)∨w.heap.size≤L)) fB r4∧Below w.heap.size w w':=by
 have jm:=Tryd.underlying26;have jo:=Tryd.underlying32;have jn:=Tryd.underlying30;have bq:=a_ (show Kd.V Dj 68 w w.heap.size (λL=>((aD L∨aE L)∨w.heap.size≤L)) (.slice al T.length ao) T from Kd.AH e3 (λL l=>.inl (.inl l)));have br:=a_ (show Kd.V BT 32 w w.heap.size (λL=>((aD L∨aE L)∨w.heap.size≤L)) (.slice an U.length aq) U from Kd.AH e4 (λL l=>.inl (.inr l)));have bW:=a_ fz;have jt:=a_ fo;clear fz fo;have HB:=a_ (Below.refl w.heap.size w);unfold Ap.f at h;have H:=h;clear h;have dH:=a_ H;clear H;go_enter Tryd.func77,Tryd.ntmps77;go_upto_region 1 with(first|((with_reducible refine Cd (N:=3) rfl ?_);refine CE 3 (#[.int .i64 E,.int .i64 X,.slice al T.length ao,.slice an U.length aq,.int .i64 ai,.int .i64 I]) 26 ?_;intro D hg w5 bA hb;have y:=a_ (bA);have fI:=a_ ((by rw[hg];exact(Ab (Ad)):w.heap.size≤D));have fF:=a_ ((by rw[hg];exact(Ab (Ad)):w.heap.size≤D));replace bq:=a_ (Kd.BE (Kd.CY (FD bq.o) D (Nat.le_of_eq hg.symm)) hb);replace br:=a_ (Kd.BE (Kd.CY (FD br.o) D (Nat.le_of_eq hg.symm)) hb);replace HB:=a_ (BA (Ad) hb);clear hb bA hg)|((with_reducible refine Cd (N:=6) rfl ?_);refine CE 6 (#[.int .i64 0,.int .i64 0,.slice none 0 0,.slice none 0 0,.int .i64 0,.int .i64 0]) 26 ?_;intro x hg w6 bA hb;have B:=a_ (bA);have fJ:=a_ ((by rw[hg];exact(Ab (Ad)):w.heap.size≤x));have fG:=a_ ((by rw[hg];exact(Ab (Ad)):w.heap.size≤x));have aF:=a_ ((by rw[hg];exact Nat.ne_of_lt (AU (g:=D) (o:=.cells #[.int .i64 E,.int .i64 X,.slice al T.length ao,.slice an U.length aq,.int .i64 ai,.int .i64 I] 26 (0,0)) (Bp y.o)):D≠x));have aG:=a_ ((by rw[hg];exact Nat.ne_of_gt (AU (g:=D) (o:=.cells #[.int .i64 E,.int .i64 X,.slice al T.length ao,.slice an U.length aq,.int .i64 ai,.int .i64 I] 26 (0,0)) (Bp y.o)):x≠D));replace bq:=a_ (Kd.BE (Kd.CY (FD bq.o) x (Nat.le_of_eq hg.symm)) hb);replace br:=a_ (Kd.BE (Kd.CY (FD br.o) x (Nat.le_of_eq hg.symm)) hb);replace y:=a_ (C3 y.o hb);replace HB:=a_ (BA (Ad) hb);clear hb bA hg))
 (try simp only[Act.put,List.setIfInBounds_toArray,List.set_cons_zero,List.set_cons_succ]);go_cut [20] (λv20 wc=>∃(kq:Nat) (bV:Bool),v20=.bool bV∧Ae (Ap.j0 kq a1 Y bV E X T U ai I=some (r1,r2,r3,r4,r5,r6,r7))∧Ae (kq≤k)∧Ae (Kd.V Dj 68 wc w.heap.size (λL=>((aD L∨aE L)∨w.heap.size≤L)∧L≠D∧L≠x) (.slice al T.length ao) T)∧Ae (Kd.V BT 32 wc w.heap.size (λL=>((aD L∨aE L)∨w.heap.size≤L)∧L≠D∧L≠x) (.slice an U.length aq) U)∧Ae (wc.heap[D]?=some (.cells #[.int .i64 E,.int .i64 X,(.slice al T.length ao),(.slice an U.length aq),.int .i64 ai,.int .i64 I] 26 (0,0)))∧Ae (wc.heap[x]?=some (.cells #[.int .i64 0,.int .i64 0,(.slice none 0 0),(.slice none 0 0),.int .i64 0,.int .i64 0] 26 (0,0)))∧Ae (Below w.heap.size w wc))
 case first =>
  have H:=dH.o;clear dH;by_cases c7:a1>X
  ·rw[if_pos c7]at H;have bC:decide (X<a1)=true:=BJ c7;clear c7;(first|rw[bC]|(simp only[Cp,Cv];rw[bC])|skip);have H':=a_ H;clear H;have ji:=aF.o;have jj:=aG.o;obtain⟨dq,dr,du,dv,dw,dx,di,dj,dk,dm,dn,dp⟩:=Cs y.o;go_wp2;go_meet
   exact⟨_,(true),(Cr),H',⟨by first|omega|exact Nat.le_refl _⟩,⟨by(with_reducible repeat(first|apply Kd.V_alloc|apply Kd.BF|apply Kd.AR));exact Kd.AH bq.o (λ_ l=>⟨l.1.1,⟨l.1.2,l.2⟩⟩)⟩,⟨by(with_reducible repeat(first|apply Kd.V_alloc|apply Kd.BF|apply Kd.AR));exact Kd.AH br.o (λ_ l=>⟨l.1.1,⟨l.1.2,l.2⟩⟩)⟩,⟨Bp y.o⟩,⟨Bp B.o⟩,⟨Ad⟩⟩
  rw[if_neg c7]at H;have bC:decide (X<a1)=false:=C1 c7;clear c7;(first|rw[bC]|(simp only[Cp,Cv];rw[bC])|skip);have H':=a_ H;clear H;have ij:=aF.o;have iG:=aG.o;obtain⟨cJ,cK,cL,cM,cN,cO,cD,cE,cF,cG,cH,cI⟩:=Cs y.o;go_wp2;go_meet
  exact⟨_,(decide ((wrap64 (a1+(Y.length:Int)))>40)),(Cr),H',⟨by first|omega|exact Nat.le_refl _⟩,⟨by(with_reducible repeat(first|apply Kd.V_alloc|apply Kd.BF|apply Kd.AR));exact Kd.AH bq.o (λ_ l=>⟨l.1.1,⟨l.1.2,l.2⟩⟩)⟩,⟨by(with_reducible repeat(first|apply Kd.V_alloc|apply Kd.BF|apply Kd.AR));exact Kd.AH br.o (λ_ l=>⟨l.1.1,⟨l.1.2,l.2⟩⟩)⟩,⟨Bp y.o⟩,⟨Bp B.o⟩,⟨Ad⟩⟩
 clear dH;try clear c1
 try clear c2
 try clear c7
 try clear bC
 try clear cJ cK cL cM cN cO cD cE cF cG cH cI
 try clear dq dr du dv dw dx di dj dk dm dn dp
 obtain⟨kq,bV,rfl,HA,da,r,t,y,B,HB⟩:=hcut;cases kq with
 | zero=>exact absurd HA.o (by simp[Ap.j0])
 | succ df =>
  have H:=HA.o
  clear HA
  simp only[Ap.j0]at H
  by_cases cP:bV=true
  ·subst cP
   have H1:(some (E,X,T,U,ai,I,false))=some (r1,r2,r3,r4,r5,r6,r7):=by rw[if_pos rfl]at H;exact H
   clear H
   have H:=H1
   clear H1
   simp only[Option.some.injEq,Prod.mk.injEq]at H
   obtain⟨rfl,rfl,rfl,rfl,rfl,rfl,rfl⟩:=H
   have ik:=aF.o
   have iH:=aG.o
   obtain⟨eo,ep,er,et,eu,ev,dI,dJ,dK,dL,dM,dN⟩:=Cs (W:=wc) y.o
   obtain⟨ew,ey,ez,eA,eB,eC,dO,dP,dQ,dR,dS,dT⟩:=Cs (W:=wc) B.o
   go_wp2
   refine bodyPost_ret (Dh rfl _ _ x 26 #[.int .i64 E,.int .i64 X,.slice al T.length ao,.slice an U.length aq,.int .i64 ai,.int .i64 I] (0,0) _ rfl (GM B.o) Tryd.underlying26 rfl (by kernel_rfl)) rfl ?_
   exact⟨_,_,C_,by(with_reducible repeat(first|apply Kd.V_alloc|apply Kd.BF|apply Kd.AR));exact Kd.AH (Kd.Bb (p:=⟨x,5,none⟩) (Kd.Bb (p:=⟨x,4,none⟩) (Kd.Bb (p:=⟨x,3,none⟩) (Kd.Bb (p:=⟨x,2,none⟩) (Kd.Bb (p:=⟨x,1,none⟩) (Kd.Bb (p:=⟨x,0,none⟩) (Kd.AH r.o (λL l=>(⟨l,l.2.2⟩:_∧L≠x))) (λ_ l=>l.2) (.int .i64 E)) (λ_ l=>l.2) (.int .i64 X)) (λ_ l=>l.2) (.slice al T.length ao)) (λ_ l=>l.2) (.slice an U.length aq)) (λ_ l=>l.2) (.int .i64 ai)) (λ_ l=>l.2) (.int .i64 I)) (λ_ l=>l.1.1),by(with_reducible repeat(first|apply Kd.V_alloc|apply Kd.BF|apply Kd.AR));exact Kd.AH (Kd.Bb (p:=⟨x,5,none⟩) (Kd.Bb (p:=⟨x,4,none⟩) (Kd.Bb (p:=⟨x,3,none⟩) (Kd.Bb (p:=⟨x,2,none⟩) (Kd.Bb (p:=⟨x,1,none⟩) (Kd.Bb (p:=⟨x,0,none⟩) (Kd.AH t.o (λL l=>(⟨l,l.2.2⟩:_∧L≠x))) (λ_ l=>l.2) (.int .i64 E)) (λ_ l=>l.2) (.int .i64 X)) (λ_ l=>l.2) (.slice al T.length ao)) (λ_ l=>l.2) (.slice an U.length aq)) (λ_ l=>l.2) (.int .i64 ai)) (λ_ l=>l.2) (.int .i64 I)) (λ_ l=>l.1.1),Ad⟩
  ·replace cP:=Bool.eq_false_iff.mpr cP
   subst cP
   have H1:(Ap.l0 df Y (mx (wrap64 (X-a1)) 0) E X T U ai I E X T U ai I)=some (r1,r2,r3,r4,r5,r6,r7):=by rw[if_neg (show¬ (false=true) by decide)]at H;exact H
   clear H
   have H:=H1
   clear H1
   obtain⟨cX,a8⟩:∃j_:Int,(mx (wrap64 (X-a1)) 0)=j_:=⟨_,rfl⟩
   replace H:(Ap.l0 df Y cX E X T U ai I E X T U ai I)=some (r1,r2,r3,r4,r5,r6,r7):=by first|(rw[a8]at H;exact H)|(simp only[a8]at H⊢;exact H)
   have fC:(if(wrap64 (X-a1))<0 then 0 else(wrap64 (X-a1)))=cX:=a8
   have H':=a_ H
   clear H
   have il:=aF.o
   have iI:=aG.o
   obtain⟨eD,eE,eF,eG,eH,eI,dU,dV,dW,dX,dY,dZ⟩:=Cs (W:=wc) y.o
   go_wp2_with(first|((with_reducible refine Cd (N:=8) rfl ?_);refine CE 8 (#[.int .i64 0,.int .i64 0,.slice none 0 0,.slice none 0 0,.int .i64 0,.int .i64 0]) 26 ?_;intro d hg ju bA hb;have q:=a_ (bA);have fK:=a_ ((by rw[hg];exact(Ab (Ad)):w.heap.size≤d));have fH:=a_ ((by rw[hg];exact(Ab (Ad)):w.heap.size≤d));have aj:=a_ ((by rw[hg];exact Nat.ne_of_lt (AU (g:=D) (o:=.cells #[.int .i64 E,.int .i64 X,.slice al T.length ao,.slice an U.length aq,.int .i64 ai,.int .i64 I] 26 (0,0)) (Bp y.o)):D≠d));have au:=a_ ((by rw[hg];exact Nat.ne_of_gt (AU (g:=D) (o:=.cells #[.int .i64 E,.int .i64 X,.slice al T.length ao,.slice an U.length aq,.int .i64 ai,.int .i64 I] 26 (0,0)) (Bp y.o)):d≠D));have ak:=a_ ((by rw[hg];exact Nat.ne_of_lt (AU (g:=x) (o:=.cells #[.int .i64 0,.int .i64 0,.slice none 0 0,.slice none 0 0,.int .i64 0,.int .i64 0] 26 (0,0)) (Bp B.o)):x≠d));have av:=a_ ((by rw[hg];exact Nat.ne_of_gt (AU (g:=x) (o:=.cells #[.int .i64 0,.int .i64 0,.slice none 0 0,.slice none 0 0,.int .i64 0,.int .i64 0] 26 (0,0)) (Bp B.o)):d≠x));replace r:=a_ (Kd.BE (Kd.CY (FD r.o) d (Nat.le_of_eq hg.symm)) hb);replace t:=a_ (Kd.BE (Kd.CY (FD t.o) d (Nat.le_of_eq hg.symm)) hb);replace y:=a_ (C3 y.o hb);replace B:=a_ (C3 B.o hb);replace HB:=a_ (BA (Ad) hb);clear hb bA hg;have im:=au.o;have iJ:=aj.o;have iq:=av.o;have iK:=ak.o;obtain⟨eJ,eK,eL,eM,eN,eO,d_,ea,ec,ed,ee,ef⟩:=Cs q.o;obtain⟨eP,eQ,eR,eS,eT,eU,eg,eh,ei,ej,ek,en⟩:=Cs y.o))
   go_loopg [9] df (λkq v9 w'=>∃(a:Int) (aZ:Int) (a0:Int) (a2:Int) (a3:Int) (A:Int) (J:List (Ba)) (b:List (AM)) (z:Int) (u504002:Value) (u504003:Value),v9=.int .i64 a∧Ae (Ap.l0 kq Y a E X T U ai I E A J b z I=some (r1,r2,r3,r4,r5,r6,r7))∧Ae (kq≤df)∧Ae (Kd.V Dj 68 w' w.heap.size (λL=>((aD L∨aE L)∨w.heap.size≤L)∧L≠D∧L≠x∧L≠d) (.slice al T.length ao) T)∧Ae (Kd.V BT 32 w' w.heap.size (λL=>((aD L∨aE L)∨w.heap.size≤L)∧L≠D∧L≠x∧L≠d) (.slice an U.length aq) U)∧Ae (Kd.V Dj 68 w' w.heap.size (λL=>((aD L∨aE L)∨w.heap.size≤L)∧L≠D∧L≠x∧L≠d) u504002 J)∧Ae (Kd.V BT 32 w' w.heap.size (λL=>((aD L∨aE L)∨w.heap.size≤L)∧L≠D∧L≠x∧L≠d) u504003 b)∧Ae (w'.heap[D]?=some (.cells #[.int .i64 E,.int .i64 X,(.slice al T.length ao),(.slice an U.length aq),.int .i64 ai,.int .i64 I] 26 (0,0)))∧Ae (w'.heap[x]?=some (.cells #[.int .i64 aZ,.int .i64 a0,(.slice none 0 0),(.slice none 0 0),.int .i64 a2,.int .i64 a3] 26 (0,0)))∧Ae (w'.heap[d]?=some (.cells #[.int .i64 E,.int .i64 A,u504002,u504003,.int .i64 z,.int .i64 I] 26 (0,0)))∧Ae (Below w.heap.size w w'))
   case atStart=>exact⟨(cX),(0),(0),(0),(0),(X),(T),(U),(ai),(.slice al T.length ao),(.slice an U.length aq),(by first|rfl|(simp;done)|(simp only[<-a8] <;> (first|rfl|simp))|(simp[*];done)),H',⟨Nat.le_refl _⟩,⟨by(with_reducible repeat(first|apply Kd.V_alloc|apply Kd.BF|apply Kd.AR));exact Kd.AH (Kd.Bb (p:=⟨d,5,none⟩) (Kd.Bb (p:=⟨d,4,none⟩) (Kd.Bb (p:=⟨d,3,none⟩) (Kd.Bb (p:=⟨d,2,none⟩) (Kd.Bb (p:=⟨d,1,none⟩) (Kd.Bb (p:=⟨d,0,none⟩) (Kd.AH r.o (λL l=>(⟨l,l.2⟩:_∧L≠d))) (λ_ l=>l.2) (.int .i64 E)) (λ_ l=>l.2) (.int .i64 X)) (λ_ l=>l.2) (.slice al T.length ao)) (λ_ l=>l.2) (.slice an U.length aq)) (λ_ l=>l.2) (.int .i64 ai)) (λ_ l=>l.2) (.int .i64 I)) (λ_ l=>⟨l.1.1.1,⟨l.1.1.2.1,⟨l.1.1.2.2,l.1.2⟩⟩⟩)⟩,⟨by(with_reducible repeat(first|apply Kd.V_alloc|apply Kd.BF|apply Kd.AR));exact Kd.AH (Kd.Bb (p:=⟨d,5,none⟩) (Kd.Bb (p:=⟨d,4,none⟩) (Kd.Bb (p:=⟨d,3,none⟩) (Kd.Bb (p:=⟨d,2,none⟩) (Kd.Bb (p:=⟨d,1,none⟩) (Kd.Bb (p:=⟨d,0,none⟩) (Kd.AH t.o (λL l=>(⟨l,l.2⟩:_∧L≠d))) (λ_ l=>l.2) (.int .i64 E)) (λ_ l=>l.2) (.int .i64 X)) (λ_ l=>l.2) (.slice al T.length ao)) (λ_ l=>l.2) (.slice an U.length aq)) (λ_ l=>l.2) (.int .i64 ai)) (λ_ l=>l.2) (.int .i64 I)) (λ_ l=>⟨l.1.1.1,⟨l.1.1.2.1,⟨l.1.1.2.2,l.1.2⟩⟩⟩)⟩,⟨by(with_reducible repeat(first|apply Kd.V_alloc|apply Kd.BF|apply Kd.AR));exact Kd.AH (Kd.Bb (p:=⟨d,5,none⟩) (Kd.Bb (p:=⟨d,4,none⟩) (Kd.Bb (p:=⟨d,3,none⟩) (Kd.Bb (p:=⟨d,2,none⟩) (Kd.Bb (p:=⟨d,1,none⟩) (Kd.Bb (p:=⟨d,0,none⟩) (Kd.AH r.o (λL l=>(⟨l,l.2⟩:_∧L≠d))) (λ_ l=>l.2) (.int .i64 E)) (λ_ l=>l.2) (.int .i64 X)) (λ_ l=>l.2) (.slice al T.length ao)) (λ_ l=>l.2) (.slice an U.length aq)) (λ_ l=>l.2) (.int .i64 ai)) (λ_ l=>l.2) (.int .i64 I)) (λ_ l=>⟨l.1.1.1,⟨l.1.1.2.1,⟨l.1.1.2.2,l.1.2⟩⟩⟩)⟩,⟨by(with_reducible repeat(first|apply Kd.V_alloc|apply Kd.BF|apply Kd.AR));exact Kd.AH (Kd.Bb (p:=⟨d,5,none⟩) (Kd.Bb (p:=⟨d,4,none⟩) (Kd.Bb (p:=⟨d,3,none⟩) (Kd.Bb (p:=⟨d,2,none⟩) (Kd.Bb (p:=⟨d,1,none⟩) (Kd.Bb (p:=⟨d,0,none⟩) (Kd.AH t.o (λL l=>(⟨l,l.2⟩:_∧L≠d))) (λ_ l=>l.2) (.int .i64 E)) (λ_ l=>l.2) (.int .i64 X)) (λ_ l=>l.2) (.slice al T.length ao)) (λ_ l=>l.2) (.slice an U.length aq)) (λ_ l=>l.2) (.int .i64 ai)) (λ_ l=>l.2) (.int .i64 I)) (λ_ l=>⟨l.1.1.1,⟨l.1.1.2.1,⟨l.1.1.2.2,l.1.2⟩⟩⟩)⟩,⟨Dv aj.o y.o⟩,⟨Dv ak.o B.o⟩,⟨GM q.o⟩,⟨Ad⟩⟩
   case round =>
    clear H'
    try clear c1
    try clear c2
    try clear c7
    try clear bC
    try clear cP
    try clear cJ cK cL cM cN cO cD cE cF cG cH cI
    try clear eo ep er et eu ev dI dJ dK dL dM dN
    try clear ew ey ez eA eB eC dO dP dQ dR dS dT
    try clear eD eE eF eG eH eI dU dV dW dX dY dZ
    try clear eJ eK eL eM eN eO d_ ea ec ed ee ef
    try clear eP eQ eR eS eT eU eg eh ei ej ek en
    try clear dq dr du dv dw dx di dj dk dm dn dp
    obtain⟨a,aZ,a0,a2,a3,A,J,b,z,u504002,u504003,rfl,HA,db,r,t,v,u,y,B,q,HB⟩:=hrel
    cases gk with
    | zero=>exact absurd HA.o (by simp[Ap.l0])
    | succ k2 =>
     have H:=HA.o
     clear HA
     simp only[Ap.l0]at H
     by_cases cw:a<(Y.length:Int)
     ·rw[if_pos cw]at H
      have eX:decide (a<(Y.length:Int))=true:=BJ cw
      clear cw
      by_cases dc:0≤a
      ·rw[if_pos dc]at H
       have h8:decide (0≤a)=true:=BJ dc
       clear dc
       by_cases cp:((Aa Y a).f0)=E
       ·rw[if_pos cp]at H
        have eY:(((Aa Y a).f0)==E)=true:=beq_iff_eq.mpr cp
        have eZ:(((Aa Y a).f0) != E)=false:=Ff cp
        clear cp
        by_cases bX:(b.length:Int)=0
        ·rw[if_pos bX]at H
         have e0:((b.length:Int)==0)=true:=beq_iff_eq.mpr bX
         have e1:((b.length:Int) != 0)=false:=Ff bX
         clear bX
         simp only[Option.some.injEq,Prod.mk.injEq]at H
         obtain⟨rfl,rfl,rfl,rfl,rfl,rfl,rfl⟩:=H
         try go_wp2
         replace r:=a_ (Kd.AR r.o)
         replace t:=a_ (Kd.AR t.o)
         replace v:=a_ (Kd.AR v.o)
         replace u:=a_ (Kd.AR u.o)
         replace y:=a_ (DA y.o)
         replace B:=a_ (DA B.o)
         replace q:=a_ (DA q.o)
         replace HB:=a_ (Ay HB.o)
         have aX:0≤(a:Int):=Bu
         have aY:a<(Y.length:Int):=Bu
         obtain⟨j,bD,Z,aa,ab,ae,af,ag,ah⟩:=CD bW.o a aX aY
         have aW:=ah
         have aV:=ag
         have aU:=af
         have aT:=ae
         have aS:=ab
         have aR:=aa
         have aQ:=Z
         cases bD
         replace Z:=(Au HB.o Z:)
         replace aa:=(Au HB.o aa:)
         replace ab:=(Au HB.o ab:)
         replace ae:=(Au HB.o ae:)
         replace af:=(Au HB.o af:)
         replace ag:=(Au HB.o ag:)
         replace ah:=(Au HB.o ah:)
         replace aX:=eq_true aX
         replace aY:=eq_true aY
         refine Ch (n:=8) (S:=λw'=>w'.cell? ⟨D,0,none⟩=some (.int .i64 E)∧w'.cell? ⟨D,1,none⟩=some (.int .i64 X)∧w'.cell? ⟨D,2,none⟩=some (.slice al T.length ao)∧w'.cell? ⟨D,3,none⟩=some (.slice an U.length aq)∧w'.cell? ⟨D,4,none⟩=some (.int .i64 ai)∧w'.cell? ⟨D,5,none⟩=some (.int .i64 I)∧w'.cell? (j.add ((a).toNat*7))=some (.int .i64 ((Aa Y a).f0))∧w'.cell? ⟨(j.add ((a).toNat*7)).block,(j.add ((a).toNat*7)).off+1,none⟩=some (.int .i64 ((Aa Y a).f1))∧w'.cell? ⟨(j.add ((a).toNat*7)).block,(j.add ((a).toNat*7)).off+2,none⟩=some (.int .i64 ((Aa Y a).f2.f0))∧w'.cell? ⟨(j.add ((a).toNat*7)).block,(j.add ((a).toNat*7)).off+3,none⟩=some (.int .i64 ((Aa Y a).f2.f1))∧w'.cell? ⟨(j.add ((a).toNat*7)).block,(j.add ((a).toNat*7)).off+4,none⟩=some (.int .i64 ((Aa Y a).f2.f2))∧w'.cell? ⟨(j.add ((a).toNat*7)).block,(j.add ((a).toNat*7)).off+5,none⟩=some (.int .i64 ((Aa Y a).f2.f3))∧w'.cell? ⟨(j.add ((a).toNat*7)).block,(j.add ((a).toNat*7)).off+6,none⟩=some (.string ((Aa Y a).f2.f4))) (ds:=[]) #[false,false,false,false,false,false,false,false] (by kernel_rfl) rfl rfl ⟨(AO y.o 0).trans rfl,(AO y.o 1).trans rfl,(AO y.o 2).trans rfl,(AO y.o 3).trans rfl,(AO y.o 4).trans rfl,(AO y.o 5).trans rfl,((Au HB.o aQ:)),((Au HB.o aR:)),((Au HB.o aS:)),((Au HB.o aT:)),((Au HB.o aU:)),((Au HB.o aV:)),((Au HB.o aW:))⟩ (λG=>?_);refine BZ Ap.N5 Ap.K8 (λHT_ HW_=>?_)
         generalize wr.drew=iY at r t v u y B q HB Z aa ab ae af ag ah G⊢
         refine A_ 0 34 ?_
         refine A_ 1 35 ?_
         refine A_ 2 36 ?_
         refine A_ 3 37 ?_
         refine A_ 5 39 ?_
         refine E0 4 38 G ?_
         refine E0 6 40 G ?_
         refine A_ 7 41 ?_
         refine CT (CU HT_.o (by kernel_rfl)) ?_
         try go_wp2
         replace r:=a_ (Kd.AR r.o)
         replace t:=a_ (Kd.AR t.o)
         replace v:=a_ (Kd.AR v.o)
         replace u:=a_ (Kd.AR u.o)
         replace y:=a_ (DA y.o)
         replace B:=a_ (DA B.o)
         replace q:=a_ (DA q.o)
         replace HB:=a_ (Ay HB.o)
         obtain⟨fg,fh,dy⟩:=Kd.Ca u.o
         (first|subst dy|(injection dy with a4 bu a5;have bw:=a4.symm;have bx:=a5.symm;clear a4 bu a5;subst bw;subst bx))
         refine Ch (n:=15) (S:=λw'=>w'.cell? ⟨d,0,none⟩=some (.int .i64 E)∧w'.cell? ⟨d,1,none⟩=some (.int .i64 A)∧w'.cell? ⟨d,2,none⟩=some (u504002)∧w'.cell? ⟨d,3,none⟩=some (.slice fg b.length fh)∧w'.cell? ⟨d,4,none⟩=some (.int .i64 z)∧w'.cell? ⟨d,5,none⟩=some (.int .i64 I)) (ds:=[]) #[false,false,false,false,false,false,false,false,false,false,false,false,false,false,false] (by kernel_rfl) rfl rfl ⟨(AO q.o 0).trans rfl,(AO q.o 1).trans rfl,(AO q.o 2).trans rfl,(AO q.o 3).trans rfl,(AO q.o 4).trans rfl,(AO q.o 5).trans rfl⟩ (λG=>?_);refine BZ Ap.Pt Ap.My (λHT_ HW_=>?_)
         generalize iY.drew=jv at r t v u y B q HB G⊢
         refine A_ 0 42 ?_
         refine Kk 1 43 G ?_
         refine A_ 2 44 ?_
         refine A_ 3 45 ?_
         refine A_ 4 46 ?_
         refine D9 5 47 ?_
         refine D9 6 48 ?_
         refine D9 7 49 ?_
         refine D9 8 50 ?_
         refine D9 9 51 ?_
         refine D9 10 52 ?_
         refine D9 11 53 ?_
         refine D9 12 54 ?_
         refine D9 13 55 ?_
         refine A_ 14 56 ?_
         refine CT (CU HT_.o (by kernel_rfl)) ?_
         have ir:=aF.o
         have iL:=aG.o
         have iu:=aj.o
         have iM:=au.o
         obtain⟨gU,gV,gW,gX,gY,gZ,fM,fN,fO,fP,fQ,fR⟩:=Cs y.o
         have iv:=ak.o
         have iN:=av.o
         obtain⟨g0,g1,g2,g3,g4,g5,fS,fT,fU,fV,fW,fX⟩:=Cs B.o
         try go_wp2
         refine bodyPost_ret (Dh rfl _ _ x 26 #[.int .i64 E,.int .i64 X,.slice al T.length ao,.slice an U.length aq,.int .i64 ai,.int .i64 I] (0,0) _ rfl (GM B.o) Tryd.underlying26 rfl (by kernel_rfl)) rfl ?_
         exact⟨_,_,by first|rfl|(simp[BK,BM] <;> rfl)|(simp only[<-a8];first|rfl|(simp[BK,BM] <;> rfl))|(simp[*,BK,BM] <;> rfl),by(with_reducible repeat(first|apply Kd.V_alloc|apply Kd.BF|apply Kd.AR));exact Kd.AH (Kd.Bb (p:=⟨x,5,none⟩) (Kd.Bb (p:=⟨x,4,none⟩) (Kd.Bb (p:=⟨x,3,none⟩) (Kd.Bb (p:=⟨x,2,none⟩) (Kd.Bb (p:=⟨x,1,none⟩) (Kd.Bb (p:=⟨x,0,none⟩) (Kd.AH r.o (λL l=>(⟨l,l.2.2.1⟩:_∧L≠x))) (λ_ l=>l.2) (.int .i64 E)) (λ_ l=>l.2) (.int .i64 X)) (λ_ l=>l.2) (.slice al T.length ao)) (λ_ l=>l.2) (.slice an U.length aq)) (λ_ l=>l.2) (.int .i64 ai)) (λ_ l=>l.2) (.int .i64 I)) (λ_ l=>l.1.1),by(with_reducible repeat(first|apply Kd.V_alloc|apply Kd.BF|apply Kd.AR));exact Kd.AH (Kd.Bb (p:=⟨x,5,none⟩) (Kd.Bb (p:=⟨x,4,none⟩) (Kd.Bb (p:=⟨x,3,none⟩) (Kd.Bb (p:=⟨x,2,none⟩) (Kd.Bb (p:=⟨x,1,none⟩) (Kd.Bb (p:=⟨x,0,none⟩) (Kd.AH t.o (λL l=>(⟨l,l.2.2.1⟩:_∧L≠x))) (λ_ l=>l.2) (.int .i64 E)) (λ_ l=>l.2) (.int .i64 X)) (λ_ l=>l.2) (.slice al T.length ao)) (λ_ l=>l.2) (.slice an U.length aq)) (λ_ l=>l.2) (.int .i64 ai)) (λ_ l=>l.2) (.int .i64 I)) (λ_ l=>l.1.1),Ad⟩
        ·rw[if_neg bX]at H
         have e0:((b.length:Int)==0)=false:=Dq bX
         have e1:((b.length:Int) != 0)=true:=bne_iff_ne.mpr bX
         have h9:¬ (b=[]):=λh_=>bX (by rw[h_];rfl)
         by_cases dd:0<(b.length:Int)
         ·rw[if_pos dd]at H
          have ia:decide (0<(b.length:Int))=true:=BJ dd
          have ib:decide (0<b.length)=true:=BJ (by omega)
          clear dd
          by_cases cx:(!(((Aa b 0).f0)==((Aa Y a).f0)) || (!(((Aa b 0).f1)==((Aa Y a).f1)) || ((!(((Aa b 0).f2.f0)==((Aa Y a).f2.f0)) || (!(((Aa b 0).f2.f1)==((Aa Y a).f2.f1)) || (!(((Aa b 0).f2.f2)==((Aa Y a).f2.f2)) || (!(((Aa b 0).f2.f3)==((Aa Y a).f2.f3)) || (!((((Aa b 0).f2.f4).toList)==(((Aa Y a).f2.f4).toList))))))))))=true
          ·rw[if_pos cx]at H
           have e2:(!(((Aa b 0).f0)==((Aa Y a).f0)) || (!(((Aa b 0).f1)==((Aa Y a).f1)) || ((!(((Aa b 0).f2.f0)==((Aa Y a).f2.f0)) || (!(((Aa b 0).f2.f1)==((Aa Y a).f2.f1)) || (!(((Aa b 0).f2.f2)==((Aa Y a).f2.f2)) || (!(((Aa b 0).f2.f3)==((Aa Y a).f2.f3)) || (!((((Aa b 0).f2.f4).toList)==(((Aa Y a).f2.f4).toList))))))))))=true:=cx
           clear cx
           simp only[Option.some.injEq,Prod.mk.injEq]at H
           obtain⟨rfl,rfl,rfl,rfl,rfl,rfl,rfl⟩:=H
           try go_wp2
           replace r:=a_ (Kd.AR r.o)
           replace t:=a_ (Kd.AR t.o)
           replace v:=a_ (Kd.AR v.o)
           replace u:=a_ (Kd.AR u.o)
           replace y:=a_ (DA y.o)
           replace B:=a_ (DA B.o)
           replace q:=a_ (DA q.o)
           replace HB:=a_ (Ay HB.o)
           have aX:0≤(a:Int):=Bu
           have aY:a<(Y.length:Int):=Bu
           obtain⟨j,bD,Z,aa,ab,ae,af,ag,ah⟩:=CD bW.o a aX aY
           have aW:=ah
           have aV:=ag
           have aU:=af
           have aT:=ae
           have aS:=ab
           have aR:=aa
           have aQ:=Z
           cases bD
           replace Z:=(Au HB.o Z:)
           replace aa:=(Au HB.o aa:)
           replace ab:=(Au HB.o ab:)
           replace ae:=(Au HB.o ae:)
           replace af:=(Au HB.o af:)
           replace ag:=(Au HB.o ag:)
           replace ah:=(Au HB.o ah:)
           replace aX:=eq_true aX
           replace aY:=eq_true aY
           refine Ch (n:=8) (S:=λw'=>w'.cell? ⟨D,0,none⟩=some (.int .i64 E)∧w'.cell? ⟨D,1,none⟩=some (.int .i64 X)∧w'.cell? ⟨D,2,none⟩=some (.slice al T.length ao)∧w'.cell? ⟨D,3,none⟩=some (.slice an U.length aq)∧w'.cell? ⟨D,4,none⟩=some (.int .i64 ai)∧w'.cell? ⟨D,5,none⟩=some (.int .i64 I)∧w'.cell? (j.add ((a).toNat*7))=some (.int .i64 ((Aa Y a).f0))∧w'.cell? ⟨(j.add ((a).toNat*7)).block,(j.add ((a).toNat*7)).off+1,none⟩=some (.int .i64 ((Aa Y a).f1))∧w'.cell? ⟨(j.add ((a).toNat*7)).block,(j.add ((a).toNat*7)).off+2,none⟩=some (.int .i64 ((Aa Y a).f2.f0))∧w'.cell? ⟨(j.add ((a).toNat*7)).block,(j.add ((a).toNat*7)).off+3,none⟩=some (.int .i64 ((Aa Y a).f2.f1))∧w'.cell? ⟨(j.add ((a).toNat*7)).block,(j.add ((a).toNat*7)).off+4,none⟩=some (.int .i64 ((Aa Y a).f2.f2))∧w'.cell? ⟨(j.add ((a).toNat*7)).block,(j.add ((a).toNat*7)).off+5,none⟩=some (.int .i64 ((Aa Y a).f2.f3))∧w'.cell? ⟨(j.add ((a).toNat*7)).block,(j.add ((a).toNat*7)).off+6,none⟩=some (.string ((Aa Y a).f2.f4))) (ds:=[]) #[false,false,false,false,false,false,false,false] (by kernel_rfl) rfl rfl ⟨(AO y.o 0).trans rfl,(AO y.o 1).trans rfl,(AO y.o 2).trans rfl,(AO y.o 3).trans rfl,(AO y.o 4).trans rfl,(AO y.o 5).trans rfl,((Au HB.o aQ:)),((Au HB.o aR:)),((Au HB.o aS:)),((Au HB.o aT:)),((Au HB.o aU:)),((Au HB.o aV:)),((Au HB.o aW:))⟩ (λG=>?_);refine BZ Ap.N5 Ap.K8 (λHT_ HW_=>?_)
           generalize wr.drew=iZ at r t v u y B q HB Z aa ab ae af ag ah G⊢
           refine A_ 0 34 ?_
           refine A_ 1 35 ?_
           refine A_ 2 36 ?_
           refine A_ 3 37 ?_
           refine A_ 5 39 ?_
           refine E0 4 38 G ?_
           refine E0 6 40 G ?_
           refine A_ 7 41 ?_
           refine CT (CU HT_.o (by kernel_rfl)) ?_
           try go_wp2
           replace r:=a_ (Kd.AR r.o)
           replace t:=a_ (Kd.AR t.o)
           replace v:=a_ (Kd.AR v.o)
           replace u:=a_ (Kd.AR u.o)
           replace y:=a_ (DA y.o)
           replace B:=a_ (DA B.o)
           replace q:=a_ (DA q.o)
           replace HB:=a_ (Ay HB.o)
           obtain⟨je,fi,dz⟩:=Kd.Ca u.o
           (first|subst dz|(injection dz with a4 bu a5;have bw:=a4.symm;have bx:=a5.symm;clear a4 bu a5;subst bw;subst bx))
           have bM:0≤(0:Int):=(by omega)
           have bO:0<(b.length:Int):=Bu
           obtain⟨O,cT,aw,ax,ay,az,aA,aB,aC⟩:=CD (Kd.Bk u.o).2.2 0 bM bO
           cases cT
           have fe:(0<b.length)=True:=eq_true (by omega)
           (try rw[show((0:Int)).toNat=0 from rfl]at aw)
           (try rw[show 0*7=0 from rfl]at aw)
           (try rw[Addr.add_zero']at aw)
           (try rw[show((0:Int)).toNat=0 from rfl]at ax)
           (try rw[show 0*7=0 from rfl]at ax)
           (try rw[Addr.add_zero']at ax)
           (try rw[show((0:Int)).toNat=0 from rfl]at ay)
           (try rw[show 0*7=0 from rfl]at ay)
           (try rw[Addr.add_zero']at ay)
           (try rw[show((0:Int)).toNat=0 from rfl]at az)
           (try rw[show 0*7=0 from rfl]at az)
           (try rw[Addr.add_zero']at az)
           (try rw[show((0:Int)).toNat=0 from rfl]at aA)
           (try rw[show 0*7=0 from rfl]at aA)
           (try rw[Addr.add_zero']at aA)
           (try rw[show((0:Int)).toNat=0 from rfl]at aB)
           (try rw[show 0*7=0 from rfl]at aB)
           (try rw[Addr.add_zero']at aB)
           (try rw[show((0:Int)).toNat=0 from rfl]at aC)
           (try rw[show 0*7=0 from rfl]at aC)
           (try rw[Addr.add_zero']at aC)
           replace bM:=eq_true bM
           replace bO:=eq_true bO
           have bN:0≤(a:Int):=Bu
           have bP:a<(Y.length:Int):=Bu
           obtain⟨cn,cU,aH,aI,aJ,aK,aL,aM,aN⟩:=CD bW.o a bN bP
           have bK:=aN
           have bJ:=aM
           have bI:=aL
           have bH:=aK
           have bG:=aJ
           have bF:=aI
           have bE:=aH
           obtain rfl:j=cn:=(by injection cU)
           replace aH:=(Au HB.o aH:)
           replace aI:=(Au HB.o aI:)
           replace aJ:=(Au HB.o aJ:)
           replace aK:=(Au HB.o aK:)
           replace aL:=(Au HB.o aL:)
           replace aM:=(Au HB.o aM:)
           replace aN:=(Au HB.o aN:)
           replace bN:=eq_true bN
           replace bP:=eq_true bP
           refine Ch (n:=15) (S:=λw'=>w'.cell? ⟨d,0,none⟩=some (.int .i64 E)∧w'.cell? ⟨d,1,none⟩=some (.int .i64 A)∧w'.cell? ⟨d,2,none⟩=some (u504002)∧w'.cell? ⟨d,3,none⟩=some (.slice (some O) b.length fi)∧w'.cell? ⟨d,4,none⟩=some (.int .i64 z)∧w'.cell? ⟨d,5,none⟩=some (.int .i64 I)∧w'.cell? O=some (.int .i64 ((Aa b 0).f0))∧w'.cell? ⟨O.block,O.off+1,none⟩=some (.int .i64 ((Aa b 0).f1))∧w'.cell? ⟨O.block,O.off+2,none⟩=some (.int .i64 ((Aa b 0).f2.f0))∧w'.cell? ⟨O.block,O.off+3,none⟩=some (.int .i64 ((Aa b 0).f2.f1))∧w'.cell? ⟨O.block,O.off+4,none⟩=some (.int .i64 ((Aa b 0).f2.f2))∧w'.cell? ⟨O.block,O.off+5,none⟩=some (.int .i64 ((Aa b 0).f2.f3))∧w'.cell? ⟨O.block,O.off+6,none⟩=some (.string ((Aa b 0).f2.f4))∧w'.cell? (j.add ((a).toNat*7))=some (.int .i64 ((Aa Y a).f0))∧w'.cell? ⟨(j.add ((a).toNat*7)).block,(j.add ((a).toNat*7)).off+1,none⟩=some (.int .i64 ((Aa Y a).f1))∧w'.cell? ⟨(j.add ((a).toNat*7)).block,(j.add ((a).toNat*7)).off+2,none⟩=some (.int .i64 ((Aa Y a).f2.f0))∧w'.cell? ⟨(j.add ((a).toNat*7)).block,(j.add ((a).toNat*7)).off+3,none⟩=some (.int .i64 ((Aa Y a).f2.f1))∧w'.cell? ⟨(j.add ((a).toNat*7)).block,(j.add ((a).toNat*7)).off+4,none⟩=some (.int .i64 ((Aa Y a).f2.f2))∧w'.cell? ⟨(j.add ((a).toNat*7)).block,(j.add ((a).toNat*7)).off+5,none⟩=some (.int .i64 ((Aa Y a).f2.f3))∧w'.cell? ⟨(j.add ((a).toNat*7)).block,(j.add ((a).toNat*7)).off+6,none⟩=some (.string ((Aa Y a).f2.f4))) (ds:=[]) #[false,false,false,false,false,false,false,false,false,false,false,false,false,false,false] (by kernel_rfl) rfl rfl ⟨(AO q.o 0).trans rfl,(AO q.o 1).trans rfl,(AO q.o 2).trans rfl,(AO q.o 3).trans rfl,(AO q.o 4).trans rfl,(AO q.o 5).trans rfl,aw,ax,ay,az,aA,aB,aC,((Au HB.o bE:)),((Au HB.o bF:)),((Au HB.o bG:)),((Au HB.o bH:)),((Au HB.o bI:)),((Au HB.o bJ:)),((Au HB.o bK:))⟩ (λG=>?_);refine BZ Ap.Pt Ap.My (λHT_ HW_=>?_)
           generalize iZ.drew=jw at r t v u y B q HB aw ax ay az aA aB aC aH aI aJ aK aL aM aN G⊢
           refine A_ 0 42 ?_
           refine FC 1 43 G ?_
           refine A_ 2 44 ?_
           refine A_ 3 45 ?_
           refine A_ 4 46 ?_
           refine A_ 5 47 ?_
           refine A_ 9 51 ?_
           refine A_ 10 52 ?_
           refine A_ 11 53 ?_
           refine FC 6 48 G ?_
           refine A_ 7 49 ?_
           refine FC 8 50 G ?_
           refine FC 12 54 G ?_
           refine A_ 13 55 ?_
           refine A_ 14 56 ?_
           refine CT (CU HT_.o (by kernel_rfl)) ?_
           have iw:=aF.o
           have iO:=aG.o
           have ix:=aj.o
           have iP:=au.o
           obtain⟨g6,g7,g8,g9,g_,ha,fY,fZ,f_,ga,gb,gf⟩:=Cs y.o
           have iy:=ak.o
           have iQ:=av.o
           obtain⟨hc,hd,hf,hh,hj,hn,gg,gh,gi,gj,gl,gm⟩:=Cs B.o
           try go_wp2
           refine bodyPost_ret (Dh rfl _ _ x 26 #[.int .i64 E,.int .i64 X,.slice al T.length ao,.slice an U.length aq,.int .i64 ai,.int .i64 I] (0,0) _ rfl (GM B.o) Tryd.underlying26 rfl (by kernel_rfl)) rfl ?_
           exact⟨_,_,by first|rfl|(simp[BK,BM] <;> rfl)|(simp only[<-a8];first|rfl|(simp[BK,BM] <;> rfl))|(simp[*,BK,BM] <;> rfl),by(with_reducible repeat(first|apply Kd.V_alloc|apply Kd.BF|apply Kd.AR));exact Kd.AH (Kd.Bb (p:=⟨x,5,none⟩) (Kd.Bb (p:=⟨x,4,none⟩) (Kd.Bb (p:=⟨x,3,none⟩) (Kd.Bb (p:=⟨x,2,none⟩) (Kd.Bb (p:=⟨x,1,none⟩) (Kd.Bb (p:=⟨x,0,none⟩) (Kd.AH r.o (λL l=>(⟨l,l.2.2.1⟩:_∧L≠x))) (λ_ l=>l.2) (.int .i64 E)) (λ_ l=>l.2) (.int .i64 X)) (λ_ l=>l.2) (.slice al T.length ao)) (λ_ l=>l.2) (.slice an U.length aq)) (λ_ l=>l.2) (.int .i64 ai)) (λ_ l=>l.2) (.int .i64 I)) (λ_ l=>l.1.1),by(with_reducible repeat(first|apply Kd.V_alloc|apply Kd.BF|apply Kd.AR));exact Kd.AH (Kd.Bb (p:=⟨x,5,none⟩) (Kd.Bb (p:=⟨x,4,none⟩) (Kd.Bb (p:=⟨x,3,none⟩) (Kd.Bb (p:=⟨x,2,none⟩) (Kd.Bb (p:=⟨x,1,none⟩) (Kd.Bb (p:=⟨x,0,none⟩) (Kd.AH t.o (λL l=>(⟨l,l.2.2.1⟩:_∧L≠x))) (λ_ l=>l.2) (.int .i64 E)) (λ_ l=>l.2) (.int .i64 X)) (λ_ l=>l.2) (.slice al T.length ao)) (λ_ l=>l.2) (.slice an U.length aq)) (λ_ l=>l.2) (.int .i64 ai)) (λ_ l=>l.2) (.int .i64 I)) (λ_ l=>l.1.1),Ad⟩
          ·rw[if_neg cx]at H
           have e2:(!(((Aa b 0).f0)==((Aa Y a).f0)) || (!(((Aa b 0).f1)==((Aa Y a).f1)) || ((!(((Aa b 0).f2.f0)==((Aa Y a).f2.f0)) || (!(((Aa b 0).f2.f1)==((Aa Y a).f2.f1)) || (!(((Aa b 0).f2.f2)==((Aa Y a).f2.f2)) || (!(((Aa b 0).f2.f3)==((Aa Y a).f2.f3)) || (!((((Aa b 0).f2.f4).toList)==(((Aa Y a).f2.f4).toList))))))))))=false:=by simpa using cx
           clear cx
           by_cases cQ:1≤(b.length:Int)
           ·rw[if_pos cQ]at H
            have ic:=eq_true cQ
            have ie:decide (1≤(b.length:Int))=true:=BJ cQ
            clear cQ
            obtain⟨ar,bL⟩:∃y_:List (AM),y_=(b.drop 1):=⟨_,rfl⟩
            replace H:((Bz.f k2 J ((Aa Y a).f2.f0) ((Aa Y a).f2.f1) ((Aa Y a).f2.f2) ((Aa Y a).f2.f3) ((Aa Y a).f2.f4)).bind λa7=>(Ap.l0 k2 Y (wrap64 (a+1)) E X T U ai I E (wrap64 (A+1)) a7 ar (wrap64 (z+1)) I))=some (r1,r2,r3,r4,r5,r6,r7):=by first|(rw[bL];with_reducible exact H)|(have dG:=(Option.bind_some _ _).symm.trans H;rw[bL];with_reducible exact dG)|(have dG:=(Option.bind_some _ _).symm.trans H;with_reducible exact dG)|with_reducible exact H|(rw[bL];exact H)|exact H
            have cC:=a_ bL
            clear bL
            replace H:=BU H
            obtain⟨a7,dg,H⟩:=H
            try dsimp only at H
            have fD:=a_ dg
            clear dg
            have H':=a_ H
            clear H
            try go_wp2
            replace r:=a_ (Kd.AR r.o)
            replace t:=a_ (Kd.AR t.o)
            replace v:=a_ (Kd.AR v.o)
            replace u:=a_ (Kd.AR u.o)
            replace y:=a_ (DA y.o)
            replace B:=a_ (DA B.o)
            replace q:=a_ (DA q.o)
            replace HB:=a_ (Ay HB.o)
            have aX:0≤(a:Int):=Bu
            have aY:a<(Y.length:Int):=Bu
            obtain⟨j,bD,Z,aa,ab,ae,af,ag,ah⟩:=CD bW.o a aX aY
            have aW:=ah
            have aV:=ag
            have aU:=af
            have aT:=ae
            have aS:=ab
            have aR:=aa
            have aQ:=Z
            cases bD
            replace Z:=(Au HB.o Z:)
            replace aa:=(Au HB.o aa:)
            replace ab:=(Au HB.o ab:)
            replace ae:=(Au HB.o ae:)
            replace af:=(Au HB.o af:)
            replace ag:=(Au HB.o ag:)
            replace ah:=(Au HB.o ah:)
            replace aX:=eq_true aX
            replace aY:=eq_true aY
            refine Ch (n:=8) (S:=λw'=>w'.cell? ⟨D,0,none⟩=some (.int .i64 E)∧w'.cell? ⟨D,1,none⟩=some (.int .i64 X)∧w'.cell? ⟨D,2,none⟩=some (.slice al T.length ao)∧w'.cell? ⟨D,3,none⟩=some (.slice an U.length aq)∧w'.cell? ⟨D,4,none⟩=some (.int .i64 ai)∧w'.cell? ⟨D,5,none⟩=some (.int .i64 I)∧w'.cell? (j.add ((a).toNat*7))=some (.int .i64 ((Aa Y a).f0))∧w'.cell? ⟨(j.add ((a).toNat*7)).block,(j.add ((a).toNat*7)).off+1,none⟩=some (.int .i64 ((Aa Y a).f1))∧w'.cell? ⟨(j.add ((a).toNat*7)).block,(j.add ((a).toNat*7)).off+2,none⟩=some (.int .i64 ((Aa Y a).f2.f0))∧w'.cell? ⟨(j.add ((a).toNat*7)).block,(j.add ((a).toNat*7)).off+3,none⟩=some (.int .i64 ((Aa Y a).f2.f1))∧w'.cell? ⟨(j.add ((a).toNat*7)).block,(j.add ((a).toNat*7)).off+4,none⟩=some (.int .i64 ((Aa Y a).f2.f2))∧w'.cell? ⟨(j.add ((a).toNat*7)).block,(j.add ((a).toNat*7)).off+5,none⟩=some (.int .i64 ((Aa Y a).f2.f3))∧w'.cell? ⟨(j.add ((a).toNat*7)).block,(j.add ((a).toNat*7)).off+6,none⟩=some (.string ((Aa Y a).f2.f4))) (ds:=[]) #[false,false,false,false,false,false,false,false] (by kernel_rfl) rfl rfl ⟨(AO y.o 0).trans rfl,(AO y.o 1).trans rfl,(AO y.o 2).trans rfl,(AO y.o 3).trans rfl,(AO y.o 4).trans rfl,(AO y.o 5).trans rfl,((Au HB.o aQ:)),((Au HB.o aR:)),((Au HB.o aS:)),((Au HB.o aT:)),((Au HB.o aU:)),((Au HB.o aV:)),((Au HB.o aW:))⟩ (λG=>?_);refine BZ Ap.N5 Ap.K8 (λHT_ HW_=>?_)
            generalize wr.drew=i_ at r t v u y B q HB Z aa ab ae af ag ah G⊢
            refine A_ 0 34 ?_
            refine A_ 1 35 ?_
            refine A_ 2 36 ?_
            refine A_ 3 37 ?_
            refine A_ 5 39 ?_
            refine E0 4 38 G ?_
            refine E0 6 40 G ?_
            refine A_ 7 41 ?_
            refine CT (CU HT_.o (by kernel_rfl)) ?_
            try go_wp2
            replace r:=a_ (Kd.AR r.o)
            replace t:=a_ (Kd.AR t.o)
            replace v:=a_ (Kd.AR v.o)
            replace u:=a_ (Kd.AR u.o)
            replace y:=a_ (DA y.o)
            replace B:=a_ (DA B.o)
            replace q:=a_ (DA q.o)
            replace HB:=a_ (Ay HB.o)
            obtain⟨jf,bz,dA⟩:=Kd.Ca u.o
            (first|subst dA|(injection dA with a4 bu a5;have bw:=a4.symm;have bx:=a5.symm;clear a4 bu a5;subst bw;subst bx))
            have bM:0≤(0:Int):=(by omega)
            have bO:0<(b.length:Int):=Bu
            obtain⟨O,cT,aw,ax,ay,az,aA,aB,aC⟩:=CD (Kd.Bk u.o).2.2 0 bM bO
            cases cT
            have fe:(0<b.length)=True:=eq_true (by omega)
            (try rw[show((0:Int)).toNat=0 from rfl]at aw)
            (try rw[show 0*7=0 from rfl]at aw)
            (try rw[Addr.add_zero']at aw)
            (try rw[show((0:Int)).toNat=0 from rfl]at ax)
            (try rw[show 0*7=0 from rfl]at ax)
            (try rw[Addr.add_zero']at ax)
            (try rw[show((0:Int)).toNat=0 from rfl]at ay)
            (try rw[show 0*7=0 from rfl]at ay)
            (try rw[Addr.add_zero']at ay)
            (try rw[show((0:Int)).toNat=0 from rfl]at az)
            (try rw[show 0*7=0 from rfl]at az)
            (try rw[Addr.add_zero']at az)
            (try rw[show((0:Int)).toNat=0 from rfl]at aA)
            (try rw[show 0*7=0 from rfl]at aA)
            (try rw[Addr.add_zero']at aA)
            (try rw[show((0:Int)).toNat=0 from rfl]at aB)
            (try rw[show 0*7=0 from rfl]at aB)
            (try rw[Addr.add_zero']at aB)
            (try rw[show((0:Int)).toNat=0 from rfl]at aC)
            (try rw[show 0*7=0 from rfl]at aC)
            (try rw[Addr.add_zero']at aC)
            replace bM:=eq_true bM
            replace bO:=eq_true bO
            have bN:0≤(a:Int):=Bu
            have bP:a<(Y.length:Int):=Bu
            obtain⟨cn,cU,aH,aI,aJ,aK,aL,aM,aN⟩:=CD bW.o a bN bP
            have bK:=aN
            have bJ:=aM
            have bI:=aL
            have bH:=aK
            have bG:=aJ
            have bF:=aI
            have bE:=aH
            obtain rfl:j=cn:=(by injection cU)
            replace aH:=(Au HB.o aH:)
            replace aI:=(Au HB.o aI:)
            replace aJ:=(Au HB.o aJ:)
            replace aK:=(Au HB.o aK:)
            replace aL:=(Au HB.o aL:)
            replace aM:=(Au HB.o aM:)
            replace aN:=(Au HB.o aN:)
            replace bN:=eq_true bN
            replace bP:=eq_true bP
            refine Ch (n:=15) (S:=λw'=>w'.cell? ⟨d,0,none⟩=some (.int .i64 E)∧w'.cell? ⟨d,1,none⟩=some (.int .i64 A)∧w'.cell? ⟨d,2,none⟩=some (u504002)∧w'.cell? ⟨d,3,none⟩=some (.slice (some O) b.length bz)∧w'.cell? ⟨d,4,none⟩=some (.int .i64 z)∧w'.cell? ⟨d,5,none⟩=some (.int .i64 I)∧w'.cell? O=some (.int .i64 ((Aa b 0).f0))∧w'.cell? ⟨O.block,O.off+1,none⟩=some (.int .i64 ((Aa b 0).f1))∧w'.cell? ⟨O.block,O.off+2,none⟩=some (.int .i64 ((Aa b 0).f2.f0))∧w'.cell? ⟨O.block,O.off+3,none⟩=some (.int .i64 ((Aa b 0).f2.f1))∧w'.cell? ⟨O.block,O.off+4,none⟩=some (.int .i64 ((Aa b 0).f2.f2))∧w'.cell? ⟨O.block,O.off+5,none⟩=some (.int .i64 ((Aa b 0).f2.f3))∧w'.cell? ⟨O.block,O.off+6,none⟩=some (.string ((Aa b 0).f2.f4))∧w'.cell? (j.add ((a).toNat*7))=some (.int .i64 ((Aa Y a).f0))∧w'.cell? ⟨(j.add ((a).toNat*7)).block,(j.add ((a).toNat*7)).off+1,none⟩=some (.int .i64 ((Aa Y a).f1))∧w'.cell? ⟨(j.add ((a).toNat*7)).block,(j.add ((a).toNat*7)).off+2,none⟩=some (.int .i64 ((Aa Y a).f2.f0))∧w'.cell? ⟨(j.add ((a).toNat*7)).block,(j.add ((a).toNat*7)).off+3,none⟩=some (.int .i64 ((Aa Y a).f2.f1))∧w'.cell? ⟨(j.add ((a).toNat*7)).block,(j.add ((a).toNat*7)).off+4,none⟩=some (.int .i64 ((Aa Y a).f2.f2))∧w'.cell? ⟨(j.add ((a).toNat*7)).block,(j.add ((a).toNat*7)).off+5,none⟩=some (.int .i64 ((Aa Y a).f2.f3))∧w'.cell? ⟨(j.add ((a).toNat*7)).block,(j.add ((a).toNat*7)).off+6,none⟩=some (.string ((Aa Y a).f2.f4))) (ds:=[]) #[false,false,false,false,false,false,false,false,false,false,false,false,false,false,false] (by kernel_rfl) rfl rfl ⟨(AO q.o 0).trans rfl,(AO q.o 1).trans rfl,(AO q.o 2).trans rfl,(AO q.o 3).trans rfl,(AO q.o 4).trans rfl,(AO q.o 5).trans rfl,aw,ax,ay,az,aA,aB,aC,((Au HB.o bE:)),((Au HB.o bF:)),((Au HB.o bG:)),((Au HB.o bH:)),((Au HB.o bI:)),((Au HB.o bJ:)),((Au HB.o bK:))⟩ (λG=>?_);refine BZ Ap.Pt Ap.My (λHT_ HW_=>?_)
            generalize i_.drew=bQ at r t v u y B q HB aw ax ay az aA aB aC aH aI aJ aK aL aM aN G⊢
            refine A_ 0 42 ?_
            refine FC 1 43 G ?_
            refine A_ 2 44 ?_
            refine A_ 3 45 ?_
            refine A_ 4 46 ?_
            refine A_ 5 47 ?_
            refine A_ 9 51 ?_
            refine A_ 10 52 ?_
            refine A_ 11 53 ?_
            refine FC 6 48 G ?_
            refine A_ 7 49 ?_
            refine FC 8 50 G ?_
            refine FC 12 54 G ?_
            refine A_ 13 55 ?_
            refine A_ 14 56 ?_
            refine CT (CU HT_.o (by kernel_rfl)) ?_
            have iz:=au.o
            have iR:=aj.o
            have iA:=av.o
            have iS:=ak.o
            obtain⟨ho,hp,hq,hr,ht,hv,gn,gp,gq,gr,gu,gv⟩:=Cs q.o
            have fc:(1:Int)≤((b.length:Int):Int):=Bu
            obtain⟨jq,cV,_,cW,_⟩:=info_parts C7
            have ba:b.length≤bz:=(Kd.Bk u.o).2.1
            have dF:Kd.F BT _ _ (some O) b.length b:=(Kd.JZ (base:=w.heap.size) u.o).2.2
            have de:=F_ (P:=Tryd.prog) 24 32 .i64 Tryd.underlying24 cV 7 cW (some O) b.length bz 1 (by omega) fc
            have bY:=Kd.Oc (m:=(1:Int).toNat) (c:=bz) dF (by omega) ba
            obtain⟨aO,hA54⟩:∃A1,A1=(if bz=(1:Int).toNat then(some O)else((some O):Option Addr).map (·.add ((1:Int).toNat*7))):=⟨_,rfl⟩
            obtain⟨aP,cv⟩:∃c1,c1=bz-(1:Int).toNat:=⟨_,rfl⟩
            have cm:ar.length=b.length-(1:Int).toNat:=(by rw[cC.o,List.length_drop] <;> omega)
            rw[show(b).drop (1:Int).toNat=ar from cC.o.symm]at bY
            replace bY:Kd.F BT _ _ aO ar.length ar:=(by rw[hA54];exact bY)
            rw[<-cm,<-hA54,<-cv]at de
            have a6:=a_ (show Kd.V BT 32 _ w.heap.size _ (.slice aO ar.length aP) ar from Kd.Ny (by rw[cm,cv];exact Nat.sub_le_sub_right ba _) bY)
            have fL:=a_ (show ar.length≤aP from by rw[cm,cv];exact Nat.sub_le_sub_right ba _)
            clear bY dF ba cV cW cv
            have jh:=a_ cm
            have jg:=a_ hA54
            clear cm hA54
            replace fc:=eq_true fc
            try go_wp2
            have n0_:Ae (Kd.V Dj 68 ((bQ.setCell ⟨d,3,none⟩ (.slice aO ar.length aP)).setCell ⟨d,4,none⟩ (.int .i64 (wrap64 (z+1)))) w.heap.size (λL=>((aD L∨aE L)∨w.heap.size≤L)∧L≠D∧L≠x∧L≠d) (.slice al T.length ao) T):=⟨by(with_reducible repeat(first|apply Kd.V_alloc|apply Kd.BF|apply Kd.AR));exact Kd.AH (Kd.Bb (p:=⟨d,4,none⟩) (Kd.Bb (p:=⟨d,3,none⟩) (Kd.AH r.o (λL l=>(⟨l,l.2.2.2⟩:_∧L≠d))) (λ_ l=>l.2) (.slice aO ar.length aP)) (λ_ l=>l.2) (.int .i64 (wrap64 (z+1)))) (λ_ l=>⟨l.1.1,⟨l.1.2.1,⟨l.1.2.2.1,l.1.2.2.2⟩⟩⟩)⟩
            have e5:Ae (Kd.V BT 32 ((bQ.setCell ⟨d,3,none⟩ (.slice aO ar.length aP)).setCell ⟨d,4,none⟩ (.int .i64 (wrap64 (z+1)))) w.heap.size (λL=>((aD L∨aE L)∨w.heap.size≤L)∧L≠D∧L≠x∧L≠d) (.slice an U.length aq) U):=⟨by(with_reducible repeat(first|apply Kd.V_alloc|apply Kd.BF|apply Kd.AR));exact Kd.AH (Kd.Bb (p:=⟨d,4,none⟩) (Kd.Bb (p:=⟨d,3,none⟩) (Kd.AH t.o (λL l=>(⟨l,l.2.2.2⟩:_∧L≠d))) (λ_ l=>l.2) (.slice aO ar.length aP)) (λ_ l=>l.2) (.int .i64 (wrap64 (z+1)))) (λ_ l=>⟨l.1.1,⟨l.1.2.1,⟨l.1.2.2.1,l.1.2.2.2⟩⟩⟩)⟩
            have e6:Ae (Kd.V Dj 68 ((bQ.setCell ⟨d,3,none⟩ (.slice aO ar.length aP)).setCell ⟨d,4,none⟩ (.int .i64 (wrap64 (z+1)))) w.heap.size (λL=>((aD L∨aE L)∨w.heap.size≤L)∧L≠D∧L≠x∧L≠d) u504002 J):=⟨by(with_reducible repeat(first|apply Kd.V_alloc|apply Kd.BF|apply Kd.AR));exact Kd.AH (Kd.Bb (p:=⟨d,4,none⟩) (Kd.Bb (p:=⟨d,3,none⟩) (Kd.AH v.o (λL l=>(⟨l,l.2.2.2⟩:_∧L≠d))) (λ_ l=>l.2) (.slice aO ar.length aP)) (λ_ l=>l.2) (.int .i64 (wrap64 (z+1)))) (λ_ l=>⟨l.1.1,⟨l.1.2.1,⟨l.1.2.2.1,l.1.2.2.2⟩⟩⟩)⟩
            have e7:Ae (Kd.V BT 32 ((bQ.setCell ⟨d,3,none⟩ (.slice aO ar.length aP)).setCell ⟨d,4,none⟩ (.int .i64 (wrap64 (z+1)))) w.heap.size (λL=>((aD L∨aE L)∨w.heap.size≤L)∧L≠D∧L≠x∧L≠d) (.slice (some O) b.length bz) b):=⟨by(with_reducible repeat(first|apply Kd.V_alloc|apply Kd.BF|apply Kd.AR));exact Kd.AH (Kd.Bb (p:=⟨d,4,none⟩) (Kd.Bb (p:=⟨d,3,none⟩) (Kd.AH u.o (λL l=>(⟨l,l.2.2.2⟩:_∧L≠d))) (λ_ l=>l.2) (.slice aO ar.length aP)) (λ_ l=>l.2) (.int .i64 (wrap64 (z+1)))) (λ_ l=>⟨l.1.1,⟨l.1.2.1,⟨l.1.2.2.1,l.1.2.2.2⟩⟩⟩)⟩
            have e8:Ae (Kd.V BT 32 ((bQ.setCell ⟨d,3,none⟩ (.slice aO ar.length aP)).setCell ⟨d,4,none⟩ (.int .i64 (wrap64 (z+1)))) w.heap.size (λL=>((aD L∨aE L)∨w.heap.size≤L)∧L≠D∧L≠x∧L≠d) (.slice aO ar.length aP) ar):=⟨by(with_reducible repeat(first|apply Kd.V_alloc|apply Kd.BF|apply Kd.AR));exact Kd.AH (Kd.Bb (p:=⟨d,4,none⟩) (Kd.Bb (p:=⟨d,3,none⟩) (Kd.AH a6.o (λL l=>(⟨l,l.2.2.2⟩:_∧L≠d))) (λ_ l=>l.2) (.slice aO ar.length aP)) (λ_ l=>l.2) (.int .i64 (wrap64 (z+1)))) (λ_ l=>⟨l.1.1,⟨l.1.2.1,⟨l.1.2.2.1,l.1.2.2.2⟩⟩⟩)⟩
            have e9:Ae (((bQ.setCell ⟨d,3,none⟩ (.slice aO ar.length aP)).setCell ⟨d,4,none⟩ (.int .i64 (wrap64 (z+1)))).heap[D]?=some (.cells #[.int .i64 E,.int .i64 X,.slice al T.length ao,.slice an U.length aq,.int .i64 ai,.int .i64 I] 26 (0,0))):=⟨Dv aj.o y.o⟩
            have e_:Ae (((bQ.setCell ⟨d,3,none⟩ (.slice aO ar.length aP)).setCell ⟨d,4,none⟩ (.int .i64 (wrap64 (z+1)))).heap[x]?=some (.cells #[.int .i64 aZ,.int .i64 a0,.slice none 0 0,.slice none 0 0,.int .i64 a2,.int .i64 a3] 26 (0,0))):=⟨Dv ak.o B.o⟩
            have fa:Ae (((bQ.setCell ⟨d,3,none⟩ (.slice aO ar.length aP)).setCell ⟨d,4,none⟩ (.int .i64 (wrap64 (z+1)))).heap[d]?=some (.cells #[.int .i64 E,.int .i64 A,u504002,.slice aO ar.length aP,.int .i64 (wrap64 (z+1)),.int .i64 I] 26 (0,0))):=⟨by(with_reducible repeat(first|refine E6 ?_ _|refine DA ?_|refine Eb ?_ _));refine Bw (cs:=#[.int .i64 E,.int .i64 A,u504002,.slice aO ar.length aP,.int .i64 z,.int .i64 I]) ?_ 4 _ rfl;(with_reducible repeat(first|refine E6 ?_ _|refine DA ?_|refine Eb ?_ _));refine Bw (cs:=#[.int .i64 E,.int .i64 A,u504002,.slice (some O) b.length bz,.int .i64 z,.int .i64 I]) ?_ 3 _ rfl;(with_reducible repeat(first|refine E6 ?_ _|refine DA ?_|refine Eb ?_ _));exact q.o⟩
            have fb:Ae (Below w.heap.size w ((bQ.setCell ⟨d,3,none⟩ (.slice aO ar.length aP)).setCell ⟨d,4,none⟩ (.int .i64 (wrap64 (z+1))))):=⟨Ad⟩
            (try clear r)
            (try clear t)
            (try clear v)
            (try clear u)
            (try clear a6)
            (try clear y)
            (try clear B)
            (try clear q)
            (try clear HB)
            generalize ((bQ.setCell ⟨d,3,none⟩ (.slice aO ar.length aP)).setCell ⟨d,4,none⟩ (.int .i64 (wrap64 (z+1))))=ja at n0_ e5 e6 e7 e8 e9 e_ fa fb⊢
            have r:=n0_
            have t:=e5
            have v:=e6
            have u:=e7
            have a6:=e8
            have y:=e9
            have B:=e_
            have q:=fa
            have HB:=fb
            clear n0_ e5 e6 e7 e8 e9 e_ fa fb
            replace r:=a_ (Kd.AR r.o)
            replace t:=a_ (Kd.AR t.o)
            replace v:=a_ (Kd.AR v.o)
            replace u:=a_ (Kd.AR u.o)
            replace a6:=a_ (Kd.AR a6.o)
            replace y:=a_ (DA y.o)
            replace B:=a_ (DA B.o)
            replace q:=a_ (DA q.o)
            replace HB:=a_ (Ay HB.o)
            have cY:0≤(a:Int):=Bu
            have c0:a<(Y.length:Int):=Bu
            obtain⟨eV,fj,bb,bc,bd,be,bf,bg,bh⟩:=CD bW.o a cY c0
            have ca:=bh
            have b_:=bg
            have b9:=bf
            have b8:=be
            have b7:=bd
            have b6:=bc
            have bZ:=bb
            obtain rfl:j=eV:=(by injection fj)
            replace bb:=(Au HB.o bb:)
            replace bc:=(Au HB.o bc:)
            replace bd:=(Au HB.o bd:)
            replace be:=(Au HB.o be:)
            replace bf:=(Au HB.o bf:)
            replace bg:=(Au HB.o bg:)
            replace bh:=(Au HB.o bh:)
            replace cY:=eq_true cY
            replace c0:=eq_true c0
            obtain⟨cq,ct,dB⟩:=Kd.Ca v.o
            (first|subst dB|(injection dB with a4 bu a5;have bw:=a4.symm;have bx:=a5.symm;clear a4 bu a5;subst bw;subst bx))
            refine Ch (n:=10) (S:=λw'=>w'.cell? ⟨d,0,none⟩=some (.int .i64 E)∧w'.cell? ⟨d,1,none⟩=some (.int .i64 A)∧w'.cell? ⟨d,2,none⟩=some (.slice cq J.length ct)∧w'.cell? ⟨d,3,none⟩=some (.slice aO ar.length aP)∧w'.cell? ⟨d,4,none⟩=some (.int .i64 (wrap64 (z+1)))∧w'.cell? ⟨d,5,none⟩=some (.int .i64 I)∧w'.cell? (j.add ((a).toNat*7))=some (.int .i64 ((Aa Y a).f0))∧w'.cell? ⟨(j.add ((a).toNat*7)).block,(j.add ((a).toNat*7)).off+1,none⟩=some (.int .i64 ((Aa Y a).f1))∧w'.cell? ⟨(j.add ((a).toNat*7)).block,(j.add ((a).toNat*7)).off+2,none⟩=some (.int .i64 ((Aa Y a).f2.f0))∧w'.cell? ⟨(j.add ((a).toNat*7)).block,(j.add ((a).toNat*7)).off+3,none⟩=some (.int .i64 ((Aa Y a).f2.f1))∧w'.cell? ⟨(j.add ((a).toNat*7)).block,(j.add ((a).toNat*7)).off+4,none⟩=some (.int .i64 ((Aa Y a).f2.f2))∧w'.cell? ⟨(j.add ((a).toNat*7)).block,(j.add ((a).toNat*7)).off+5,none⟩=some (.int .i64 ((Aa Y a).f2.f3))∧w'.cell? ⟨(j.add ((a).toNat*7)).block,(j.add ((a).toNat*7)).off+6,none⟩=some (.string ((Aa Y a).f2.f4))) (ds:=[9]) #[false,false,false,false,false,false,false,false,false,false] (by kernel_rfl) rfl rfl ⟨(AO q.o 0).trans rfl,(AO q.o 1).trans rfl,(AO q.o 2).trans rfl,(AO q.o 3).trans rfl,(AO q.o 4).trans rfl,(AO q.o 5).trans rfl,((Au HB.o bZ:)),((Au HB.o b6:)),((Au HB.o b7:)),((Au HB.o b8:)),((Au HB.o b9:)),((Au HB.o b_:)),((Au HB.o ca:))⟩ (λG=>?_);refine BZ Ap.OC Ap.Mw (λHT_ HW_=>?_)
            generalize ja.drew=jx at r t v u a6 y B q HB bb bc bd be bf bg bh G⊢
            refine A_ 0 66 ?_
            refine A_ 2 68 ?_
            refine A_ 3 69 ?_
            refine A_ 4 70 ?_
            refine A_ 5 71 ?_
            refine E0 1 67 G ?_
            refine E0 6 72 G ?_
            refine EU 7 73 (λK hK=>?_)
            refine Dp Tryd.func45 (by kernel_rfl) rfl #[.slice cq J.length ct,.agg #[.int .i64 ((Aa Y a).f2.f0),.int .i64 ((Aa Y a).f2.f1),.int .i64 ((Aa Y a).f2.f2),.int .i64 ((Aa Y a).f2.f3),.string ((Aa Y a).f2.f4)]] (by rfl) rfl rfl Lz ?_
            with_reducible refine(Bz.calls k2 _ _ J ((Aa Y a).f2.f0) ((Aa Y a).f2.f1) ((Aa Y a).f2.f2) ((Aa Y a).f2.f3) ((Aa Y a).f2.f4) a7 _ ?q' ?z' fD.o).mono ?_
            (case q'=>repeat(first|exact(Kd.Bk v.o).2.2|(with_reducible refine Kd.C_alloc ?_ _)|(with_reducible refine Kd.Cz ?_ _)|(with_reducible refine Kd.C_drew ?_)))
            (case z'=>exact(Kd.Bk v.o).2.1)
            rintro e jb ⟨jr,rfl,a9,hb⟩
            refine⟨_,rfl,?_⟩
            replace r:=a_ (Kd.Dn (FD r.o) (Kd.BO a9) hb)
            replace t:=a_ (Kd.Dn (FD t.o) (Kd.BO a9) hb)
            replace v:=a_ (Kd.Dn (FD v.o) (Kd.BO a9) hb)
            replace u:=a_ (Kd.Dn (FD u.o) (Kd.BO a9) hb)
            replace a6:=a_ (Kd.Dn (FD a6.o) (Kd.BO a9) hb)
            have cA:=a_ (Kd.AN (Kd.FQ (M:=λL=>(w.heap.size≤L)) a9 (Ab (Ad)) (λL h_=>h_)) (Ab (Ad)))
            replace HB:=a_ (BA (Ad) hb)
            replace y:=a_ (C3 y.o hb)
            replace B:=a_ (C3 B.o hb)
            replace q:=a_ (C3 q.o hb)
            try clear hb a9
            obtain⟨bR,bT,dC⟩:=Kd.Bg cA.o
            (first|subst dC|(injection dC with a4 bu a5;have bw:=a4.symm;have bx:=a5.symm;clear a4 bu a5;subst bw;subst bx))
            refine hK.out _ _ ⟨(AO q.o 0).trans rfl,(AO q.o 1).trans rfl,(AO q.o 2).trans rfl,(AO q.o 3).trans rfl,(AO q.o 4).trans rfl,(AO q.o 5).trans rfl,((Au HB.o bZ:)),((Au HB.o b6:)),((Au HB.o b7:)),((Au HB.o b8:)),((Au HB.o b9:)),((Au HB.o b_:)),((Au HB.o ca:))⟩ (λG=>?_)
            clear hK K
            refine Ea 73 ?_
            refine A_ 8 74 ?_
            refine EX (i:=9) (N:=none) #[true,true,true,true,true,true,true,true,true,true] rfl rfl (It HT_.o (by kernel_rfl)) (by decide) (λK hK=>?_)
            have jk:jb.cell? ⟨d,2,none⟩=some (.slice cq J.length ct):=(AO q.o 2).trans rfl
            have ig:=DT q.o 2
            have fv:=aj.o
            have fw:=ak.o
            have fp:=au.o
            have fq:=av.o
            refine E4 (w1:=?_) (by rfl) rfl ?_ ?_
            rotate_left
            ·go_simp
             rfl
            refine hK.out _ _ ?_
            clear hK K
            refine CT (CU HT_.o (by kernel_rfl)) ?_
            obtain⟨hx,hy,hA,hC,hG,hH,gw,gx,gy,gz,gA,gB⟩:=Cs q.o
            try go_wp2
            go_roundg k2
            case measure=>have:=da.o;have:=db.o;omega
            case rel=>exact⟨(wrap64 (a+1)),(aZ),(a0),(a2),(a3),(wrap64 (A+1)),(a7),(ar),(wrap64 (z+1)),(.slice bR a7.length bT),(.slice aO ar.length aP),(Cr),H',⟨by have:=da.o;have:=db.o;omega⟩,⟨by(with_reducible repeat(first|apply Kd.V_alloc|apply Kd.BF|apply Kd.AR));exact Kd.AH (Kd.Bb (p:=⟨d,1,none⟩) (Kd.Bb (p:=⟨d,2,none⟩) (Kd.AH r.o (λL l=>(⟨l,l.1.2.2.2⟩:_∧L≠d))) (λ_ l=>l.2) (.slice bR a7.length bT)) (λ_ l=>l.2) (.int .i64 (wrap64 (A+1)))) (λ_ l=>⟨l.1.1.1,⟨l.1.1.2.1,⟨l.1.1.2.2.1,l.1.1.2.2.2⟩⟩⟩)⟩,⟨by(with_reducible repeat(first|apply Kd.V_alloc|apply Kd.BF|apply Kd.AR));exact Kd.AH (Kd.Bb (p:=⟨d,1,none⟩) (Kd.Bb (p:=⟨d,2,none⟩) (Kd.AH t.o (λL l=>(⟨l,l.1.2.2.2⟩:_∧L≠d))) (λ_ l=>l.2) (.slice bR a7.length bT)) (λ_ l=>l.2) (.int .i64 (wrap64 (A+1)))) (λ_ l=>⟨l.1.1.1,⟨l.1.1.2.1,⟨l.1.1.2.2.1,l.1.1.2.2.2⟩⟩⟩)⟩,⟨Kd.AH (Kd.Oh (Kd.CQ (p:=⟨d,1,none⟩) (Kd.CQ (p:=⟨d,2,none⟩) (Kd.AF (Kd.AF (Kd.AF (Kd.AF cA.o y.o (by decide)) B.o (by decide)) q.o (by decide)) q.o (by decide)) (λ_ l=>l.2) (.slice bR a7.length bT)) (λ_ l=>l.2) (.int .i64 (wrap64 (A+1))))) (λL l=>⟨.inr l.1.1.1.1.1,l.1.1.1.2,l.1.1.2,l.1.2⟩)⟩,⟨by(with_reducible repeat(first|apply Kd.V_alloc|apply Kd.BF|apply Kd.AR));exact Kd.AH (Kd.Bb (p:=⟨d,1,none⟩) (Kd.Bb (p:=⟨d,2,none⟩) (Kd.AH a6.o (λL l=>(⟨l,l.1.2.2.2⟩:_∧L≠d))) (λ_ l=>l.2) (.slice bR a7.length bT)) (λ_ l=>l.2) (.int .i64 (wrap64 (A+1)))) (λ_ l=>⟨l.1.1.1,⟨l.1.1.2.1,⟨l.1.1.2.2.1,l.1.1.2.2.2⟩⟩⟩)⟩,⟨Dv aj.o y.o⟩,⟨Dv ak.o B.o⟩,⟨by(with_reducible repeat(first|refine E6 ?_ _|refine DA ?_|refine Eb ?_ _));refine Bw (cs:=#[.int .i64 E,.int .i64 A,.slice bR a7.length bT,.slice aO ar.length aP,.int .i64 (wrap64 (z+1)),.int .i64 I]) ?_ 1 _ rfl;(with_reducible repeat(first|refine E6 ?_ _|refine DA ?_|refine Eb ?_ _));refine Bw (cs:=#[.int .i64 E,.int .i64 A,.slice cq J.length ct,.slice aO ar.length aP,.int .i64 (wrap64 (z+1)),.int .i64 I]) ?_ 2 _ rfl;(with_reducible repeat(first|refine E6 ?_ _|refine DA ?_|refine Eb ?_ _));exact q.o⟩,⟨Ad⟩⟩
           ·rw[if_neg cQ]at H
            exact absurd H (by simp)
         ·rw[if_neg dd]at H
          exact absurd H (by simp)
       ·rw[if_neg cp]at H
        have eY:(((Aa Y a).f0)==E)=false:=Dq cp
        have eZ:(((Aa Y a).f0) != E)=true:=bne_iff_ne.mpr cp
        replace H:=BU H
        obtain⟨bB,dh,H⟩:=H
        try dsimp only at H
        have fE:=a_ dh
        clear dh
        have H':=a_ H
        clear H
        try go_wp2
        replace r:=a_ (Kd.AR r.o)
        replace t:=a_ (Kd.AR t.o)
        replace v:=a_ (Kd.AR v.o)
        replace u:=a_ (Kd.AR u.o)
        replace y:=a_ (DA y.o)
        replace B:=a_ (DA B.o)
        replace q:=a_ (DA q.o)
        replace HB:=a_ (Ay HB.o)
        have aX:0≤(a:Int):=Bu
        have aY:a<(Y.length:Int):=Bu
        obtain⟨j,bD,Z,aa,ab,ae,af,ag,ah⟩:=CD bW.o a aX aY
        have aW:=ah
        have aV:=ag
        have aU:=af
        have aT:=ae
        have aS:=ab
        have aR:=aa
        have aQ:=Z
        cases bD
        replace Z:=(Au HB.o Z:)
        replace aa:=(Au HB.o aa:)
        replace ab:=(Au HB.o ab:)
        replace ae:=(Au HB.o ae:)
        replace af:=(Au HB.o af:)
        replace ag:=(Au HB.o ag:)
        replace ah:=(Au HB.o ah:)
        replace aX:=eq_true aX
        replace aY:=eq_true aY
        refine Ch (n:=8) (S:=λw'=>w'.cell? ⟨D,0,none⟩=some (.int .i64 E)∧w'.cell? ⟨D,1,none⟩=some (.int .i64 X)∧w'.cell? ⟨D,2,none⟩=some (.slice al T.length ao)∧w'.cell? ⟨D,3,none⟩=some (.slice an U.length aq)∧w'.cell? ⟨D,4,none⟩=some (.int .i64 ai)∧w'.cell? ⟨D,5,none⟩=some (.int .i64 I)∧w'.cell? (j.add ((a).toNat*7))=some (.int .i64 ((Aa Y a).f0))∧w'.cell? ⟨(j.add ((a).toNat*7)).block,(j.add ((a).toNat*7)).off+1,none⟩=some (.int .i64 ((Aa Y a).f1))∧w'.cell? ⟨(j.add ((a).toNat*7)).block,(j.add ((a).toNat*7)).off+2,none⟩=some (.int .i64 ((Aa Y a).f2.f0))∧w'.cell? ⟨(j.add ((a).toNat*7)).block,(j.add ((a).toNat*7)).off+3,none⟩=some (.int .i64 ((Aa Y a).f2.f1))∧w'.cell? ⟨(j.add ((a).toNat*7)).block,(j.add ((a).toNat*7)).off+4,none⟩=some (.int .i64 ((Aa Y a).f2.f2))∧w'.cell? ⟨(j.add ((a).toNat*7)).block,(j.add ((a).toNat*7)).off+5,none⟩=some (.int .i64 ((Aa Y a).f2.f3))∧w'.cell? ⟨(j.add ((a).toNat*7)).block,(j.add ((a).toNat*7)).off+6,none⟩=some (.string ((Aa Y a).f2.f4))) (ds:=[]) #[false,false,false,false,false,false,false,false] (by kernel_rfl) rfl rfl ⟨(AO y.o 0).trans rfl,(AO y.o 1).trans rfl,(AO y.o 2).trans rfl,(AO y.o 3).trans rfl,(AO y.o 4).trans rfl,(AO y.o 5).trans rfl,((Au HB.o aQ:)),((Au HB.o aR:)),((Au HB.o aS:)),((Au HB.o aT:)),((Au HB.o aU:)),((Au HB.o aV:)),((Au HB.o aW:))⟩ (λG=>?_);refine BZ Ap.N5 Ap.K8 (λHT_ HW_=>?_)
        generalize wr.drew=jc at r t v u y B q HB Z aa ab ae af ag ah G⊢
        refine A_ 0 34 ?_
        refine A_ 1 35 ?_
        refine A_ 2 36 ?_
        refine A_ 3 37 ?_
        refine A_ 5 39 ?_
        refine E0 4 38 G ?_
        refine E0 6 40 G ?_
        refine A_ 7 41 ?_
        refine CT (CU HT_.o (by kernel_rfl)) ?_
        try go_wp2
        replace r:=a_ (Kd.AR r.o)
        replace t:=a_ (Kd.AR t.o)
        replace v:=a_ (Kd.AR v.o)
        replace u:=a_ (Kd.AR u.o)
        replace y:=a_ (DA y.o)
        replace B:=a_ (DA B.o)
        replace q:=a_ (DA q.o)
        replace HB:=a_ (Ay HB.o)
        have cZ:0≤(a:Int):=Bu
        have c_:a<(Y.length:Int):=Bu
        obtain⟨eW,fk,bj,bk,bl,bm,bn,bo,bp⟩:=CD bW.o a cZ c_
        have cl:=bp
        have ck:=bo
        have cj:=bn
        have cg:=bm
        have cf:=bl
        have cd:=bk
        have cb:=bj
        obtain rfl:j=eW:=(by injection fk)
        replace bj:=(Au HB.o bj:)
        replace bk:=(Au HB.o bk:)
        replace bl:=(Au HB.o bl:)
        replace bm:=(Au HB.o bm:)
        replace bn:=(Au HB.o bn:)
        replace bo:=(Au HB.o bo:)
        replace bp:=(Au HB.o bp:)
        replace cZ:=eq_true cZ
        replace c_:=eq_true c_
        obtain⟨cr,cu,dD⟩:=Kd.Ca v.o
        (first|subst dD|(injection dD with a4 bu a5;have bw:=a4.symm;have bx:=a5.symm;clear a4 bu a5;subst bw;subst bx))
        refine Ch (n:=10) (S:=λw'=>w'.cell? ⟨d,0,none⟩=some (.int .i64 E)∧w'.cell? ⟨d,1,none⟩=some (.int .i64 A)∧w'.cell? ⟨d,2,none⟩=some (.slice cr J.length cu)∧w'.cell? ⟨d,3,none⟩=some (u504003)∧w'.cell? ⟨d,4,none⟩=some (.int .i64 z)∧w'.cell? ⟨d,5,none⟩=some (.int .i64 I)∧w'.cell? (j.add ((a).toNat*7))=some (.int .i64 ((Aa Y a).f0))∧w'.cell? ⟨(j.add ((a).toNat*7)).block,(j.add ((a).toNat*7)).off+1,none⟩=some (.int .i64 ((Aa Y a).f1))∧w'.cell? ⟨(j.add ((a).toNat*7)).block,(j.add ((a).toNat*7)).off+2,none⟩=some (.int .i64 ((Aa Y a).f2.f0))∧w'.cell? ⟨(j.add ((a).toNat*7)).block,(j.add ((a).toNat*7)).off+3,none⟩=some (.int .i64 ((Aa Y a).f2.f1))∧w'.cell? ⟨(j.add ((a).toNat*7)).block,(j.add ((a).toNat*7)).off+4,none⟩=some (.int .i64 ((Aa Y a).f2.f2))∧w'.cell? ⟨(j.add ((a).toNat*7)).block,(j.add ((a).toNat*7)).off+5,none⟩=some (.int .i64 ((Aa Y a).f2.f3))∧w'.cell? ⟨(j.add ((a).toNat*7)).block,(j.add ((a).toNat*7)).off+6,none⟩=some (.string ((Aa Y a).f2.f4))) (ds:=[9]) #[false,false,false,false,false,false,false,false,false,false] (by kernel_rfl) rfl rfl ⟨(AO q.o 0).trans rfl,(AO q.o 1).trans rfl,(AO q.o 2).trans rfl,(AO q.o 3).trans rfl,(AO q.o 4).trans rfl,(AO q.o 5).trans rfl,((Au HB.o cb:)),((Au HB.o cd:)),((Au HB.o cf:)),((Au HB.o cg:)),((Au HB.o cj:)),((Au HB.o ck:)),((Au HB.o cl:))⟩ (λG=>?_);refine BZ Ap.OC Ap.Mw (λHT_ HW_=>?_)
        generalize jc.drew=jy at r t v u y B q HB bj bk bl bm bn bo bp G⊢
        refine A_ 0 66 ?_
        refine A_ 2 68 ?_
        refine A_ 3 69 ?_
        refine A_ 4 70 ?_
        refine A_ 5 71 ?_
        refine E0 1 67 G ?_
        refine E0 6 72 G ?_
        refine EU 7 73 (λK hK=>?_)
        refine Dp Tryd.func45 (by kernel_rfl) rfl #[.slice cr J.length cu,.agg #[.int .i64 ((Aa Y a).f2.f0),.int .i64 ((Aa Y a).f2.f1),.int .i64 ((Aa Y a).f2.f2),.int .i64 ((Aa Y a).f2.f3),.string ((Aa Y a).f2.f4)]] (by rfl) rfl rfl Lz ?_
        with_reducible refine(Bz.calls k2 _ _ J ((Aa Y a).f2.f0) ((Aa Y a).f2.f1) ((Aa Y a).f2.f2) ((Aa Y a).f2.f3) ((Aa Y a).f2.f4) bB _ ?q' ?z' fE.o).mono ?_
        (case q'=>repeat(first|exact(Kd.Bk v.o).2.2|(with_reducible refine Kd.C_alloc ?_ _)|(with_reducible refine Kd.Cz ?_ _)|(with_reducible refine Kd.C_drew ?_)))
        (case z'=>exact(Kd.Bk v.o).2.1)
        rintro e jd ⟨js,rfl,a9,hb⟩
        refine⟨_,rfl,?_⟩
        replace r:=a_ (Kd.Dn (FD r.o) (Kd.BO a9) hb)
        replace t:=a_ (Kd.Dn (FD t.o) (Kd.BO a9) hb)
        replace v:=a_ (Kd.Dn (FD v.o) (Kd.BO a9) hb)
        replace u:=a_ (Kd.Dn (FD u.o) (Kd.BO a9) hb)
        have cB:=a_ (Kd.AN (Kd.FQ (M:=λL=>(w.heap.size≤L)) a9 (Ab (Ad)) (λL h_=>h_)) (Ab (Ad)))
        replace HB:=a_ (BA (Ad) hb)
        replace y:=a_ (C3 y.o hb)
        replace B:=a_ (C3 B.o hb)
        replace q:=a_ (C3 q.o hb)
        try clear hb a9
        obtain⟨bS,bU,dE⟩:=Kd.Bg cB.o
        (first|subst dE|(injection dE with a4 bu a5;have bw:=a4.symm;have bx:=a5.symm;clear a4 bu a5;subst bw;subst bx))
        refine hK.out _ _ ⟨(AO q.o 0).trans rfl,(AO q.o 1).trans rfl,(AO q.o 2).trans rfl,(AO q.o 3).trans rfl,(AO q.o 4).trans rfl,(AO q.o 5).trans rfl,((Au HB.o cb:)),((Au HB.o cd:)),((Au HB.o cf:)),((Au HB.o cg:)),((Au HB.o cj:)),((Au HB.o ck:)),((Au HB.o cl:))⟩ (λG=>?_)
        clear hK K
        refine Ea 73 ?_
        refine A_ 8 74 ?_
        refine EX (i:=9) (N:=none) #[true,true,true,true,true,true,true,true,true,true] rfl rfl (It HT_.o (by kernel_rfl)) (by decide) (λK hK=>?_)
        have jl:jd.cell? ⟨d,2,none⟩=some (.slice cr J.length cu):=(AO q.o 2).trans rfl
        have ih:=DT q.o 2
        have fx:=aj.o
        have fy:=ak.o
        have ft:=au.o
        have fu:=av.o
        refine E4 (w1:=?_) (by rfl) rfl ?_ ?_
        rotate_left
        ·go_simp
         rfl
        refine hK.out _ _ ?_
        clear hK K
        refine CT (CU HT_.o (by kernel_rfl)) ?_
        have iB:=au.o
        have iT:=aj.o
        have iC:=av.o
        have iU:=ak.o
        obtain⟨hJ,hL,hM,hO,hP,hQ,gC,gD,gE,gF,gG,gH⟩:=Cs q.o
        try go_wp2
        go_roundg k2
        case measure=>have:=da.o;have:=db.o;omega
        case rel=>exact⟨(wrap64 (a+1)),(aZ),(a0),(a2),(a3),(wrap64 (A+1)),(bB),(b),(z),(.slice bS bB.length bU),(u504003),(Cr),H',⟨by have:=da.o;have:=db.o;omega⟩,⟨by(with_reducible repeat(first|apply Kd.V_alloc|apply Kd.BF|apply Kd.AR));exact Kd.AH (Kd.Bb (p:=⟨d,1,none⟩) (Kd.Bb (p:=⟨d,2,none⟩) (Kd.AH r.o (λL l=>(⟨l,l.1.2.2.2⟩:_∧L≠d))) (λ_ l=>l.2) (.slice bS bB.length bU)) (λ_ l=>l.2) (.int .i64 (wrap64 (A+1)))) (λ_ l=>⟨l.1.1.1,⟨l.1.1.2.1,⟨l.1.1.2.2.1,l.1.1.2.2.2⟩⟩⟩)⟩,⟨by(with_reducible repeat(first|apply Kd.V_alloc|apply Kd.BF|apply Kd.AR));exact Kd.AH (Kd.Bb (p:=⟨d,1,none⟩) (Kd.Bb (p:=⟨d,2,none⟩) (Kd.AH t.o (λL l=>(⟨l,l.1.2.2.2⟩:_∧L≠d))) (λ_ l=>l.2) (.slice bS bB.length bU)) (λ_ l=>l.2) (.int .i64 (wrap64 (A+1)))) (λ_ l=>⟨l.1.1.1,⟨l.1.1.2.1,⟨l.1.1.2.2.1,l.1.1.2.2.2⟩⟩⟩)⟩,⟨Kd.AH (Kd.Oh (Kd.CQ (p:=⟨d,1,none⟩) (Kd.CQ (p:=⟨d,2,none⟩) (Kd.AF (Kd.AF (Kd.AF (Kd.AF cB.o y.o (by decide)) B.o (by decide)) q.o (by decide)) q.o (by decide)) (λ_ l=>l.2) (.slice bS bB.length bU)) (λ_ l=>l.2) (.int .i64 (wrap64 (A+1))))) (λL l=>⟨.inr l.1.1.1.1.1,l.1.1.1.2,l.1.1.2,l.1.2⟩)⟩,⟨by(with_reducible repeat(first|apply Kd.V_alloc|apply Kd.BF|apply Kd.AR));exact Kd.AH (Kd.Bb (p:=⟨d,1,none⟩) (Kd.Bb (p:=⟨d,2,none⟩) (Kd.AH u.o (λL l=>(⟨l,l.1.2.2.2⟩:_∧L≠d))) (λ_ l=>l.2) (.slice bS bB.length bU)) (λ_ l=>l.2) (.int .i64 (wrap64 (A+1)))) (λ_ l=>⟨l.1.1.1,⟨l.1.1.2.1,⟨l.1.1.2.2.1,l.1.1.2.2.2⟩⟩⟩)⟩,⟨Dv aj.o y.o⟩,⟨Dv ak.o B.o⟩,⟨by(with_reducible repeat(first|refine E6 ?_ _|refine DA ?_|refine Eb ?_ _));refine Bw (cs:=#[.int .i64 E,.int .i64 A,.slice bS bB.length bU,u504003,.int .i64 z,.int .i64 I]) ?_ 1 _ rfl;(with_reducible repeat(first|refine E6 ?_ _|refine DA ?_|refine Eb ?_ _));refine Bw (cs:=#[.int .i64 E,.int .i64 A,.slice cr J.length cu,u504003,.int .i64 z,.int .i64 I]) ?_ 2 _ rfl;(with_reducible repeat(first|refine E6 ?_ _|refine DA ?_|refine Eb ?_ _));exact q.o⟩,⟨Ad⟩⟩
      ·rw[if_neg dc]at H
       exact absurd H (by simp)
     ·rw[if_neg cw]at H
      have eX:decide (a<(Y.length:Int))=false:=C1 cw
      clear cw
      simp only[Option.some.injEq,Prod.mk.injEq]at H
      obtain⟨rfl,rfl,rfl,rfl,rfl,rfl,rfl⟩:=H
      have iD:=au.o
      have iV:=aj.o
      have iE:=av.o
      have iW:=ak.o
      obtain⟨hS,hT,hU,hV,hW,hX,gI,gJ,gK,gL,gM,gN⟩:=Cs (W:=wr) q.o
      have iF:=aG.o
      have iX:=aF.o
      obtain⟨hY,hZ,h2,h5,h6,h7,gO,gP,gQ,gR,gS,gT⟩:=Cs (W:=wr) B.o
      obtain⟨cy,cR,fl⟩:=Kd.Ca v.o
      subst fl
      obtain⟨cz,cS,fm⟩:=Kd.Ca u.o
      subst fm
      go_wp2
      refine bodyPost_ret (Dh rfl _ _ x 26 #[.int .i64 E,.int .i64 A,.slice cy J.length cR,.slice cz b.length cS,.int .i64 z,.int .i64 I] (0,0) _ rfl (GM B.o) Tryd.underlying26 rfl (by kernel_rfl)) rfl ?_
      exact⟨_,_,by first|rfl|(simp[BK,BM] <;> rfl)|(simp only[<-a8];first|rfl|(simp[BK,BM] <;> rfl))|(simp[*,BK,BM] <;> rfl),by(with_reducible repeat(first|apply Kd.V_alloc|apply Kd.BF|apply Kd.AR));exact Kd.AH (Kd.Bb (p:=⟨x,5,none⟩) (Kd.Bb (p:=⟨x,4,none⟩) (Kd.Bb (p:=⟨x,3,none⟩) (Kd.Bb (p:=⟨x,2,none⟩) (Kd.Bb (p:=⟨x,1,none⟩) (Kd.Bb (p:=⟨x,0,none⟩) (Kd.AH v.o (λL l=>(⟨l,l.2.2.1⟩:_∧L≠x))) (λ_ l=>l.2) (.int .i64 E)) (λ_ l=>l.2) (.int .i64 A)) (λ_ l=>l.2) (.slice cy J.length cR)) (λ_ l=>l.2) (.slice cz b.length cS)) (λ_ l=>l.2) (.int .i64 z)) (λ_ l=>l.2) (.int .i64 I)) (λ_ l=>l.1.1),by(with_reducible repeat(first|apply Kd.V_alloc|apply Kd.BF|apply Kd.AR));exact Kd.AH (Kd.Bb (p:=⟨x,5,none⟩) (Kd.Bb (p:=⟨x,4,none⟩) (Kd.Bb (p:=⟨x,3,none⟩) (Kd.Bb (p:=⟨x,2,none⟩) (Kd.Bb (p:=⟨x,1,none⟩) (Kd.Bb (p:=⟨x,0,none⟩) (Kd.AH u.o (λL l=>(⟨l,l.2.2.1⟩:_∧L≠x))) (λ_ l=>l.2) (.int .i64 E)) (λ_ l=>l.2) (.int .i64 A)) (λ_ l=>l.2) (.slice cy J.length cR)) (λ_ l=>l.2) (.slice cz b.length cS)) (λ_ l=>l.2) (.int .i64 z)) (λ_ l=>l.2) (.int .i64 I)) (λ_ l=>l.1.1),Ad⟩
end Go.Proofs.YtlhlpfnljglhoaaDoor.P
namespace Go.Proofs.YtlhlpfnljglhoaaDoor.P
open Go.RowKit Go.Proofs.YtlhlpfnljglhoaaDoorW.PrintWords Go.Proofs.YtlhlpfnljglhoaaDoorW.Bc Go.Proofs.YtlhlpfnljglhoaaDoorW.C6
structure Hx (w W:World) (zs:List Nat) (bs:List Bx) (D:World->Prop):Prop where
 hB:Below w.heap.size w W
 B:BX w W zs (λ_=>False) bs
 hl:∀k,k∈zs->k<W.heap.size
 hD:Ci D W (λk=>k∉zs)
section
variable {w W W1:World} {zs:List Nat} {bs:List Bx} {D D':World->Prop}
theorem Hx.start(w:World):Hx w w [] [] (λ_=>True):=⟨Below.refl _ _,BX.start _ _ _,λ_ a=>(List.not_mem_nil a).elim,λ_ _=>trivial⟩
theorem Hx.IB(h:Hx w W zs bs D)(hD:Ci D' W (λk=>k∉zs)):Hx w W zs bs D':=⟨h.hB,h.B,h.hl,hD⟩
theorem Hx.now(h:Hx w W zs bs D):D W:=Ci.now h.hD
theorem Hx.below(h:Hx w W zs bs D)(a:Below W.heap.size W W1):Hx w W1 zs bs D :=
 ⟨BA h.hB a,h.B.below a,λk c=>Nat.lt_of_lt_of_le (h.hl k c) a.size,Ci.step h.hD (λk _ b=>a.block k b)⟩
theorem Hx.drew(h:Hx w W zs bs D):Hx w W.drew zs bs D :=
 ⟨EN h.hB,⟨h.B.at_,h.B.nd,h.B.ge,h.B.mem,Kept.drew h.B.hK⟩,h.hl,Ci.step h.hD (λ_ _ _=>rfl)⟩
theorem Hx.box(h:Hx w W zs bs D){a:Nat}{cs:List Value}{t:Nat}(i:a=W.heap.size)(d:Below W.heap.size W W1)(b:W1.heap[a]?=some (.cells cs.toArray t (0,0))):Hx w W1 (a::zs) (⟨a,cs,t⟩::bs) D :=
  ⟨BA h.hB d,h.B.new i d b,λk c=>(List.mem_cons.1 c).elim (λe=>e ▸ AU b) (λc=>Nat.lt_of_lt_of_le (h.hl k c) d.size),
   Ci.mono (Ci.step (Ci.bound h.hD) (λk _ g=>d.block k g)) (λk c=>not_cons c.1 (by have:=c.2;omega))⟩
theorem Hx.put(h:Hx w W zs bs D)(i j:Nat){a t:Nat}{cs:List Value}(x:Value)(c:bs[i]?=some ⟨a,cs,t⟩):Hx w (W.setCell ⟨a,j,none⟩ x) zs (bs.set i ⟨a,cs.set j x,t⟩) D:=by have hm:=List.mem_of_getElem? c;have b:w.heap.size≤a:=h.B.ge _ hm;have hz:a∈zs:=h.B.mem _ hm;exact⟨EK h.hB b,h.B.set i j x c,λk d=>by simpa[World.setCell]using h.hl k d,Ci.step h.hD (λk g _=>Below.heap_setCell W ⟨a,j,none⟩ x k (λe=>g (by rw[e];exact hz)))⟩
theorem Hx.write{row:Option Nat}(h:Hx w W zs bs D)(hg:W.grownBy W1 row)(b:Below w.heap.size W W1)(d:∀k,row=some k->k∉zs∧w.heap.size≤k)(hD:Ci D' W1 (λk=>k∉zs)):Hx w W1 zs bs D' :=
 ⟨⟨b.os.trans h.hB.os,b.tape.trans h.hB.tape,b.output.trans h.hB.output,Nat.le_trans h.hB.size b.size,λk a=>(b.block k a).trans (h.hB.block k a)⟩,⟨λq c=>AJ (h.B.at_ q c) hg (λe=>(d _ e.symm).1 (h.B.mem q c)),h.B.nd,h.B.ge,h.B.mem,h.B.hK.Dy hg (λk a=>.inr (d k a).2)⟩,λk a=>Nat.lt_of_lt_of_le (h.hl k a) hg.size,hD⟩
theorem Hx.Oq(h:Hx w W zs bs D){k:Nat}(a:W.heap.size≤k):k∉zs:=λe=>by have:=h.hl k e;omega
theorem Hx.Ib(h:Hx w W zs bs D)(i:Nat){q t:Nat}{n g e d c b b0 b1 b2 b3 b4 b5:Value}(m:bs[i]?=some ⟨q,[n,g,e,d,c,b],t⟩):Hx w ((((((W.setCell ⟨q,0,none⟩ b0).setCell ⟨q,1,none⟩ b1).setCell ⟨q,2,none⟩ b2).setCell ⟨q,3,none⟩ b3).setCell ⟨q,4,none⟩ b4).setCell ⟨q,5,none⟩ b5) zs (bs.set i ⟨q,[b0,b1,b2,b3,b4,b5],t⟩) D:=by have hl:i<bs.length:=(List.getElem?_eq_some_iff.1 m).1;have h1:=h.put i 0 b0 m;have j:=h1.put i 1 (a:=q) (cs:=[b0,g,e,d,c,b]) (t:=t) b1 (by rw[List.getElem?_set_self hl];rfl);rw[List.set_set]at j;have h3:=j.put i 2 (a:=q) (cs:=[b0,b1,e,d,c,b]) (t:=t) b2 (by rw[List.getElem?_set_self hl];rfl);rw[List.set_set]at h3;have h4:=h3.put i 3 (a:=q) (cs:=[b0,b1,b2,d,c,b]) (t:=t) b3 (by rw[List.getElem?_set_self hl];rfl);rw[List.set_set]at h4;have k:=h4.put i 4 (a:=q) (cs:=[b0,b1,b2,b3,c,b]) (t:=t) b4 (by rw[List.getElem?_set_self hl];rfl);rw[List.set_set]at k;have l:=k.put i 5 (a:=q) (cs:=[b0,b1,b2,b3,b4,b]) (t:=t) b5 (by rw[List.getElem?_set_self hl];rfl);rw[List.set_set]at l;exact l
theorem Hx.QB(h:Hx w W zs bs D)(i:Nat){q t:Nat}{r k g e d c b b0 b1 b2 b3 b4 b5 j:Value}(p:bs[i]?=some ⟨q,[r,k,g,e,d,c,b],t⟩):Hx w (((((((W.setCell ⟨q,0,none⟩ b0).setCell ⟨q,1,none⟩ b1).setCell ⟨q,2,none⟩ b2).setCell ⟨q,3,none⟩ b3).setCell ⟨q,4,none⟩ b4).setCell ⟨q,5,none⟩ b5).setCell ⟨q,6,none⟩ j) zs (bs.set i ⟨q,[b0,b1,b2,b3,b4,b5,j],t⟩) D:=by have hl:i<bs.length:=(List.getElem?_eq_some_iff.1 p).1;have h1:=h.put i 0 b0 p;have l:=h1.put i 1 (a:=q) (cs:=[b0,k,g,e,d,c,b]) (t:=t) b1 (by rw[List.getElem?_set_self hl];rfl);rw[List.set_set]at l;have h3:=l.put i 2 (a:=q) (cs:=[b0,b1,g,e,d,c,b]) (t:=t) b2 (by rw[List.getElem?_set_self hl];rfl);rw[List.set_set]at h3;have h4:=h3.put i 3 (a:=q) (cs:=[b0,b1,b2,e,d,c,b]) (t:=t) b3 (by rw[List.getElem?_set_self hl];rfl);rw[List.set_set]at h4;have m:=h4.put i 4 (a:=q) (cs:=[b0,b1,b2,b3,d,c,b]) (t:=t) b4 (by rw[List.getElem?_set_self hl];rfl);rw[List.set_set]at m;have n:=m.put i 5 (a:=q) (cs:=[b0,b1,b2,b3,b4,c,b]) (t:=t) b5 (by rw[List.getElem?_set_self hl];rfl);rw[List.set_set]at n;have o:=n.put i 6 (a:=q) (cs:=[b0,b1,b2,b3,b4,b5,b]) (t:=t) j (by rw[List.getElem?_set_self hl];rfl);rw[List.set_set]at o;exact o
end
theorem BX.c7{w W:World}{zs:List Nat}{S:Nat->Prop}{bs:List Bx}(h:BX w W zs S bs)(i:Nat){g t:Nat}{a b c d e f x:Value}(k:bs[i]?=some ⟨g,[a,b,c,d,e,f,x],t⟩):W.cell? ⟨g,0,none⟩=some a∧W.cell? ⟨g,1,none⟩=some b∧W.cell? ⟨g,2,none⟩=some c∧W.cell? ⟨g,3,none⟩=some d∧W.cell? ⟨g,4,none⟩=some e∧W.cell? ⟨g,5,none⟩=some f∧W.cell? ⟨g,6,none⟩=some x∧∀j,W.frozen? ⟨g,j,none⟩=false :=
 ⟨h.cell i 0 k rfl,h.cell i 1 k rfl,h.cell i 2 k rfl,h.cell i 3 k rfl,h.cell i 4 k rfl,h.cell i 5 k rfl,h.cell i 6 k rfl,λj=>h.fr i j k⟩
theorem N1{W:World}{g:Nat}{x:AM}{base:Nat}{ok:Nat->Prop}(h:W.heap[g]?=some (.cells #[.int .i64 x.f0,.int .i64 x.f1,.int .i64 x.f2.f0,.int .i64 x.f2.f1,.int .i64 x.f2.f2,.int .i64 x.f2.f3,.string x.f2.f4] 32 (0,0))) :
  CH (λy cs=>BT.M W base ok y cs) BT.sz W (some ⟨g,0,none⟩) 1 [x]:=by
 refine⟨rfl,by decide,λ_=>⟨⟨g,0,none⟩,rfl,λj p b=>?_⟩⟩
 have a:j=0∧p=x:=by
  cases j with
  | zero=>exact⟨rfl,(C5 b).symm⟩
  | succ j=>simp at b
 obtain⟨rfl,rfl⟩:=a;refine⟨_,rfl,Ex W base ok p,λi u hu=>?_⟩;rw[add_plain,AO h];simpa using hu
end Go.Proofs.YtlhlpfnljglhoaaDoor.P
namespace Go.Proofs.YtlhlpfnljglhoaaDoor.P
open Go.RowKit Go.Proofs.YtlhlpfnljglhoaaDoorW.PrintWords Go.Proofs.YtlhlpfnljglhoaaDoorW.Bc
def Cg.j0:Nat->Bool->Int->Int->List (Ba)->List (AM)->Int->Int->Int->Int->Int->Int->ByteArray->Int->Int->Int->Int->Int->Int->ByteArray->Option (Int×Int×(List (Ba))×(List (AM))×Int×Int×Bool)
 | 0,_,_,_,_,_,_,_,_,_,_,_,_,_,_,_,_,_,_,_=>none
 | k+1,D,b,c,d,a,e,g,q,y,z,A,B,i,j,l,m,n,o,p=>if D=true then(some (b,c,d,a,e,g,false))else(if q=1 then((some (([]:List (AM)):List (AM))).bind λr=>(if r.length+a.length<2199023255552 then((some (r++a:List (AM))).bind λt=>((some (([(⟨i,j,(⟨l,m,n,o,p⟩:Et)⟩:AM)]:List (AM)):List (AM))).bind λu=>(if t.length+u.length<2199023255552 then(some (b,c,d,(t++u),e,wrap64 (g+1),true))else(none))))else(none)))else((some (([]:List (AM)):List (AM))).bind λv=>(if v.length+a.length<2199023255552 then((some (v++a:List (AM))).bind λw=>((some (([(⟨i,j,(⟨l,m,n,o,p⟩:Et)⟩:AM)]:List (AM)):List (AM))).bind λx=>(if w.length+x.length<2199023255552 then(some (b,c,d,(w++x),e,g,true))else(none))))else(none))))
def Cg.f(k:Nat)(a:Int)(m:Int)(n:List (Ba))(j:List (AM))(d:Int)(l:Int)(b:Int)(c:Int)(e:Int)(g:Int)(i:ByteArray):Option (Int×Int×(List (Ba))×(List (AM))×Int×Int×Bool):=(Bv.f k a (wrap64 ((wrap64 (d+(j.length:Int)))+1)) b c e g i).bind λo=>(if o=true then(if b=1 then((Db.f a (wrap64 (l+1))).bind λp=>(Cg.j0 k (c != p) a m n j d l b c e g i a (wrap64 ((wrap64 (d+(j.length:Int)))+1)) b c e g i))else(Cg.j0 k false a m n j d l b c e g i a (wrap64 ((wrap64 (d+(j.length:Int)))+1)) b c e g i))else(Cg.j0 k true a m n j d l b c e g i a (wrap64 ((wrap64 (d+(j.length:Int)))+1)) b c e g i))
theorem Cg.calls(k:Nat)(c:Int)(X:Int)(aj:Nat->Prop)(Z:Option Addr)(ab:Nat)(E:List (Ba))(ak:Nat->Prop)(aa:Option Addr)(ae:Nat)(b:List (AM))(d:Int)(A:Int)(g:Int)(m:Int)(o:Int)(r:Int)(u:ByteArray)(r1:Int)(r2:Int)(r3:List (Ba))(r4:List (AM))(r5:Int)(r6:Int)(r7:Bool)(w:World)(av:Kd.V Dj 68 w w.heap.size (λk_=>aj k_) (.slice Z E.length ab) E)(aw:Kd.V BT 32 w w.heap.size (λk_=>ak k_) (.slice aa b.length ae) b)(h:Cg.f k c X E b d A g m o r u=some (r1,r2,r3,r4,r5,r6,r7)) :
  Calls Tryd.prog 26 #[.agg #[.int .i64 c,.int .i64 X,.slice Z E.length ab,.slice aa b.length ae,.int .i64 d,.int .i64 A],.agg #[.int .i64 g,.int .i64 m,.int .i64 o,.int .i64 r,.string u]] w λe w'=>∃aG aH:Value,e=.returned (.tuple #[.agg #[.int .i64 r1,.int .i64 r2,aG,aH,.int .i64 r5,.int .i64 r6],.bool r7])∧Kd.V Dj 68 w' w.heap.size (λk_=>((aj k_∨ak k_)∨w.heap.size≤k_)) aG r3∧Kd.V BT 32 w' w.heap.size (λk_=>((aj k_∨ak k_)∨w.heap.size≤k_)) aH r4∧Below w.heap.size w w':=by
 have aK:=Tryd.underlying26;have aL:=Tryd.underlying30;have aM:=Tryd.underlying32;have H2:=a_ av;have H3:=a_ aw;unfold Cg.f at h;replace h:=BU h;obtain⟨ok,aE,h⟩:=h;have HE:=a_ aE;have M:=a_ (Hx.start w);clear aE av aw;go_enter Tryd.func26,Tryd.ntmps26
 go_upto_region 2 with(first
  | ((with_reducible refine Cd (N:=2) rfl ?_);refine CE 2 (#[.int .i64 c,.int .i64 X,.slice Z E.length ab,.slice aa b.length ae,.int .i64 d,.int .i64 A]) 26 ?_;intro gA hg w1 B U;have D:=M.o.box (cs:=[.int .i64 c,.int .i64 X,.slice Z E.length ab,.slice aa b.length ae,.int .i64 d,.int .i64 A]) hg U B;clear M B U hg;have M:=a_ D;clear D)
  | ((with_reducible refine Cd (N:=3) rfl ?_);refine CE 3 (#[.int .i64 g,.int .i64 m,.int .i64 o,.int .i64 r,.string u]) 30 ?_;intro gO hg w2 B U;have D:=M.o.box (cs:=[.int .i64 g,.int .i64 m,.int .i64 o,.int .i64 r,.string u]) hg U B;clear M B U hg;have M:=a_ D;clear D)
  | ((with_reducible refine Cd (N:=4) rfl ?_);refine CE 4 (#[.int .i64 0,.int .i64 0,.slice none 0 0,.slice none 0 0,.int .i64 0,.int .i64 0]) 26 ?_;intro gR hg w3 B U;have D:=M.o.box (cs:=[.int .i64 0,.int .i64 0,.slice none 0 0,.slice none 0 0,.int .i64 0,.int .i64 0]) hg U B;clear M B U hg;have M:=a_ D;clear D;obtain⟨p0,p1,p2,Y,p4,p5,py⟩:=M.o.B.c6 2 rfl;obtain⟨o0,o1,o2,o3,o4,oy⟩:=M.o.B.c5 1 rfl;obtain⟨t0,t1,t2,t3,t4,t5,ty⟩:=M.o.B.c6 0 rfl)
  | ((with_reducible refine Cd (N:=6) rfl ?_);refine CE 6 (#[.int .i64 0,.int .i64 0,.int .i64 0,.int .i64 0,.int .i64 0,.int .i64 0,.string ⟨#[]⟩]) 32 ?_;intro z hg w4 B U;have D:=M.o.box (cs:=[.int .i64 0,.int .i64 0,.int .i64 0,.int .i64 0,.int .i64 0,.int .i64 0,.string ⟨#[]⟩]) hg U B;clear M p0 p1 p2 Y p4 p5 py o0 o1 o2 o3 o4 oy t0 t1 t2 t3 t4 t5 ty B U hg;have M:=a_ D;clear D;obtain⟨p0,p1,p2,Y,p4,p5,py⟩:=M.o.B.c6 3 rfl;obtain⟨o0,o1,o2,o3,o4,oy⟩:=M.o.B.c5 2 rfl;obtain⟨t0,t1,t2,t3,t4,t5,ty⟩:=M.o.B.c6 1 rfl;obtain⟨G,I,J,L,O,P,T,ey⟩:=M.o.B.c7 0 rfl)
  | ((with_reducible refine CS (t:=32) (p:=6) rfl ?_);refine Cx (t:=32) (p:=6) (v:=?q') (w1:=(((((((w4.setCell ⟨z,0,none⟩ (.int .i64 c)).setCell ⟨z,1,none⟩ (.int .i64 (wrap64 (wrap64 (d+(b.length:Int))+1)))).setCell ⟨z,2,none⟩ (.int .i64 g)).setCell ⟨z,3,none⟩ (.int .i64 m)).setCell ⟨z,4,none⟩ (.int .i64 o)).setCell ⟨z,5,none⟩ (.int .i64 r)).setCell ⟨z,6,none⟩ (.string u))) ?hg ?ho ?hn ?hr ?_;(case ho=>rfl);(case hg=>rfl);(case hn=>rfl);(case hr=>first|(go_simp;done)|(go_simp;rfl));intro w5 hw;have D:Hx w _ [z,gR,gO,gA] [⟨z,[.int .i64 c,.int .i64 (wrap64 (wrap64 (d+(b.length:Int))+1)),.int .i64 g,.int .i64 m,.int .i64 o,.int .i64 r,.string u],32⟩,⟨gR,[.int .i64 0,.int .i64 0,.slice none 0 0,.slice none 0 0,.int .i64 0,.int .i64 0],26⟩,⟨gO,[.int .i64 g,.int .i64 m,.int .i64 o,.int .i64 r,.string u],30⟩,⟨gA,[.int .i64 c,.int .i64 X,.slice Z E.length ab,.slice aa b.length ae,.int .i64 d,.int .i64 A],26⟩] _:=M.o.QB 0 rfl;rw[<-hw]at D;clear M hw p0 p1 p2 Y p4 p5 py o0 o1 o2 o3 o4 oy t0 t1 t2 t3 t4 t5 ty G I J L O P T ey;have M:=a_ D;clear D;obtain⟨p0,p1,p2,Y,p4,p5,py⟩:=M.o.B.c6 3 rfl;obtain⟨o0,o1,o2,o3,o4,oy⟩:=M.o.B.c5 2 rfl;obtain⟨t0,t1,t2,t3,t4,t5,ty⟩:=M.o.B.c6 1 rfl;obtain⟨G,I,J,L,O,P,T,ey⟩:=M.o.B.c7 0 rfl))
 cases k with
 | zero =>
  exfalso
  have h0:∀x:Bool,(Cg.j0 0 x c X E b d A g m o r u c (wrap64 (wrap64 (d+(b.length:Int))+1)) g m o r u)=none:=λ_=>rfl
  simp only[h0]at h
  split at h
  ·split at h
   ·obtain⟨_,_,h⟩:=BU h;exact absurd h (by simp)
   ·exact absurd h (by simp)
  ·exact absurd h (by simp)
 | succ k =>
  cases ok with
  | false =>
   rw[if_neg (by decide)]at h
   simp only[Cg.j0,if_true]at h
   simp only[Option.some.injEq,Prod.mk.injEq]at h;obtain⟨rfl,rfl,rfl,rfl,rfl,rfl,rfl⟩:=h
   have Md:=a_ M.o.drew
   clear M
   have M:=Md
   clear Md
   refine Ch (n:=19) (S:=λw'=>w'.cell? ⟨z,0,none⟩=some (.int .i64 c)∧w'.cell? ⟨z,1,none⟩=some (.int .i64 (wrap64 (wrap64 (d+(b.length:Int))+1)))∧w'.cell? ⟨z,2,none⟩=some (.int .i64 g)∧w'.cell? ⟨z,3,none⟩=some (.int .i64 m)∧w'.cell? ⟨z,4,none⟩=some (.int .i64 o)∧w'.cell? ⟨z,5,none⟩=some (.int .i64 r)∧w'.cell? ⟨z,6,none⟩=some (.string u)∧w'.cell? ⟨gO,0,none⟩=some (.int .i64 g)∧w'.cell? ⟨gO,1,none⟩=some (.int .i64 m)∧w'.cell? ⟨gA,0,none⟩=some (.int .i64 c)∧w'.cell? ⟨gA,5,none⟩=some (.int .i64 A)) (ds:=[]) #[false,false,false,false,false,false,false,false,false,false,false,false,false,false,false,false,false,false,false] (by kernel_rfl) rfl rfl ⟨G,I,J,L,O,P,T,o0,o1,p0,p5⟩ (λy=>?_)
   refine Gc 0 18 y ?_
   refine EU 1 19 (λK hK=>?_)
   refine Dp Tryd.func22 (by kernel_rfl) rfl #[.agg #[.int .i64 c,.int .i64 (wrap64 (wrap64 (d+(b.length:Int))+1)),.int .i64 g,.int .i64 m,.int .i64 o,.int .i64 r,.string u]] (by rfl) rfl rfl (by simp only[List.map_toArray,List.map_cons,List.map_nil];rfl) ?_
   with_reducible refine(Bv.calls (k+1) c (wrap64 (wrap64 (d+(b.length:Int))+1)) g m o r u false _ HE.o).mono ?_
   rintro e w6 ⟨rfl,U⟩
   refine⟨_,rfl,?_⟩
   have D:=M.o.below U
   clear M U p0 p1 p2 Y p4 p5 py o0 o1 o2 o3 o4 oy t0 t1 t2 t3 t4 t5 ty G I J L O P T ey
   have M:=a_ D
   clear D
   obtain⟨p0,p1,p2,Y,p4,p5,py⟩:=M.o.B.c6 3 rfl;obtain⟨o0,o1,o2,o3,o4,oy⟩:=M.o.B.c5 2 rfl;obtain⟨t0,t1,t2,t3,t4,t5,ty⟩:=M.o.B.c6 1 rfl;obtain⟨G,I,J,L,O,P,T,ey⟩:=M.o.B.c7 0 rfl
   refine hK.out _ _ ⟨G,I,J,L,O,P,T,o0,o1,p0,p5⟩ (λy=>?_)
   clear hK K
   refine Ea 19 ?_
   refine A_ 2 20 ?_
   refine A_ 3 21 ?_
   refine D9 4 22 ?_
   refine D9 5 23 ?_
   refine D9 6 24 ?_
   refine D9 7 25 ?_
   refine D9 8 26 ?_
   refine D9 9 27 ?_
   refine D9 10 28 ?_
   refine D9 11 29 ?_
   refine D9 12 30 ?_
   refine D9 13 31 ?_
   refine D9 14 32 ?_
   refine D9 15 33 ?_
   refine D9 16 34 ?_
   refine D9 17 35 ?_
   refine A_ 18 36 ?_
   refine CT (by kernel_rfl) ?_
   have ax:gR≠gA:=M.o.B.ne (i:=1) (i':=3) rfl rfl (by decide)
   have aF:gA≠gR:=λe=>ax e.symm
   go_wp2
   have D2:Hx w _ _ _ _:=M.o.Ib 1 (b0:=.int .i64 c) (b1:=.int .i64 X) (b2:=.slice Z E.length ab) (b3:=.slice aa b.length ae) (b4:=.int .i64 d) (b5:=.int .i64 A) rfl
   have DB:=D2.B.EJ 1 rfl
   refine bodyPost_ret (Dh rfl _ _ gR 26 #[.int .i64 c,.int .i64 X,.slice Z E.length ab,.slice aa b.length ae,.int .i64 d,.int .i64 A] (0,0) _ rfl DB Tryd.underlying26 rfl (by kernel_rfl)) rfl ?_
   exact⟨_,_,rfl,Kd.AH (Kd.BE H2.o D2.hB) (λk hk=>.inl (.inl hk)),Kd.AH (Kd.BE H3.o D2.hB) (λk hk=>.inl (.inr hk)),D2.hB⟩
  | true =>
   rw[if_pos rfl]at h
   have HP:=a_ (show(A=A)from rfl)
   rcases Classical.em (g=1)with k1|k1
   rotate_left
   rw[if_neg k1]at h
   have cb:(g==1)=false:=Dq k1
   simp only[Cg.j0,Bool.false_eq_true,if_false]at h
   rw[if_neg k1]at h
   have Md:=a_ M.o.drew
   clear M
   have M:=Md
   clear Md
   refine Ch (n:=19) (S:=λw'=>w'.cell? ⟨z,0,none⟩=some (.int .i64 c)∧w'.cell? ⟨z,1,none⟩=some (.int .i64 (wrap64 (wrap64 (d+(b.length:Int))+1)))∧w'.cell? ⟨z,2,none⟩=some (.int .i64 g)∧w'.cell? ⟨z,3,none⟩=some (.int .i64 m)∧w'.cell? ⟨z,4,none⟩=some (.int .i64 o)∧w'.cell? ⟨z,5,none⟩=some (.int .i64 r)∧w'.cell? ⟨z,6,none⟩=some (.string u)∧w'.cell? ⟨gO,0,none⟩=some (.int .i64 g)∧w'.cell? ⟨gO,1,none⟩=some (.int .i64 m)∧w'.cell? ⟨gA,0,none⟩=some (.int .i64 c)∧w'.cell? ⟨gA,5,none⟩=some (.int .i64 A)) (ds:=[]) #[false,false,false,false,false,false,false,false,false,false,false,false,false,false,false,false,false,false,false] (by kernel_rfl) rfl rfl ⟨G,I,J,L,O,P,T,o0,o1,p0,p5⟩ (λy=>?_)
   refine Gc 0 18 y ?_
   refine EU 1 19 (λK hK=>?_)
   refine Dp Tryd.func22 (by kernel_rfl) rfl #[.agg #[.int .i64 c,.int .i64 (wrap64 (wrap64 (d+(b.length:Int))+1)),.int .i64 g,.int .i64 m,.int .i64 o,.int .i64 r,.string u]] (by rfl) rfl rfl (by simp only[List.map_toArray,List.map_cons,List.map_nil];rfl) ?_
   with_reducible refine(Bv.calls (k+1) c (wrap64 (wrap64 (d+(b.length:Int))+1)) g m o r u true _ HE.o).mono ?_
   rintro e w6 ⟨rfl,U⟩
   refine⟨_,rfl,?_⟩
   have D:=M.o.below U
   clear M U p0 p1 p2 Y p4 p5 py o0 o1 o2 o3 o4 oy t0 t1 t2 t3 t4 t5 ty G I J L O P T ey
   have M:=a_ D
   clear D
   obtain⟨p0,p1,p2,Y,p4,p5,py⟩:=M.o.B.c6 3 rfl;obtain⟨o0,o1,o2,o3,o4,oy⟩:=M.o.B.c5 2 rfl;obtain⟨t0,t1,t2,t3,t4,t5,ty⟩:=M.o.B.c6 1 rfl;obtain⟨G,I,J,L,O,P,T,ey⟩:=M.o.B.c7 0 rfl
   refine hK.out _ _ ⟨G,I,J,L,O,P,T,o0,o1,p0,p5⟩ (λy=>?_)
   clear hK K
   refine Ea 19 ?_
   refine A_ 2 20 ?_
   refine A_ 3 21 ?_
   refine A_ 4 22 ?_
   refine Gc 5 23 y ?_
   refine A_ 6 24 ?_
   refine A_ 7 25 ?_
   refine D9 8 26 ?_
   refine D9 9 27 ?_
   refine D9 10 28 ?_
   refine D9 11 29 ?_
   refine D9 12 30 ?_
   refine D9 13 31 ?_
   refine D9 14 32 ?_
   refine D9 15 33 ?_
   refine D9 16 34 ?_
   refine A_ 17 35 ?_
   refine A_ 18 36 ?_
   refine CT (by kernel_rfl) ?_
   obtain⟨mm,ao⟩:∃x,x=A:=⟨_,rfl⟩
   go_upto_region 6 with(fail)
   rw[<-ao]at h
   obtain⟨w8,aq⟩:∃x,x=w6:=⟨_,rfl⟩
   rw[<-aq]
   have D:Hx w w8 [z,gR,gO,gA] [⟨z,[.int .i64 c,.int .i64 (wrap64 (wrap64 (d+(b.length:Int))+1)),.int .i64 g,.int .i64 m,.int .i64 o,.int .i64 r,.string u],32⟩,⟨gR,[.int .i64 0,.int .i64 0,.slice none 0 0,.slice none 0 0,.int .i64 0,.int .i64 0],26⟩,⟨gO,[.int .i64 g,.int .i64 m,.int .i64 o,.int .i64 r,.string u],30⟩,⟨gA,[.int .i64 c,.int .i64 X,.slice Z E.length ab,.slice aa b.length ae,.int .i64 d,.int .i64 mm],26⟩] (λ_=>True):=by rw[aq,ao];exact M.o
   clear M p0 p1 p2 Y p4 p5 py o0 o1 o2 o3 o4 oy t0 t1 t2 t3 t4 t5 ty G I J L O P T ey
   have M:=a_ D
   clear D ao cb k1 aq
   rotate_left
   rw[if_pos k1]at h
   have cb:(g==1)=true:=beq_iff_eq.mpr k1
   have K1:=a_ k1
   clear k1
   replace h:=BU h;obtain⟨mv,aD,h⟩:=h
   have HM:=a_ aD
   clear aD
   have Md:=a_ M.o.drew
   clear M
   have M:=Md
   clear Md
   refine Ch (n:=19) (S:=λw'=>w'.cell? ⟨z,0,none⟩=some (.int .i64 c)∧w'.cell? ⟨z,1,none⟩=some (.int .i64 (wrap64 (wrap64 (d+(b.length:Int))+1)))∧w'.cell? ⟨z,2,none⟩=some (.int .i64 g)∧w'.cell? ⟨z,3,none⟩=some (.int .i64 m)∧w'.cell? ⟨z,4,none⟩=some (.int .i64 o)∧w'.cell? ⟨z,5,none⟩=some (.int .i64 r)∧w'.cell? ⟨z,6,none⟩=some (.string u)∧w'.cell? ⟨gO,0,none⟩=some (.int .i64 g)∧w'.cell? ⟨gO,1,none⟩=some (.int .i64 m)∧w'.cell? ⟨gA,0,none⟩=some (.int .i64 c)∧w'.cell? ⟨gA,5,none⟩=some (.int .i64 A)) (ds:=[]) #[false,false,false,false,false,false,false,false,false,false,false,false,false,false,false,false,false,false,false] (by kernel_rfl) rfl rfl ⟨G,I,J,L,O,P,T,o0,o1,p0,p5⟩ (λy=>?_)
   refine Gc 0 18 y ?_
   refine EU 1 19 (λK hK=>?_)
   refine Dp Tryd.func22 (by kernel_rfl) rfl #[.agg #[.int .i64 c,.int .i64 (wrap64 (wrap64 (d+(b.length:Int))+1)),.int .i64 g,.int .i64 m,.int .i64 o,.int .i64 r,.string u]] (by rfl) rfl rfl (by simp only[List.map_toArray,List.map_cons,List.map_nil];rfl) ?_
   with_reducible refine(Bv.calls (k+1) c (wrap64 (wrap64 (d+(b.length:Int))+1)) g m o r u true _ HE.o).mono ?_
   rintro e w6 ⟨rfl,U⟩
   refine⟨_,rfl,?_⟩
   have D:=M.o.below U
   clear M U p0 p1 p2 Y p4 p5 py o0 o1 o2 o3 o4 oy t0 t1 t2 t3 t4 t5 ty G I J L O P T ey
   have M:=a_ D
   clear D
   obtain⟨p0,p1,p2,Y,p4,p5,py⟩:=M.o.B.c6 3 rfl;obtain⟨o0,o1,o2,o3,o4,oy⟩:=M.o.B.c5 2 rfl;obtain⟨t0,t1,t2,t3,t4,t5,ty⟩:=M.o.B.c6 1 rfl;obtain⟨G,I,J,L,O,P,T,ey⟩:=M.o.B.c7 0 rfl
   refine hK.out _ _ ⟨G,I,J,L,O,P,T,o0,o1,p0,p5⟩ (λy=>?_)
   clear hK K
   refine Ea 19 ?_
   refine A_ 2 20 ?_
   refine A_ 3 21 ?_
   refine A_ 4 22 ?_
   refine Gc 5 23 y ?_
   refine A_ 6 24 ?_
   refine A_ 7 25 ?_
   refine A_ 8 26 ?_
   refine A_ 10 28 ?_
   refine A_ 12 30 ?_
   refine Gc 9 27 y ?_
   refine Gc 11 29 y ?_
   refine Gc 13 31 y ?_
   refine A_ 14 32 ?_
   refine EU 15 33 (λK hK=>?_)
   refine Dp Tryd.func44 (by kernel_rfl) rfl #[.int .i64 c,.int .i64 (wrap64 (A+1))] (by rfl) rfl rfl (by simp only[List.map_toArray,List.map_cons,List.map_nil];rfl) ?_
   with_reducible refine(Db.calls c (wrap64 (A+1)) mv _ HM.o).mono ?_
   rintro e w7 ⟨rfl,hd⟩
   refine⟨_,rfl,?_⟩
   have D:=M.o.below hd.below
   clear M hd p0 p1 p2 Y p4 p5 py o0 o1 o2 o3 o4 oy t0 t1 t2 t3 t4 t5 ty G I J L O P T ey
   have M:=a_ D
   clear D
   obtain⟨p0,p1,p2,Y,p4,p5,py⟩:=M.o.B.c6 3 rfl;obtain⟨o0,o1,o2,o3,o4,oy⟩:=M.o.B.c5 2 rfl;obtain⟨t0,t1,t2,t3,t4,t5,ty⟩:=M.o.B.c6 1 rfl;obtain⟨G,I,J,L,O,P,T,ey⟩:=M.o.B.c7 0 rfl
   refine hK.out _ _ ⟨G,I,J,L,O,P,T,o0,o1,p0,p5⟩ (λy=>?_)
   clear hK K
   refine Ea 33 ?_
   refine A_ 16 34 ?_
   refine A_ 17 35 ?_
   refine A_ 18 36 ?_
   refine CT (by kernel_rfl) ?_
   by_cases cm:(m != mv)=true
   ·rw[cm]at h
    simp only[Cg.j0,if_true]at h
    simp only[Option.some.injEq,Prod.mk.injEq]at h;obtain⟨rfl,rfl,rfl,rfl,rfl,rfl,rfl⟩:=h
    have ax:gR≠gA:=M.o.B.ne (i:=1) (i':=3) rfl rfl (by decide)
    have aF:gA≠gR:=λe=>ax e.symm
    go_wp2
    have D2:Hx w _ _ _ _:=M.o.Ib 1 (b0:=.int .i64 c) (b1:=.int .i64 X) (b2:=.slice Z E.length ab) (b3:=.slice aa b.length ae) (b4:=.int .i64 d) (b5:=.int .i64 A) rfl
    have DB:=D2.B.EJ 1 rfl
    refine bodyPost_ret (Dh rfl _ _ gR 26 #[.int .i64 c,.int .i64 X,.slice Z E.length ab,.slice aa b.length ae,.int .i64 d,.int .i64 A] (0,0) _ rfl DB Tryd.underlying26 rfl (by kernel_rfl)) rfl ?_
    exact⟨_,_,rfl,Kd.AH (Kd.BE H2.o D2.hB) (λk hk=>.inl (.inl hk)),Kd.AH (Kd.BE H3.o D2.hB) (λk hk=>.inl (.inr hk)),D2.hB⟩
   have aB:(m != mv)=false:=by simpa using cm
   rw[aB]at h
   clear cm
   simp only[Cg.j0,Bool.false_eq_true,if_false]at h
   rw[if_pos K1.o]at h
   obtain⟨mm,ao⟩:∃x,x=wrap64 (A+1):=⟨_,rfl⟩
   go_upto_region 6 with(fail)
   rw[<-ao]at h
   obtain⟨w8,aq⟩:∃x,x=(w7.setCell ⟨gA,5,none⟩ (.int .i64 (wrap64 (A+1)))):=⟨_,rfl⟩
   rw[<-aq]
   have D:Hx w w8 [z,gR,gO,gA] [⟨z,[.int .i64 c,.int .i64 (wrap64 (wrap64 (d+(b.length:Int))+1)),.int .i64 g,.int .i64 m,.int .i64 o,.int .i64 r,.string u],32⟩,⟨gR,[.int .i64 0,.int .i64 0,.slice none 0 0,.slice none 0 0,.int .i64 0,.int .i64 0],26⟩,⟨gO,[.int .i64 g,.int .i64 m,.int .i64 o,.int .i64 r,.string u],30⟩,⟨gA,[.int .i64 c,.int .i64 X,.slice Z E.length ab,.slice aa b.length ae,.int .i64 d,.int .i64 mm],26⟩] (λ_=>True):=by rw[aq,ao];exact M.o.put 3 5 (.int .i64 (wrap64 (A+1))) rfl
   clear M p0 p1 p2 Y p4 p5 py o0 o1 o2 o3 o4 oy t0 t1 t2 t3 t4 t5 ty G I J L O P T ey
   have M:=a_ D
   clear D ao cb aB K1 HM aq
   all_goals(
    simp only[Option.bind_some,List.nil_append,List.length_nil,List.length_singleton,Nat.zero_add]at h
    split at h
    rotate_left
    ·exact absurd h (by simp)
    split at h
    rotate_left
    ·exact absurd h (by simp)
    rename_i aJ aC
    have LG:=a_ aC
    clear aJ aC
    obtain⟨ln,az⟩:∃l:List AM,l=b++[(⟨c,(wrap64 (wrap64 (d+(b.length:Int))+1)),⟨g,m,o,r,u⟩⟩:AM)]:=⟨_,rfl⟩
    rw[<-az]at h
    have aI:=a_ az
    clear az
    simp only[Option.some.injEq,Prod.mk.injEq]at h;obtain⟨rfl,rfl,rfl,rfl,rfl,rfl,rfl⟩:=h
    obtain⟨p0,p1,p2,Y,p4,p5,py⟩:=M.o.B.c6 3 rfl;obtain⟨o0,o1,o2,o3,o4,oy⟩:=M.o.B.c5 2 rfl;obtain⟨t0,t1,t2,t3,t4,t5,ty⟩:=M.o.B.c6 1 rfl;obtain⟨G,I,J,L,O,P,T,ey⟩:=M.o.B.c7 0 rfl
    have Md:=a_ M.o.drew
    clear M
    have M:=Md
    clear Md
    refine Ch (n:=9) (S:=λw'=>w'.cell? ⟨gA,3,none⟩=some (.slice aa b.length ae)∧w'.cell? ⟨z,0,none⟩=some (.int .i64 c)∧w'.cell? ⟨z,1,none⟩=some (.int .i64 (wrap64 (wrap64 (d+(b.length:Int))+1)))∧w'.cell? ⟨z,2,none⟩=some (.int .i64 g)∧w'.cell? ⟨z,3,none⟩=some (.int .i64 m)∧w'.cell? ⟨z,4,none⟩=some (.int .i64 o)∧w'.cell? ⟨z,5,none⟩=some (.int .i64 r)∧w'.cell? ⟨z,6,none⟩=some (.string u)) (ds:=[8]) #[false,false,false,false,false,false,false,false,false] (by kernel_rfl) rfl rfl ⟨Y,G,I,J,L,O,P,T⟩ (λy=>?_)
    generalize w8.drew=w9 at M y⊢
    refine A_ 1 46 ?_
    refine Qm 2 47 y ?_
    refine Qm 4 49 y ?_
    refine Lk (σ:=Value×Value×Nat) 3 #[true,true,true,true,true,true,false,false,false] ((λs=>[(45,s.1),(48,s.2.1),(50,.slice (some ⟨s.2.2,0,none⟩) 1 1)])) ((λs w'=>Ae (Hx w w' [s.2.2,z,gR,gO,gA] [⟨s.2.2,[.int .i64 c,.int .i64 (wrap64 (wrap64 (d+(b.length:Int))+1)),.int .i64 g,.int .i64 m,.int .i64 o,.int .i64 r,.string u],32⟩,⟨z,[.int .i64 c,.int .i64 (wrap64 (wrap64 (d+(b.length:Int))+1)),.int .i64 g,.int .i64 m,.int .i64 o,.int .i64 r,.string u],32⟩,⟨gR,[.int .i64 0,.int .i64 0,.slice none 0 0,.slice none 0 0,.int .i64 0,.int .i64 0],26⟩,⟨gO,[.int .i64 g,.int .i64 m,.int .i64 o,.int .i64 r,.string u],30⟩,⟨gA,[.int .i64 c,.int .i64 X,.slice Z E.length ab,.slice aa b.length ae,.int .i64 d,.int .i64 mm],26⟩] (λW=>Kd.R BT 32 W w.heap.size (λk=>k∉[s.2.2,z,gR,gO,gA]) s.2.1 b)))) ?_ ?_
    rotate_left
    ·intro al
     refine KT (i:=0) (j:=5) (Ni:=some 45) (Nj:=some 50) #[true,true,true,false,true,false,false,false,false] #[false,true,true,false,true,true,false,false,false] rfl rfl rfl rfl (by kernel_rfl) (by decide) (by decide) (λK hK=>?_) (λK hK=>?_)
     ·skip
      refine Kd.CR BT _ 32 ?hg (N:=45) ?hd (xs:=([]:List AM)) (inner:=[]) (ok:=λk=>k∉[z,gR,gO,gA]) (okp:=λ_=>False) ?hr ?hp (λ_ h=>h.elim) (M.o.Oq (Nat.le_refl _)) (Below.refl _ _) (Nat.le_refl _) (by simp) ?_;(case hd=>rfl);(case hg=>rfl);(case hr=>first|(go_simp;done)|(go_simp;rfl));(case hp=>exact(Bi.none _ _))
      intro ah wa ho U Du au
      have hr:=Kd.AN ho M.o.hB.size
      have D:=(M.o.below U).IB (D':=(λW=>Kd.R BT 32 W w.heap.size (λk=>k∉[z,gR,gO,gA]) ah [])) (λW' hW=>Kd.Eg hr hW)
      clear ho U Du au hr
      clear M p0 p1 p2 Y p4 p5 py o0 o1 o2 o3 o4 oy t0 t1 t2 t3 t4 t5 ty G I J L O P T ey
      have M:=a_ D
      clear D
      obtain⟨p0,p1,p2,Y,p4,p5,py⟩:=M.o.B.c6 3 rfl;obtain⟨o0,o1,o2,o3,o4,oy⟩:=M.o.B.c5 2 rfl;obtain⟨t0,t1,t2,t3,t4,t5,ty⟩:=M.o.B.c6 1 rfl;obtain⟨G,I,J,L,O,P,T,ey⟩:=M.o.B.c7 0 rfl
      refine hK.out _ _ ⟨Y,G,I,J,L,O,P,T⟩ (λy=>?_)
      clear hK K
      refine Ea 45 ?_
      refine KT (i:=3) (j:=5) (Ni:=some 48) (Nj:=some 50) #[true,true,true,true,true,false,false,false,false] #[true,true,true,false,true,true,false,false,false] rfl rfl rfl rfl (by kernel_rfl) (by decide) (by decide) (λK hK=>?_) (λK hK=>?_)
      ·skip
       refine Kd.Bo BT w.heap.size (by rfl) (.tmp 45) (.tmp 47) 24 32 (.agg #[(.int .i64 0),(.int .i64 0),(.int .i64 0),(.int .i64 0),(.int .i64 0),(.int .i64 0),(.string ⟨#[]⟩)]) 64 rfl Tryd.underlying24 C7 rfl (by decide) (by omega) ah [] b _ _ _ (λk=>k∉[z,gR,gO,gA]) (λ_=>False) rfl rfl M.o.now ((Kd.Bk (Kd.BE H3.o M.o.hB)).2.2) (λ_ _ h=>h) (λ_ h=>h.elim) (λk hk=>M.o.Oq hk) (Below.refl _ _) M.o.hB.size (by have:=LG.o;(try simp only[List.length_nil,List.length_singleton]);omega) ?_
       intro ai ar ho U hg an
       rw[List.nil_append]at ho
       have D:=M.o.write hg U (λk hk=>⟨M.o.now.1 k hk,((Kd.CO M.o.now).1 k hk).2.1⟩) (D':=(λW=>Kd.R BT 32 W w.heap.size (λk=>k∉[z,gR,gO,gA]) ai b)) (λW' hW=>Kd.Eg ho hW)
       clear ho U hg an
       clear M p0 p1 p2 Y p4 p5 py o0 o1 o2 o3 o4 oy t0 t1 t2 t3 t4 t5 ty G I J L O P T ey
       have M:=a_ D
       clear D
       obtain⟨p0,p1,p2,Y,p4,p5,py⟩:=M.o.B.c6 3 rfl;obtain⟨o0,o1,o2,o3,o4,oy⟩:=M.o.B.c5 2 rfl;obtain⟨t0,t1,t2,t3,t4,t5,ty⟩:=M.o.B.c6 1 rfl;obtain⟨G,I,J,L,O,P,T,ey⟩:=M.o.B.c7 0 rfl
       refine hK.out _ _ ⟨Y,G,I,J,L,O,P,T⟩ (λy=>?_)
       clear hK K
       refine Ea 48 ?_
       refine EU 5 50 (λK hK=>?_)
       refine F4 (w1:=?_) (v:=?_) (by rfl) rfl ?_ ?_
       rotate_left 2
       ·go_simp
        constructor
        ·rfl
        ·rfl
       obtain⟨ay,ag⟩:∃x,x=World.alloc ar (.cells #[.int .i64 c,.int .i64 (wrap64 (wrap64 (d+(b.length:Int))+1)),.int .i64 g,.int .i64 m,.int .i64 o,.int .i64 r,.string u] 32 (0,0)):=⟨_,rfl⟩
       have U:Below ar.heap.size ar ay:=by rw[ag];exact FL (Below.refl _ _) _
       have B:ay.heap[ar.heap.size]?=some (.cells #[.int .i64 c,.int .i64 (wrap64 (wrap64 (d+(b.length:Int))+1)),.int .i64 g,.int .i64 m,.int .i64 o,.int .i64 r,.string u] 32 (0,0)):=by rw[ag];exact EL _ _
       have D0:=M.o.box (a:=ar.heap.size) (cs:=[.int .i64 c,.int .i64 (wrap64 (wrap64 (d+(b.length:Int))+1)),.int .i64 g,.int .i64 m,.int .i64 o,.int .i64 r,.string u]) rfl U B
       have hr:Kd.R BT 32 ay w.heap.size (λk=>k∉(ar.heap.size::[z,gR,gO,gA])) ai b:=Kd.AZ (Kd.Aj (Kd.CO M.o.now) (λk hk e=>(List.mem_cons.1 e).elim (λq=>by have:=hk.2.2.1;omega) hk.1)) U
       rw[<-ag]
       obtain⟨af,hg⟩:∃x,x=ar.heap.size:=⟨_,rfl⟩
       rw[<-hg]at D0 hr
       rw[<-hg]
       have D:=D0.IB (D':=(λW=>Kd.R BT 32 W w.heap.size (λk=>k∉[af,z,gR,gO,gA]) ai b)) (λW' hW=>Kd.Eg hr hW)
       clear D0 U B ag hg hr
       clear M p0 p1 p2 Y p4 p5 py o0 o1 o2 o3 o4 oy t0 t1 t2 t3 t4 t5 ty G I J L O P T ey
       have M:=a_ D
       clear D
       obtain⟨p0,p1,p2,Y,p4,p5,py⟩:=M.o.B.c6 4 rfl;obtain⟨o0,o1,o2,o3,o4,oy⟩:=M.o.B.c5 3 rfl;obtain⟨t0,t1,t2,t3,t4,t5,ty⟩:=M.o.B.c6 2 rfl;obtain⟨G,I,J,L,O,P,T,ey⟩:=M.o.B.c7 1 rfl
       refine hK.out _ _ ⟨Y,G,I,J,L,O,P,T⟩ (λy=>?_)
       clear hK K
       refine Ea 50 ?_
       exact Fj (by simp only[Eh,Act.put,List.setIfInBounds_toArray,List.set_cons_zero,List.set_cons_succ]) (al (ah,ai,af) _ M)
      ·skip
       refine F4 (w1:=?_) (v:=?_) (by rfl) rfl ?_ ?_
       rotate_left 2
       ·go_simp
        constructor
        ·rfl
        ·rfl
       obtain⟨aA,ag⟩:∃x,x=World.alloc wa (.cells #[.int .i64 c,.int .i64 (wrap64 (wrap64 (d+(b.length:Int))+1)),.int .i64 g,.int .i64 m,.int .i64 o,.int .i64 r,.string u] 32 (0,0)):=⟨_,rfl⟩
       have U:Below wa.heap.size wa aA:=by rw[ag];exact FL (Below.refl _ _) _
       have B:aA.heap[wa.heap.size]?=some (.cells #[.int .i64 c,.int .i64 (wrap64 (wrap64 (d+(b.length:Int))+1)),.int .i64 g,.int .i64 m,.int .i64 o,.int .i64 r,.string u] 32 (0,0)):=by rw[ag];exact EL _ _
       have D0:=M.o.box (a:=wa.heap.size) (cs:=[.int .i64 c,.int .i64 (wrap64 (wrap64 (d+(b.length:Int))+1)),.int .i64 g,.int .i64 m,.int .i64 o,.int .i64 r,.string u]) rfl U B
       have hr:Kd.R BT 32 aA w.heap.size (λk=>k∉(wa.heap.size::[z,gR,gO,gA])) ah []:=Kd.AZ (Kd.Aj (Kd.CO M.o.now) (λk hk e=>(List.mem_cons.1 e).elim (λq=>by have:=hk.2.2.1;omega) hk.1)) U
       rw[<-ag]
       obtain⟨af,hg⟩:∃x,x=wa.heap.size:=⟨_,rfl⟩
       rw[<-hg]at D0 hr
       rw[<-hg]
       have D:=D0.IB (D':=(λW=>Kd.R BT 32 W w.heap.size (λk=>k∉[af,z,gR,gO,gA]) ah [])) (λW' hW=>Kd.Eg hr hW)
       clear D0 U B ag hg hr
       clear M p0 p1 p2 Y p4 p5 py o0 o1 o2 o3 o4 oy t0 t1 t2 t3 t4 t5 ty G I J L O P T ey
       have M:=a_ D
       clear D
       obtain⟨p0,p1,p2,Y,p4,p5,py⟩:=M.o.B.c6 4 rfl;obtain⟨o0,o1,o2,o3,o4,oy⟩:=M.o.B.c5 3 rfl;obtain⟨t0,t1,t2,t3,t4,t5,ty⟩:=M.o.B.c6 2 rfl;obtain⟨G,I,J,L,O,P,T,ey⟩:=M.o.B.c7 1 rfl
       refine hK.out _ _ ⟨Y,G,I,J,L,O,P,T⟩ (λy=>?_)
       clear hK K
       refine Ea 50 ?_
       refine EU 3 48 (λK hK=>?_)
       refine Kd.Bo BT w.heap.size (by rfl) (.tmp 45) (.tmp 47) 24 32 (.agg #[(.int .i64 0),(.int .i64 0),(.int .i64 0),(.int .i64 0),(.int .i64 0),(.int .i64 0),(.string ⟨#[]⟩)]) 64 rfl Tryd.underlying24 C7 rfl (by decide) (by omega) ah [] b _ _ _ (λk=>k∉[af,z,gR,gO,gA]) (λ_=>False) rfl rfl M.o.now ((Kd.Bk (Kd.BE H3.o M.o.hB)).2.2) (λ_ _ h=>h) (λ_ h=>h.elim) (λk hk=>M.o.Oq hk) (Below.refl _ _) M.o.hB.size (by have:=LG.o;(try simp only[List.length_nil,List.length_singleton]);omega) ?_
       intro ai aN ho U hg an
       rw[List.nil_append]at ho
       have D:=M.o.write hg U (λk hk=>⟨M.o.now.1 k hk,((Kd.CO M.o.now).1 k hk).2.1⟩) (D':=(λW=>Kd.R BT 32 W w.heap.size (λk=>k∉[af,z,gR,gO,gA]) ai b)) (λW' hW=>Kd.Eg ho hW)
       clear ho U hg an
       clear M p0 p1 p2 Y p4 p5 py o0 o1 o2 o3 o4 oy t0 t1 t2 t3 t4 t5 ty G I J L O P T ey
       have M:=a_ D
       clear D
       obtain⟨p0,p1,p2,Y,p4,p5,py⟩:=M.o.B.c6 4 rfl;obtain⟨o0,o1,o2,o3,o4,oy⟩:=M.o.B.c5 3 rfl;obtain⟨t0,t1,t2,t3,t4,t5,ty⟩:=M.o.B.c6 2 rfl;obtain⟨G,I,J,L,O,P,T,ey⟩:=M.o.B.c7 1 rfl
       refine hK.out _ _ ⟨Y,G,I,J,L,O,P,T⟩ (λy=>?_)
       clear hK K
       refine Ea 48 ?_
       exact Fj (by simp only[Eh,Act.put,List.setIfInBounds_toArray,List.set_cons_zero,List.set_cons_succ]) (al (ah,ai,af) _ M)
     ·skip
      refine F4 (w1:=?_) (v:=?_) (by rfl) rfl ?_ ?_
      rotate_left 2
      ·go_simp
       constructor
       ·rfl
       ·rfl
      obtain⟨wc,ag⟩:∃x,x=World.alloc w9 (.cells #[.int .i64 c,.int .i64 (wrap64 (wrap64 (d+(b.length:Int))+1)),.int .i64 g,.int .i64 m,.int .i64 o,.int .i64 r,.string u] 32 (0,0)):=⟨_,rfl⟩
      have U:Below w9.heap.size w9 wc:=by rw[ag];exact FL (Below.refl _ _) _
      have B:wc.heap[w9.heap.size]?=some (.cells #[.int .i64 c,.int .i64 (wrap64 (wrap64 (d+(b.length:Int))+1)),.int .i64 g,.int .i64 m,.int .i64 o,.int .i64 r,.string u] 32 (0,0)):=by rw[ag];exact EL _ _
      have D0:=M.o.box (a:=w9.heap.size) (cs:=[.int .i64 c,.int .i64 (wrap64 (wrap64 (d+(b.length:Int))+1)),.int .i64 g,.int .i64 m,.int .i64 o,.int .i64 r,.string u]) rfl U B
      rw[<-ag]
      obtain⟨af,hg⟩:∃x,x=w9.heap.size:=⟨_,rfl⟩
      rw[<-hg]at D0
      rw[<-hg]
      have D:=D0
      clear D0 U B ag hg
      clear M p0 p1 p2 Y p4 p5 py o0 o1 o2 o3 o4 oy t0 t1 t2 t3 t4 t5 ty G I J L O P T ey
      have M:=a_ D
      clear D
      obtain⟨p0,p1,p2,Y,p4,p5,py⟩:=M.o.B.c6 4 rfl;obtain⟨o0,o1,o2,o3,o4,oy⟩:=M.o.B.c5 3 rfl;obtain⟨t0,t1,t2,t3,t4,t5,ty⟩:=M.o.B.c6 2 rfl;obtain⟨G,I,J,L,O,P,T,ey⟩:=M.o.B.c7 1 rfl
      refine hK.out _ _ ⟨Y,G,I,J,L,O,P,T⟩ (λy=>?_)
      clear hK K
      refine Ea 50 ?_
      refine EU 0 45 (λK hK=>?_)
      refine Kd.CR BT _ 32 ?hg (N:=45) ?hd (xs:=([]:List AM)) (inner:=[]) (ok:=λk=>k∉[af,z,gR,gO,gA]) (okp:=λ_=>False) ?hr ?hp (λ_ h=>h.elim) (M.o.Oq (Nat.le_refl _)) (Below.refl _ _) (Nat.le_refl _) (by simp) ?_;(case hd=>rfl);(case hg=>rfl);(case hr=>first|(go_simp;done)|(go_simp;rfl));(case hp=>exact(Bi.none _ _))
      intro ah aR ho U Du au
      have hr:=Kd.AN ho M.o.hB.size
      have D:=(M.o.below U).IB (D':=(λW=>Kd.R BT 32 W w.heap.size (λk=>k∉[af,z,gR,gO,gA]) ah [])) (λW' hW=>Kd.Eg hr hW)
      clear ho U Du au hr
      clear M p0 p1 p2 Y p4 p5 py o0 o1 o2 o3 o4 oy t0 t1 t2 t3 t4 t5 ty G I J L O P T ey
      have M:=a_ D
      clear D
      obtain⟨p0,p1,p2,Y,p4,p5,py⟩:=M.o.B.c6 4 rfl;obtain⟨o0,o1,o2,o3,o4,oy⟩:=M.o.B.c5 3 rfl;obtain⟨t0,t1,t2,t3,t4,t5,ty⟩:=M.o.B.c6 2 rfl;obtain⟨G,I,J,L,O,P,T,ey⟩:=M.o.B.c7 1 rfl
      refine hK.out _ _ ⟨Y,G,I,J,L,O,P,T⟩ (λy=>?_)
      clear hK K
      refine Ea 45 ?_
      refine EU 3 48 (λK hK=>?_)
      refine Kd.Bo BT w.heap.size (by rfl) (.tmp 45) (.tmp 47) 24 32 (.agg #[(.int .i64 0),(.int .i64 0),(.int .i64 0),(.int .i64 0),(.int .i64 0),(.int .i64 0),(.string ⟨#[]⟩)]) 64 rfl Tryd.underlying24 C7 rfl (by decide) (by omega) ah [] b _ _ _ (λk=>k∉[af,z,gR,gO,gA]) (λ_=>False) rfl rfl M.o.now ((Kd.Bk (Kd.BE H3.o M.o.hB)).2.2) (λ_ _ h=>h) (λ_ h=>h.elim) (λk hk=>M.o.Oq hk) (Below.refl _ _) M.o.hB.size (by have:=LG.o;(try simp only[List.length_nil,List.length_singleton]);omega) ?_
      intro ai aO ho U hg an
      rw[List.nil_append]at ho
      have D:=M.o.write hg U (λk hk=>⟨M.o.now.1 k hk,((Kd.CO M.o.now).1 k hk).2.1⟩) (D':=(λW=>Kd.R BT 32 W w.heap.size (λk=>k∉[af,z,gR,gO,gA]) ai b)) (λW' hW=>Kd.Eg ho hW)
      clear ho U hg an
      clear M p0 p1 p2 Y p4 p5 py o0 o1 o2 o3 o4 oy t0 t1 t2 t3 t4 t5 ty G I J L O P T ey
      have M:=a_ D
      clear D
      obtain⟨p0,p1,p2,Y,p4,p5,py⟩:=M.o.B.c6 4 rfl;obtain⟨o0,o1,o2,o3,o4,oy⟩:=M.o.B.c5 3 rfl;obtain⟨t0,t1,t2,t3,t4,t5,ty⟩:=M.o.B.c6 2 rfl;obtain⟨G,I,J,L,O,P,T,ey⟩:=M.o.B.c7 1 rfl
      refine hK.out _ _ ⟨Y,G,I,J,L,O,P,T⟩ (λy=>?_)
      clear hK K
      refine Ea 48 ?_
      exact Fj (by simp only[Eh,Act.put,List.setIfInBounds_toArray,List.set_cons_zero,List.set_cons_succ]) (al (ah,ai,af) _ M)
    rintro⟨ah,ai,af⟩ w10 M
    dsimp only at M
    obtain⟨p0,p1,p2,Y,p4,p5,py⟩:=M.o.B.c6 4 rfl;obtain⟨o0,o1,o2,o3,o4,oy⟩:=M.o.B.c5 3 rfl;obtain⟨t0,t1,t2,t3,t4,t5,ty⟩:=M.o.B.c6 2 rfl;obtain⟨G,I,J,L,O,P,T,ey⟩:=M.o.B.c7 1 rfl
    have y:(λw':World=>w'.cell? ⟨gA,3,none⟩=some (.slice aa b.length ae)∧w'.cell? ⟨z,0,none⟩=some (.int .i64 c)∧w'.cell? ⟨z,1,none⟩=some (.int .i64 (wrap64 (wrap64 (d+(b.length:Int))+1)))∧w'.cell? ⟨z,2,none⟩=some (.int .i64 g)∧w'.cell? ⟨z,3,none⟩=some (.int .i64 m)∧w'.cell? ⟨z,4,none⟩=some (.int .i64 o)∧w'.cell? ⟨z,5,none⟩=some (.int .i64 r)∧w'.cell? ⟨z,6,none⟩=some (.string u)) w10:=⟨Y,G,I,J,L,O,P,T⟩
    refine Fj (a':=?_) ?_ ?_
    rotate_left
    ·simp only[Eh,Act.put,List.setIfInBounds_toArray,List.set_cons_zero,List.set_cons_succ]
     rfl
    refine EU 6 51 (λK hK=>?_)
    refine Kd.Bo BT w.heap.size (by rfl) (.tmp 48) (.tmp 50) 24 32 (.agg #[(.int .i64 0),(.int .i64 0),(.int .i64 0),(.int .i64 0),(.int .i64 0),(.int .i64 0),(.string ⟨#[]⟩)]) 64 rfl Tryd.underlying24 C7 rfl (by decide) (by omega) ai b [(⟨c,(wrap64 (wrap64 (d+(b.length:Int))+1)),⟨g,m,o,r,u⟩⟩:AM)] _ _ _ (λk=>k∉[af,z,gR,gO,gA]) (λ_=>False) rfl rfl M.o.now (N1 (base:=w.heap.size) (ok:=λ_=>False) (x:=(⟨c,(wrap64 (wrap64 (d+(b.length:Int))+1)),⟨g,m,o,r,u⟩⟩:AM)) (M.o.B.EJ 0 rfl)) (λ_ _ h=>h) (λ_ h=>h.elim) (λk hk=>M.o.Oq hk) (Below.refl _ _) M.o.hB.size (by have:=LG.o;(try simp only[List.length_nil,List.length_singleton]);omega) ?_
    intro aP aQ ho U hg an
    rw[<-aI.o]at ho
    obtain⟨B9,b9,e9⟩:=Kd.Bg ho
    subst e9
    have D:=M.o.write hg U (λk hk=>⟨M.o.now.1 k hk,((Kd.CO M.o.now).1 k hk).2.1⟩) (D':=(λW=>Kd.R BT 32 W w.heap.size (λk=>k∉[af,z,gR,gO,gA]) (.slice B9 ln.length b9) ln)) (λW' hW=>Kd.Eg ho hW)
    clear ho U hg an
    clear M p0 p1 p2 Y p4 p5 py o0 o1 o2 o3 o4 oy t0 t1 t2 t3 t4 t5 ty G I J L O P T ey
    have M:=a_ D
    clear D
    obtain⟨p0,p1,p2,Y,p4,p5,py⟩:=M.o.B.c6 4 rfl;obtain⟨o0,o1,o2,o3,o4,oy⟩:=M.o.B.c5 3 rfl;obtain⟨t0,t1,t2,t3,t4,t5,ty⟩:=M.o.B.c6 2 rfl;obtain⟨G,I,J,L,O,P,T,ey⟩:=M.o.B.c7 1 rfl
    refine hK.out _ _ ⟨Y,G,I,J,L,O,P,T⟩ (λy=>?_)
    clear hK K
    refine Ea 51 ?_
    refine A_ 7 52 ?_
    refine EX (i:=8) (N:=none) #[true,true,true,true,true,true,true,true,true] rfl rfl (by kernel_rfl) (by decide) (λK hK=>?_)
    refine E4 (w1:=?_) (by rfl) rfl ?_ ?_
    rotate_left
    ·go_simp
     rfl
    refine hK.out _ _ ?_
    clear hK K
    refine CT (by kernel_rfl) ?_
    have ax:gR≠gA:=M.o.B.ne (i:=2) (i':=4) rfl rfl (by decide)
    have aF:gA≠gR:=λe=>ax e.symm
    go_wp2
    have D2:Hx w _ _ _ _:=(M.o.put 4 3 (.slice B9 ln.length b9) rfl).Ib 2 (b0:=.int .i64 c) (b1:=.int .i64 X) (b2:=.slice Z E.length ab) (b3:=.slice B9 ln.length b9) (b4:=.int .i64 d) (b5:=.int .i64 mm) rfl
    have DB:=D2.B.EJ 2 rfl
    refine bodyPost_ret (Dh rfl _ _ gR 26 #[.int .i64 c,.int .i64 X,.slice Z E.length ab,.slice B9 ln.length b9,.int .i64 d,.int .i64 mm] (0,0) _ rfl DB Tryd.underlying26 rfl (by kernel_rfl)) rfl ?_
    exact⟨_,_,rfl,Kd.AH (Kd.BE H2.o D2.hB) (λk hk=>.inl (.inl hk)),Kd.AH (Kd.Oh (Kd.Aj (Kd.CO D2.now) (λk hk=>hk.2.1))) (λk hk=>.inr (by first|exact hk|exact hk.1)),D2.hB⟩)
end Go.Proofs.YtlhlpfnljglhoaaDoor.P
