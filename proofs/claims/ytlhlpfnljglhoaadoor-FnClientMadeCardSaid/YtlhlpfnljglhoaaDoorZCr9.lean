/- Joined by programs (wip/shake.py, wip/mini.py). -/
import Derived.Test.YtlhlpfnljglhoaaDoorZCr8
set_option linter.unusedVariables false
set_option linter.unusedSimpArgs false
set_option linter.unusedSectionVars false
set_option maxHeartbeats 8000000
set_option maxRecDepth 100000
open Go.Proofs.YtlhlpfnljglhoaaDoorW
namespace Go.Proofs.YtlhlpfnljglhoaaDoor.P
open Go.RowKit Go.Proofs.YtlhlpfnljglhoaaDoorW.PrintWords Go.Proofs.YtlhlpfnljglhoaaDoorW.Bb
theorem AZ.calls(k:Nat)(A0:Option Addr)(c0:Nat)(l0:List Int)(r:Bool)(w:World)(eV:Kd.C (Kd.int .u8) w A0 l0.length l0)(eU:l0.length≤c0)(h:AZ.f k l0=some r)(hG:Cm w) :
  Calls Tryd.prog 4 #[.slice A0 l0.length c0] w λe w'=>e=.returned (.bool r)∧Below w.heap.size w w':=by
 have lu:=RP;have lv:=RW;have h9:=a_ eV;have h8:=a_ eU;clear eV eU;have HB:=a_ (RG w.heap.size w);have HG:=a_ hG;clear hG;unfold AZ.f at h;have H:=h;clear h;by_cases c2:(l0.length:Int)>1048576
 ·rw[Ry c2]at H;have bw:decide (1048576<(l0.length:Int))=true:=BM c2;have bx:decide (1048576<l0.length)=true:=BM (by omega);clear c2;obtain rfl:=CW H;go_enter Tryd.func4,Tryd.ntmps4;go_wp2;go_ret;exact⟨C8,Ag⟩
 rw[Rz c2]at H;have bw:decide (1048576<(l0.length:Int))=false:=C9 c2;have bx:decide (1048576<l0.length)=false:=C9 (by omega);clear c2;replace H:=BR H;obtain⟨⟨B,G,x,t,D,v,I,M,aa,ab,ae⟩,eJ,H⟩:=H;try dsimp only at H
 have A3:=a_ eJ;clear eJ;replace H:=BR H;obtain⟨⟨aj,ak,ah,ai,al,an,aS⟩,eM,H⟩:=H;try dsimp only at H
 have A4:=a_ eM;clear eM;replace H:=BR H;obtain⟨⟨J,K,y,z,L,A,ao⟩,eN,H⟩:=H;try dsimp only at H
 have A5:=a_ eN;clear eN;have bz:=a_ H;clear H;go_enter Tryd.func4,Tryd.ntmps4;go_upto_region 6 with(first|((with_reducible refine BQ (f:=8) rfl ?_);refine BW 16 Tryd.func8 #[.slice A0 l0.length c0] ?_;(with_reducible refine(AH.calls k _ _ l0 B G x t D v I M aa ab ae _ ?q' ?z' A3.o).mono ?_);(case q'=>exact E9 h9.o);(case z'=>exact h8.o);rintro e w7 ⟨lx,ly,rfl,aV,aW,E⟩;refine⟨_,rfl,?_⟩;have O:=a_ (Kd.AU aV (Af (Ag)));have P:=a_ (Kd.AU aW (Af (Ag)));replace HB:=Bw E;(try clear E aV aW))|((with_reducible refine BV (N:=3) rfl ?_);refine Cy 3 (#[.int .i64 0,.int .i64 0,.slice none 0 0,.slice none 0 0,.int .i64 0,.int .i64 0]) 26 ?_;intro j hg w8 aT E;have d:=a_ (aT);have h2:=BD w hg;have hW:=BD w hg;replace O:=a_ (Kd.AJ (AV O.o) E);replace P:=a_ (Kd.AJ (AV P.o) E);replace HB:=Bw E;clear E aT hg)|((with_reducible refine BV (N:=4) rfl ?_);refine Cy 4 (#[.int .i64 0,.int .i64 0,.int .i64 0,.int .i64 0,.string (⟨#[]⟩:ByteArray)]) 30 ?_;intro q hg w9 aT E;have i:=a_ (aT);have h5:=BD w hg;have hX:=BD w hg;have aw:=a_ ((by rw[hg];exact RN (Av (g:=j) (o:=.cells #[.int .i64 0,.int .i64 0,.slice none 0 0,.slice none 0 0,.int .i64 0,.int .i64 0] 26 (0,0)) (Bc d.o)):j≠q));have ay:=a_ ((by rw[hg];exact RM (Av (g:=j) (o:=.cells #[.int .i64 0,.int .i64 0,.slice none 0 0,.slice none 0 0,.int .i64 0,.int .i64 0] 26 (0,0)) (Bc d.o)):q≠j));replace O:=a_ (Kd.AJ (AV O.o) E);replace P:=a_ (Kd.AJ (AV P.o) E);replace d:=a_ (Ao (g:=j) (o:=.cells #[.int .i64 0,.int .i64 0,.slice none 0 0,.slice none 0 0,.int .i64 0,.int .i64 0] 26 (0,0)) (Bc d.o) E);replace HB:=Bw E;clear E aT hg;have kb:=aw.o;have kM:=ay.o;obtain⟨cY,cZ,c_,da,db,dc,bA,bB,bC,bD,bE,bF⟩:=BT d.o;obtain⟨W,T,eO⟩:=Kd.Be O.o;subst eO;obtain⟨X,U,eP⟩:=Kd.Be P.o;subst eP;obtain⟨dd,de,df,dg,dh,bG,bH,bI,bJ,bK⟩:=CI i.o)|((with_reducible refine BQ (f:=9) rfl ?_);refine BW 22 Tryd.func9 #[.agg #[.int .i64 B,.int .i64 G,.slice W x.length T,.slice X t.length U,.int .i64 D,.int .i64 v],.agg #[.int .i64 I,.int .i64 M,.int .i64 aa,.int .i64 ab,.string ae]] ?_;(with_reducible refine(Ci.calls k B G _ _ x _ _ t D v I M aa ab ae aj ak ah ai al an aS _ ?q' ?z' ?y' ?v' A4.o).mono ?_);(case q'=>refine(Kd.At (e:=68) (base:=w.heap.size) (ok:=λk_=>True) (n:=x.length) (c:=T) ?_).2.2;exact(by refine AV ?_;exact(Kd.Ai (Kd.Ai (FL (g:=q) (Dw (g:=j) (Kd.Aj (Kd.Aj O.o d.o (by decide)) i.o (by decide)) (λ_ m=>m.1.2) (.int .i64 B) (.int .i64 G) (.slice W x.length T) (.slice X t.length U) (.int .i64 D) (.int .i64 v)) (λ_ m=>m.2) (.int .i64 I) (.int .i64 M) (.int .i64 aa) (.int .i64 ab) (.string ae)) (λ_ h_=>h_.1)) (λ_ h_=>h_.1))));(case z'=>exact(Kd.At O.o).2.1);(case y'=>refine(Kd.At (e:=32) (base:=w.heap.size) (ok:=λk_=>True) (n:=t.length) (c:=U) ?_).2.2;exact(by refine AV ?_;exact(Kd.Ai (Kd.Ai (FL (g:=q) (Dw (g:=j) (Kd.Aj (Kd.Aj P.o d.o (by decide)) i.o (by decide)) (λ_ m=>m.1.2) (.int .i64 B) (.int .i64 G) (.slice W x.length T) (.slice X t.length U) (.int .i64 D) (.int .i64 v)) (λ_ m=>m.2) (.int .i64 I) (.int .i64 M) (.int .i64 aa) (.int .i64 ab) (.string ae)) (λ_ h_=>h_.1)) (λ_ h_=>h_.1))));(case v'=>exact(Kd.At P.o).2.1);rintro e lF ⟨lz,lA,rfl,aV,aW,E⟩;refine⟨_,rfl,?_⟩;have au:=a_ (Kd.F8 (Kd.AD (Fi:=λk_=>some k_≠(.slice W x.length T:Value).ownBlock∧some k_≠(.slice X t.length U:Value).ownBlock∧k_≠j∧k_≠q) aV (λk_ aZ=>⟨(Kd.Fk (Kd.EH (by refine AV ?_;exact(Kd.Ai (Kd.Ai (FL (g:=q) (Dw (g:=j) (Kd.Aj (Kd.Aj O.o d.o (by decide)) i.o (by decide)) (λ_ m=>m.1.2) (.int .i64 B) (.int .i64 G) (.slice W x.length T) (.slice X t.length U) (.int .i64 D) (.int .i64 v)) (λ_ m=>m.2) (.int .i64 I) (.int .i64 M) (.int .i64 aa) (.int .i64 ab) (.string ae)) (λ_ h_=>h_.1)) (λ_ h_=>h_.1)))) k_ aZ),(Kd.Fk (Kd.EH (by refine AV ?_;exact(Kd.Ai (Kd.Ai (FL (g:=q) (Dw (g:=j) (Kd.Aj (Kd.Aj P.o d.o (by decide)) i.o (by decide)) (λ_ m=>m.1.2) (.int .i64 B) (.int .i64 G) (.slice W x.length T) (.slice X t.length U) (.int .i64 D) (.int .i64 v)) (λ_ m=>m.2) (.int .i64 I) (.int .i64 M) (.int .i64 aa) (.int .i64 ab) (.string ae)) (λ_ h_=>h_.1)) (λ_ h_=>h_.1)))) k_ aZ),(Kd.Dk (g:=j) (o:=.cells #[.int .i64 B,.int .i64 G,.slice W x.length T,.slice X t.length U,.int .i64 D,.int .i64 v] 26 (0,0)) (Hu aw.o d.o) k_ aZ),(Kd.Dk (g:=q) (o:=.cells #[.int .i64 I,.int .i64 M,.int .i64 aa,.int .i64 ab,.string ae] 30 (0,0)) (Hs ay.o i.o) k_ aZ)⟩)) (Af (Ag)));have av:=a_ (Kd.F8 (Kd.AD (Fi:=λk_=>some k_≠(.slice W x.length T:Value).ownBlock∧some k_≠(.slice X t.length U:Value).ownBlock∧k_≠j∧k_≠q) aW (λk_ aZ=>⟨(Kd.Fk (Kd.EH (by refine AV ?_;exact(Kd.Ai (Kd.Ai (FL (g:=q) (Dw (g:=j) (Kd.Aj (Kd.Aj O.o d.o (by decide)) i.o (by decide)) (λ_ m=>m.1.2) (.int .i64 B) (.int .i64 G) (.slice W x.length T) (.slice X t.length U) (.int .i64 D) (.int .i64 v)) (λ_ m=>m.2) (.int .i64 I) (.int .i64 M) (.int .i64 aa) (.int .i64 ab) (.string ae)) (λ_ h_=>h_.1)) (λ_ h_=>h_.1)))) k_ aZ),(Kd.Fk (Kd.EH (by refine AV ?_;exact(Kd.Ai (Kd.Ai (FL (g:=q) (Dw (g:=j) (Kd.Aj (Kd.Aj P.o d.o (by decide)) i.o (by decide)) (λ_ m=>m.1.2) (.int .i64 B) (.int .i64 G) (.slice W x.length T) (.slice X t.length U) (.int .i64 D) (.int .i64 v)) (λ_ m=>m.2) (.int .i64 I) (.int .i64 M) (.int .i64 aa) (.int .i64 ab) (.string ae)) (λ_ h_=>h_.1)) (λ_ h_=>h_.1)))) k_ aZ),(Kd.Dk (g:=j) (o:=.cells #[.int .i64 B,.int .i64 G,.slice W x.length T,.slice X t.length U,.int .i64 D,.int .i64 v] 26 (0,0)) (Hu aw.o d.o) k_ aZ),(Kd.Dk (g:=q) (o:=.cells #[.int .i64 I,.int .i64 M,.int .i64 aa,.int .i64 ab,.string ae] 30 (0,0)) (Hs ay.o i.o) k_ aZ)⟩)) (Af (Ag)));replace O:=a_ (Kd.AJ (by refine AV ?_;exact(Kd.Ai (Kd.Ai (FL (g:=q) (Dw (g:=j) (Kd.Aj (Kd.Aj O.o d.o (by decide)) i.o (by decide)) (λ_ m=>m.1.2) (.int .i64 B) (.int .i64 G) (.slice W x.length T) (.slice X t.length U) (.int .i64 D) (.int .i64 v)) (λ_ m=>m.2) (.int .i64 I) (.int .i64 M) (.int .i64 aa) (.int .i64 ab) (.string ae)) (λ_ h_=>h_.1)) (λ_ h_=>h_.1))) E);replace P:=a_ (Kd.AJ (by refine AV ?_;exact(Kd.Ai (Kd.Ai (FL (g:=q) (Dw (g:=j) (Kd.Aj (Kd.Aj P.o d.o (by decide)) i.o (by decide)) (λ_ m=>m.1.2) (.int .i64 B) (.int .i64 G) (.slice W x.length T) (.slice X t.length U) (.int .i64 D) (.int .i64 v)) (λ_ m=>m.2) (.int .i64 I) (.int .i64 M) (.int .i64 aa) (.int .i64 ab) (.string ae)) (λ_ h_=>h_.1)) (λ_ h_=>h_.1))) E);replace d:=a_ (Ao (g:=j) (o:=.cells #[.int .i64 B,.int .i64 G,.slice W x.length T,.slice X t.length U,.int .i64 D,.int .i64 v] 26 (0,0)) (Hu aw.o d.o) E);replace i:=a_ (Ao (g:=q) (o:=.cells #[.int .i64 I,.int .i64 M,.int .i64 aa,.int .i64 ab,.string ae] 30 (0,0)) (Hs ay.o i.o) E);replace HB:=Bw E;(try clear E aV aW))|((with_reducible refine BV (N:=5) rfl ?_);refine Cy 5 (#[.int .i64 0,.int .i64 0,.slice none 0 0,.slice none 0 0,.int .i64 0,.int .i64 0]) 26 ?_;intro u hg lG aT E;have l:=a_ (aT);have h6:=BD w hg;have hY:=BD w hg;have aD:=a_ ((by rw[hg];exact RN (Av (g:=j) (o:=.cells #[.int .i64 B,.int .i64 G,.slice W x.length T,.slice X t.length U,.int .i64 D,.int .i64 v] 26 (0,0)) (Bc d.o)):j≠u));have aJ:=a_ ((by rw[hg];exact RM (Av (g:=j) (o:=.cells #[.int .i64 B,.int .i64 G,.slice W x.length T,.slice X t.length U,.int .i64 D,.int .i64 v] 26 (0,0)) (Bc d.o)):u≠j));have aE:=a_ ((by rw[hg];exact RN (Av (g:=q) (o:=.cells #[.int .i64 I,.int .i64 M,.int .i64 aa,.int .i64 ab,.string ae] 30 (0,0)) (Bc i.o)):q≠u));have aK:=a_ ((by rw[hg];exact RM (Av (g:=q) (o:=.cells #[.int .i64 I,.int .i64 M,.int .i64 aa,.int .i64 ab,.string ae] 30 (0,0)) (Bc i.o)):u≠q));replace O:=a_ (Kd.AJ (AV O.o) E);replace P:=a_ (Kd.AJ (AV P.o) E);replace au:=a_ (Kd.Bh (Kd.CO (Dj au.o) u (Sd hg.symm)) E);replace av:=a_ (Kd.Bh (Kd.CO (Dj av.o) u (Sd hg.symm)) E);replace d:=a_ (Ao (g:=j) (o:=.cells #[.int .i64 B,.int .i64 G,.slice W x.length T,.slice X t.length U,.int .i64 D,.int .i64 v] 26 (0,0)) (Bc d.o) E);replace i:=a_ (Ao (g:=q) (o:=.cells #[.int .i64 I,.int .i64 M,.int .i64 aa,.int .i64 ab,.string ae] 30 (0,0)) (Bc i.o) E);replace HB:=Bw E;clear E aT hg;have kc:=aJ.o;have kN:=aD.o;have kd:=aK.o;have kO:=aE.o;obtain⟨di,dj,dk,dm,dn,dp,bL,bM,bN,bO,bP,bQ⟩:=BT l.o;obtain⟨aO,aF,eQ⟩:=Kd.Cd au.o;subst eQ;obtain⟨aP,aG,eR⟩:=Kd.Cd av.o;subst eR;obtain⟨dq,dr,du,dv,dw,dx,bR,bS,bT,bU,bV,bW⟩:=BT d.o;obtain⟨dy,dz,dA,dB,dC,bX,bY,bZ,b6,b7⟩:=CI i.o)|((with_reducible refine BQ (f:=10) rfl ?_);refine BW 28 Tryd.func10 #[.agg #[.int .i64 B,.int .i64 G,.slice W x.length T,.slice X t.length U,.int .i64 D,.int .i64 v],.agg #[.int .i64 I,.int .i64 M,.int .i64 aa,.int .i64 ab,.string ae]] ?_;(with_reducible refine(AK.calls k B G _ _ x _ _ t D v I M aa ab ae J K y z L A ao _ ?q' ?z' ?y' ?v' A5.o ?m').mono ?_);(case q'=>refine(Kd.At (e:=68) (base:=w.heap.size) (ok:=λk_=>True) (n:=x.length) (c:=T) ?_).2.2;exact(by refine AV ?_;exact(Kd.Ai (Dw (g:=u) (Kd.Aj O.o l.o (by decide)) (λ_ m=>m.2) (.int .i64 aj) (.int .i64 ak) (.slice aO ah.length aF) (.slice aP ai.length aG) (.int .i64 al) (.int .i64 an)) (λ_ h_=>h_.1))));(case z'=>exact(Kd.At O.o).2.1);(case y'=>refine(Kd.At (e:=32) (base:=w.heap.size) (ok:=λk_=>True) (n:=t.length) (c:=U) ?_).2.2;exact(by refine AV ?_;exact(Kd.Ai (Dw (g:=u) (Kd.Aj P.o l.o (by decide)) (λ_ m=>m.2) (.int .i64 aj) (.int .i64 ak) (.slice aO ah.length aF) (.slice aP ai.length aG) (.int .i64 al) (.int .i64 an)) (λ_ h_=>h_.1))));(case v'=>exact(Kd.At P.o).2.1);(case m'=>exact Cm.below HG.o (Ag));rintro e lH ⟨lB,lC,rfl,aV,aW,E⟩;refine⟨_,rfl,?_⟩;have aH:=a_ (Kd.AU (Kd.Et aV (Kd.EH (by refine AV ?_;exact(Kd.Ai (Dw (g:=u) (Kd.Aj O.o l.o (by decide)) (λ_ m=>m.2) (.int .i64 aj) (.int .i64 ak) (.slice aO ah.length aF) (.slice aP ai.length aG) (.int .i64 al) (.int .i64 an)) (λ_ h_=>h_.1))))) (Af (Ag)));have aI:=a_ (Kd.AU (Kd.Et aW (Kd.EH (by refine AV ?_;exact(Kd.Ai (Dw (g:=u) (Kd.Aj P.o l.o (by decide)) (λ_ m=>m.2) (.int .i64 aj) (.int .i64 ak) (.slice aO ah.length aF) (.slice aP ai.length aG) (.int .i64 al) (.int .i64 an)) (λ_ h_=>h_.1))))) (Af (Ag)));replace O:=a_ (Kd.Dq (by refine AV ?_;exact(Kd.Ai (Dw (g:=u) (Kd.Aj O.o l.o (by decide)) (λ_ m=>m.2) (.int .i64 aj) (.int .i64 ak) (.slice aO ah.length aF) (.slice aP ai.length aG) (.int .i64 al) (.int .i64 an)) (λ_ h_=>h_.1))) (Kd.Ch aV) E);replace P:=a_ (Kd.Dq (by refine AV ?_;exact(Kd.Ai (Dw (g:=u) (Kd.Aj P.o l.o (by decide)) (λ_ m=>m.2) (.int .i64 aj) (.int .i64 ak) (.slice aO ah.length aF) (.slice aP ai.length aG) (.int .i64 al) (.int .i64 an)) (λ_ h_=>h_.1))) (Kd.Ch aW) E);replace au:=a_ (Kd.AD (Kd.JU (Kd.JU (Kd.OT (by refine Dj ?_;exact(Kd.AD (Kd.AA (p:=⟨u,5,none⟩) (Kd.AA (p:=⟨u,4,none⟩) (Kd.AA (p:=⟨u,3,none⟩) (Kd.AA (p:=⟨u,2,none⟩) (Kd.AA (p:=⟨u,1,none⟩) (Kd.AA (p:=⟨u,0,none⟩) (Kd.AD au.o (λk_ m=>(⟨m,m.2⟩:_∧k_≠u))) (λ_ m=>m.2) (.int .i64 aj)) (λ_ m=>m.2) (.int .i64 ak)) (λ_ m=>m.2) (.slice aO ah.length aF)) (λ_ m=>m.2) (.slice aP ai.length aG)) (λ_ m=>m.2) (.int .i64 al)) (λ_ m=>m.2) (.int .i64 an)) (λ_ h_=>h_.1))) E) (Kd.Ch aV)) (Kd.Ch aW)) (λ_ h_=>h_.1));replace av:=a_ (Kd.AD (Kd.JU (Kd.JU (Kd.OT (by refine Dj ?_;exact(Kd.AD (Kd.AA (p:=⟨u,5,none⟩) (Kd.AA (p:=⟨u,4,none⟩) (Kd.AA (p:=⟨u,3,none⟩) (Kd.AA (p:=⟨u,2,none⟩) (Kd.AA (p:=⟨u,1,none⟩) (Kd.AA (p:=⟨u,0,none⟩) (Kd.AD av.o (λk_ m=>(⟨m,m.2⟩:_∧k_≠u))) (λ_ m=>m.2) (.int .i64 aj)) (λ_ m=>m.2) (.int .i64 ak)) (λ_ m=>m.2) (.slice aO ah.length aF)) (λ_ m=>m.2) (.slice aP ai.length aG)) (λ_ m=>m.2) (.int .i64 al)) (λ_ m=>m.2) (.int .i64 an)) (λ_ h_=>h_.1))) E) (Kd.Ch aV)) (Kd.Ch aW)) (λ_ h_=>h_.1));replace d:=a_ (Ao (g:=j) (o:=.cells #[.int .i64 B,.int .i64 G,.slice W x.length T,.slice X t.length U,.int .i64 D,.int .i64 v] 26 (0,0)) (CZ aD.o d.o) E);replace i:=a_ (Ao (g:=q) (o:=.cells #[.int .i64 I,.int .i64 M,.int .i64 aa,.int .i64 ab,.string ae] 30 (0,0)) (CZ aE.o i.o) E);replace l:=a_ (Ao (g:=u) (o:=.cells #[.int .i64 aj,.int .i64 ak,.slice aO ah.length aF,.slice aP ai.length aG,.int .i64 al,.int .i64 an] 26 (0,0)) (F4 l.o) E);replace HB:=Bw E;(try clear E aV aW))|((with_reducible refine BV (N:=7) rfl ?_);refine Cy 7 (#[.int .i64 0,.int .i64 0,.slice none 0 0,.slice none 0 0,.int .i64 0,.int .i64 0]) 26 ?_;intro b hg lI aT E;have a:=a_ (aT);have h7:=BD w hg;have hZ:=BD w hg;have ax:=a_ ((by rw[hg];exact RN (Av (g:=j) (o:=.cells #[.int .i64 B,.int .i64 G,.slice W x.length T,.slice X t.length U,.int .i64 D,.int .i64 v] 26 (0,0)) (Bc d.o)):j≠b));have aL:=a_ ((by rw[hg];exact RM (Av (g:=j) (o:=.cells #[.int .i64 B,.int .i64 G,.slice W x.length T,.slice X t.length U,.int .i64 D,.int .i64 v] 26 (0,0)) (Bc d.o)):b≠j));have az:=a_ ((by rw[hg];exact RN (Av (g:=q) (o:=.cells #[.int .i64 I,.int .i64 M,.int .i64 aa,.int .i64 ab,.string ae] 30 (0,0)) (Bc i.o)):q≠b));have aM:=a_ ((by rw[hg];exact RM (Av (g:=q) (o:=.cells #[.int .i64 I,.int .i64 M,.int .i64 aa,.int .i64 ab,.string ae] 30 (0,0)) (Bc i.o)):b≠q));have aA:=a_ ((by rw[hg];exact RN (Av (g:=u) (o:=.cells #[.int .i64 aj,.int .i64 ak,.slice aO ah.length aF,.slice aP ai.length aG,.int .i64 al,.int .i64 an] 26 (0,0)) (Bc l.o)):u≠b));have aN:=a_ ((by rw[hg];exact RM (Av (g:=u) (o:=.cells #[.int .i64 aj,.int .i64 ak,.slice aO ah.length aF,.slice aP ai.length aG,.int .i64 al,.int .i64 an] 26 (0,0)) (Bc l.o)):b≠u));replace O:=a_ (Kd.AJ (AV O.o) E);replace P:=a_ (Kd.AJ (AV P.o) E);replace au:=a_ (Kd.Bh (Kd.CO (Dj au.o) b (Sd hg.symm)) E);replace av:=a_ (Kd.Bh (Kd.CO (Dj av.o) b (Sd hg.symm)) E);replace aH:=a_ (Kd.AJ (AV aH.o) E);replace aI:=a_ (Kd.AJ (AV aI.o) E);replace d:=a_ (Ao (g:=j) (o:=.cells #[.int .i64 B,.int .i64 G,.slice W x.length T,.slice X t.length U,.int .i64 D,.int .i64 v] 26 (0,0)) (Bc d.o) E);replace i:=a_ (Ao (g:=q) (o:=.cells #[.int .i64 I,.int .i64 M,.int .i64 aa,.int .i64 ab,.string ae] 30 (0,0)) (Bc i.o) E);replace l:=a_ (Ao (g:=u) (o:=.cells #[.int .i64 aj,.int .i64 ak,.slice aO ah.length aF,.slice aP ai.length aG,.int .i64 al,.int .i64 an] 26 (0,0)) (Bc l.o) E);replace HB:=Bw E;clear E aT hg;have ke:=aL.o;have kP:=ax.o;have kf:=aM.o;have kQ:=az.o;have kg:=aN.o;have kR:=aA.o;obtain⟨dD,dE,dF,dG,dH,dI,b8,b9,b_,ca,cb,cd⟩:=BT a.o;obtain⟨af,Y,eS⟩:=Kd.Be aH.o;subst eS;obtain⟨ag,Z,eT⟩:=Kd.Be aI.o;subst eT))
 (try simp only[Act.put,List.setIfInBounds_toArray,List.set_cons_zero,List.set_cons_succ]);go_cut [49] (λls wc=>∃(kq:Nat) (a0:Bool),ls=.bool a0∧Ac (AZ.j0 kq aS ao a0 B G x t D v I M aa ab ae aj ak ah ai al an J K y z L A=some r)∧Ac (kq≤k)∧Ac (Kd.R Dd 68 wc w.heap.size (λk_=>some k_≠((.slice af y.length Y):Value).ownBlock) (.slice W x.length T) x)∧Ac (Kd.R Ck 32 wc w.heap.size (λk_=>some k_≠((.slice ag z.length Z):Value).ownBlock) (.slice X t.length U) t)∧Ac (Kd.V Dd 68 wc w.heap.size (λk_=>some k_≠((.slice W x.length T):Value).ownBlock∧some k_≠((.slice X t.length U):Value).ownBlock∧some k_≠((.slice af y.length Y):Value).ownBlock∧some k_≠((.slice ag z.length Z):Value).ownBlock∧k_≠j∧k_≠q∧k_≠u∧k_≠b) (.slice aO ah.length aF) ah)∧Ac (Kd.V Ck 32 wc w.heap.size (λk_=>some k_≠((.slice W x.length T):Value).ownBlock∧some k_≠((.slice X t.length U):Value).ownBlock∧some k_≠((.slice af y.length Y):Value).ownBlock∧some k_≠((.slice ag z.length Z):Value).ownBlock∧k_≠j∧k_≠q∧k_≠u∧k_≠b) (.slice aP ai.length aG) ai)∧Ac (Kd.R Dd 68 wc w.heap.size (λk_=>some k_≠((.slice W x.length T):Value).ownBlock) (.slice af y.length Y) y)∧Ac (Kd.R Ck 32 wc w.heap.size (λk_=>some k_≠((.slice X t.length U):Value).ownBlock) (.slice ag z.length Z) z)∧Ac (wc.heap[j]?=some (.cells #[.int .i64 B,.int .i64 G,(.slice W x.length T),(.slice X t.length U),.int .i64 D,.int .i64 v] 26 (0,0)))∧Ac (wc.heap[q]?=some (.cells #[.int .i64 I,.int .i64 M,.int .i64 aa,.int .i64 ab,.string ae] 30 (0,0)))∧Ac (wc.heap[u]?=some (.cells #[.int .i64 aj,.int .i64 ak,(.slice aO ah.length aF),(.slice aP ai.length aG),.int .i64 al,.int .i64 an] 26 (0,0)))∧Ac (wc.heap[b]?=some (.cells #[.int .i64 J,.int .i64 K,(.slice af y.length Y),(.slice ag z.length Z),.int .i64 L,.int .i64 A] 26 (0,0)))∧Ac (Below w.heap.size w wc))
 case first =>
  have H:=bz.o;clear bz;by_cases a5:(ao != aS)=true
  ·rw[Ry a5]at H;exact absurd H (by simp)
  rw[Rz a5]at H;have a6:(ao != aS)=false:=by simpa using a5
  (try(have eD:decide (ao=aS)=true:=by simpa using a5));(try(have eE:(ao==aS)=true:=by simpa using a5));clear a5;(first|rw[a6]|(simp only[BJ,BP];rw[a6])|skip);replace H:=BR H;obtain⟨eW,bn,H⟩:=H;try dsimp only at H
  have eK:=a_ bn;clear bn;by_cases be:eW=true
  ·subst be;have H1:((Ap.f k B G x t D v).bind λbh=>(if bh=true then((Cf.f k I M aa ab ae).bind λaY=>(AZ.j0 k aS ao (!aY) B G x t D v I M aa ab ae aj ak ah ai al an J K y z L A))else(AZ.j0 k aS ao true B G x t D v I M aa ab ae aj ak ah ai al an J K y z L A)))=some r:=by rw[Ry rfl]at H;exact H
   clear H;have H:=H1;clear H1;replace H:=BR H;obtain⟨bh,bo,H⟩:=H;try dsimp only at H
   have eL:=a_ bo;clear bo;by_cases bf:bh=true
   ·subst bf;have H1:((Cf.f k I M aa ab ae).bind λaY=>(AZ.j0 k aS ao (!aY) B G x t D v I M aa ab ae aj ak ah ai al an J K y z L A))=some r:=by rw[Ry rfl]at H;exact H
    clear H;have H:=H1;clear H1;replace H:=BR H;obtain⟨aY,bp,H⟩:=H;try dsimp only at H
    have hT:=a_ bp;clear bp;have H':=a_ H;clear H;have kh:=aL.o;have kS:=ax.o;have ki:=aM.o;have kT:=az.o;have kj:=aN.o;have kU:=aA.o;have dJ:=IH a.o 0 (.int .i64 0);have dK:=IH a.o 1 (.int .i64 0);have dL:=IH a.o 2 (.slice none 0 0);have dM:=IH a.o 3 (.slice none 0 0);have dN:=IH a.o 4 (.int .i64 0);have dO:=IH a.o 5 (.int .i64 0);have cf:=BU a.o 0;have cg:=BU a.o 1;have cj:=BU a.o 2;have ck:=BU a.o 3;have cl:=BU a.o 4;have cm:=BU a.o 5;have kk:=aJ.o;have kV:=aD.o;have kl:=aK.o;have kW:=aE.o;have dP:=IH l.o 0 (.int .i64 aj);have dQ:=IH l.o 1 (.int .i64 ak);have dR:=IH l.o 2 (.slice aO ah.length aF);have dS:=IH l.o 3 (.slice aP ai.length aG);have dT:=IH l.o 4 (.int .i64 al);have dU:=IH l.o 5 (.int .i64 an);have cn:=BU l.o 0;have cp:=BU l.o 1;have cq:=BU l.o 2;have cr:=BU l.o 3;have ct:=BU l.o 4;have cu:=BU l.o 5;go_wp2_with(first|(go_at_call 11;(with_reducible refine(BH.calls k J K _ _ y _ _ z L A aj ak _ _ ah _ _ ai al an true _ ?q' ?z' ?y' ?v' ?m' ?side6 ?side7 ?side8 eK.o).mono ?_);(case q'=>refine(Kd.At (e:=68) (base:=w.heap.size) (ok:=λk_=>(True∧some k_≠(.slice W x.length T:Value).ownBlock)) (n:=y.length) (c:=Y) ?_).2.2;exact(by refine AV ?_;exact(Kd.Ai (Dw (g:=b) (Kd.Aj aH.o a.o (by decide)) (λ_ m=>m.2) (.int .i64 J) (.int .i64 K) (.slice af y.length Y) (.slice ag z.length Z) (.int .i64 L) (.int .i64 A)) (λ_ h_=>h_.1))));(case z'=>exact(Kd.At aH.o).2.1);(case y'=>refine(Kd.At (e:=32) (base:=w.heap.size) (ok:=λk_=>(True∧some k_≠(.slice X t.length U:Value).ownBlock)) (n:=z.length) (c:=Z) ?_).2.2;exact(by refine AV ?_;exact(Kd.Ai (Dw (g:=b) (Kd.Aj aI.o a.o (by decide)) (λ_ m=>m.2) (.int .i64 J) (.int .i64 K) (.slice af y.length Y) (.slice ag z.length Z) (.int .i64 L) (.int .i64 A)) (λ_ h_=>h_.1))));(case v'=>exact(Kd.At aI.o).2.1);(case m'=>refine(Kd.AY (e:=68) (base:=w.heap.size) (ok:=λk_=>(((((some k_≠(.slice W x.length T:Value).ownBlock∧(some k_≠(.slice X t.length U:Value).ownBlock∧(k_≠j∧k_≠q)))∧k_≠u)∧some k_≠(.slice af y.length Y:Value).ownBlock)∧some k_≠(.slice ag z.length Z:Value).ownBlock)∧k_≠b)) (n:=ah.length) (c:=aF) ?_).2.2;exact(by refine Dj ?_;exact(Kd.AD (Kd.AA (p:=⟨b,5,none⟩) (Kd.AA (p:=⟨b,4,none⟩) (Kd.AA (p:=⟨b,3,none⟩) (Kd.AA (p:=⟨b,2,none⟩) (Kd.AA (p:=⟨b,1,none⟩) (Kd.AA (p:=⟨b,0,none⟩) (Kd.AD au.o (λk_ m=>(⟨m,m.2⟩:_∧k_≠b))) (λ_ m=>m.2) (.int .i64 J)) (λ_ m=>m.2) (.int .i64 K)) (λ_ m=>m.2) (.slice af y.length Y)) (λ_ m=>m.2) (.slice ag z.length Z)) (λ_ m=>m.2) (.int .i64 L)) (λ_ m=>m.2) (.int .i64 A)) (λ_ h_=>h_.1))));(case side6=>exact(Kd.AY au.o).2.1);(case side7=>refine(Kd.AY (e:=32) (base:=w.heap.size) (ok:=λk_=>(((((some k_≠(.slice W x.length T:Value).ownBlock∧(some k_≠(.slice X t.length U:Value).ownBlock∧(k_≠j∧k_≠q)))∧k_≠u)∧some k_≠(.slice af y.length Y:Value).ownBlock)∧some k_≠(.slice ag z.length Z:Value).ownBlock)∧k_≠b)) (n:=ai.length) (c:=aG) ?_).2.2;exact(by refine Dj ?_;exact(Kd.AD (Kd.AA (p:=⟨b,5,none⟩) (Kd.AA (p:=⟨b,4,none⟩) (Kd.AA (p:=⟨b,3,none⟩) (Kd.AA (p:=⟨b,2,none⟩) (Kd.AA (p:=⟨b,1,none⟩) (Kd.AA (p:=⟨b,0,none⟩) (Kd.AD av.o (λk_ m=>(⟨m,m.2⟩:_∧k_≠b))) (λ_ m=>m.2) (.int .i64 J)) (λ_ m=>m.2) (.int .i64 K)) (λ_ m=>m.2) (.slice af y.length Y)) (λ_ m=>m.2) (.slice ag z.length Z)) (λ_ m=>m.2) (.int .i64 L)) (λ_ m=>m.2) (.int .i64 A)) (λ_ h_=>h_.1))));(case side8=>exact(Kd.AY av.o).2.1);rintro e lJ ⟨rfl,E⟩;replace O:=a_ (Kd.AJ (by refine AV ?_;exact(Kd.Ai (Dw (g:=b) (Kd.Aj O.o a.o (by decide)) (λ_ m=>m.2) (.int .i64 J) (.int .i64 K) (.slice af y.length Y) (.slice ag z.length Z) (.int .i64 L) (.int .i64 A)) (λ_ h_=>h_.1))) E);replace P:=a_ (Kd.AJ (by refine AV ?_;exact(Kd.Ai (Dw (g:=b) (Kd.Aj P.o a.o (by decide)) (λ_ m=>m.2) (.int .i64 J) (.int .i64 K) (.slice af y.length Y) (.slice ag z.length Z) (.int .i64 L) (.int .i64 A)) (λ_ h_=>h_.1))) E);replace au:=a_ (Kd.Bh (by refine Dj ?_;exact(Kd.AD (Kd.AA (p:=⟨b,5,none⟩) (Kd.AA (p:=⟨b,4,none⟩) (Kd.AA (p:=⟨b,3,none⟩) (Kd.AA (p:=⟨b,2,none⟩) (Kd.AA (p:=⟨b,1,none⟩) (Kd.AA (p:=⟨b,0,none⟩) (Kd.AD au.o (λk_ m=>(⟨m,m.2⟩:_∧k_≠b))) (λ_ m=>m.2) (.int .i64 J)) (λ_ m=>m.2) (.int .i64 K)) (λ_ m=>m.2) (.slice af y.length Y)) (λ_ m=>m.2) (.slice ag z.length Z)) (λ_ m=>m.2) (.int .i64 L)) (λ_ m=>m.2) (.int .i64 A)) (λ_ h_=>h_.1))) E);replace av:=a_ (Kd.Bh (by refine Dj ?_;exact(Kd.AD (Kd.AA (p:=⟨b,5,none⟩) (Kd.AA (p:=⟨b,4,none⟩) (Kd.AA (p:=⟨b,3,none⟩) (Kd.AA (p:=⟨b,2,none⟩) (Kd.AA (p:=⟨b,1,none⟩) (Kd.AA (p:=⟨b,0,none⟩) (Kd.AD av.o (λk_ m=>(⟨m,m.2⟩:_∧k_≠b))) (λ_ m=>m.2) (.int .i64 J)) (λ_ m=>m.2) (.int .i64 K)) (λ_ m=>m.2) (.slice af y.length Y)) (λ_ m=>m.2) (.slice ag z.length Z)) (λ_ m=>m.2) (.int .i64 L)) (λ_ m=>m.2) (.int .i64 A)) (λ_ h_=>h_.1))) E);replace aH:=a_ (Kd.AJ (by refine AV ?_;exact(Kd.Ai (Dw (g:=b) (Kd.Aj aH.o a.o (by decide)) (λ_ m=>m.2) (.int .i64 J) (.int .i64 K) (.slice af y.length Y) (.slice ag z.length Z) (.int .i64 L) (.int .i64 A)) (λ_ h_=>h_.1))) E);replace aI:=a_ (Kd.AJ (by refine AV ?_;exact(Kd.Ai (Dw (g:=b) (Kd.Aj aI.o a.o (by decide)) (λ_ m=>m.2) (.int .i64 J) (.int .i64 K) (.slice af y.length Y) (.slice ag z.length Z) (.int .i64 L) (.int .i64 A)) (λ_ h_=>h_.1))) E);replace d:=a_ (Ao (g:=j) (o:=.cells #[.int .i64 B,.int .i64 G,.slice W x.length T,.slice X t.length U,.int .i64 D,.int .i64 v] 26 (0,0)) (CZ ax.o d.o) E);replace i:=a_ (Ao (g:=q) (o:=.cells #[.int .i64 I,.int .i64 M,.int .i64 aa,.int .i64 ab,.string ae] 30 (0,0)) (CZ az.o i.o) E);replace l:=a_ (Ao (g:=u) (o:=.cells #[.int .i64 aj,.int .i64 ak,.slice aO ah.length aF,.slice aP ai.length aG,.int .i64 al,.int .i64 an] 26 (0,0)) (CZ aA.o l.o) E);replace a:=a_ (Ao (g:=b) (o:=.cells #[.int .i64 J,.int .i64 K,.slice af y.length Y,.slice ag z.length Z,.int .i64 L,.int .i64 A] 26 (0,0)) (F4 a.o) E);replace HB:=Bw E;(try clear E);have km:=aw.o;have kX:=ay.o;obtain⟨dV,dW,dX,dY,dZ,d_,cv,cw,cx,cy,cz,cA⟩:=BT d.o)|(go_at_call 7;(with_reducible refine(Ap.calls k B G _ _ x _ _ t D v true _ ?q' ?z' ?y' ?v' eL.o).mono ?_);(case q'=>exact E9 (Kd.At O.o).2.2);(case z'=>exact(Kd.At O.o).2.1);(case y'=>exact E9 (Kd.At P.o).2.2);(case v'=>exact(Kd.At P.o).2.1);rintro e lK ⟨rfl,E⟩;replace O:=a_ (Kd.AJ (AV O.o) E);replace P:=a_ (Kd.AJ (AV P.o) E);replace au:=a_ (Kd.Bh (Dj au.o) E);replace av:=a_ (Kd.Bh (Dj av.o) E);replace aH:=a_ (Kd.AJ (AV aH.o) E);replace aI:=a_ (Kd.AJ (AV aI.o) E);replace HB:=Bw E;replace d:=a_ (Ao (g:=j) (o:=.cells #[.int .i64 B,.int .i64 G,.slice W x.length T,.slice X t.length U,.int .i64 D,.int .i64 v] 26 (0,0)) (Bc d.o) E);replace i:=a_ (Ao (g:=q) (o:=.cells #[.int .i64 I,.int .i64 M,.int .i64 aa,.int .i64 ab,.string ae] 30 (0,0)) (Bc i.o) E);replace l:=a_ (Ao (g:=u) (o:=.cells #[.int .i64 aj,.int .i64 ak,.slice aO ah.length aF,.slice aP ai.length aG,.int .i64 al,.int .i64 an] 26 (0,0)) (Bc l.o) E);replace a:=a_ (Ao (g:=b) (o:=.cells #[.int .i64 J,.int .i64 K,.slice af y.length Y,.slice ag z.length Z,.int .i64 L,.int .i64 A] 26 (0,0)) (Bc a.o) E);(try clear E);obtain⟨ea,ec,ed,ee,ef,cB,cC,cD,cE,cF⟩:=CI i.o)|(go_at_call 12;(with_reducible refine(Cf.calls k I M aa ab ae aY _ hT.o).mono ?_);rintro e lL ⟨rfl,E⟩;replace O:=a_ (Kd.AJ (AV O.o) E);replace P:=a_ (Kd.AJ (AV P.o) E);replace au:=a_ (Kd.Bh (Dj au.o) E);replace av:=a_ (Kd.Bh (Dj av.o) E);replace aH:=a_ (Kd.AJ (AV aH.o) E);replace aI:=a_ (Kd.AJ (AV aI.o) E);replace HB:=Bw E;replace d:=a_ (Ao (g:=j) (o:=.cells #[.int .i64 B,.int .i64 G,.slice W x.length T,.slice X t.length U,.int .i64 D,.int .i64 v] 26 (0,0)) (Bc d.o) E);replace i:=a_ (Ao (g:=q) (o:=.cells #[.int .i64 I,.int .i64 M,.int .i64 aa,.int .i64 ab,.string ae] 30 (0,0)) (Bc i.o) E);replace l:=a_ (Ao (g:=u) (o:=.cells #[.int .i64 aj,.int .i64 ak,.slice aO ah.length aF,.slice aP ai.length aG,.int .i64 al,.int .i64 an] 26 (0,0)) (Bc l.o) E);replace a:=a_ (Ao (g:=b) (o:=.cells #[.int .i64 J,.int .i64 K,.slice af y.length Y,.slice ag z.length Z,.int .i64 L,.int .i64 A] 26 (0,0)) (Bc a.o) E);(try clear E)));go_meet
    exact⟨_,(!aY),(CA),H',⟨by first|omega|exact RB _⟩,⟨by refine AV ?_;exact Kd.Ai O.o (λ_ m=>m.2)⟩,⟨by refine AV ?_;exact Kd.Ai P.o (λ_ m=>m.2)⟩,⟨by refine Dj ?_;exact Kd.AD au.o (λ_ m=>⟨m.1.1.1.1.1,⟨m.1.1.1.1.2.1,⟨m.1.1.2,⟨m.1.2,⟨m.1.1.1.1.2.2.1,⟨m.1.1.1.1.2.2.2,⟨m.1.1.1.2,m.2⟩⟩⟩⟩⟩⟩⟩)⟩,⟨by refine Dj ?_;exact Kd.AD av.o (λ_ m=>⟨m.1.1.1.1.1,⟨m.1.1.1.1.2.1,⟨m.1.1.2,⟨m.1.2,⟨m.1.1.1.1.2.2.1,⟨m.1.1.1.1.2.2.2,⟨m.1.1.1.2,m.2⟩⟩⟩⟩⟩⟩⟩)⟩,⟨by refine AV ?_;exact Kd.Ai aH.o (λ_ m=>m.2)⟩,⟨by refine AV ?_;exact Kd.Ai aI.o (λ_ m=>m.2)⟩,⟨Bc d.o⟩,⟨Bc i.o⟩,⟨Bc l.o⟩,⟨Bc a.o⟩,⟨Ag⟩⟩
   replace bf:=RE.mpr bf;subst bf;have H1:(AZ.j0 k aS ao true B G x t D v I M aa ab ae aj ak ah ai al an J K y z L A)=some r:=by rw[Rz (show¬ (false=true) by decide)]at H;exact H
   clear H;have H:=H1;clear H1;have H':=a_ H;clear H;have kn:=aL.o;have kY:=ax.o;have ko:=aM.o;have kZ:=az.o;have kp:=aN.o;have k0:=aA.o;have eg:=IH a.o 0 (.int .i64 0);have eh:=IH a.o 1 (.int .i64 0);have ei:=IH a.o 2 (.slice none 0 0);have ej:=IH a.o 3 (.slice none 0 0);have ek:=IH a.o 4 (.int .i64 0);have en:=IH a.o 5 (.int .i64 0);have cG:=BU a.o 0;have cH:=BU a.o 1;have cI:=BU a.o 2;have cJ:=BU a.o 3;have cK:=BU a.o 4;have cL:=BU a.o 5;have kr:=aJ.o;have k1:=aD.o;have ks:=aK.o;have k2:=aE.o;have eo:=IH l.o 0 (.int .i64 aj);have ep:=IH l.o 1 (.int .i64 ak);have er:=IH l.o 2 (.slice aO ah.length aF);have et:=IH l.o 3 (.slice aP ai.length aG);have eu:=IH l.o 4 (.int .i64 al);have ev:=IH l.o 5 (.int .i64 an);have cM:=BU l.o 0;have cN:=BU l.o 1;have cO:=BU l.o 2;have cP:=BU l.o 3;have cQ:=BU l.o 4;have cR:=BU l.o 5;go_wp2_with(first|(go_at_call 11;(with_reducible refine(BH.calls k J K _ _ y _ _ z L A aj ak _ _ ah _ _ ai al an true _ ?q' ?z' ?y' ?v' ?m' ?side6 ?side7 ?side8 eK.o).mono ?_);(case q'=>refine(Kd.At (e:=68) (base:=w.heap.size) (ok:=λk_=>(True∧some k_≠(.slice W x.length T:Value).ownBlock)) (n:=y.length) (c:=Y) ?_).2.2;exact(by refine AV ?_;exact(Kd.Ai (Dw (g:=b) (Kd.Aj aH.o a.o (by decide)) (λ_ m=>m.2) (.int .i64 J) (.int .i64 K) (.slice af y.length Y) (.slice ag z.length Z) (.int .i64 L) (.int .i64 A)) (λ_ h_=>h_.1))));(case z'=>exact(Kd.At aH.o).2.1);(case y'=>refine(Kd.At (e:=32) (base:=w.heap.size) (ok:=λk_=>(True∧some k_≠(.slice X t.length U:Value).ownBlock)) (n:=z.length) (c:=Z) ?_).2.2;exact(by refine AV ?_;exact(Kd.Ai (Dw (g:=b) (Kd.Aj aI.o a.o (by decide)) (λ_ m=>m.2) (.int .i64 J) (.int .i64 K) (.slice af y.length Y) (.slice ag z.length Z) (.int .i64 L) (.int .i64 A)) (λ_ h_=>h_.1))));(case v'=>exact(Kd.At aI.o).2.1);(case m'=>refine(Kd.AY (e:=68) (base:=w.heap.size) (ok:=λk_=>(((((some k_≠(.slice W x.length T:Value).ownBlock∧(some k_≠(.slice X t.length U:Value).ownBlock∧(k_≠j∧k_≠q)))∧k_≠u)∧some k_≠(.slice af y.length Y:Value).ownBlock)∧some k_≠(.slice ag z.length Z:Value).ownBlock)∧k_≠b)) (n:=ah.length) (c:=aF) ?_).2.2;exact(by refine Dj ?_;exact(Kd.AD (Kd.AA (p:=⟨b,5,none⟩) (Kd.AA (p:=⟨b,4,none⟩) (Kd.AA (p:=⟨b,3,none⟩) (Kd.AA (p:=⟨b,2,none⟩) (Kd.AA (p:=⟨b,1,none⟩) (Kd.AA (p:=⟨b,0,none⟩) (Kd.AD au.o (λk_ m=>(⟨m,m.2⟩:_∧k_≠b))) (λ_ m=>m.2) (.int .i64 J)) (λ_ m=>m.2) (.int .i64 K)) (λ_ m=>m.2) (.slice af y.length Y)) (λ_ m=>m.2) (.slice ag z.length Z)) (λ_ m=>m.2) (.int .i64 L)) (λ_ m=>m.2) (.int .i64 A)) (λ_ h_=>h_.1))));(case side6=>exact(Kd.AY au.o).2.1);(case side7=>refine(Kd.AY (e:=32) (base:=w.heap.size) (ok:=λk_=>(((((some k_≠(.slice W x.length T:Value).ownBlock∧(some k_≠(.slice X t.length U:Value).ownBlock∧(k_≠j∧k_≠q)))∧k_≠u)∧some k_≠(.slice af y.length Y:Value).ownBlock)∧some k_≠(.slice ag z.length Z:Value).ownBlock)∧k_≠b)) (n:=ai.length) (c:=aG) ?_).2.2;exact(by refine Dj ?_;exact(Kd.AD (Kd.AA (p:=⟨b,5,none⟩) (Kd.AA (p:=⟨b,4,none⟩) (Kd.AA (p:=⟨b,3,none⟩) (Kd.AA (p:=⟨b,2,none⟩) (Kd.AA (p:=⟨b,1,none⟩) (Kd.AA (p:=⟨b,0,none⟩) (Kd.AD av.o (λk_ m=>(⟨m,m.2⟩:_∧k_≠b))) (λ_ m=>m.2) (.int .i64 J)) (λ_ m=>m.2) (.int .i64 K)) (λ_ m=>m.2) (.slice af y.length Y)) (λ_ m=>m.2) (.slice ag z.length Z)) (λ_ m=>m.2) (.int .i64 L)) (λ_ m=>m.2) (.int .i64 A)) (λ_ h_=>h_.1))));(case side8=>exact(Kd.AY av.o).2.1);rintro e lM ⟨rfl,E⟩;replace O:=a_ (Kd.AJ (by refine AV ?_;exact(Kd.Ai (Dw (g:=b) (Kd.Aj O.o a.o (by decide)) (λ_ m=>m.2) (.int .i64 J) (.int .i64 K) (.slice af y.length Y) (.slice ag z.length Z) (.int .i64 L) (.int .i64 A)) (λ_ h_=>h_.1))) E);replace P:=a_ (Kd.AJ (by refine AV ?_;exact(Kd.Ai (Dw (g:=b) (Kd.Aj P.o a.o (by decide)) (λ_ m=>m.2) (.int .i64 J) (.int .i64 K) (.slice af y.length Y) (.slice ag z.length Z) (.int .i64 L) (.int .i64 A)) (λ_ h_=>h_.1))) E);replace au:=a_ (Kd.Bh (by refine Dj ?_;exact(Kd.AD (Kd.AA (p:=⟨b,5,none⟩) (Kd.AA (p:=⟨b,4,none⟩) (Kd.AA (p:=⟨b,3,none⟩) (Kd.AA (p:=⟨b,2,none⟩) (Kd.AA (p:=⟨b,1,none⟩) (Kd.AA (p:=⟨b,0,none⟩) (Kd.AD au.o (λk_ m=>(⟨m,m.2⟩:_∧k_≠b))) (λ_ m=>m.2) (.int .i64 J)) (λ_ m=>m.2) (.int .i64 K)) (λ_ m=>m.2) (.slice af y.length Y)) (λ_ m=>m.2) (.slice ag z.length Z)) (λ_ m=>m.2) (.int .i64 L)) (λ_ m=>m.2) (.int .i64 A)) (λ_ h_=>h_.1))) E);replace av:=a_ (Kd.Bh (by refine Dj ?_;exact(Kd.AD (Kd.AA (p:=⟨b,5,none⟩) (Kd.AA (p:=⟨b,4,none⟩) (Kd.AA (p:=⟨b,3,none⟩) (Kd.AA (p:=⟨b,2,none⟩) (Kd.AA (p:=⟨b,1,none⟩) (Kd.AA (p:=⟨b,0,none⟩) (Kd.AD av.o (λk_ m=>(⟨m,m.2⟩:_∧k_≠b))) (λ_ m=>m.2) (.int .i64 J)) (λ_ m=>m.2) (.int .i64 K)) (λ_ m=>m.2) (.slice af y.length Y)) (λ_ m=>m.2) (.slice ag z.length Z)) (λ_ m=>m.2) (.int .i64 L)) (λ_ m=>m.2) (.int .i64 A)) (λ_ h_=>h_.1))) E);replace aH:=a_ (Kd.AJ (by refine AV ?_;exact(Kd.Ai (Dw (g:=b) (Kd.Aj aH.o a.o (by decide)) (λ_ m=>m.2) (.int .i64 J) (.int .i64 K) (.slice af y.length Y) (.slice ag z.length Z) (.int .i64 L) (.int .i64 A)) (λ_ h_=>h_.1))) E);replace aI:=a_ (Kd.AJ (by refine AV ?_;exact(Kd.Ai (Dw (g:=b) (Kd.Aj aI.o a.o (by decide)) (λ_ m=>m.2) (.int .i64 J) (.int .i64 K) (.slice af y.length Y) (.slice ag z.length Z) (.int .i64 L) (.int .i64 A)) (λ_ h_=>h_.1))) E);replace d:=a_ (Ao (g:=j) (o:=.cells #[.int .i64 B,.int .i64 G,.slice W x.length T,.slice X t.length U,.int .i64 D,.int .i64 v] 26 (0,0)) (CZ ax.o d.o) E);replace i:=a_ (Ao (g:=q) (o:=.cells #[.int .i64 I,.int .i64 M,.int .i64 aa,.int .i64 ab,.string ae] 30 (0,0)) (CZ az.o i.o) E);replace l:=a_ (Ao (g:=u) (o:=.cells #[.int .i64 aj,.int .i64 ak,.slice aO ah.length aF,.slice aP ai.length aG,.int .i64 al,.int .i64 an] 26 (0,0)) (CZ aA.o l.o) E);replace a:=a_ (Ao (g:=b) (o:=.cells #[.int .i64 J,.int .i64 K,.slice af y.length Y,.slice ag z.length Z,.int .i64 L,.int .i64 A] 26 (0,0)) (F4 a.o) E);replace HB:=Bw E;(try clear E);have kt:=aw.o;have k3:=ay.o;obtain⟨ew,ey,ez,eA,eB,eC,cS,cT,cU,cV,cW,cX⟩:=BT d.o)|(go_at_call 7;(with_reducible refine(Ap.calls k B G _ _ x _ _ t D v false _ ?q' ?z' ?y' ?v' eL.o).mono ?_);(case q'=>exact E9 (Kd.At O.o).2.2);(case z'=>exact(Kd.At O.o).2.1);(case y'=>exact E9 (Kd.At P.o).2.2);(case v'=>exact(Kd.At P.o).2.1);rintro e lN ⟨rfl,E⟩;replace O:=a_ (Kd.AJ (AV O.o) E);replace P:=a_ (Kd.AJ (AV P.o) E);replace au:=a_ (Kd.Bh (Dj au.o) E);replace av:=a_ (Kd.Bh (Dj av.o) E);replace aH:=a_ (Kd.AJ (AV aH.o) E);replace aI:=a_ (Kd.AJ (AV aI.o) E);replace HB:=Bw E;replace d:=a_ (Ao (g:=j) (o:=.cells #[.int .i64 B,.int .i64 G,.slice W x.length T,.slice X t.length U,.int .i64 D,.int .i64 v] 26 (0,0)) (Bc d.o) E);replace i:=a_ (Ao (g:=q) (o:=.cells #[.int .i64 I,.int .i64 M,.int .i64 aa,.int .i64 ab,.string ae] 30 (0,0)) (Bc i.o) E);replace l:=a_ (Ao (g:=u) (o:=.cells #[.int .i64 aj,.int .i64 ak,.slice aO ah.length aF,.slice aP ai.length aG,.int .i64 al,.int .i64 an] 26 (0,0)) (Bc l.o) E);replace a:=a_ (Ao (g:=b) (o:=.cells #[.int .i64 J,.int .i64 K,.slice af y.length Y,.slice ag z.length Z,.int .i64 L,.int .i64 A] 26 (0,0)) (Bc a.o) E);(try clear E)));go_meet
   exact⟨_,(true),(CA),H',⟨by first|omega|exact RB _⟩,⟨by refine AV ?_;exact Kd.Ai O.o (λ_ m=>m.2)⟩,⟨by refine AV ?_;exact Kd.Ai P.o (λ_ m=>m.2)⟩,⟨by refine Dj ?_;exact Kd.AD au.o (λ_ m=>⟨m.1.1.1.1.1,⟨m.1.1.1.1.2.1,⟨m.1.1.2,⟨m.1.2,⟨m.1.1.1.1.2.2.1,⟨m.1.1.1.1.2.2.2,⟨m.1.1.1.2,m.2⟩⟩⟩⟩⟩⟩⟩)⟩,⟨by refine Dj ?_;exact Kd.AD av.o (λ_ m=>⟨m.1.1.1.1.1,⟨m.1.1.1.1.2.1,⟨m.1.1.2,⟨m.1.2,⟨m.1.1.1.1.2.2.1,⟨m.1.1.1.1.2.2.2,⟨m.1.1.1.2,m.2⟩⟩⟩⟩⟩⟩⟩)⟩,⟨by refine AV ?_;exact Kd.Ai aH.o (λ_ m=>m.2)⟩,⟨by refine AV ?_;exact Kd.Ai aI.o (λ_ m=>m.2)⟩,⟨Bc d.o⟩,⟨Bc i.o⟩,⟨Bc l.o⟩,⟨Bc a.o⟩,⟨Ag⟩⟩
  replace be:=RE.mpr be;subst be;have H1:(none)=some r:=by rw[Rz (show¬ (false=true) by decide)]at H;exact H
  clear H;have H:=H1;clear H1;exact absurd H (by simp)
 clear bz;try clear c1
 try clear c2
 try clear bw
 try clear bx
 try clear a5
 try clear a6
 try clear eD
 try clear eE
 try clear be
 try clear bf
 try clear cY
 try clear cZ
 try clear c_
 try clear da
 try clear db
 try clear dc
 try clear dd
 try clear de
 try clear df
 try clear dg
 try clear dh
 try clear di
 try clear dj
 try clear dk
 try clear dm
 try clear dn
 try clear dp
 try clear dq
 try clear dr
 try clear du
 try clear dv
 try clear dw
 try clear dx
 try clear dy
 try clear dz
 try clear dA
 try clear dB
 try clear dC
 try clear dD
 try clear dE
 try clear dF
 try clear dG
 try clear dH
 try clear dI
 try clear dJ
 try clear dK
 try clear dL
 try clear dM
 try clear dN
 try clear dO
 try clear dP
 try clear dQ
 try clear dR
 try clear dS
 try clear dT
 try clear dU
 try clear dV
 try clear dW
 try clear dX
 try clear dY
 try clear dZ
 try clear d_
 try clear ea
 try clear ec
 try clear ed
 try clear ee
 try clear ef
 try clear eg
 try clear eh
 try clear ei
 try clear ej
 try clear ek
 try clear en
 try clear eo
 try clear ep
 try clear er
 try clear et
 try clear eu
 try clear ev
 try clear ew
 try clear ey
 try clear ez
 try clear eA
 try clear eB
 try clear eC
 try clear bA
 try clear bB
 try clear bC
 try clear bD
 try clear bE
 try clear bF
 try clear bG
 try clear bH
 try clear bI
 try clear bJ
 try clear bK
 try clear bL
 try clear bM
 try clear bN
 try clear bO
 try clear bP
 try clear bQ
 try clear bR
 try clear bS
 try clear bT
 try clear bU
 try clear bV
 try clear bW
 try clear bX
 try clear bY
 try clear bZ
 try clear b6
 try clear b7
 try clear b8
 try clear b9
 try clear b_
 try clear ca
 try clear cb
 try clear cd
 try clear cf
 try clear cg
 try clear cj
 try clear ck
 try clear cl
 try clear cm
 try clear cn
 try clear cp
 try clear cq
 try clear cr
 try clear ct
 try clear cu
 try clear cv
 try clear cw
 try clear cx
 try clear cy
 try clear cz
 try clear cA
 try clear cB
 try clear cC
 try clear cD
 try clear cE
 try clear cF
 try clear cG
 try clear cH
 try clear cI
 try clear cJ
 try clear cK
 try clear cL
 try clear cM
 try clear cN
 try clear cO
 try clear cP
 try clear cQ
 try clear cR
 try clear cS
 try clear cT
 try clear cU
 try clear cV
 try clear cW
 try clear cX
 obtain⟨kq,a0,rfl,HA,lE,aB,aC,aQ,aR,aq,ar,d,i,l,a,HB⟩:=hcut;cases kq with
 | zero=>exact absurd HA.o (by simp[AZ.j0])
 | succ a2 =>
  have H:=HA.o
  clear HA
  simp only[AZ.j0]at H
  by_cases bl:a0=true
  ·subst bl
   have H1:(if(ao==aS)=true then((BH.f a2 J K y z L A aj ak ah ai al an).bind λbj=>(some bj))else(none))=some r:=by rw[Ry rfl]at H;exact H
   clear H
   have H:=H1
   clear H1
   by_cases a9:(ao==aS)=true
   ·rw[Ry a9]at H
    have jW:(ao==aS)=true:=a9
    (try(have jX:decide (ao=aS)=true:=by simpa using a9))
    (try(have jY:(ao==aS)=true:=by simpa using a9))
    clear a9
    replace H:=BR H
    obtain⟨bj,bq,H⟩:=H
    try dsimp only at H
    have hU:=a_ bq
    clear bq
    obtain rfl:=CW H
    have ku:=aL.o
    have k4:=ax.o
    have kv:=aM.o
    have k5:=az.o
    have kx:=aN.o
    have k6:=aA.o
    have jb:wc.cell? ⟨b,0,none⟩=some (.int .i64 J):=(Ax a.o 0).trans rfl
    have jc:wc.cell? ⟨b,1,none⟩=some (.int .i64 K):=(Ax a.o 1).trans rfl
    have jd:wc.cell? ⟨b,2,none⟩=some (.slice af y.length Y):=(Ax a.o 2).trans rfl
    have je:wc.cell? ⟨b,3,none⟩=some (.slice ag z.length Z):=(Ax a.o 3).trans rfl
    have jf:wc.cell? ⟨b,4,none⟩=some (.int .i64 L):=(Ax a.o 4).trans rfl
    have jg:wc.cell? ⟨b,5,none⟩=some (.int .i64 A):=(Ax a.o 5).trans rfl
    have ia:=BU a.o 0
    have ib:=BU a.o 1
    have ic:=BU a.o 2
    have ie:=BU a.o 3
    have ig:=BU a.o 4
    have ih:=BU a.o 5
    have ky:=aJ.o
    have k7:=aD.o
    have kz:=aK.o
    have k8:=aE.o
    have jh:wc.cell? ⟨u,0,none⟩=some (.int .i64 aj):=(Ax l.o 0).trans rfl
    have ji:wc.cell? ⟨u,1,none⟩=some (.int .i64 ak):=(Ax l.o 1).trans rfl
    have jj:wc.cell? ⟨u,2,none⟩=some (.slice aO ah.length aF):=(Ax l.o 2).trans rfl
    have jk:wc.cell? ⟨u,3,none⟩=some (.slice aP ai.length aG):=(Ax l.o 3).trans rfl
    have jl:wc.cell? ⟨u,4,none⟩=some (.int .i64 al):=(Ax l.o 4).trans rfl
    have jm:wc.cell? ⟨u,5,none⟩=some (.int .i64 an):=(Ax l.o 5).trans rfl
    have ij:=BU l.o 0
    have ik:=BU l.o 1
    have il:=BU l.o 2
    have im:=BU l.o 3
    have iq:=BU l.o 4
    have ir:=BU l.o 5
    go_wp2_with(first|(go_at_call 11;(with_reducible refine(BH.calls a2 J K _ _ y _ _ z L A aj ak _ _ ah _ _ ai al an bj _ ?q' ?z' ?y' ?v' ?m' ?side6 ?side7 ?side8 hU.o).mono ?_);(case q'=>exact E9 (Kd.At aq.o).2.2);(case z'=>exact(Kd.At aq.o).2.1);(case y'=>exact E9 (Kd.At ar.o).2.2);(case v'=>exact(Kd.At ar.o).2.1);(case m'=>repeat(first|exact(Kd.AY aQ.o).2.2|(with_reducible refine Kd.C_alloc ?_ _)|(with_reducible refine Kd.B_ ?_ _)|(with_reducible refine Kd.C_drew ?_)));(case side6=>exact(Kd.AY aQ.o).2.1);(case side7=>repeat(first|exact(Kd.AY aR.o).2.2|(with_reducible refine Kd.C_alloc ?_ _)|(with_reducible refine Kd.B_ ?_ _)|(with_reducible refine Kd.C_drew ?_)));(case side8=>exact(Kd.AY aR.o).2.1);rintro e lO ⟨rfl,E⟩;replace aB:=a_ (Kd.AJ (AV aB.o) E);replace aC:=a_ (Kd.AJ (AV aC.o) E);replace aQ:=a_ (Kd.Bh (Dj aQ.o) E);replace aR:=a_ (Kd.Bh (Dj aR.o) E);replace aq:=a_ (Kd.AJ (AV aq.o) E);replace ar:=a_ (Kd.AJ (AV ar.o) E);replace HB:=Bw E;replace d:=a_ (Ao (g:=j) (o:=.cells #[.int .i64 B,.int .i64 G,.slice W x.length T,.slice X t.length U,.int .i64 D,.int .i64 v] 26 (0,0)) (Bc d.o) E);replace i:=a_ (Ao (g:=q) (o:=.cells #[.int .i64 I,.int .i64 M,.int .i64 aa,.int .i64 ab,.string ae] 30 (0,0)) (Bc i.o) E);replace l:=a_ (Ao (g:=u) (o:=.cells #[.int .i64 aj,.int .i64 ak,.slice aO ah.length aF,.slice aP ai.length aG,.int .i64 al,.int .i64 an] 26 (0,0)) (Bc l.o) E);replace a:=a_ (Ao (g:=b) (o:=.cells #[.int .i64 J,.int .i64 K,.slice af y.length Y,.slice ag z.length Z,.int .i64 L,.int .i64 A] 26 (0,0)) (Bc a.o) E);(try clear E)))
    go_ret
    exact⟨C8,Ag⟩
   ·rw[Rz a9]at H
    exact absurd H (by simp)
  ·replace bl:=RE.mpr bl
   subst bl
   have H1:(if I=1 then((CE.f B (wrap64 (v+1))).bind λaU=>(if(wrap64 (D+(t.length:Int)))<40 then(if(ao==(aU==M))=true then(if ao=true then(if A=(wrap64 (v+1))then(some true)else(none))else((BH.f a2 J K y z L A B G x t D v).bind λa3=>(some a3)))else(none))else(if(ao==false)=true then(if ao=true then(if A=(wrap64 (v+1))then(some true)else(none))else((BH.f a2 J K y z L A B G x t D v).bind λa4=>(some a4)))else(none))))else(if(ao==(decide ((wrap64 (D+(t.length:Int)))<40)))=true then(some (A==v))else(none)))=some r:=by rw[Rz (show¬ (false=true) by decide)]at H;exact H
   clear H
   have H:=H1
   clear H1
   by_cases a7:I=1
   ·rw[Ry a7]at H
    have eF:(I==1)=true:=RO.mpr a7
    have eG:(I != 1)=false:=Fc a7
    clear a7
    replace H:=BR H
    obtain⟨aU,br,H⟩:=H
    try dsimp only at H
    have bk:=a_ br
    clear br
    by_cases ba:(wrap64 (D+(t.length:Int)))<40
    ·rw[Ry ba]at H
     have eH:decide ((wrap64 (D+(t.length:Int)))<40)=true:=BM ba
     clear ba
     by_cases bb:(ao==(aU==M))=true
     ·rw[Ry bb]at H
      have jZ:(ao==(aU==M))=true:=bb
      (try(have j5:decide (ao=(aU==M))=true:=by simpa using bb))
      (try(have j6:(ao==(aU==M))=true:=by simpa using bb))
      clear bb
      by_cases bm:ao=true
      ·subst bm
       have H1:(if A=(wrap64 (v+1))then(some true)else(none))=some r:=by rw[Ry rfl]at H;exact H
       clear H
       have H:=H1
       clear H1
       by_cases bg:A=(wrap64 (v+1))
       ·rw[Ry bg]at H
        have j7:(A==(wrap64 (v+1)))=true:=RO.mpr bg
        have j8:(A != (wrap64 (v+1)))=false:=Fc bg
        clear bg
        obtain rfl:=CW H
        have kA:=aw.o
        have k9:=ay.o
        have kB:=aD.o
        have la:=aJ.o
        have kC:=ax.o
        have lb:=aL.o
        have jn:wc.cell? ⟨j,0,none⟩=some (.int .i64 B):=(Ax d.o 0).trans rfl
        have jo:wc.cell? ⟨j,1,none⟩=some (.int .i64 G):=(Ax d.o 1).trans rfl
        have jq:wc.cell? ⟨j,2,none⟩=some (.slice W x.length T):=(Ax d.o 2).trans rfl
        have jr:wc.cell? ⟨j,3,none⟩=some (.slice X t.length U):=(Ax d.o 3).trans rfl
        have js:wc.cell? ⟨j,4,none⟩=some (.int .i64 D):=(Ax d.o 4).trans rfl
        have jt:wc.cell? ⟨j,5,none⟩=some (.int .i64 v):=(Ax d.o 5).trans rfl
        have iu:=BU d.o 0
        have iv:=BU d.o 1
        have iw:=BU d.o 2
        have ix:=BU d.o 3
        have iy:=BU d.o 4
        have iz:=BU d.o 5
        have kD:=aE.o
        have ld:=aK.o
        have kE:=az.o
        have lf:=aM.o
        have ju:wc.cell? ⟨q,0,none⟩=some (.int .i64 I):=(Ax i.o 0).trans rfl
        have jv:wc.cell? ⟨q,1,none⟩=some (.int .i64 M):=(Ax i.o 1).trans rfl
        have jw:wc.cell? ⟨q,2,none⟩=some (.int .i64 aa):=(Ax i.o 2).trans rfl
        have jx:wc.cell? ⟨q,3,none⟩=some (.int .i64 ab):=(Ax i.o 3).trans rfl
        have jy:wc.cell? ⟨q,4,none⟩=some (.string ae):=(Ax i.o 4).trans rfl
        have iA:=BU i.o 0
        have iB:=BU i.o 1
        have iC:=BU i.o 2
        have iD:=BU i.o 3
        have iE:=BU i.o 4
        go_wp2_with(first|((with_reducible refine BQ (f:=13) rfl ?_);refine BW 83 TT #[.int .i64 B,.int .i64 (wrap64 (v+1))] ?_;(with_reducible refine(CE.calls B (wrap64 (v+1)) aU _ bk.o).mono ?_);rintro e w' ⟨rfl,⟨nd,rfl⟩⟩;refine⟨_,rfl,?_⟩;have kF:=aN.o;have lg:=aA.o;have jz:wc.cell? ⟨b,0,none⟩=some (.int .i64 J):=(Ax a.o 0).trans rfl;have jA:wc.cell? ⟨b,1,none⟩=some (.int .i64 K):=(Ax a.o 1).trans rfl;have jB:wc.cell? ⟨b,2,none⟩=some (.slice af y.length Y):=(Ax a.o 2).trans rfl;have jC:wc.cell? ⟨b,3,none⟩=some (.slice ag z.length Z):=(Ax a.o 3).trans rfl;have jD:wc.cell? ⟨b,4,none⟩=some (.int .i64 L):=(Ax a.o 4).trans rfl;have jE:wc.cell? ⟨b,5,none⟩=some (.int .i64 A):=(Ax a.o 5).trans rfl;have iF:=BU a.o 0;have iG:=BU a.o 1;have iH:=BU a.o 2;have iI:=BU a.o 3;have iJ:=BU a.o 4;have iK:=BU a.o 5))
        go_ret
        exact⟨C8,Ag⟩
       ·rw[Rz bg]at H
        exact absurd H (by simp)
      ·replace bm:=RE.mpr bm
       subst bm
       have H1:((BH.f a2 J K y z L A B G x t D v).bind λa3=>(some a3))=some r:=by rw[Rz (show¬ (false=true) by decide)]at H;exact H
       clear H
       have H:=H1
       clear H1
       replace H:=BR H
       obtain⟨a3,bu,H⟩:=H
       try dsimp only at H
       have hV:=a_ bu
       clear bu
       obtain rfl:=CW H
       have kG:=aw.o
       have lh:=ay.o
       have kH:=aD.o
       have ll:=aJ.o
       have kI:=ax.o
       have ln:=aL.o
       have jF:wc.cell? ⟨j,0,none⟩=some (.int .i64 B):=(Ax d.o 0).trans rfl
       have jG:wc.cell? ⟨j,1,none⟩=some (.int .i64 G):=(Ax d.o 1).trans rfl
       have jH:wc.cell? ⟨j,2,none⟩=some (.slice W x.length T):=(Ax d.o 2).trans rfl
       have jI:wc.cell? ⟨j,3,none⟩=some (.slice X t.length U):=(Ax d.o 3).trans rfl
       have jJ:wc.cell? ⟨j,4,none⟩=some (.int .i64 D):=(Ax d.o 4).trans rfl
       have jK:wc.cell? ⟨j,5,none⟩=some (.int .i64 v):=(Ax d.o 5).trans rfl
       have iL:=BU d.o 0
       have iM:=BU d.o 1
       have iN:=BU d.o 2
       have iO:=BU d.o 3
       have iP:=BU d.o 4
       have iQ:=BU d.o 5
       have kJ:=aE.o
       have lp:=aK.o
       have kK:=az.o
       have lq:=aM.o
       have jL:wc.cell? ⟨q,0,none⟩=some (.int .i64 I):=(Ax i.o 0).trans rfl
       have jM:wc.cell? ⟨q,1,none⟩=some (.int .i64 M):=(Ax i.o 1).trans rfl
       have jN:wc.cell? ⟨q,2,none⟩=some (.int .i64 aa):=(Ax i.o 2).trans rfl
       have jO:wc.cell? ⟨q,3,none⟩=some (.int .i64 ab):=(Ax i.o 3).trans rfl
       have jP:wc.cell? ⟨q,4,none⟩=some (.string ae):=(Ax i.o 4).trans rfl
       have iR:=BU i.o 0
       have iS:=BU i.o 1
       have iT:=BU i.o 2
       have iU:=BU i.o 3
       have iV:=BU i.o 4
       go_wp2_with(first|((with_reducible refine BQ (f:=13) rfl ?_);refine BW 83 TT #[.int .i64 B,.int .i64 (wrap64 (v+1))] ?_;(with_reducible refine(CE.calls B (wrap64 (v+1)) aU _ bk.o).mono ?_);rintro e w' ⟨rfl,⟨nd,rfl⟩⟩;refine⟨_,rfl,?_⟩;have kL:=aN.o;have lr:=aA.o;have jQ:wc.cell? ⟨b,0,none⟩=some (.int .i64 J):=(Ax a.o 0).trans rfl;have jR:wc.cell? ⟨b,1,none⟩=some (.int .i64 K):=(Ax a.o 1).trans rfl;have jS:wc.cell? ⟨b,2,none⟩=some (.slice af y.length Y):=(Ax a.o 2).trans rfl;have jT:wc.cell? ⟨b,3,none⟩=some (.slice ag z.length Z):=(Ax a.o 3).trans rfl;have jU:wc.cell? ⟨b,4,none⟩=some (.int .i64 L):=(Ax a.o 4).trans rfl;have jV:wc.cell? ⟨b,5,none⟩=some (.int .i64 A):=(Ax a.o 5).trans rfl;have iW:=BU a.o 0;have iX:=BU a.o 1;have iY:=BU a.o 2;have iZ:=BU a.o 3;have i_:=BU a.o 4;have ja:=BU a.o 5)|(go_at_call 11;(with_reducible refine(BH.calls a2 J K _ _ y _ _ z L A B G _ _ x _ _ t D v a3 _ ?q' ?z' ?y' ?v' ?m' ?side6 ?side7 ?side8 hV.o).mono ?_);(case q'=>exact E9 (Kd.At aq.o).2.2);(case z'=>exact(Kd.At aq.o).2.1);(case y'=>exact E9 (Kd.At ar.o).2.2);(case v'=>exact(Kd.At ar.o).2.1);(case m'=>exact E9 (Kd.At aB.o).2.2);(case side6=>exact(Kd.At aB.o).2.1);(case side7=>exact E9 (Kd.At aC.o).2.2);(case side8=>exact(Kd.At aC.o).2.1);rintro e lP ⟨rfl,E⟩;replace aB:=a_ (Kd.AJ (AV aB.o) E);replace aC:=a_ (Kd.AJ (AV aC.o) E);replace aQ:=a_ (Kd.Bh (Dj aQ.o) E);replace aR:=a_ (Kd.Bh (Dj aR.o) E);replace aq:=a_ (Kd.AJ (AV aq.o) E);replace ar:=a_ (Kd.AJ (AV ar.o) E);replace HB:=Bw E;replace d:=a_ (Ao (g:=j) (o:=.cells #[.int .i64 B,.int .i64 G,.slice W x.length T,.slice X t.length U,.int .i64 D,.int .i64 v] 26 (0,0)) (Bc d.o) E);replace i:=a_ (Ao (g:=q) (o:=.cells #[.int .i64 I,.int .i64 M,.int .i64 aa,.int .i64 ab,.string ae] 30 (0,0)) (Bc i.o) E);replace l:=a_ (Ao (g:=u) (o:=.cells #[.int .i64 aj,.int .i64 ak,.slice aO ah.length aF,.slice aP ai.length aG,.int .i64 al,.int .i64 an] 26 (0,0)) (Bc l.o) E);replace a:=a_ (Ao (g:=b) (o:=.cells #[.int .i64 J,.int .i64 K,.slice af y.length Y,.slice ag z.length Z,.int .i64 L,.int .i64 A] 26 (0,0)) (Bc a.o) E);(try clear E)))
       go_ret
       exact⟨C8,Ag⟩
     ·rw[Rz bb]at H
      exact absurd H (by simp)
    ·rw[Rz ba]at H
     have eH:decide ((wrap64 (D+(t.length:Int)))<40)=false:=C9 ba
     clear ba
     by_cases bc:(ao==false)=true
     ·rw[Ry bc]at H
      have j9:(ao==false)=true:=bc
      (try(have j_:decide (ao=false)=true:=by simpa using bc))
      (try(have ka:(ao==false)=true:=by simpa using bc))
      clear bc
      by_cases a8:ao=true
      ·subst a8
       have H1:(if A=(wrap64 (v+1))then(some true)else(none))=some r:=by rw[Ry rfl]at H;exact H
       clear H
       have H:=H1
       clear H1
       by_cases a1:A=(wrap64 (v+1))
       ·rw[Ry a1]at H
        have gV:(A==(wrap64 (v+1)))=true:=RO.mpr a1
        have gW:(A != (wrap64 (v+1)))=false:=Fc a1
        clear a1
        obtain rfl:=CW H
        have g0:=aw.o
        have ho:=ay.o
        have g1:=aD.o
        have hp:=aJ.o
        have g2:=ax.o
        have hq:=aL.o
        have fQ:wc.cell? ⟨j,0,none⟩=some (.int .i64 B):=(Ax d.o 0).trans rfl
        have fR:wc.cell? ⟨j,1,none⟩=some (.int .i64 G):=(Ax d.o 1).trans rfl
        have fS:wc.cell? ⟨j,2,none⟩=some (.slice W x.length T):=(Ax d.o 2).trans rfl
        have fT:wc.cell? ⟨j,3,none⟩=some (.slice X t.length U):=(Ax d.o 3).trans rfl
        have fU:wc.cell? ⟨j,4,none⟩=some (.int .i64 D):=(Ax d.o 4).trans rfl
        have fV:wc.cell? ⟨j,5,none⟩=some (.int .i64 v):=(Ax d.o 5).trans rfl
        have eX:=BU d.o 0
        have eY:=BU d.o 1
        have eZ:=BU d.o 2
        have e0:=BU d.o 3
        have e1:=BU d.o 4
        have e2:=BU d.o 5
        have g3:=aE.o
        have hr:=aK.o
        have g4:=az.o
        have ht:=aM.o
        have fW:wc.cell? ⟨q,0,none⟩=some (.int .i64 I):=(Ax i.o 0).trans rfl
        have fX:wc.cell? ⟨q,1,none⟩=some (.int .i64 M):=(Ax i.o 1).trans rfl
        have fY:wc.cell? ⟨q,2,none⟩=some (.int .i64 aa):=(Ax i.o 2).trans rfl
        have fZ:wc.cell? ⟨q,3,none⟩=some (.int .i64 ab):=(Ax i.o 3).trans rfl
        have f_:wc.cell? ⟨q,4,none⟩=some (.string ae):=(Ax i.o 4).trans rfl
        have e3:=BU i.o 0
        have e4:=BU i.o 1
        have e5:=BU i.o 2
        have e6:=BU i.o 3
        have e7:=BU i.o 4
        go_wp2_with(first|((with_reducible refine BQ (f:=13) rfl ?_);refine BW 83 TT #[.int .i64 B,.int .i64 (wrap64 (v+1))] ?_;(with_reducible refine(CE.calls B (wrap64 (v+1)) aU _ bk.o).mono ?_);rintro e w' ⟨rfl,⟨nd,rfl⟩⟩;refine⟨_,rfl,?_⟩;have g5:=aN.o;have hv:=aA.o;have ga:wc.cell? ⟨b,0,none⟩=some (.int .i64 J):=(Ax a.o 0).trans rfl;have gb:wc.cell? ⟨b,1,none⟩=some (.int .i64 K):=(Ax a.o 1).trans rfl;have gf:wc.cell? ⟨b,2,none⟩=some (.slice af y.length Y):=(Ax a.o 2).trans rfl;have gg:wc.cell? ⟨b,3,none⟩=some (.slice ag z.length Z):=(Ax a.o 3).trans rfl;have gh:wc.cell? ⟨b,4,none⟩=some (.int .i64 L):=(Ax a.o 4).trans rfl;have gi:wc.cell? ⟨b,5,none⟩=some (.int .i64 A):=(Ax a.o 5).trans rfl;have e8:=BU a.o 0;have e9:=BU a.o 1;have e_:=BU a.o 2;have fa:=BU a.o 3;have fb:=BU a.o 4;have fc:=BU a.o 5))
        go_ret
        exact⟨C8,Ag⟩
       ·rw[Rz a1]at H
        exact absurd H (by simp)
      ·replace a8:=RE.mpr a8
       subst a8
       have H1:((BH.f a2 J K y z L A B G x t D v).bind λa4=>(some a4))=some r:=by rw[Rz (show¬ (false=true) by decide)]at H;exact H
       clear H
       have H:=H1
       clear H1
       replace H:=BR H
       obtain⟨a4,bd,H⟩:=H
       try dsimp only at H
       have eI:=a_ bd
       clear bd
       obtain rfl:=CW H
       have g6:=aw.o
       have hx:=ay.o
       have g7:=aD.o
       have hy:=aJ.o
       have g8:=ax.o
       have hA:=aL.o
       have gj:wc.cell? ⟨j,0,none⟩=some (.int .i64 B):=(Ax d.o 0).trans rfl
       have gl:wc.cell? ⟨j,1,none⟩=some (.int .i64 G):=(Ax d.o 1).trans rfl
       have gm:wc.cell? ⟨j,2,none⟩=some (.slice W x.length T):=(Ax d.o 2).trans rfl
       have gn:wc.cell? ⟨j,3,none⟩=some (.slice X t.length U):=(Ax d.o 3).trans rfl
       have gp:wc.cell? ⟨j,4,none⟩=some (.int .i64 D):=(Ax d.o 4).trans rfl
       have gq:wc.cell? ⟨j,5,none⟩=some (.int .i64 v):=(Ax d.o 5).trans rfl
       have fe:=BU d.o 0
       have fg:=BU d.o 1
       have fh:=BU d.o 2
       have fi:=BU d.o 3
       have fj:=BU d.o 4
       have fk:=BU d.o 5
       have g9:=aE.o
       have hC:=aK.o
       have g_:=az.o
       have hH:=aM.o
       have gr:wc.cell? ⟨q,0,none⟩=some (.int .i64 I):=(Ax i.o 0).trans rfl
       have gu:wc.cell? ⟨q,1,none⟩=some (.int .i64 M):=(Ax i.o 1).trans rfl
       have gv:wc.cell? ⟨q,2,none⟩=some (.int .i64 aa):=(Ax i.o 2).trans rfl
       have gw:wc.cell? ⟨q,3,none⟩=some (.int .i64 ab):=(Ax i.o 3).trans rfl
       have gx:wc.cell? ⟨q,4,none⟩=some (.string ae):=(Ax i.o 4).trans rfl
       have fl:=BU i.o 0
       have fm:=BU i.o 1
       have fo:=BU i.o 2
       have fp:=BU i.o 3
       have fq:=BU i.o 4
       go_wp2_with(first|((with_reducible refine BQ (f:=13) rfl ?_);refine BW 83 TT #[.int .i64 B,.int .i64 (wrap64 (v+1))] ?_;(with_reducible refine(CE.calls B (wrap64 (v+1)) aU _ bk.o).mono ?_);rintro e w' ⟨rfl,⟨nd,rfl⟩⟩;refine⟨_,rfl,?_⟩;have ha:=aN.o;have hJ:=aA.o;have gy:wc.cell? ⟨b,0,none⟩=some (.int .i64 J):=(Ax a.o 0).trans rfl;have gz:wc.cell? ⟨b,1,none⟩=some (.int .i64 K):=(Ax a.o 1).trans rfl;have gA:wc.cell? ⟨b,2,none⟩=some (.slice af y.length Y):=(Ax a.o 2).trans rfl;have gB:wc.cell? ⟨b,3,none⟩=some (.slice ag z.length Z):=(Ax a.o 3).trans rfl;have gC:wc.cell? ⟨b,4,none⟩=some (.int .i64 L):=(Ax a.o 4).trans rfl;have gD:wc.cell? ⟨b,5,none⟩=some (.int .i64 A):=(Ax a.o 5).trans rfl;have ft:=BU a.o 0;have fu:=BU a.o 1;have fv:=BU a.o 2;have fw:=BU a.o 3;have fx:=BU a.o 4;have fy:=BU a.o 5)|(go_at_call 11;(with_reducible refine(BH.calls a2 J K _ _ y _ _ z L A B G _ _ x _ _ t D v a4 _ ?q' ?z' ?y' ?v' ?m' ?side6 ?side7 ?side8 eI.o).mono ?_);(case q'=>exact E9 (Kd.At aq.o).2.2);(case z'=>exact(Kd.At aq.o).2.1);(case y'=>exact E9 (Kd.At ar.o).2.2);(case v'=>exact(Kd.At ar.o).2.1);(case m'=>exact E9 (Kd.At aB.o).2.2);(case side6=>exact(Kd.At aB.o).2.1);(case side7=>exact E9 (Kd.At aC.o).2.2);(case side8=>exact(Kd.At aC.o).2.1);rintro e lD ⟨rfl,E⟩;replace aB:=a_ (Kd.AJ (AV aB.o) E);replace aC:=a_ (Kd.AJ (AV aC.o) E);replace aQ:=a_ (Kd.Bh (Dj aQ.o) E);replace aR:=a_ (Kd.Bh (Dj aR.o) E);replace aq:=a_ (Kd.AJ (AV aq.o) E);replace ar:=a_ (Kd.AJ (AV ar.o) E);replace HB:=Bw E;replace d:=a_ (Ao (g:=j) (o:=.cells #[.int .i64 B,.int .i64 G,.slice W x.length T,.slice X t.length U,.int .i64 D,.int .i64 v] 26 (0,0)) (Bc d.o) E);replace i:=a_ (Ao (g:=q) (o:=.cells #[.int .i64 I,.int .i64 M,.int .i64 aa,.int .i64 ab,.string ae] 30 (0,0)) (Bc i.o) E);replace l:=a_ (Ao (g:=u) (o:=.cells #[.int .i64 aj,.int .i64 ak,.slice aO ah.length aF,.slice aP ai.length aG,.int .i64 al,.int .i64 an] 26 (0,0)) (Bc l.o) E);replace a:=a_ (Ao (g:=b) (o:=.cells #[.int .i64 J,.int .i64 K,.slice af y.length Y,.slice ag z.length Z,.int .i64 L,.int .i64 A] 26 (0,0)) (Bc a.o) E);(try clear E)))
       go_ret
       exact⟨C8,Ag⟩
     ·rw[Rz bc]at H
      exact absurd H (by simp)
   ·rw[Rz a7]at H
    have eF:(I==1)=false:=Dr a7
    have eG:(I != 1)=true:=RX.mpr a7
    by_cases aX:(ao==(decide ((wrap64 (D+(t.length:Int)))<40)))=true
    ·rw[Ry aX]at H
     have gX:(ao==(decide ((wrap64 (D+(t.length:Int)))<40)))=true:=aX
     (try(have gY:decide (ao=(decide ((wrap64 (D+(t.length:Int)))<40)))=true:=by simpa using aX))
     (try(have gZ:(ao==(decide ((wrap64 (D+(t.length:Int)))<40)))=true:=by simpa using aX))
     clear aX
     obtain rfl:=CW H
     have hc:=aw.o
     have hL:=ay.o
     have hd:=aD.o
     have hM:=aJ.o
     have hf:=ax.o
     have hO:=aL.o
     have gE:wc.cell? ⟨j,0,none⟩=some (.int .i64 B):=(Ax d.o 0).trans rfl
     have gF:wc.cell? ⟨j,1,none⟩=some (.int .i64 G):=(Ax d.o 1).trans rfl
     have gG:wc.cell? ⟨j,2,none⟩=some (.slice W x.length T):=(Ax d.o 2).trans rfl
     have gH:wc.cell? ⟨j,3,none⟩=some (.slice X t.length U):=(Ax d.o 3).trans rfl
     have gI:wc.cell? ⟨j,4,none⟩=some (.int .i64 D):=(Ax d.o 4).trans rfl
     have gJ:wc.cell? ⟨j,5,none⟩=some (.int .i64 v):=(Ax d.o 5).trans rfl
     have fz:=BU d.o 0
     have fA:=BU d.o 1
     have fB:=BU d.o 2
     have fC:=BU d.o 3
     have fD:=BU d.o 4
     have fE:=BU d.o 5
     have hh:=aE.o
     have hP:=aK.o
     have hj:=az.o
     have hQ:=aM.o
     have gK:wc.cell? ⟨q,0,none⟩=some (.int .i64 I):=(Ax i.o 0).trans rfl
     have gL:wc.cell? ⟨q,1,none⟩=some (.int .i64 M):=(Ax i.o 1).trans rfl
     have gM:wc.cell? ⟨q,2,none⟩=some (.int .i64 aa):=(Ax i.o 2).trans rfl
     have gN:wc.cell? ⟨q,3,none⟩=some (.int .i64 ab):=(Ax i.o 3).trans rfl
     have gO:wc.cell? ⟨q,4,none⟩=some (.string ae):=(Ax i.o 4).trans rfl
     have fF:=BU i.o 0
     have fG:=BU i.o 1
     have fH:=BU i.o 2
     have fI:=BU i.o 3
     have fJ:=BU i.o 4
     have hn:=aN.o
     have hS:=aA.o
     have gP:wc.cell? ⟨b,0,none⟩=some (.int .i64 J):=(Ax a.o 0).trans rfl
     have gQ:wc.cell? ⟨b,1,none⟩=some (.int .i64 K):=(Ax a.o 1).trans rfl
     have gR:wc.cell? ⟨b,2,none⟩=some (.slice af y.length Y):=(Ax a.o 2).trans rfl
     have gS:wc.cell? ⟨b,3,none⟩=some (.slice ag z.length Z):=(Ax a.o 3).trans rfl
     have gT:wc.cell? ⟨b,4,none⟩=some (.int .i64 L):=(Ax a.o 4).trans rfl
     have gU:wc.cell? ⟨b,5,none⟩=some (.int .i64 A):=(Ax a.o 5).trans rfl
     have fK:=BU a.o 0
     have fL:=BU a.o 1
     have fM:=BU a.o 2
     have fN:=BU a.o 3
     have fO:=BU a.o 4
     have fP:=BU a.o 5
     go_wp2
     go_ret
     exact⟨C8,Ag⟩
    ·rw[Rz aX]at H
     exact absurd H (by simp)
def AZ.Pure:Prop:=∀(l0:List Int),l0.length≤maxLen->l0.length*1≤140737488351232->(∀x∈l0,(Lit.int .u8 x).wf=true)->∃k,AZ.f k l0=some true
theorem AZ.walk(P:AZ.Pure)(g:Option Addr)(b a:Nat)(c:List Int)(w:World)(w0:(g=none∧b=0∧a=0∧c=[])∨∃x,g=some x∧b≤a∧a≤maxLen∧c.length=a∧(∀i,i<c.length->w.cell? (x.add i)=some (.int .u8 (c.getD i 0)))∧∀n∈c,(Lit.int .u8 n).wf=true)(r:b*1≤140737488351232)(p:Cm w) :
  Calls Tryd.prog 4 #[.slice g b a] w λe w'=>e=.returned (.bool true)∧Below w.heap.size w w':=by obtain⟨l0,rfl,m,l,o,j⟩:=Fa.PS w0;obtain⟨k,h⟩:=P l0 l r o;refine(AZ.calls k _ _ l0 true w (Kd.IM (d:=(0:Int)) (h1:=λ_=>rfl) m) j h p).mono ?_;rintro e w' ⟨rfl,q⟩;exact⟨rfl,q⟩
end Go.Proofs.YtlhlpfnljglhoaaDoor.P
namespace Go.Proofs.YtlhlpfnljglhoaaDoor.PL
open Go.RowKit Go.Proofs.YtlhlpfnljglhoaaDoor.P Go.Proofs.YtlhlpfnljglhoaaDoorW.PrintWords Go.Proofs.YtlhlpfnljglhoaaDoorW.Bb
def Bytes(b:List Int):Prop:=b.length≤2000∧∀x∈b,0≤x∧x≤255
def Rd(p:Int)(m:Nat):Prop:=0≤p∧p+m≤1000000
theorem Rd.less{p:Int}{m n:Nat}(h:Rd p m)(a:n≤m):Rd p n:=⟨h.1,by have:=h.2;omega⟩
theorem AN(x:Int)(h0:-9223372036854775808≤x)(h1:x≤9223372036854775807):wrap64 x=x:=by unfold wrap64;omega
theorem MB(n:Int)(h0:0≤n)(h1:n<2 ^ 62):IntKind.i64.wrap n=n:=by rw[IntKind.wrap_i64];omega
theorem OJ(a b:Int)(l:0≤a)(o:0≤b)(g:a<4611686018427387904)(i:b<4611686018427387904):0≤Go.bits .xor .i64 a b:=by
 obtain⟨m,rfl⟩:∃m:Nat,a=m:=⟨a.toNat,by omega⟩
 obtain⟨n,rfl⟩:∃n:Nat,b=n:=⟨b.toNat,by omega⟩
 have hm:m<2 ^ 62:=by omega
 have j:n<2 ^ 62:=by omega
 have c:m % 2 ^ 64=m:=Nat.mod_eq_of_lt (by omega);have d:n % 2 ^ 64=n:=Nat.mod_eq_of_lt (by omega);have p:m ^^^ n<2 ^ 62:=Nat.xor_lt_two_pow hm j;have k:(BitVec.ofNat 64 m ^^^ BitVec.ofNat 64 n).toNat=m ^^^ n:=by rw[BitVec.toNat_xor,BitVec.toNat_ofNat,BitVec.toNat_ofNat,c,d]
 have e:Go.bits .xor .i64 (m:Int) (n:Int)=IntKind.i64.wrap (((BitVec.ofNat 64 m ^^^ BitVec.ofNat 64 n).toNat:Nat):Int):=by simp only[Go.bits,BitVec.ofInt_natCast];rfl
 rw[e,k,MB _ (by omega) (by omega)];omega
theorem Kf{b:List Int}(a:Bytes b)(i:Int):0≤rd b i∧rd b i≤255:=by
 unfold rd;rw[RS];rcases SG i.toNat b.length with h|h
 ·rw[RD h];exact a.2 _ (RR h)
 rw[SC h];simp
theorem Gg(x n:Int)(a:0≤x)(b:1≤n):0≤Int.tmod x n∧Int.tmod x n<n:=by rw[TN a];exact⟨Int.emod_nonneg _ (by omega),Int.emod_lt_of_pos _ (by omega)⟩
theorem Dn(b:List Int)(p n:Int)(m:Nat)(i:Bytes b)(x:Rd p (m+1)):∃r:Int,Ev (λk=>Ab.f k b p n) (r,p+1)∧Rd (p+1) m∧0≤r∧(1≤n->r<n)∧(n<1->r=0):=by
 obtain⟨h0,h1⟩:=x;have hR:Rd (p+1) m:=⟨by omega,by omega⟩
 have w1:wrap64 (p+1)=p+1:=AN _ (by omega) (by omega);have t:wrap64 (p+1-1)=p:=by rw[AN (p+1-1) (by omega) (by omega)];omega
 unfold Ab.f;rw[w1];by_cases a:n<1
 ·refine⟨0,Al a ?_,hR,Tl _,λh=>by omega,λ_=>rfl⟩;refine Ev.step (f:=λ_=>some (0,p+1)) (λk=>?_) (AR _);simp only[Ab.j0,if_true]
 by_cases hl:b.length=0
 ·refine⟨0,AF a ?_,hR,Tl _,λh=>by omega,λ_=>rfl⟩;refine Ev.step (f:=λ_=>some (0,p+1)) (λk=>?_) (AR _);have:((b.length:Int)==0)=true:=by simp[hl]
  simp only[Ab.j0,this,if_true]
 have j:((b.length:Int)==0)=false:=Sx.2 (by omega);by_cases l:p<(b.length:Int)
 ·have A:=Kf i p;have c:=Gg (wrap64 (rd b p)) n (by rw[AN (rd b p) (by omega) (by omega)];omega) (by omega);refine⟨Int.tmod (wrap64 (rd b p)) n,AF a ?_,hR,c.1,λ_=>c.2,λh=>absurd h a⟩;refine Ev.step (f:=λ_=>some (Int.tmod (wrap64 (rd b p)) n,p+1)) (λk=>?_) (AR _);simp only[Ab.j0,j,Bool.false_eq_true,if_false,t];rw[Ry l,Ry h0,Rz (show¬ n=0 by omega)]
 have hlen:(1:Int)≤b.length:=by omega
 have o:=Gg p b.length h0 hlen;have w:wrap64 (p*7)=p*7:=AN _ (by omega) (by omega);have g:wrap64 (p*7+3)=p*7+3:=AN _ (by omega) (by omega);have q:=Gg (p*7+3) b.length (by omega) hlen;have y:=Kf i (Int.tmod p b.length);have z:=Kf i (Int.tmod (p*7+3) b.length);have d1:0≤Int.tdiv p b.length∧Int.tdiv p b.length≤1000000:=by rw[SD h0];exact⟨Int.ediv_nonneg h0 (by omega),Int.le_trans (Int.ediv_le_self _ h0) (by omega)⟩
 obtain⟨r,c⟩:∃r,r=Int.tmod (Go.bits .xor .i64 (wrap64 ((wrap64 ((wrap64 ((wrap64 ((wrap64 (rd b (Int.tmod p (b.length:Int))))*131))+(wrap64 ((wrap64 (rd b (Int.tmod (p*7+3) (b.length:Int))))*1117))))+(wrap64 (p*29))))+(wrap64 ((wrap64 (Int.tdiv p (b.length:Int)))*53)))) (wrap64 (Int.tdiv (wrap64 ((wrap64 ((wrap64 ((wrap64 ((wrap64 (rd b (Int.tmod p (b.length:Int))))*131))+(wrap64 ((wrap64 (rd b (Int.tmod (p*7+3) (b.length:Int))))*1117))))+(wrap64 (p*29))))+(wrap64 ((wrap64 (Int.tdiv p (b.length:Int)))*53)))) 64))) n:=⟨_,rfl⟩
 have e:0≤r∧r<n:=by rw[c];refine Gg _ n ?_ (by omega);generalize rd b (Int.tmod p (b.length:Int))=u at y;generalize rd b (Int.tmod (p*7+3) (b.length:Int))=v at z;generalize Int.tdiv p (b.length:Int)=d at d1;rw[AN u (by omega) (by omega),AN v (by omega) (by omega),AN d (by omega) (by omega)];rw[AN (u*131) (by omega) (by omega),AN (v*1117) (by omega) (by omega),AN (p*29) (by omega) (by omega),AN (d*53) (by omega) (by omega)];rw[AN (u*131+v*1117) (by omega) (by omega)];rw[AN (u*131+v*1117+p*29) (by omega) (by omega)];rw[AN (u*131+v*1117+p*29+d*53) (by omega) (by omega)];have hs:Int.tdiv (u*131+v*1117+p*29+d*53) 64=(u*131+v*1117+p*29+d*53) / 64:=SD (by omega);rw[hs,AN _ (by omega) (by omega)];exact OJ _ _ (by omega) (by omega) (by omega) (by omega)
 refine⟨r,AF a ?_,hR,e.1,λ_=>e.2,λh=>absurd h a⟩;refine Ev.step (f:=λ_=>some (r,p+1)) (λk=>?_) (AR _);simp only[Ab.j0,j,Bool.false_eq_true,if_false,t,w,g];rw[Rz l,Rz (show¬ (b.length:Int)=0 by omega),Ry o.1,Ry o.2,Ry q.1,Ry q.2,Rz (show¬ n=0 by omega),c]
theorem CX(t:List Ba)(i:Nat)(h:i<t.length):Ae t i=t[i]:=by unfold Ae;rw[RS,show((i:Int)).toNat=i from rfl,RD h];rfl
def GY(id:Int):List Ba->Nat->Int
 | [],_=>-1
 | r::rest,i=>if r.f0=id then(i:Int)else GY id rest (i+1)
def G_(t:List Ba)(id:Int):Int:=GY id t 0
theorem OU(t:List Ba)(id:Int)(hl:t.length≤1099511627776):∀(n i:Nat),i+n=t.length->Ev (λk=>Bi.l0 k t id i) (GY id (t.drop i) i)
 | 0,i,h=>by
  rw[Sb (by omega)]
  refine Ev.step (f:=λ_=>some (-1)) (λk=>?_) (AR _)
  simp only[Bi.l0];rw[Rz (by omega)]
 | n+1,i,h=>by
  have hi:i<t.length:=by omega
  rw[RZ hi]
  unfold GY
  by_cases a:t[i].f0=id
  ·rw[Ry a]
   refine Ev.step (f:=λ_=>some (i:Int)) (λk=>?_) (AR _)
   simp only[Bi.l0]
   rw[Ry (by omega),Ry (by omega),CX t i hi,Ry a]
  ·rw[Rz a]
   refine Ev.step (λk=>?_) (OU t id hl n (i+1) (by omega))
   simp only[Bi.l0]
   rw[Ry (by omega),Ry (by omega),CX t i hi,Rz a,EV i (by omega) (by omega)]
   rfl
theorem F9(t:List Ba)(id:Int)(hl:t.length≤1099511627776):Ev (λk=>Bi.f k t id) (G_ t id):=OU t id hl t.length 0 (by omega)
theorem Iq(id:Int):∀(t:List Ba) (i:Nat),(GY id t i=-1∧∀x∈t,x.f0≠id)∨∃(j:Nat) (h:j<t.length),GY id t i=((i+j:Nat):Int)∧t[j].f0=id
 | [],i=>Or.inl ⟨rfl,λx a=>by cases a⟩
 | r::rest,i=>by
  unfold GY
  by_cases b:r.f0=id
  ·rw[Ry b]
   exact Or.inr ⟨0,by simp,by simp,b⟩
  ·rw[Rz b]
   rcases Iq id rest (i+1)with⟨h1,c⟩|⟨j,h,h1,c⟩
   ·refine Or.inl ⟨h1,λx a=>?_⟩
    rcases Sl.1 a with rfl|a
    ·exact b
    ·exact c x a
   ·exact Or.inr ⟨j+1,by simp;omega,by rw[h1];congr 1;omega,by simpa using c⟩
theorem Eu(t:List Ba)(id:Int):(G_ t id=-1∧∀x∈t,x.f0≠id)∨∃(j:Nat) (h:j<t.length),G_ t id=(j:Int)∧t[j].f0=id:=by
 rcases Iq id t 0 with h|⟨j,h,h1,a⟩
 ·exact Or.inl h
 exact Or.inr ⟨j,h,by rw[G_,h1];congr 1;omega,a⟩
theorem Lz{t:List Ba}{id:Int}{x:Ba}(b:x∈t)(h:x.f0=id):∃(j:Nat) (c:j<t.length),G_ t id=(j:Int)∧t[j].f0=id:=by
 rcases Eu t id with⟨_,a⟩|a
 ·exact absurd h (a x b)
 exact a
def DE(d:Int):List Ba->Nat->Nat
 | [],e=>e
 | r::rest,e=>if r.f1>d then DE d rest (e+1)else e
def E3(t:List Ba)(i:Nat):Nat:=DE (t.getD i Qb).f1 (t.drop (i+1)) (i+1)
theorem KA(t:List Ba)(i:Nat)(h:i<t.length):t.getD i Qb=t[i]:=by rw[RS,RD h];rfl
theorem M9(t:List Ba)(a:Nat)(c:a<t.length)(hl:t.length≤1099511627776):∀(n i:Nat),i+n=t.length->Ev (λk=>Bt.l0 k t a i) (DE t[a].f1 (t.drop i) i:Int)
 | 0,i,h=>by
  rw[Sb (by omega)]
  refine Ev.step (f:=λ_=>some (i:Int)) (λk=>?_) (AR _)
  simp only[Bt.l0];rw[Rz (by omega)]
 | n+1,i,h=>by
  have hi:i<t.length:=by omega
  rw[RZ hi]
  unfold DE
  by_cases b:t[i].f1>t[a].f1
  ·rw[Ry b]
   refine Ev.step (λk=>?_) (M9 t a c hl n (i+1) (by omega))
   simp only[Bt.l0]
   rw[Ry (by omega),Ry (by omega),Ry (by omega),Ry (by omega),CX t i hi,CX t a c,Ry b,EV i (by omega) (by omega)]
   rfl
  ·rw[Rz b]
   refine Ev.step (f:=λ_=>some (i:Int)) (λk=>?_) (AR _)
   simp only[Bt.l0]
   rw[Ry (by omega),Ry (by omega),Ry (by omega),Ry (by omega),CX t i hi,CX t a c,Rz b]
theorem Jt(t:List Ba)(a:Nat)(b:a<t.length)(hl:t.length≤1099511627776):Ev (λk=>Bt.f k t a) (E3 t a:Int):=by have:=M9 t a b hl (t.length-(a+1)) (a+1) (by omega);unfold E3;rw[KA t a b];refine Ev.congr (λk=>?_) this;unfold Bt.f;rw[EV a (by omega) (by omega)];rfl
theorem Hk(d:Int):∀(t:List Ba) (e:Nat),e≤DE d t e∧DE d t e≤e+t.length∧(∀(j:Nat) (a:j<t.length),e+j<DE d t e->d<t[j].f1)∧(∀(a:DE d t e-e<t.length),t[DE d t e-e].f1≤d)
 | [],e=>⟨RB _,by simp[DE],λj a=>by simp at a,λa=>by simp at a⟩
 | r::rest,e=>by
  by_cases i:r.f1>d
  ·have he:DE d (r::rest) e=DE d rest (e+1):=Ry i
   obtain⟨h1,k,h3,h4⟩:=Hk d rest (e+1)
   refine⟨by rw[he];omega,by rw[he];simp;omega,λj a b=>?_,λa=>?_⟩
   ·rw[he]at b
    cases j with
    | zero=>exact i
    | succ j=>exact h3 j (by simpa using a) (by omega)
   ·have c:DE d (r::rest) e-e=(DE d rest (e+1)-(e+1))+1:=by rw[he];omega
    have g:DE d rest (e+1)-(e+1)<rest.length:=by rw[c]at a;simpa using a
    have:=h4 g
    simp only[c,List.getElem_cons_succ]
    exact this
  ·have he:DE d (r::rest) e=e:=Rz i
   refine⟨by rw[he];exact RB _,by rw[he];omega,λj a b=>by rw[he]at b;omega,λa=>?_⟩
   have c:DE d (r::rest) e-e=0:=by rw[he];omega
   simp only[c,List.getElem_cons_zero]
   omega
theorem EI(t:List Ba)(a:Nat)(d:a<t.length):a<E3 t a∧E3 t a≤t.length∧(∀(j:Nat) (b:j<t.length),a<j->j<E3 t a->t[a].f1<t[j].f1)∧(∀(b:E3 t a<t.length),t[E3 t a].f1≤t[a].f1):=by
 unfold E3;rw[KA t a d];obtain⟨h1,c,h3,h4⟩:=Hk t[a].f1 (t.drop (a+1)) (a+1);rw[R9]at c;refine⟨by omega,by omega,λj b e g=>?_,λb=>?_⟩
 ·have:=h3 (j-(a+1)) (by rw[R9];omega) (by omega);rw[TS]at this;simpa[show a+1+(j-(a+1))=j by omega]using this
 have:=h4 (by rw[R9];omega);rw[TS]at this;simpa[show a+1+(DE t[a].f1 (t.drop (a+1)) (a+1)-(a+1))=DE t[a].f1 (t.drop (a+1)) (a+1) by omega]using this
def ON(t:List Ba)(a i:Nat)(x:Int):Prop:=∃(b:a<t.length) (j:Nat) (c:j<t.length),i≤j∧j<E3 t a∧t[j].f0=x∧t[j].f1=wrap64 (t[a].f1+1)
theorem J5(t:List Ba)(a:Nat)(b:a<t.length)(hl:t.length≤1099511627776):∀(n i:Nat) (acc:List Int),i+n=E3 t a->acc.length+n≤1099511627776 ->
  ∃r:List Int,Ev (λk=>BI.l0 k t acc a i) (acc++r)∧r.length≤n∧∀x∈r,ON t a i x
 | 0,i,acc,h,d=>by
  refine⟨[],?_,by simp,λx c=>by cases c⟩
  rw[Tr]
  refine Ev.step (λk=>by simp only[BI.l0];rfl) ?_
  refine Ev.bind (Jt t a b hl) ?_
  refine AF (by omega) ?_
  exact AR _
 | n+1,i,acc,h,d=>by
  obtain⟨q,u,_,_⟩:=EI t a b
  have hi:i<t.length:=by omega
  by_cases o:t[i].f1=wrap64 (t[a].f1+1)
  ·obtain⟨r,e,hlen,m⟩:=J5 t a b hl n (i+1) (acc++[t[i].f0]) (by omega) (by simp;omega)
   refine⟨t[i].f0::r,?_,by simp;omega,λx c=>?_⟩
   ·rw[Tk]at e
    refine Ev.step (λk=>by simp only[BI.l0];rfl) ?_
    refine Ev.bind (Jt t a b hl) ?_
    refine Al (by omega) (Al (by omega) (Al (by omega) (Al (by omega) (Al (by omega) ?_))))
    rw[CX t i hi,CX t a b,EV i (by omega) (by omega)]
    refine Al o (Al (by omega) ?_)
    exact e
   ·rcases Sl.1 c with rfl|c
    ·exact⟨b,i,hi,RB _,by omega,rfl,o⟩
    ·obtain⟨h1,j,l,p,h3,h4,g⟩:=m x c
     exact⟨h1,j,l,by omega,h3,h4,g⟩
  ·obtain⟨r,e,hlen,m⟩:=J5 t a b hl n (i+1) acc (by omega) (by omega)
   refine⟨r,?_,by omega,λx c=>?_⟩
   ·refine Ev.step (λk=>by simp only[BI.l0];rfl) ?_
    refine Ev.bind (Jt t a b hl) ?_
    refine Al (by omega) (Al (by omega) (Al (by omega) (Al (by omega) (Al (by omega) ?_))))
    rw[CX t i hi,CX t a b,EV i (by omega) (by omega)]
    refine AF o ?_
    exact e
   ·obtain⟨h1,j,l,p,h3,h4,g⟩:=m x c
    exact⟨h1,j,l,by omega,h3,h4,g⟩
theorem Np(t:List Ba)(id:Int)(hl:t.length≤1000000):∃r:List Int,Ev (λk=>BI.f k t id) r∧r.length≤t.length∧∀x∈r,∃a:Nat,G_ t id=(a:Int)∧ON t a (a+1) x:=by
 unfold BI.f;simp only[Option.bind_some];rcases Eu t id with⟨h1,_⟩|⟨a,c,h1,_⟩
 ·refine⟨[],?_,by simp,λx b=>by cases b⟩;refine Ev.bind (F9 t id (by omega)) ?_;rw[h1];exact Al (by omega) (AR _)
 obtain⟨g,i,_,_⟩:=EI t a c;obtain⟨r,e,hlen,d⟩:=J5 t a c (by omega) (E3 t a-(a+1)) (a+1) [] (by omega) (by simp;omega);refine⟨r,?_,by omega,λx b=>⟨a,h1,d x b⟩⟩;refine Ev.bind (F9 t id (by omega)) ?_;rw[h1];refine AF (by omega) ?_;rw[EV a (by omega) (by omega)];exact e
def GZ:Int->List Ba->Prop
 | _,[]=>True
 | d,x::l=>(0≤x.f1∧x.f1≤d+1)∧GZ x.f1 l
def Fs:Int->List Ba->Int
 | d,[]=>d
 | _,x::l=>Fs x.f1 l
theorem FW:∀(a b:List Ba) (d:Int),GZ d (a++b)↔GZ d a∧GZ (Fs d a) b
 | [],b,d=>by simp[GZ,Fs]
 | x::a,b,d=>by
  rw[List.cons_append]
  simp only[GZ,Fs,FW a b x.f1,and_assoc]
theorem Oa{d d':Int}{l:List Ba}(h:GZ d l)(a:d≤d'):GZ d' l:=by
 cases l with
 | nil=>trivial
 | cons x l=>exact⟨⟨h.1.1,by have:=h.1.2;omega⟩,h.2⟩
theorem LF:∀(l:List Ba) (d:Int),GZ d l->∀x∈l,0≤x.f1∧x.f1≤d+l.length
 | [],_,_,x,a=>by cases a
 | y::l,d,h,x,a=>by
  have h1:=h.1
  rcases Sl.1 a with rfl|a
  ·rw[TZ];omega
  ·have:=LF l y.f1 h.2 x a
   rw[TZ]
   omega
theorem Hv:∀(l:List Ba) (d:Int) (p:Nat) (a:p<l.length),Fs d (l.take (p+1))=l[p].f1
 | x::l,d,0,a=>by simp[Fs]
 | x::l,d,p+1,a=>by
  rw[List.take_succ_cons]
  simp only[Fs,List.getElem_cons_succ]
  exact Hv l x.f1 p (by simpa using a)
theorem M4{t R:List Ba}{p:Nat}{m:Int}(i:GZ (-1) t)(hR:GZ m R)(hl:m≤Fs (-1) (t.take p))(g:m+1≤Fs m R)(h0:0<R.length)(c:∀b:p<t.length,t[p].f1≤m+1):GZ (-1) (t.take p++R++t.drop p):=by
 have e:=i;rw[<-Sv p t,FW]at e;rw[FW,FW];refine⟨⟨e.1,Oa hR hl⟩,?_⟩
 have same:∀(d d':Int),Fs d R=Fs d' R:=λd d'=>by
  cases R with
  | nil=>simp at h0
  | cons x R=>rfl
 have k:m+1≤Fs (-1) (t.take p++R):=by
  have:∀(a:List Ba) (d:Int),Fs d (a++R)=Fs m R:=by
   intro a;induction a with
   | nil=>intro d;exact same _ _
   | cons y a j=>intro d;rw[List.cons_append];exact j y.f1
  rw[this];exact g
 rcases SG p t.length with b|b
 ·rw[RZ b]at e⊢;exact⟨⟨e.2.1.1,by have:=c b;omega⟩,e.2.2⟩
 rw[Sb b];trivial
theorem PF{t:List Ba}{k e:Nat}(b:GZ (-1) t)(d:k<t.length)(g:k≤e)(c:∀he:e<t.length,t[e].f1≤t[k].f1):GZ (-1) (t.take k++t.drop e):=by
 have h1:=b;rw[<-Sv k t,FW,RZ d]at h1;have a:=b;rw[<-Sv e t,FW]at a;rw[FW];refine⟨h1.1,?_⟩;rcases SG e t.length with he|he
 ·rw[RZ he]at a⊢;exact⟨⟨a.2.1.1,by have:=c he;have:=h1.2.1.2;omega⟩,a.2.2⟩
 rw[Sb he];trivial
theorem N_{l:List Ba}{d:Int}(h:GZ d l)(n:Nat):GZ d (l.take n):=by rw[<-Sv n l,FW]at h;exact h.1
theorem KE:∀(R:List Ba) (d:Int),0<R.length->∃x∈R,Fs d R=x.f1
 | [x],d,_=>⟨x,RI,rfl⟩
 | x::y::R,d,_=>by
  obtain⟨z,hz,e⟩:=KE (y::R) x.f1 (by simp)
  exact⟨z,RU _ hz,e⟩
def Uq(t:List Ba):Prop:=(t.map (·.f0)).Nodup
theorem Lr{t:List Ba}(h:Uq t){i j:Nat}(hi:i<t.length)(a:j<t.length)(e:t[i].f0=t[j].f0):i=j:=by
 unfold Uq List.Nodup at h;rw[List.pairwise_iff_getElem]at h;rcases Nat.lt_trichotomy i j with g|g|g
 ·exact absurd (by rw[Ty,Ty];exact e) (h i j (by simpa using hi) (by simpa using a) g)
 ·exact g
 exact absurd (by rw[Ty,Ty];exact e.symm) (h j i (by simpa using a) (by simpa using hi) g)
theorem NO{t:List Ba}(h:Uq t){x z:Ba}(b:x∈t)(hz:z∈t)(e:x.f0=z.f0):x=z:=by obtain⟨i,hi,rfl⟩:=SQ b;obtain⟨j,a,rfl⟩:=SQ hz;obtain rfl:i=j:=Lr h hi a e;rfl
theorem M3:∀(l l':List Ba) (d:Int),l'.map (·.f1)=l.map (·.f1)->GZ d l->GZ d l'
 | [],[],_,_,_=>trivial
 | [],y::l',_,e,_=>by simp at e
 | x::l,[],_,e,_=>by simp at e
 | x::l,y::l',d,e,h=>by
  simp only[List.map_cons,List.cons.injEq]at e
  obtain⟨a,b⟩:=e
  refine⟨by rw[a];exact h.1,?_⟩
  rw[a]
  exact M3 l l' x.f1 b h.2
theorem P5{t:List Ba}{k:Nat}(g:k<t.length){s:ByteArray}(hu:Uq t)(b:GZ (-1) t):Uq (t.set k ⟨t[k].f0,t[k].f1,s⟩)∧GZ (-1) (t.set k ⟨t[k].f0,t[k].f1,s⟩):=by
 have c:(t.set k ⟨t[k].f0,t[k].f1,s⟩).map (·.f0)=t.map (·.f0):=by
  rw[List.map_set];apply TY (by simp);intro i h1 a;rw[Tz];split
  ·rename_i e;subst e;simp
  rfl
 have d:(t.set k ⟨t[k].f0,t[k].f1,s⟩).map (·.f1)=t.map (·.f1):=by
  rw[List.map_set];apply TY (by simp);intro i h1 a;rw[Tz];split
  ·rename_i e;subst e;simp
  rfl
 exact⟨by unfold Uq;rw[c];exact hu,M3 _ _ _ d b⟩
theorem NP{t R:List Ba}{p:Nat}(hu:Uq t)(hR:Uq R)(g:∀x∈R,∀y∈t,x.f0≠y.f0):Uq (t.take p++R++t.drop p):=by
 unfold Uq at *
 have i:((t.take p++R++t.drop p).map (·.f0)).Perm ((t.map (·.f0))++R.map (·.f0)):=by
  have:t.map (·.f0)=(t.take p).map (·.f0)++(t.drop p).map (·.f0):=by rw[<-TI,Sv]
  rw[this,TI,TI,Tk,Tk];exact List.Perm.append_left _ List.perm_append_comm
 rw[i.nodup_iff,List.nodup_append];refine⟨hu,hR,λa c b d=>?_⟩;obtain⟨y,k,rfl⟩:=Th.1 c;obtain⟨x,j,rfl⟩:=Th.1 d;exact λe=>g x j y k e.symm
def shift(d:Int)(r:Ba):Ba:=⟨r.f0,wrap64 (r.f1+d),r.f2⟩
theorem Nz(t rows:List Ba)(d:Int)(p:Nat)(c:p≤t.length)(hl:t.length≤1000000)(e:rows.length≤1000000):∀(n i:Nat) (acc:List Ba),i+n=rows.length->acc.length+n≤3000000 ->
  Ev (λk=>Bd.l0 k t rows d p acc i) (acc++(rows.drop i).map (shift d)++t.drop p)
 | 0,i,acc,h,b=>by
  rw[Sb (show rows.length≤i by omega),List.map_nil,Tr]
  refine Ev.step (λk=>by simp only[Bd.l0];rfl) ?_
  refine AF (by omega) (Al (by omega) (Al (by omega) ?_))
  simp only[Option.bind_some]
  refine Al (by rw[R9];omega) ?_
  exact AR _
 | n+1,i,acc,h,b=>by
  have hi:i<rows.length:=by omega
  rw[RZ hi,Ub]
  have a:=Nz t rows d p c hl e n (i+1) (acc++[shift d rows[i]]) (by omega) (by simp;omega)
  rw[Tk acc]at a
  refine Ev.step (λk=>by simp only[Bd.l0];rfl) ?_
  refine Al (by omega) (Al (by omega) (Al (by omega) ?_))
  rw[CX rows i hi,EV i (by omega) (by omega)]
  exact a
def OP(t:List Ba)(y:Ba)(a:Int)(p:Nat):Prop:=∃(j:Nat) (b:j<t.length),y=t[j]∧(p=j+1∨(a>0∧∃(i:Nat) (hi:i<t.length),t[i].f0=a∧p=E3 t i))
theorem O6(t rows:List Ba)(u a:Int)(hl:t.length≤1000000)(w:rows.length≤1000000)(h0:0<rows.length)(hu:∃x∈t,x.f0=u)(r:a>0->∃x∈t,x.f0=a) :
  ∃(y:Ba) (p:Nat),y∈t∧y.f0=u∧p≤t.length∧Ev (λk=>Bd.f k t rows u a) (t.take p++rows.map (shift (wrap64 (wrap64 (y.f1+1)-rows[0].f1)))++t.drop p)∧OP t y a p:=by
 obtain⟨x,z,e⟩:=hu;obtain⟨j,b,g,l⟩:=Lz z e
 have fin:∀(p:Nat),p≤t.length->Ev (λk=>Bd.j0 k t rows (wrap64 (wrap64 (t[j].f1+1)-rows[0].f1)) p) (t.take p++rows.map (shift (wrap64 (wrap64 (t[j].f1+1)-rows[0].f1)))++t.drop p):=λp v=>by
  refine Ev.step (λk=>by simp only[Bd.j0];rfl) ?_
  simp only[Option.bind_some]
  refine Al (by omega) (Al (by omega) ?_)
  refine Al (by simp;omega) ?_
  simp only[List.nil_append,Int.toNat_natCast]
  have:=Nz t rows (wrap64 (wrap64 (t[j].f1+1)-rows[0].f1)) p v hl w rows.length 0 (t.take p) (by omega) (by rw[RV];omega)
  simpa using this
 have n:Ae rows 0=rows[0]:=CX rows 0 h0;by_cases h:a>0
 ·obtain⟨A,c,d⟩:=r h;obtain⟨i,hi,o,q⟩:=Lz c d;obtain⟨_,m,_,_⟩:=EI t i hi;refine⟨t[j],E3 t i,RR b,l,m,?_,j,b,rfl,Or.inr ⟨h,i,hi,q,rfl⟩⟩;unfold Bd.f;refine Ev.bind (F9 t u (by omega)) ?_;rw[g];refine Al (by omega) (Al (by omega) (Al (by omega) (Al h ?_)));refine Ev.bind (F9 t a (by omega)) ?_;rw[o];refine Ev.bind (Jt t i hi (by omega)) ?_;rw[CX t j b,n];exact fin _ m
 refine⟨t[j],j+1,RR b,l,by omega,?_,j,b,rfl,Or.inl rfl⟩;unfold Bd.f;refine Ev.bind (F9 t u (by omega)) ?_;rw[g];refine Al (by omega) (Al (by omega) (Al (by omega) (AF h ?_)));rw[CX t j b,n,EV j (by omega) (by omega)];exact fin (j+1) (by omega)
theorem OG(t:List Ba)(u id:Int)(k:Nat)(a:k<t.length)(hi:G_ t id=(k:Int))(hl:t.length≤1000000) :
  Ev (λn=>Eh.f n t u id) (decide (0≤G_ t u)&&(decide ((k:Int)≤G_ t u)&&decide (G_ t u≤(E3 t k:Int)-1))):=by
 obtain⟨b,c,_,_⟩:=EI t k a;unfold Eh.f;refine Ev.bind (F9 t u (by omega)) ?_;refine Ev.bind (F9 t id (by omega)) ?_;rw[hi];by_cases h:G_ t u≥0
 ·refine Al h (Al (by omega) ?_);refine Ev.bind (Jt t k a (by omega)) ?_;have hw:wrap64 ((E3 t k:Int)-1)=(E3 t k:Int)-1:=by unfold wrap64;omega
  rw[hw,Hl,BM (show 0≤G_ t u from h),RY];simp only[Option.bind_some];exact AR _
 rw[C9 (show¬ 0≤G_ t u from h),Se];exact AF h (AR _)
theorem I_(u:Int)(b:List Int)(j id up at_:Int)(s:ByteArray)(hl:b.length≤1000000):∀(n i:Nat) (a:Int),i+n=b.length->(a>0->a∈b∧a≠id)->∃a':Int,Ev (λk=>A_.l0 k u a b i j id up at_ s) (u,a',true)∧(a'>0->a'∈b∧a'≠id)
 | 0,i,a,h,g=>⟨a,by
   refine Ev.step (λk=>by simp only[A_.l0];rfl) ?_
   exact AF (by omega) (AR _),g⟩
 | n+1,i,a,h,g=>by
  have hi:i<b.length:=by omega
  have d:rd b i=b[i]:=by
   unfold rd
   rw[RS,show((i:Int)).toNat=i from rfl,RD hi]
   rfl
  by_cases c:b[i]=at_∧at_≠id
  ·obtain⟨a',h1,e⟩:=I_ u b j id up at_ s hl n (i+1) at_ (by omega) (λ_=>⟨c.1 ▸ RR hi,c.2⟩)
   refine⟨a',?_,e⟩
   refine Ev.step (λk=>by simp only[A_.l0];rfl) ?_
   rw[d,EV i (by omega) (by omega)]
   exact Al (by omega) (Al (by omega) (Al c.1 (AF c.2 h1)))
  ·obtain⟨a',h1,e⟩:=I_ u b j id up at_ s hl n (i+1) a (by omega) g
   refine⟨a',?_,e⟩
   refine Ev.step (λk=>by simp only[A_.l0];rfl) ?_
   rw[d,EV i (by omega) (by omega)]
   refine Al (by omega) (Al (by omega) ?_)
   by_cases h3:b[i]=at_
   ·refine Al h3 (Al ?_ h1)
    by_cases h4:at_=id
    ·exact h4
    ·exact absurd ⟨h3,h4⟩ c
   ·exact AF h3 h1
structure Inv (t:List Ba) (B:Int):Prop where
 deep:∀x∈t,0≤x.f1∧x.f1≤B
 root:∀x∈t,x.f0=3->x.f1=0
 found:∃x∈t,x.f0=3
 ids:∀x∈t,DT x.f0∧x.f2.size≤2000
def Fits(t:List Ba)(b id:Int)(u a:Int):Prop :=
 b≠2∧(b≠3->G_ t id=-1)∧(b=3->∃k:Nat,k<t.length∧G_ t id=(k:Int)) ∧
 ∃(p:Nat) (c:p<t.length),t[p].f0=u∧(a>0->∃(q:Nat) (d:q<t.length),t[q].f0=a∧t[q].f1=t[p].f1+1∧∀k:Nat,b=3->G_ t id=(k:Int)->¬ (k≤q∧q<E3 t k)) ∧
  ∀k:Nat,b=3->G_ t id=(k:Int)->¬ (k≤p∧p<E3 t k)
theorem OH(t:List Ba)(B b id up at_:Int)(s:ByteArray)(hI:Inv t B)(hB:B≤1099511627776)(hid:id≠3)(hl:t.length≤1000000) :
  ∃(u a:Int) (ok:Bool),Ev (λn=>A_.f n t b id up at_ s) (u,a,ok)∧(ok=true->Fits t b id u a):=by
 have none_:∀f:Nat->Option (Int×Int×Bool),(∀n,f n=A_.j0 n t true b id up at_ s)->Ev f (0,0,false):=λf hf =>
  Ev.congr hf (Ev.step (f:=λ_=>some (0,0,false)) (λn=>by simp only[A_.j0,if_true]) (AR _))
 unfold A_.f;by_cases w:b=2
 ·exact⟨0,0,false,Ev.bind (F9 t id (by omega)) (Al w (none_ _ (λn=>rfl))),λh=>by cases h⟩
 by_cases h3:((decide (G_ t id≥0)) != (b==3))=true
 ·exact⟨0,0,false,Ev.bind (F9 t id (by omega)) (AF w (Al h3 (none_ _ (λn=>rfl)))),λh=>by cases h⟩
 have c:decide (G_ t id≥0)=(b==3):=by simpa using h3
 -- the rest: 'up' is there,or it isn't
 have rest:(∀(p k:Nat),G_ t up=(p:Int)->b=3->G_ t id=(k:Int)->¬ (k≤p∧p<E3 t k))->∃(u a:Int),Ev (λn=>A_.j0 n t false b id up at_ s) (u,a,true)∧Fits t b id u a:=by
  intro v
  have Z:b≠3->G_ t id=-1:=λi=>by
   have:(b==3)=false:=Sx.2 i
   rw[this]at c
   have h4:=of_decide_eq_false c
   rcases Eu t id with⟨g,_⟩|⟨j,L,g,_⟩
   ·exact g
   ·omega
  have c2:b=3->∃k:Nat,k<t.length∧G_ t id=(k:Int):=λi=>by
   have:(b==3)=true:=RO.2 i
   rw[this]at c
   have h4:=Tw c
   rcases Eu t id with⟨g,_⟩|⟨j,L,g,_⟩
   ·omega
   ·exact⟨j,L,g⟩
  rcases Eu t up with⟨g,_⟩|⟨p,r,g,h6⟩
  ·obtain⟨x,hx,A⟩:=hI.found;obtain⟨p,r,rfl⟩:=SQ hx;refine⟨3,0,?_,w,Z,c2,p,r,A,λh=>by omega,λk i o d=>?_⟩
   ·refine Ev.step (λn=>by simp only[A_.j0];rfl) ?_;refine AF (by decide) ?_;refine Ev.bind (F9 t up (by omega)) ?_;exact Al (by omega) (AR _)
   obtain⟨m,l,e⟩:=c2 i;obtain rfl:m=k:=by omega
   rcases S5 d.1 with O|O
   ·subst O;rcases Eu t id with⟨y,_⟩|⟨j,L,y,z⟩
    ·omega
    obtain rfl:j=m:=by omega
    exact hid (z.symm.trans A)
   have:=(EI t m l).2.2.1 p r O d.2;have d1:=(hI.deep _ (RR l)).1;have d2:=hI.root _ hx A;omega
  obtain⟨ks,X,ab,W⟩:=Np t up hl;obtain⟨a,ha,T⟩:=I_ up ks b id up at_ s (by omega) ks.length 0 0 (by omega) (λh=>by omega);refine⟨up,a,?_,w,Z,c2,p,r,h6,λG=>?_,λk i o=>v p k g i o⟩
  ·refine Ev.step (λn=>by simp only[A_.j0];rfl) ?_;refine AF (by decide) ?_;refine Ev.bind (F9 t up (by omega)) ?_;refine AF (by omega) ?_;exact Ev.bind X ha
  obtain⟨E,Y⟩:=T G;obtain⟨D,af,ag,q,hq,ah,ai,I,J⟩:=W a E;obtain rfl:D=p:=by omega
  refine⟨q,hq,I,by rw[J];have dB:=hI.deep _ (RR r);exact AN _ (by omega) (by omega),λk i o d=>?_⟩;obtain⟨m,l,e⟩:=c2 i;obtain rfl:m=k:=by omega
  have out:=v D m g i o
  have ae:m≠q:=by
   rintro rfl;rcases Eu t id with⟨y,_⟩|⟨j,L,y,z⟩
   ·omega
   obtain rfl:j=m:=by omega
   exact Y (I.symm.trans z)
  have dq:=(EI t m l).2.2.1 q hq (by omega) d.2;have dB:=hI.deep _ (RR r);have hw:wrap64 (t[D].f1+1)=t[D].f1+1:=AN _ (by omega) (by omega);rw[hw]at J;rcases SG D m with P|P
  ·have:=(EI t D r).2.2.1 m l P (by omega);omega
  exact out ⟨P,by omega⟩
 by_cases h4:G_ t id≥0
 ·have aa:b=3:=by rw[BM h4]at c;exact RO.1 c.symm
  rcases Eu t id with⟨g,_⟩|⟨k,i,g,h6⟩
  ·omega
  have hu:=OG t up id k i g hl;cases K:(decide (0≤G_ t up)&&(decide ((k:Int)≤G_ t up)&&decide (G_ t up≤(E3 t k:Int)-1)))with
  | true =>
   rw[K]at hu
   exact⟨0,0,false,Ev.bind (F9 t id (by omega)) (AF w (AF h3 (Al h4 (Ev.bind hu (none_ _ (λn=>rfl)))))),λh=>by cases h⟩
  | false =>
   rw[K]at hu
   obtain⟨u,a,y,z⟩:=rest (λp M r _ U d=>by
    obtain rfl:M=k:=by omega
    have:(decide (0≤G_ t up)&&(decide ((M:Int)≤G_ t up)&&decide (G_ t up≤(E3 t M:Int)-1)))=true:=by
     simp only[Bool.and_eq_true,decide_eq_true_eq]
     omega
    rw[this]at K
    cases K)
   exact⟨u,a,true,Ev.bind (F9 t id (by omega)) (AF w (AF h3 (Al h4 (Ev.bind hu y)))),λ_=>z⟩
 obtain⟨u,a,y,z⟩:=rest (λp M r _ U d=>by omega);exact⟨u,a,true,Ev.bind (F9 t id (by omega)) (AF w (AF h3 (AF h4 y))),λ_=>z⟩
theorem Hw{t:List Ba}{k e j:Nat}(a:j<t.length)(h:¬ (k≤j∧j<e))(b:k≤e):t[j]∈t.take k++t.drop e:=by
 rcases SG j k with h1|h1
 ·exact SL _ (TR.2 ⟨j,by omega,rfl⟩)
 exact S8 _ (TP.2 ⟨j-e,by omega,by congr 1;omega⟩)
theorem H0{t:List Ba}{k e:Nat}{x:Ba}(h:x∈t.take k++t.drop e):x∈t:=by
 rcases Sr.1 h with h|h
 ·exact SA h
 exact SF h
theorem Inv.more{t:List Ba}{B C:Int}(h:Inv t B)(b:B≤C):Inv t C:=⟨λx a=>⟨(h.deep x a).1,Int.le_trans (h.deep x a).2 b⟩,h.root,h.found,h.ids⟩
theorem JA{t:List Ba}{y:Ba}{q:Nat}{a:Int}(l:GZ (-1) t)(hu:Uq t)(hl:OP t y a q)(c:a>0->∃x∈t,x.f0=a∧x.f1=y.f1+1) :
  y.f1≤Fs (-1) (t.take q)∧∀h:q<t.length,t[q].f1≤y.f1+1:=by
 obtain⟨p,d,rfl,m⟩:=hl;rcases m with rfl|⟨k,i,hi,b,rfl⟩
 ·refine⟨by rw[Hv t (-1) p d];exact Tl _,λh=>?_⟩;have e:=l;rw[<-Sv (p+1) t,FW,RZ h,Hv t (-1) p d]at e;exact e.2.1.2
 obtain⟨x,n,j,o⟩:=c k;obtain rfl:t[i]=x:=NO hu (RR hi) n (b.trans j.symm);obtain⟨b1,b2,b3,b4⟩:=EI t i hi;obtain⟨z,hz⟩:∃z,E3 t i=z+1:=⟨E3 t i-1,by omega⟩
 refine⟨?_,λh=>by have:=b4 h;omega⟩;rw[hz,Hv t (-1) z (by omega)];rcases S5 (show i≤z by omega)with g|g
 ·subst g;omega
 have:=b3 z (by omega) g (by omega);omega
theorem QB(t:List Ba)(B Y id up at_:Int)(s:ByteArray)(hI:Inv t B)(ay:0≤B)(hB:B≤1099511627776)(hk:Y=1∨Y=2∨Y=3)(hid:id≠3)(ab:DT id)(hl:t.length≤100000)(hs:s.size≤2000) :
  ∃t':List Ba,Ev (λn=>BC.f n t Y id up at_ s) t'∧Inv t' (2*B+1)∧(t'.length≤t.length+1∧t.length≤t'.length)∧(Uq t->GZ (-1) t->Uq t'∧GZ (-1) t'):=by
 have same:∀y:List Ba,y=t->Inv y (2*B+1)∧(y.length≤t.length+1∧t.length≤y.length)∧(Uq t->GZ (-1) t->Uq y∧GZ (-1) y):=λy G=>by
  subst G
  exact⟨hI.more (by omega),by omega,λh1 K=>⟨h1,K⟩⟩
 unfold BC.f;by_cases K:Y=2
 ·rcases Eu t id with⟨W,_⟩|⟨k,v,W,h6⟩
  ·refine⟨[]++t,Ev.bind (F9 t id (by omega)) (Al K ?_),same _ (by simp)⟩;simp only[Option.bind_some];refine Al (by simp;omega) ?_;rw[W];exact AF (by omega) (AR _)
  refine⟨t.set k ⟨t[k].f0,t[k].f1,s⟩,Ev.bind (F9 t id (by omega)) (Al K ?_),?_,by rw[Si];omega,P5 v⟩
  ·simp only[Option.bind_some];refine Al (by simp;omega) ?_;rw[W];simp only[List.nil_append,Int.toNat_natCast,CX t k v];exact Al (by omega) (Al (by omega) (Al (by omega) (AR _)))
  have hm:∀x∈t.set k ⟨t[k].f0,t[k].f1,s⟩,∃y∈t,x.f0=y.f0∧x.f1=y.f1∧(x.f2=s∨x.f2=y.f2):=λx b=>by
   obtain⟨i,hi,rfl⟩:=SQ b
   rw[Si]at hi
   rw[Tz]
   split
   ·exact⟨t[k],RR v,rfl,rfl,Or.inl rfl⟩
   ·exact⟨t[i],RR hi,rfl,rfl,Or.inr rfl⟩
  refine⟨λx b=>?_,λx b h3=>?_,?_,λx b=>?_⟩
  ·obtain⟨y,G,_,e,_⟩:=hm x b;have:=hI.deep y G;rw[e];omega
  ·obtain⟨y,G,e0,e,_⟩:=hm x b;rw[e];exact hI.root y G (e0 ▸ h3)
  ·obtain⟨x,b,h3⟩:=hI.found;obtain⟨i,hi,rfl⟩:=SQ b;refine⟨(t.set k ⟨t[k].f0,t[k].f1,s⟩)[i]'(by rw[Si];exact hi),RR _,?_⟩;rw[Tz];split
   ·rename_i e;subst e;exact h3
   exact h3
  obtain⟨y,G,e0,_,Z⟩:=hm x b;rw[e0];refine⟨(hI.ids y G).1,?_⟩;rcases Z with Z|Z <;> rw[Z]
  ·exact hs
  exact(hI.ids y G).2
 obtain⟨u,a,ok,hw,ak⟩:=OH t B Y id up at_ s hI hB hid (by omega);cases ok with
 | false =>
  refine⟨[]++t,Ev.bind (F9 t id (by omega)) (AF K (Ev.bind hw (AF (by simp) ?_))),same _ (by simp)⟩
  simp only[Option.bind_some]
  exact Al (by simp;omega) (AR _)
 | true =>
  obtain⟨_,c1,c2,p,hp,P,O,av⟩:=ak rfl
  by_cases h1:Y=1
  ·obtain⟨y,q,G,ah,hq,aa,A⟩:=O6 t [⟨id,0,s⟩] u a (by omega) (by simp) (by simp) ⟨t[p],RR hp,P⟩ (λh=>by
    obtain⟨q,hq,e,_,_⟩:=O h
    exact⟨t[q],RR hq,e⟩)
   refine⟨_,Ev.bind (F9 t id (by omega)) (AF K (Ev.bind hw (Al rfl (Al h1 (Ev.bind aa (AR _)))))),?_,by simp;omega,?_⟩
   rotate_left
   ·intro hu hc
    have dy:=hI.deep y G
    have E:wrap64 (wrap64 (y.f1+1)-0)=y.f1+1:=by rw[AN (y.f1+1) (by omega) (by omega),AN _ (by omega) (by omega)];omega
    have hR:([(⟨id,0,s⟩:Ba)].map (shift (wrap64 (wrap64 (y.f1+1)-([(⟨id,0,s⟩:Ba)])[0].f1))))=[⟨id,y.f1+1,s⟩]:=by
     show[(⟨id,wrap64 (0+wrap64 (wrap64 (y.f1+1)-0)),s⟩:Ba)]=_
     rw[E,AN _ (by omega) (by omega),Int.zero_add]
    have au:∀x∈t,x.f0≠id:=by
     rcases Eu t id with⟨_,h⟩|⟨j2,_,h,_⟩
     ·exact h
     ·have:=c1 (by omega);omega
    rw[hR]
    refine⟨NP hu (by simp[Uq]) (λx b z hz e=>au z hz (by rw[<-e];simp at b;rw[b])),?_⟩
    have hyp:y=t[p]:=NO hu G (RR hp) (ah.trans P.symm)
    obtain⟨g1,g2⟩:=JA hc hu A (λh=>by obtain⟨q2,ae,e1,Z,_⟩:=O h;exact⟨t[q2],RR ae,e1,by rw[hyp];exact Z⟩)
    exact M4 hc (m:=y.f1) ⟨⟨by simp only;omega,by simp only;omega⟩,trivial⟩ g1 (by simp[Fs]) (by simp) g2
   have dy:=hI.deep y G
   have E:wrap64 (wrap64 (y.f1+1)-0)=y.f1+1:=by rw[AN (y.f1+1) (by omega) (by omega),AN _ (by omega) (by omega)];omega
   have w:∀x∈t.take q++[(⟨id,0,s⟩:Ba)].map (shift (wrap64 (wrap64 (y.f1+1)-([(⟨id,0,s⟩:Ba)])[0].f1)))++t.drop q,x∈t∨(x.f0=id∧x.f1=y.f1+1∧x.f2=s):=λx b=>by
    rcases Sr.1 b with b|b
    ·rcases Sr.1 b with b|b
     ·exact Or.inl (SA b)
     ·right
      simp only[List.map_cons,List.map_nil,List.mem_singleton]at b
      subst b
      refine⟨rfl,?_,rfl⟩
      show wrap64 (0+wrap64 (wrap64 (y.f1+1)-0))=y.f1+1
      rw[E,AN _ (by omega) (by omega)]
      omega
    ·exact Or.inl (SF b)
   refine⟨λx b=>?_,λx b h3=>?_,?_,λx b=>?_⟩
   ·rcases w x b with h|⟨_,h,_⟩
    ·have:=hI.deep x h
     omega
    ·rw[h];omega
   ·rcases w x b with h|⟨h,_⟩
    ·exact hI.root x h h3
    ·exact absurd (h.symm.trans h3) hid
   ·obtain⟨x,b,h3⟩:=hI.found
    rw[<-Sv q t]at b
    rcases Sr.1 b with b|b
    ·exact⟨x,SL _ (SL _ b),h3⟩
    ·exact⟨x,S8 _ b,h3⟩
   ·rcases w x b with h|⟨h,_,K⟩
    ·exact hI.ids x h
    ·rw[h,K];exact⟨ab,hs⟩
  ·have L:Y=3:=by
    rcases hk with h|h|h
    ·exact absurd h h1
    ·exact absurd h K
    ·exact h
   obtain⟨k,v,W⟩:=c2 L
   obtain⟨e1,Z,e3,e4⟩:=EI t k v
   have X:t[k].f0=id:=by
    rcases Eu t id with⟨h7,_⟩|⟨j,D,h7,h8⟩
    ·omega
    ·obtain rfl:j=k:=by omega
     exact h8
   have al:=av k L W
   obtain⟨rest,c⟩:∃r,r=t.take k++t.drop (E3 t k):=⟨_,rfl⟩
   obtain⟨rows,o⟩:∃r,r=(t.take (E3 t k)).drop k:=⟨_,rfl⟩
   have az:rows.length=E3 t k-k:=by rw[o,R9,RV];omega
   have aA:rest.length=k+(t.length-E3 t k):=by rw[c,Sc,RV,R9];omega
   have an:rows[0]'(by omega)=t[k]:=by
    simp only[o,List.getElem_drop,List.getElem_take]
    rfl
   have af:∀x∈rows,∃(j:Nat) (D:j<t.length),k≤j∧j<E3 t k∧x=t[j]:=λx b=>by
    rw[o]at b
    obtain⟨i,hi,rfl⟩:=SQ b
    rw[R9,RV]at hi
    refine⟨k+i,by omega,by omega,by omega,?_⟩
    rw[TS,List.getElem_take]
   obtain⟨y,q,G,ah,hq,aa,A⟩:=O6 rest rows u a (by omega) (by omega) (by omega) ⟨t[p],by rw[c];exact Hw hp al (by omega),P⟩ (λh=>by
    obtain⟨q,hq,e,_,ho⟩:=O h
    exact⟨t[q],by rw[c];exact Hw hq (ho k L W) (by omega),e⟩)
   refine⟨rest.take q++rows.map (shift (wrap64 (wrap64 (y.f1+1)-(rows[0]'(by omega)).f1)))++rest.drop q,Ev.bind (F9 t id (by omega)) (AF K (Ev.bind hw (Al rfl (AF h1 ?_)))),?_,?_,?_⟩
   rotate_left
   ·have U:y∈t:=H0 (c ▸ G)
    have dy:=hI.deep y U
    have dk:=hI.deep _ (RR v)
    have E:wrap64 (wrap64 (y.f1+1)-(rows[0]'(by omega)).f1)=y.f1+1-t[k].f1:=by rw[an,AN (y.f1+1) (by omega) (by omega),AN _ (by omega) (by omega)]
    rw[E]
    have w:∀x∈rest.take q++rows.map (shift (y.f1+1-t[k].f1))++rest.drop q,x∈t∨(x.f0≠3∧(0≤x.f1∧x.f1≤2*B+1)∧DT x.f0∧x.f2.size≤2000):=λx b=>by
     rcases Sr.1 b with b|b
     ·rcases Sr.1 b with b|b
      ·exact Or.inl (H0 (c ▸ SA b))
      ·right
       obtain⟨z,hz,rfl⟩:=Th.1 b
       obtain⟨j,D,J,I,rfl⟩:=af z hz
       have dj:=hI.deep _ (RR D)
       have M:t[k].f1≤t[j].f1:=by
        rcases S5 J with e|e
        ·subst e;exact Tl _
        ·exact Int.le_of_lt (e3 j D e I)
       have hf:(shift (y.f1+1-t[k].f1) t[j]).f1=t[j].f1+(y.f1+1-t[k].f1):=AN _ (by omega) (by omega)
       refine⟨?_,⟨by rw[hf];omega,by rw[hf];omega⟩,hI.ids t[j] (RR D)⟩
       show t[j].f0≠3
       intro h3
       rcases S5 J with e|e
       ·subst e;exact hid (X.symm.trans h3)
       ·have:=e3 j D e I
        have:=hI.root _ (RR D) h3
        omega
     ·exact Or.inl (H0 (c ▸ SF b))
    refine⟨λx b=>?_,λx b h3=>?_,?_,λx b=>?_⟩
    ·rcases w x b with h|⟨_,h,_⟩
     ·have:=hI.deep x h
      omega
     ·exact h
    ·rcases w x b with h|⟨h,_⟩
     ·exact hI.root x h h3
     ·exact absurd h3 h
    ·obtain⟨x,b,h3⟩:=hI.found
     obtain⟨j,D,rfl⟩:=SQ b
     have ar:¬ (k≤j∧j<E3 t k):=by
      rintro⟨g1,g2⟩
      rcases S5 g1 with e|e
      ·subst e;exact hid (X.symm.trans h3)
      ·have:=e3 j D e g2
       have:=hI.root _ (RR D) h3
       omega
     have aq:t[j]∈rest:=by rw[c];exact Hw D ar (by omega)
     rw[<-Sv q rest]at aq
     rcases Sr.1 aq with b|b
     ·exact⟨_,SL _ (SL _ b),h3⟩
     ·exact⟨_,S8 _ b,h3⟩
    ·rcases w x b with h|⟨_,_,h⟩
     ·exact hI.ids x h
     ·exact h
   ·rw[Sc,Sc,SR,RV,R9]
    omega
   ·intro hu hc
    have U:y∈t:=H0 (c ▸ G)
    have dy:=hI.deep y U
    have dk:=hI.deep _ (RR v)
    have E:wrap64 (wrap64 (y.f1+1)-(rows[0]'(by omega)).f1)=y.f1+1-t[k].f1:=by rw[an,AN (y.f1+1) (by omega) (by omega),AN _ (by omega) (by omega)]
    rw[E]
    have M:∀x∈rows,t[k].f1≤x.f1∧(shift (y.f1+1-t[k].f1) x).f1=x.f1+(y.f1+1-t[k].f1):=λx b=>by
     obtain⟨j,D,J,I,rfl⟩:=af x b
     have dj:=hI.deep _ (RR D)
     have g:t[k].f1≤t[j].f1:=by
      rcases S5 J with e|e
      ·subst e;exact Tl _
      ·exact Int.le_of_lt (e3 j D e I)
     exact⟨g,AN _ (by omega) (by omega)⟩
    have ai:GZ (-1) rest:=by rw[c];exact PF hc v (by omega) e4
    have sub:rest.Sublist t:=by
     rw[c]
     have q1:=List.drop_sublist (E3 t k-k) (t.drop k)
     rw[List.drop_drop,TK (by omega)]at q1
     have q2:=List.Sublist.append (List.Sublist.refl (t.take k)) q1
     rwa[Sv]at q2
    have ao:Uq rest:=List.Pairwise.sublist (sub.map _) hu
    have ag:Uq (rows.map (shift (y.f1+1-t[k].f1))):=by
     unfold Uq
     rw[List.map_map]
     have:rows.Sublist t:=by rw[o];exact(List.drop_sublist _ _).trans (List.take_sublist _ _)
     exact List.Pairwise.sublist (this.map _) hu
    have aj:∀x∈rows.map (shift (y.f1+1-t[k].f1)),∀z∈rest,x.f0≠z.f0:=λx b z hz e=>by
     obtain⟨x0,T,rfl⟩:=Th.1 b
     obtain⟨j,D,J,I,rfl⟩:=af x0 T
     rw[c]at hz
     rcases Sr.1 hz with hz|hz
     ·obtain⟨i,hi,rfl⟩:=TR.1 hz
      have:=Lr hu D (by omega) (show t[j].f0=t[i].f0 from e)
      omega
     ·obtain⟨i,hi,rfl⟩:=TP.1 hz
      have:=Lr hu D (by omega) (show t[j].f0=t[E3 t k+i].f0 from e)
      omega
    refine⟨NP ao ag aj,?_⟩
    have hyp:y=t[p]:=NO hu U (RR hp) (ah.trans P.symm)
    obtain⟨g1,g2⟩:=JA ai ao A (λh=>by
     obtain⟨q2,ae,f1,f2,ho⟩:=O h
     exact⟨t[q2],by rw[c];exact Hw ae (ho k L W) (by omega),f1,by rw[hyp];exact f2⟩)
    have aw:GZ (t[k].f1-1) rows:=by
     have e:=hc
     rw[<-Sv k t,FW,RZ v]at e
     rw[o,List.drop_take,RZ v]
     refine N_ (l:=t[k]::t.drop (k+1)) ⟨⟨dk.1,by omega⟩,e.2.2⟩ _
    have ax:∀(R:List Ba) (d:Int),GZ d R->(∀x∈R,t[k].f1≤x.f1∧(shift (y.f1+1-t[k].f1) x).f1=x.f1+(y.f1+1-t[k].f1))->GZ (d+(y.f1+1-t[k].f1)) (R.map (shift (y.f1+1-t[k].f1))):=by
     intro R
     induction R with
     | nil=>intro d _ _;trivial
     | cons x R ih =>
      intro d h hh
      have b:=hh x RI
      refine⟨⟨by rw[b.2];omega,by rw[b.2];have:=h.1.2;omega⟩,?_⟩
      rw[b.2]
      exact ih x.f1 h.2 (λz hz=>hh z (RU _ hz))
    have hR:=ax rows _ aw M
    rw[show t[k].f1-1+(y.f1+1-t[k].f1)=y.f1 by omega]at hR
    refine M4 ai hR g1 ?_ (by rw[SR];omega) g2
    obtain⟨x,b,e⟩:=KE (rows.map (shift (y.f1+1-t[k].f1))) y.f1 (by rw[SR];omega)
    obtain⟨x0,T,rfl⟩:=Th.1 b
    rw[e,(M x0 T).2]
    have:=(M x0 T).1
    omega
   ·rw[W]
    refine Ev.bind (Jt t k v (by omega)) ?_
    simp only[Option.bind_some,Int.toNat_natCast]
    refine Al (by omega) (Al (by omega) (Al (by omega) ?_))
    refine Al (by rw[R9,RV];simp;omega) ?_
    refine Al (by omega) ?_
    refine Al (by rw[RV];simp;omega) ?_
    refine Al (by omega) ?_
    refine Al (by rw[Sc,RV,R9];simp;omega) ?_
    simp only[List.nil_append]
    rw[<-c,<-o]
    exact Ev.bind aa (AR _)
theorem QM(b:List Int)(p:Int)(m:Nat)(l:List ByteArray)(c:Bytes b)(d:Rd p (m+1))(h1:1≤l.length)(g:l.length≤1000):∃(s:ByteArray),Ev (λk=>De.f k b p l) (s,p+1)∧s∈l:=by
 obtain⟨r,e,_,h0,a,_⟩:=Dn b p (l.length:Int) m c d;have a:=a (by omega);have hi:r.toNat<l.length:=by omega
 refine⟨l[r.toNat],?_,RR hi⟩;unfold De.f;refine Ev.bind e ?_;refine Al h0 (Al a ?_);have:KI ByteArray.empty l r=l[r.toNat]:=by unfold KI;rw[RS,RD hi];rfl
 rw[this];exact AR _
theorem JH(b:List Int)(c:Bytes b):∀(n:Nat) (s:ByteArray) (p:Int) (m:Nat),s.size+n≤1000->Rd p (m+n+2)->∃(e:ByteArray) (d:Int),Ev (λk=>BK.l0 k s n b p) (e,d)∧Rd d m∧e.size≤1010
 | 0,s,p,m,hs,a=>by
  obtain⟨r,g,hR,_,_,_⟩:=Dn b p 40 (m+1) c a
  by_cases h0:r=0
  ·obtain⟨u,hu,hm⟩:=QM b (p+1) m [(⟨#[101]⟩:ByteArray),(⟨#[32]⟩:ByteArray),(⟨#[97,97,97,97]⟩:ByteArray),(⟨#[39]⟩:ByteArray)] c hR (by simp) (by simp)
   have hz:u.size≤4:=by
    simp only[List.mem_cons,List.not_mem_nil,or_false]at hm
    rcases hm with rfl|rfl|rfl|rfl <;> decide
   refine⟨s++u,p+1+1,?_,⟨by have:=hR.1;omega,by have:=hR.2;omega⟩,by rw[ByteArray.size_append];omega⟩
   refine Ev.step (λk=>by simp only[BK.l0];rfl) ?_
   refine AF (by omega) (Ev.bind g (Al h0 (Ev.bind hu (Al (show s.size+u.size≤9223372036854775807 by omega) (AR _)))))
  ·refine⟨s,p+1,?_,hR.less (by omega),by omega⟩
   refine Ev.step (λk=>by simp only[BK.l0];rfl) ?_
   exact AF (by omega) (Ev.bind g (AF h0 (AR _)))
 | n+1,s,p,m,hs,a=>by
  obtain⟨u,hu,hm⟩:=QM b p (m+n+2) [(⟨#[97]⟩:ByteArray),(⟨#[98]⟩:ByteArray),(⟨#[99]⟩:ByteArray),(⟨#[100]⟩:ByteArray)] c (a.less (by omega)) (by simp) (by simp)
  have hz:u.size=1:=by
   simp only[List.mem_cons,List.not_mem_nil,or_false]at hm
   rcases hm with rfl|rfl|rfl|rfl <;> decide
  obtain⟨e,d,h1,i,h3⟩:=JH b c n (s++u) (p+1) m (by rw[ByteArray.size_append];omega) ⟨by have:=a.1;omega,by have:=a.2;omega⟩
  refine⟨e,d,?_,i,h3⟩
  refine Ev.step (λk=>by simp only[BK.l0];rfl) ?_
  refine Al (by omega) (Ev.bind hu (Al (show s.size+u.size≤9223372036854775807 by omega) ?_))
  have hw:wrap64 (((n+1:Nat):Int)-1)=n:=by rw[AN _ (by omega) (by have:=hs;omega)];omega
  rw[hw]
  exact h1
theorem LL(b:List Int)(p:Int)(m:Nat)(d:Bytes b)(g:Rd p (m+6)):∃(s:ByteArray) (c:Int),Ev (λk=>BK.f k b p) (s,c)∧Rd c m∧s.size≤1010:=by
 obtain⟨r,i,hR,h0,a,_⟩:=Dn b p 4 (m+5) d g;have a:=a (by omega);obtain⟨n,rfl⟩:∃n:Nat,r=n:=⟨r.toNat,by omega⟩
 obtain⟨j,c,h1,e,h3⟩:=JH b d n ⟨#[]⟩ (p+1) m (by show 0+n≤1000;omega) (hR.less (by omega));refine⟨j,c,?_,e,h3⟩;unfold BK.f;exact Ev.bind i h1
theorem Kx(b:List Int)(p:Int)(m:Nat)(c:Bytes b)(j:Rd p (m+2)):∃r d:Int,Ev (λk=>CH.f k b p) (r,d)∧Rd d m∧11≤r∧r≤44:=by
 obtain⟨x,l,hR,o,g,_⟩:=Dn b p 3 (m+1) c j;obtain⟨y,n,a,q,i,_⟩:=Dn b (p+1) 4 m c hR;have g:=g (by omega);have i:=i (by omega);have e:wrap64 (wrap64 (wrap64 (10*wrap64 (1+x))+1)+y)=10*(1+x)+1+y:=by rw[AN (1+x) (by omega) (by omega),AN (10*(1+x)) (by omega) (by omega),AN (10*(1+x)+1) (by omega) (by omega),AN _ (by omega) (by omega)]
 refine⟨10*(1+x)+1+y,p+1+1,?_,a,by omega,by omega⟩;unfold CH.f;refine Ev.bind l (Ev.bind n ?_);rw[e];exact AR _
theorem JD(w n:Int):∃r:Int,C5.f w n=some r∧(r=0∨11≤r∧r≤36):=by
 unfold C5.f;simp only[Hl,Option.bind_some];cases h1:(decide (1≤w)&&decide (w≤3))with
 | false=>exact⟨0,by simp,Or.inl rfl⟩
 | true =>
  cases a:(decide (1≤n)&&decide (n≤6))with
  | false=>exact⟨0,by simp,Or.inl rfl⟩
  | true =>
   simp only[Bool.and_eq_true,decide_eq_true_eq]at h1 a
   refine⟨10*w+n,?_,Or.inr ⟨by omega,by omega⟩⟩
   simp only[if_true]
   rw[AN (10*w) (by omega) (by omega),AN _ (by omega) (by omega)]
def P9(k i u a:Int)(s:ByteArray):Prop:=(k=1∨k=2∨k=3)∧i≠3∧DT i∧DT u∧DT a∧s.size≤2000
theorem Bm{x:Int}(h0:-1000≤x)(h1:x≤1000):DT x:=⟨by omega,by omega⟩
theorem J7{i:Int}(h:DP i=true):i≠3:=by rintro rfl;exact absurd h (by decide)
theorem Nu(b:List Int)(g:Bytes b)(w md id up at_:Int)(s:ByteArray)(f:Bool)(p:Int)(m:Nat)(hi:DT id)(hu:DT up)(e:DT at_)(hs:s.size≤2000)(j:Rd p (m+3)) :
  ∃(k i u a:Int) (t:ByteArray) (q:Int),Ev (λn=>Aw.j4 n w md id up at_ s f b p) (k,i,u,a,t,q)∧P9 k i u a t∧Rd q m:=by
 cases f with
 | true =>
  obtain⟨r,c,v⟩:=JD w (wrap64 (md+1))
  refine⟨1,r,up,at_,s,p,?_,⟨Or.inl rfl,by omega,Bm (by omega) (by omega),hu,e,hs⟩,j.less (by omega)⟩
  refine Ev.step (λn=>by simp only[Aw.j4];rfl) ?_
  refine Al (by simp) ?_
  rw[c]
  simp only[Option.bind_some]
  exact AR _
 | false =>
  cases hm:DP id with
  | true =>
   obtain⟨r,c,hR,_,_,_⟩:=Dn b p 3 (m+2) g j
   by_cases h0:r=0
   ·refine⟨2,id,0,0,s,p+1,?_,⟨Or.inr (Or.inl rfl),J7 hm,hi,Bm (by omega) (by omega),Bm (by omega) (by omega),hs⟩,hR.less (by omega)⟩
    refine Ev.step (λn=>by simp only[Aw.j4];rfl) ?_
    refine AF (by decide) ?_
    rw[Gb id hi,hm]
    simp only[Option.bind_some]
    exact Al (by simp) (Ev.bind c (Al h0 (AR _)))
   ·refine⟨3,id,up,at_,⟨#[]⟩,p+1,?_,⟨Or.inr (Or.inr rfl),J7 hm,hi,hu,e,by decide⟩,hR.less (by omega)⟩
    refine Ev.step (λn=>by simp only[Aw.j4];rfl) ?_
    refine AF (by decide) ?_
    rw[Gb id hi,hm]
    simp only[Option.bind_some]
    exact Al (by simp) (Ev.bind c (AF h0 (AR _)))
  | false =>
   obtain⟨x,l,o,d,y,z⟩:=Kx b p (m+1) g j
   obtain⟨r,c,hR,_,_,_⟩:=Dn b l 3 m g d
   by_cases h0:r=0
   ·refine⟨2,x,0,0,s,l+1,?_,⟨Or.inr (Or.inl rfl),by omega,Bm (by omega) (by omega),Bm (by omega) (by omega),Bm (by omega) (by omega),hs⟩,hR⟩
    refine Ev.step (λn=>by simp only[Aw.j4];rfl) ?_
    refine AF (by decide) ?_
    rw[Gb id hi,hm]
    simp only[Option.bind_some]
    exact AF (by decide) (Ev.bind o (Ev.bind c (Al h0 (AR _))))
   ·refine⟨3,x,up,at_,⟨#[]⟩,l+1,?_,⟨Or.inr (Or.inr rfl),by omega,Bm (by omega) (by omega),hu,e,by decide⟩,hR⟩
    refine Ev.step (λn=>by simp only[Aw.j4];rfl) ?_
    refine AF (by decide) ?_
    rw[Gb id hi,hm]
    simp only[Option.bind_some]
    exact AF (by decide) (Ev.bind o (Ev.bind c (AF h0 (AR _))))
theorem O5(b:List Int)(g:Bytes b)(w md id up at_:Int)(s:ByteArray)(p:Int)(m:Nat)(hi:DT id)(hu:DT up)(l:DT at_)(hs:s.size≤2000)(o:Rd p (m+4)) :
  ∃(k i u a:Int) (d:ByteArray) (c:Int),Ev (λn=>Aw.j3 n w md id up at_ s b p) (k,i,u,a,d,c)∧P9 k i u a d∧Rd c m:=by
 by_cases j:md<6
 ·obtain⟨r,q,hR,_,_,_⟩:=Dn b p 3 (m+3) g o;by_cases h0:r=0
  ·obtain⟨k,i,u,a,d,c,h1,e,h3⟩:=Nu b g w md id up at_ s true (p+1) m hi hu l hs hR;refine⟨k,i,u,a,d,c,?_,e,h3⟩;refine Ev.step (λn=>by simp only[Aw.j3];rfl) ?_;exact Al j (Ev.bind q (Al h0 h1))
  obtain⟨k,i,u,a,d,c,h1,e,h3⟩:=Nu b g w md id up at_ s (!(DP id)) (p+1) m hi hu l hs hR;refine⟨k,i,u,a,d,c,?_,e,h3⟩;refine Ev.step (λn=>by simp only[Aw.j3];rfl) ?_;rw[Gb id hi];simp only[Option.bind_some];exact Al j (Ev.bind q (AF h0 h1))
 obtain⟨k,i,u,a,d,c,h1,e,h3⟩:=Nu b g w md id up at_ s false p m hi hu l hs (o.less (by omega));refine⟨k,i,u,a,d,c,?_,e,h3⟩;refine Ev.step (λn=>by simp only[Aw.j3];rfl) ?_;exact AF j h1
theorem O2(b:List Int)(e:Bytes b)(w md id up at_:Int)(s:ByteArray)(p:Int)(m:Nat)(hi:DT id)(hu:DT up)(l:DT at_)(hs:s.size≤2000)(q:Rd p (m+7)) :
  ∃(k i u a:Int) (d:ByteArray) (c:Int),Ev (λn=>Aw.j2 n w md id up at_ s b p) (k,i,u,a,d,c)∧P9 k i u a d∧Rd c m:=by
 obtain⟨r,o,hR,_,_,_⟩:=Dn b p 6 (m+6) e q;by_cases h0:r=0
 ·obtain⟨x,v,t,j,y,z⟩:=Kx b (p+1) (m+4) e hR;obtain⟨k,i,u,a,d,c,h1,g,h3⟩:=O5 b e w md id x at_ s v m hi (Bm (by omega) (by omega)) l hs j;refine⟨k,i,u,a,d,c,?_,g,h3⟩;refine Ev.step (λn=>by simp only[Aw.j2];rfl) ?_;exact Ev.bind o (Al h0 (Ev.bind t h1))
 obtain⟨k,i,u,a,d,c,h1,g,h3⟩:=O5 b e w md id up at_ s (p+1) m hi hu l hs (hR.less (by omega));refine⟨k,i,u,a,d,c,?_,g,h3⟩;refine Ev.step (λn=>by simp only[Aw.j2];rfl) ?_;exact Ev.bind o (AF h0 h1)
theorem O1(b:List Int)(l:Bytes b)(w md id up at_:Int)(p:Int)(m:Nat)(hi:DT id)(hu:DT up)(o:DT at_)(t:Rd p (m+13)) :
  ∃(k i u a:Int) (d:ByteArray) (c:Int),Ev (λn=>Aw.j1 n w md id up at_ b p) (k,i,u,a,d,c)∧P9 k i u a d∧Rd c m:=by
 obtain⟨s,r,q,e,hs⟩:=LL b p (m+7) l t;have g:=Lo s (by omega);cases hB:Fy s with
 | true =>
  rw[hB]at g
  obtain⟨k,i,u,a,d,c,h1,j,h3⟩:=O2 b l w md id up at_ s r m hi hu o (by omega) e
  refine⟨k,i,u,a,d,c,?_,j,h3⟩
  refine Ev.step (λn=>by simp only[Aw.j1];rfl) ?_
  exact Ev.bind q (Ev.bind g (Al rfl h1))
 | false =>
  rw[hB]at g
  obtain⟨k,i,u,a,d,c,h1,j,h3⟩:=O2 b l w md id up at_ ⟨#[97]⟩ r m hi hu o (by decide) e
  refine⟨k,i,u,a,d,c,?_,j,h3⟩
  refine Ev.step (λn=>by simp only[Aw.j1];rfl) ?_
  exact Ev.bind q (Ev.bind g (AF (by decide) h1))
theorem O0(b:List Int)(l:Bytes b)(w md id up at_:Int)(c:List Int)(f:Bool)(p:Int)(m:Nat)(hi:DT id)(hu:DT up)(y:DT at_)(z:∀x∈c,DT x)(o:f=true->0<c.length)(v:Rd p (m+14)) :
  ∃(k i u a:Int) (e:ByteArray) (d:Int),Ev (λn=>Aw.j0 n w md id up c at_ f b p) (k,i,u,a,e,d)∧P9 k i u a e∧Rd d m:=by
 cases f with
 | true =>
  have h0:=o rfl
  obtain⟨r,A,hR,B,t,_⟩:=Dn b p (c.length:Int) (m+13) l v
  have t:=t (by omega)
  have g:r.toNat<c.length:=by omega
  have q:rd c r=c[r.toNat]:=by
   unfold rd
   rw[RS,RD g]
   rfl
  obtain⟨k,i,u,a,e,d,h1,j,h3⟩:=O1 b l w md id up (c[r.toNat]) (p+1) m hi hu (z _ (RR g)) hR
  refine⟨k,i,u,a,e,d,?_,j,h3⟩
  refine Ev.step (λn=>by simp only[Aw.j0];rfl) ?_
  refine Al (by simp) (Ev.bind A (Al B (Al t ?_)))
  rw[q]
  exact h1
 | false =>
  obtain⟨k,i,u,a,e,d,h1,j,h3⟩:=O1 b l w md id up at_ p m hi hu y (v.less (by omega))
  refine⟨k,i,u,a,e,d,?_,j,h3⟩
  refine Ev.step (λn=>by simp only[Aw.j0];rfl) ?_
  exact AF (by decide) h1
theorem Lf(b:List Int)(y:Bytes b)(t:List Ba)(B w md p:Int)(m:Nat)(hI:Inv t B)(hl:t.length≤1000000)(hp:Rd p (m+17)) :
  ∃(k i u a:Int) (v:ByteArray) (l:Int),Ev (λn=>Aw.f n b p t w md) (k,i,u,a,v,l)∧P9 k i u a v∧Rd l m:=by
 obtain⟨x,L,_⟩:=hI.found;have h0:0<t.length:=List.length_pos_of_mem L;obtain⟨r,T,hR,Y,I,_⟩:=Dn b p (t.length:Int) (m+16) y hp;have I:=I (by omega);obtain⟨q,P,O,X,G,_⟩:=Dn b (p+1) (t.length:Int) (m+15) y hR;have G:=G (by omega);obtain⟨D,rfl⟩:∃n:Nat,r=n:=⟨r.toNat,by omega⟩
 obtain⟨o,rfl⟩:∃n:Nat,q=n:=⟨q.toNat,by omega⟩
 have g:D<t.length:=by omega
 have d:o<t.length:=by omega
 have W:=(hI.ids _ (RR g)).1;have U:=(hI.ids _ (RR d)).1;obtain⟨E,A,aa,K⟩:=Np t t[o].f0 hl
 have c:∀x∈E,DT x:=λx L=>by
  obtain⟨_,_,_,j,hj,_,_,e,_⟩:=K x L
  rw[<-e]
  exact(hI.ids _ (RR hj)).1
 by_cases hz:(E.length:Int)>0
 ·obtain⟨z,M,Z,_,_,_⟩:=Dn b (p+1+1) 2 (m+14) y O;obtain⟨k,i,u,a,v,l,h1,J,h3⟩:=O0 b y w md t[D].f0 t[o].f0 0 E (z==0) (p+1+1+1) m W U (Bm (by omega) (by omega)) c (λ_=>by omega) Z;refine⟨k,i,u,a,v,l,?_,J,h3⟩;unfold Aw.f;refine Ev.bind T (Al Y (Al I (Ev.bind P (Al X (Al G ?_)))));simp only[CX t D g,CX t o d];exact Ev.bind A (Al hz (Ev.bind M h1))
 obtain⟨k,i,u,a,v,l,h1,J,h3⟩:=O0 b y w md t[D].f0 t[o].f0 0 E false (p+1+1) m W U (Bm (by omega) (by omega)) c (λh=>by cases h) (O.less (by omega));refine⟨k,i,u,a,v,l,?_,J,h3⟩;unfold Aw.f;refine Ev.bind T (Al Y (Al I (Ev.bind P (Al X (Al G ?_)))));simp only[CX t D g,CX t o d];exact Ev.bind A (AF hz h1)
def NS(e:AQ):Prop:=DT e.f0∧DT e.f1∧DT e.f2.f0∧DT e.f2.f1∧DT e.f2.f2∧DT e.f2.f3∧e.f2.f4.size≤9223372036854775807
def FX(e:AQ):Bool :=
 decide (1≤e.f0)&&decide (e.f0≤3)&&(decide (1≤e.f1)&&decide (e.f1≤40))&&Km e.f2.f0 e.f2.f1 e.f2.f2 e.f2.f3 e.f2.f4&&(decide (e.f2.f0≠1) || decide (EO e.f2.f1-1=e.f0))
theorem NQ(i:Int)(h:DP i=true):EO i-1=wrap64 (Int.tdiv i 10):=by
 obtain⟨h0,h1⟩:=G4 i h;obtain⟨n,rfl⟩:∃n:Nat,i=n:=⟨i.toNat,by omega⟩
 rw[JG _ ⟨by omega,by omega⟩];exact Mx n (by omega) h
theorem OV(e:AQ)(h:NS e):Ev (λn=>CD.f n e.f0 e.f1 e.f2.f0 e.f2.f1 e.f2.f2 e.f2.f3 e.f2.f4) (FX e):=by
 obtain⟨h0,h1,o,h3,h4,p,j⟩:=h;unfold CD.f Cc.f FX;by_cases b:e.f0≥1
 ·simp only[b,if_true,Option.bind_some,ge_iff_le,decide_true,Bool.true_and];cases a2:decide (e.f0≤3)with
  | false=>simp only[Bool.false_eq_true,if_false,Bool.false_and];exact AR _
  | true =>
   simp only[if_true,Bool.true_and]
   by_cases a:e.f1<1
   ·have:decide (1≤e.f1)=false:=C9 (by omega)
    simp only[a,if_true,this,Bool.false_and];exact AR _
   ·have g:decide (1≤e.f1)=true:=BM (by omega)
    by_cases c:e.f1>40
    ·have:decide (e.f1≤40)=false:=C9 (by omega)
     simp only[a,if_false,c,if_true,this,Bool.and_false,Bool.false_and];exact AR _
    ·have i:decide (e.f1≤40)=true:=BM (by omega)
     simp only[a,if_false,c,g,i,Bool.true_and]
     refine Ev.bind (PT _ _ _ _ _ j) ?_
     cases l:Km e.f2.f0 e.f2.f1 e.f2.f2 e.f2.f3 e.f2.f4 with
     | false=>simp only[Bool.false_eq_true,if_false,Bool.false_and];exact AR _
     | true =>
      simp only[if_true,Bool.true_and]
      have hm:=Hy _ _ _ _ _ l
      unfold Cz.f
      have k:EO e.f2.f1≠0:=by
       intro hz
       unfold DP at hm
       rw[hz]at hm
       simp at hm
      rw[Rz k]
      simp only[Option.bind_some]
      by_cases d:e.f2.f0=1
      ·simp only[d,if_true,ne_eq,not_true,decide_false,Bool.false_or]
       have:(EO e.f2.f1-1==e.f0)=decide (EO e.f2.f1-1=e.f0):=by by_cases m:EO e.f2.f1-1=e.f0 <;> simp[m]
       rw[this];exact AR _
      ·simp only[d,if_false,ne_eq,not_false_eq_true,decide_true,Bool.true_or];exact AR _
 have:decide (1≤e.f0)=false:=C9 (by omega);simp only[b,if_false,Option.bind_some,Bool.false_eq_true,this,Bool.false_and];exact AR _
theorem Kh(e:AQ)(h:NS e):Ev (λn=>BA.f n e.f0 e.f1 e.f2.f0 e.f2.f1 e.f2.f2 e.f2.f3 e.f2.f4) (FX e):=by
 obtain⟨h0,h1,i,h3,h4,b,c⟩:=h;unfold BA.f FX;rw[Hl,Hl];simp only[Option.bind_some];cases (decide (1≤e.f0)&&decide (e.f0≤3))with
 | false=>simp only[Bool.false_eq_true,if_false,Bool.false_and];exact AR _
 | true =>
  cases (decide (1≤e.f1)&&decide (e.f1≤40))with
  | false=>simp only[Bool.false_eq_true,if_true,if_false,Bool.true_and,Bool.false_and];exact AR _
  | true =>
   simp only[if_true,Bool.true_and]
   refine Ev.bind (O8 _ _ _ _ _ h3 h4 b c) ?_
   cases d:Km e.f2.f0 e.f2.f1 e.f2.f2 e.f2.f3 e.f2.f4 with
   | false=>simp only[Bool.false_eq_true,if_false,Bool.false_and];exact AR _
   | true =>
    simp only[if_true,Bool.true_and]
    have hm:=NQ _ (Hy _ _ _ _ _ d)
    by_cases a:e.f2.f0=1
    ·simp only[a,if_true,ne_eq,not_true,decide_false,Bool.false_or]
     have:(wrap64 (Int.tdiv e.f2.f1 10)==e.f0)=decide (EO e.f2.f1-1=e.f0):=by rw[hm];by_cases g:wrap64 (Int.tdiv e.f2.f1 10)=e.f0 <;> simp[g]
     rw[this];exact AR _
    ·simp only[a,if_false,ne_eq,not_false_eq_true,decide_true,Bool.true_or];exact AR _
def Fv(l:List AQ)(CR:Int):Int:=(l.countP λe=>e.f0==CR:Nat)
theorem LH(l:List AQ)(CR:Int):0≤Fv l CR∧Fv l CR≤l.length:=by unfold Fv;have:=List.countP_le_length (p:=λe:AQ=>e.f0==CR) (l:=l);omega
def Qa:List AQ->List AQ->Bool
 | _,[]=>true
 | pre,e::rest=>FX e&&decide (Fv pre e.f0+1=e.f1)&&Qa (pre++[e]) rest
def Mn(l:List AQ):Bool:=decide (l.length≤40)&&Qa [] l
def Kk(l:List AQ):Prop:=∀e∈l,NS e
theorem Fo(l:List AQ)(i:Nat)(h:i<l.length):Aa l i=l[i]:=by unfold Aa;rw[RS,show((i:Int)).toNat=i from rfl,RD h];rfl
theorem Ll(l:List AQ)(CR:Int)(hl:l.length≤281474976710656):∀(n:Nat) (i:Nat) (c:Int),i+n=l.length->0≤c->c≤i->Ev (λk=>Bj.l0 k l CR c i) (c+Fv (l.drop i) CR)
 | 0,i,c,h,h0,h1=>by
  refine Ev.step (f:=λ_=>some c) (λk=>?_) ?_
  ·simp only[Bj.l0];rw[Rz (by omega)]
  ·have:c+Fv (l.drop i) CR=c:=by rw[Sb (by omega)];unfold Fv;simp
   rw[this];exact AR _
 | n+1,i,c,h,h0,h1=>by
  have hi:i<l.length:=by omega
  have d:=RZ hi
  have b:Fv (l.drop i) CR=Fv (l.drop (i+1)) CR+(if l[i].f0=CR then 1 else 0):=by
   rw[d]
   unfold Fv
   rw[List.countP_cons]
   by_cases a:l[i].f0=CR <;> simp[a]
  rw[b]
  by_cases a:l[i].f0=CR
  ·rw[Ry a,show c+(Fv (l.drop (i+1)) CR+1)=(c+1)+Fv (l.drop (i+1)) CR by omega]
   refine Ev.step (λk=>?_) (Ll l CR hl n (i+1) (c+1) (by omega) (by omega) (by omega))
   simp only[Bj.l0]
   rw[Ry (by omega),Ry (by omega),Fo l i hi,Ry a,EV i (by omega) (by omega),EV c (by omega) (by omega)]
   rfl
  ·rw[Rz a,Int.add_zero]
   refine Ev.step (λk=>?_) (Ll l CR hl n (i+1) c (by omega) (by omega) (by omega))
   simp only[Bj.l0]
   rw[Ry (by omega),Ry (by omega),Fo l i hi,Rz a,EV i (by omega) (by omega)]
   rfl
theorem NC(l:List AQ)(CR:Int)(hl:l.length≤281474976710656):Ev (λk=>Bj.f k l CR) (Fv l CR):=by have:=Ll l CR hl l.length 0 0 (by omega) (by omega) (by omega);rw[Int.zero_add]at this;exact this
theorem L5(l:List AQ)(h:Kk l)(hl:l.length≤281474976710656):∀(n:Nat) (i:Nat),i+n=l.length->Ev (λk=>Bp.l0 k l i) (Qa (l.take i) (l.drop i)&&decide (l.length≤40))
 | 0,i,c=>by
  rw[Sb (by omega)]
  refine Ev.step (f:=λ_=>some (decide ((l.length:Int)≤40))) (λk=>?_) ?_
  ·simp only[Bp.l0];rw[Rz (by omega)]
  ·have:decide ((l.length:Int)≤40)=(Qa (l.take i) []&&decide (l.length≤40)):=by unfold Qa;simp;omega
   rw[this];exact AR _
 | n+1,i,c=>by
  have hi:i<l.length:=by omega
  rw[RZ hi]
  unfold Qa
  rw[<-Sy hi]
  refine Ev.step (f:=λk=>(BA.f k l[i].f0 l[i].f1 l[i].f2.f0 l[i].f2.f1 l[i].f2.f2 l[i].f2.f3 l[i].f2.f4).bind λt127=>(if t127=true then((Bj.f k (l.take i) l[i].f0).bind λt134=>(if l[i].f1=(wrap64 (t134+1))then(Bp.l0 k l ((i+1:Nat):Int))else(some false)))else(some false))) (λk=>?_) ?_
  ·simp only[Bp.l0]
   rw[Ry (by omega),Ry (by omega),Fo l i hi,Ry (by omega),EV i (by omega) (by omega)]
   rfl
  ·refine Ev.bind (Kh _ (h _ (RR hi))) ?_
   cases FX l[i]with
   | false=>simp only[Bool.false_eq_true,if_false,Bool.false_and];exact AR _
   | true =>
    simp only[if_true,Bool.true_and]
    refine Ev.bind (NC (l.take i) l[i].f0 (by rw[RV];omega)) ?_
    have a:=LH (l.take i) l[i].f0
    have hw:wrap64 (Fv (l.take i) l[i].f0+1)=Fv (l.take i) l[i].f0+1:=EV _ a.1 (by have:=a.2;rw[RV]at this;omega)
    rw[hw]
    by_cases b:Fv (l.take i) l[i].f0+1=l[i].f1
    ·rw[BM b,RY]
     refine Al b.symm ?_
     exact L5 l h hl n (i+1) (by omega)
    ·rw[C9 b,Se,Se]
     refine AF (λe=>b e.symm) ?_
     exact AR _
theorem PY(l:List AQ)(h:Kk l)(hl:l.length≤281474976710656):Ev (λk=>Bp.f k l) (Mn l):=by have:=L5 l h hl l.length 0 (by omega);unfold Mn;rw[Bool.and_comm];exact this
theorem Nq{l:List AQ}(h:Mn l=true):l.length≤40:=by unfold Mn at h;simp only[Bool.and_eq_true,decide_eq_true_eq]at h;exact h.1
def Bg{α:Type}(f:Nat->Option α)(P:α->Prop):Prop:=∃r,Ev f r∧P r
section
variable {α β:Type} {f g:Nat->Option α} {P Q:α->Prop}
theorem Bg.now{a:α}(h:P a):Bg (λ_=>some a) P:=⟨a,AR a,h⟩
theorem Bg.of{a:α}(h:Ev f a)(p:P a):Bg f P:=⟨a,h,p⟩
theorem Bg.step(h:∀k,g (k+1)=f k)(t:Bg f P):Bg g P:=let⟨r,h1,a⟩:=t;⟨r,Ev.step h h1,a⟩
theorem Bg.pos{c:Prop}[Decidable c](h:c)(t:Bg f P):Bg (λk=>if c then f k else g k) P:=let⟨r,h1,a⟩:=t;⟨r,Al h h1,a⟩
theorem Bg.neg{c:Prop}[Decidable c](h:¬ c)(t:Bg g P):Bg (λk=>if c then f k else g k) P:=let⟨r,h1,a⟩:=t;⟨r,AF h h1,a⟩
theorem Bg.ite{c:Prop}[Decidable c](h1:c->Bg f P)(a:¬ c->Bg g P):Bg (λk=>if c then f k else g k) P:=by
 by_cases h:c
 ·exact Bg.pos h (h1 h)
 exact Bg.neg h (a h)
theorem Bg.bind{f:Nat->Option β}{P:β->Prop}{g:Nat->β->Option α}(t:Bg f P)(h:∀r,P r->Bg (λk=>g k r) Q):Bg (λk=>(f k).bind (g k)) Q:=by obtain⟨r,h1,a⟩:=t;obtain⟨s,h3,h4⟩:=h r a;exact⟨s,Ev.bind h1 h3,h4⟩
end
structure Kl (t:List Ba) (n:Nat):Prop where
 root:∀x∈t,x.f0=3->x.f1=0
 found:∃x∈t,x.f0=3
 ids:∀x∈t,DT x.f0∧x.f2.size≤2000
 uq:Uq t
 ch:GZ (-1) t
 len:t.length≤n
theorem Kl.inv{t:List Ba}{n:Nat}(h:Kl t n):Inv t (n:Int) :=
 ⟨λx a=>by have:=LF t (-1) h.ch x a;have:=h.len;omega,h.root,h.found,h.ids⟩
theorem Ou{k i u a:Int}{s:ByteArray}(h:Km k i u a s=true):(k=1∨k=2∨k=3)∧Fy s=true:=by
 unfold Km at h;by_cases h1:k=1
 ·rw[Ry h1]at h;simp only[Bool.and_eq_true]at h;exact⟨Or.inl h1,h.2.2⟩
 by_cases b:k=2
 ·rw[Rz h1,Ry b]at h;simp only[Bool.and_eq_true]at h;exact⟨Or.inr (Or.inl b),h.2.2⟩
 by_cases h3:k=3
 ·rw[Rz h1,Rz b,Ry h3]at h;simp only[Bool.and_eq_true]at h;exact⟨Or.inr (Or.inr h3),KR s h.2.2⟩
 rw[Rz h1,Rz b,Rz h3]at h;simp at h
theorem Lp{s:ByteArray}(h:Fy s=true):s.size≤4:=by unfold Fy at h;rw[TX,decide_eq_true_eq]at h;exact h.2
theorem Kl.do{t:List Ba}{n:Nat}(h:Kl t n)(o:n≤1000){k i u a:Int}{s:ByteArray}(d:Km k i u a s=true):Bg (λm=>BC.f m t k i u a s) (λc=>Kl c (n+1)):=by obtain⟨j,l⟩:=Ou d;have hm:=Hy _ _ _ _ _ d;have hs:=G4 _ hm;have hl:=h.len;obtain⟨c,h1,b,h3,h4⟩:=QB t n k i u a s h.inv (by omega) (by omega) j (J7 hm) (Bm (by omega) (by omega)) (by omega) (by have:=Lp l;omega);obtain⟨e,g⟩:=h4 h.uq h.ch;exact⟨c,h1,b.root,b.found,b.ids,e,g,by omega⟩
theorem JI(l:List AQ)(hl:l.length≤500)(b:∀e∈l,Km e.f2.f0 e.f2.f1 e.f2.f2 e.f2.f3 e.f2.f4=true):∀(m i:Nat) (t:List Ba) (n:Nat),i+m=l.length->n+m≤1000->Kl t n->Bg (λk=>BS.l0 k t l i) (λT=>Kl T (n+m))
 | 0,i,t,n,h,d,a=>by
  have:=a.len
  refine Bg.step (λk=>by simp only[BS.l0];rfl) ?_
  simp only[Option.bind_some,List.nil_append,List.length_nil]
  exact Bg.neg (by omega) (Bg.pos (by omega) (Bg.now a))
 | m+1,i,t,n,h,d,a=>by
  have hi:i<l.length:=by omega
  refine Bg.step (λk=>by simp only[BS.l0];rfl) ?_
  rw[Fo l i hi,EV i (by omega) (by omega)]
  refine Bg.pos (by omega) (Bg.pos (by omega) (Bg.bind (a.do (by omega) (b _ (RR hi))) (λT c=>?_)))
  have:=JI l hl b m (i+1) T (n+1) (by omega) (by omega) c
  rw[show n+1+m=n+(m+1) by omega]at this
  exact this
theorem KT{l:List AQ}(hl:l.length≤500)(a:∀e∈l,Km e.f2.f0 e.f2.f1 e.f2.f2 e.f2.f3 e.f2.f4=true){t:List Ba}{n:Nat}(c:n≤500)(b:Kl t n):Bg (λk=>BS.f k t l) (λT=>Kl T (n+l.length)):=by unfold BS.f;exact JI l hl a l.length 0 t n (by omega) (by omega) b
end Go.Proofs.YtlhlpfnljglhoaaDoor.PL
namespace Go.Proofs.YtlhlpfnljglhoaaDoor.PL
open Go.RowKit Go.Proofs.YtlhlpfnljglhoaaDoor.P Go.Proofs.YtlhlpfnljglhoaaDoorW.PrintWords Go.Proofs.YtlhlpfnljglhoaaDoorW.Bb
theorem H9(x:Int):DT (wrap64 x):=by unfold wrap64;exact⟨by omega,by omega⟩
def P_(k i u a:Int)(s:ByteArray):Prop:=DT k∧DT i∧DT u∧DT a∧s.size≤2000
theorem Lg(b:List Int)(q:Bytes b)(k i u a p:Int)(s:ByteArray)(m:Nat)(h:P_ k i u a s)(I:Rd p (m+2)) :
  ∃(z i' D a':Int) (B:ByteArray) (A:Int),Ev (λn=>AX.j1 n b p k i u a s) (z,i',D,a',B,A)∧P_ z i' D a' B∧Rd A m:=by
 obtain⟨h1,j,h3,h4,d⟩:=h;obtain⟨r,e,hR,M,O,_⟩:=Dn b p 30 (m+1) q I;obtain⟨x,J,l,P,E,_⟩:=Dn b (p+1) 5 m q hR;obtain⟨y,t,L,T,G,_⟩:=Dn b (p+1) 50 m q hR;have E:=E (by omega);have G:=G (by omega);have K:DT x:=Bm (by omega) (by omega);have v:DT y:=Bm (by omega) (by omega);by_cases c:r=0
 ·refine⟨x,i,u,a,s,p+1+1,?_,⟨K,j,h3,h4,d⟩,l⟩;refine Ev.step (λn=>by simp only[AX.j1];rfl) ?_;exact Ev.bind e (Al c (Ev.bind J (AR _)))
 by_cases g:r=1
 ·refine⟨k,y,u,a,s,p+1+1,?_,⟨h1,v,h3,h4,d⟩,l⟩;refine Ev.step (λn=>by simp only[AX.j1];rfl) ?_;exact Ev.bind e (AF c (Al g (Ev.bind t (AR _))))
 by_cases o:r=2
 ·refine⟨k,i,y,a,s,p+1+1,?_,⟨h1,j,v,h4,d⟩,l⟩;refine Ev.step (λn=>by simp only[AX.j1];rfl) ?_;exact Ev.bind e (AF c (AF g (Al o (Ev.bind t (AR _)))))
 by_cases w:r=3
 ·refine⟨k,i,u,y,s,p+1+1,?_,⟨h1,j,h3,v,d⟩,l⟩;refine Ev.step (λn=>by simp only[AX.j1];rfl) ?_;exact Ev.bind e (AF c (AF g (AF o (Al w (Ev.bind t (AR _))))))
 refine⟨k,i,u,a,s,p+1,?_,⟨h1,j,h3,h4,d⟩,hR.less (by omega)⟩;refine Ev.step (λn=>by simp only[AX.j1];rfl) ?_;exact Ev.bind e (AF c (AF g (AF o (AF w (AR _)))))
theorem Nv(b:List Int)(r:Bytes b)(up at_ w:Int)(f:Bool)(k i u a p:Int)(s:ByteArray)(m:Nat)(h:P_ k i u a s)(hu:DT up)(y:DT at_)(t:Rd p (m+2)) :
  ∃(c i' g a':Int) (e:ByteArray) (d:Int),Ev (λn=>AX.j0 n up at_ w f b p k i u a s) (c,i',g,a',e,d)∧P_ c i' g a' e∧Rd d m:=by
 obtain⟨h1,q,h3,h4,x⟩:=h;have j1:DT 1:=Bm (by omega) (by omega);have j3:DT 3:=Bm (by omega) (by omega);cases f with
 | true =>
  obtain⟨c,i',g,a',e,d,j,l,o⟩:=Lg b r 1 i up at_ p s m ⟨j1,q,hu,y,x⟩ t
  refine⟨c,i',g,a',e,d,?_,l,o⟩
  refine Ev.step (λn=>by simp only[AX.j0];rfl) ?_
  exact Al (by simp) j
 | false =>
  obtain⟨c,i',g,a',e,d,j,l,o⟩:=Lg b r 3 i up at_ p ⟨#[]⟩ m ⟨j3,q,hu,y,by decide⟩ t
  by_cases v:w=2
  ·refine⟨c,i',g,a',e,d,?_,l,o⟩
   refine Ev.step (λn=>by simp only[AX.j0];rfl) ?_
   exact AF (by decide) (Al v j)
  ·by_cases z:w=3
   ·refine⟨c,i',g,a',e,d,?_,l,o⟩
    refine Ev.step (λn=>by simp only[AX.j0];rfl) ?_
    exact AF (by decide) (AF v (Al z j))
   ·obtain⟨c,i',g,a',e,d,j,l,o⟩:=Lg b r k i u a p s m ⟨h1,q,h3,h4,x⟩ t
    refine⟨c,i',g,a',e,d,?_,l,o⟩
    refine Ev.step (λn=>by simp only[AX.j0];rfl) ?_
    exact AF (by decide) (AF v (AF z j))
theorem NA(l:List Int)(r:Int)(h0:0≤r)(h1:r<l.length):rd l r∈l:=by
 have hi:r.toNat<l.length:=by omega
 unfold rd;rw[RS,RD hi];exact RR hi
theorem Le(b:List Int)(c:Bytes b)(p:Int)(m:Nat)(Z:Rd p (m+17)) :
  ∃(k i u a:Int) (s:ByteArray) (d:Int),Ev (λn=>AX.f n b p) (k,i,u,a,s,d)∧P_ k i u a s∧Rd d m:=by
 obtain⟨i,p1,hi,P,i0,i1⟩:=Kx b p (m+15) c Z;obtain⟨s,p2,hs,T,s0⟩:=LL b p1 (m+9) c P;obtain⟨u,O,hu,U,u0,u1⟩:=Kx b p2 (m+7) c T;obtain⟨x,J,W,A,e,_⟩:=Dn b O 5 (m+6) c U;have e:=e (by omega);obtain⟨v,j,I,X,v0,v1⟩:=Kx b (O+1) (m+4) c W;obtain⟨y,K,Y,B,g,_⟩:=Dn b j 2 (m+3) c X;have g:=g (by omega);obtain⟨z,hz,D,z0,z1,_⟩:=Dn b (j+1) 5 (m+2) c Y;have M:DT (rd ([1,1,u,2,3]:List Int) x):=by have:=NA ([1,1,u,2,3]:List Int) x A (by simpa using e);simp only[List.mem_cons,List.not_mem_nil,or_false]at this;exact Bm (by omega) (by omega)
 have L:DT (rd ([0,v]:List Int) y):=by have:=NA ([0,v]:List Int) y B (by simpa using g);simp only[List.mem_cons,List.not_mem_nil,or_false]at this;exact Bm (by omega) (by omega)
 have G:P_ 2 i 0 0 s:=⟨Bm (by omega) (by omega),Bm (by omega) (by omega),Bm (by omega) (by omega),Bm (by omega) (by omega),by omega⟩
 unfold AX.f;by_cases E:z=0
 ·obtain⟨r,i',w,a',t,d,l,o,q⟩:=Nv b c _ _ z (z==0) 2 i 0 0 (j+1+1) s m G M L D;refine⟨r,i',w,a',t,d,?_,o,q⟩;refine Ev.bind hi (Ev.bind hs (Ev.bind hu ?_));simp only[Option.bind_some];refine Ev.bind J (Al A (Al (by simpa using e) (Ev.bind I ?_)));refine Ev.bind K (Al B (Al (by simpa using g) (Ev.bind hz (Al E l))))
 obtain⟨r,i',w,a',t,d,l,o,q⟩:=Nv b c _ _ z (z==1) 2 i 0 0 (j+1+1) s m G M L D;refine⟨r,i',w,a',t,d,?_,o,q⟩;refine Ev.bind hi (Ev.bind hs (Ev.bind hu ?_));simp only[Option.bind_some];refine Ev.bind J (Al A (Al (by simpa using e) (Ev.bind I ?_)));refine Ev.bind K (Al B (Al (by simpa using g) (Ev.bind hz (AF E l))))
theorem H8{l:List AQ}(h:Kk l){e:AQ}(he:NS e):Kk (l++[e]):=by
 intro x a;rcases Sr.1 a with a|a
 ·exact h x a
 rw[SK.1 a];exact he
theorem Oo(b:List Int)(c:Bytes b)(l:List AQ)(t:List Ba)(md:List Int)(p:Int)(m:Nat)(hw:Kk l)(hl:l.length≤20)(O:Rd p (m+20)) :
  ∃(l':List AQ) (o:Int),Ev (λk=>AW.l0 k l t md 0 b p) (l',o)∧Kk l'∧l'.length≤21∧Rd o m:=by
 obtain⟨r,g,hR,r0,r1,_⟩:=Dn b p 24 (m+19) c O;by_cases d:r=0
 ·obtain⟨x,B,w,I,q,_⟩:=Dn b (p+1) 3 (m+18) c hR;obtain⟨y,D,z,y0,E,_⟩:=Dn b (p+1+1) 4 (m+17) c w;obtain⟨k,i,u,a,s,o,h1,⟨J,K,L,M,g5⟩,h3⟩:=Le b c (p+1+1+1) m z;refine⟨l++[⟨wrap64 (1+x),wrap64 (1+y),⟨k,i,u,a,s⟩⟩],o,?_,H8 hw ⟨H9 _,H9 _,J,K,L,M,by show s.size≤_;omega⟩,by simp;omega,h3⟩;refine Ev.step (λn=>by simp only[AW.l0];rfl) ?_;exact AF (by omega) (Ev.bind g (Al d (Ev.bind B (Ev.bind D (Ev.bind h1 (Al (by omega) (AR _)))))))
 by_cases v:r=1
 ·by_cases hz:(l.length:Int)>0
  ·obtain⟨x,B,w,I,q,_⟩:=Dn b (p+1) (l.length:Int) (m+18) c hR;obtain⟨y,D,z,y0,E,_⟩:=Dn b (p+1+1) 4 (m+17) c w;have q:=q (by omega);have E:=E (by omega);obtain⟨j,rfl⟩:∃n:Nat,x=n:=⟨x.toNat,by omega⟩
   have G:j<l.length:=by omega
   have A:=hw _ (RR G);refine⟨l.set j ⟨l[j].f0,y,⟨l[j].f2.f0,l[j].f2.f1,l[j].f2.f2,l[j].f2.f3,l[j].f2.f4⟩⟩,p+1+1+1,?_,?_,by rw[Si];omega,z.less (by omega)⟩
   ·refine Ev.step (λn=>by simp only[AW.l0];rfl) ?_;refine AF (by omega) (Ev.bind g (AF d (Al v (Al hz (Ev.bind B (Ev.bind D (Al I (Al q ?_))))))));simp only[Fo l j G,Int.toNat_natCast];exact AR _
   intro e he;rcases TQ he with he|rfl
   ·exact hw e he
   obtain⟨T,q1,U,W,X,Y,Z⟩:=A;have P:DT y:=Bm (by omega) (by omega);exact⟨T,P,U,W,X,Y,Z⟩
  refine⟨l,p+1,?_,hw,by omega,hR.less (by omega)⟩;refine Ev.step (λn=>by simp only[AW.l0];rfl) ?_;exact AF (by omega) (Ev.bind g (AF d (Al v (AF hz (AR _)))))
 refine⟨l,p+1,?_,hw,by omega,hR.less (by omega)⟩;refine Ev.step (λn=>by simp only[AW.l0];rfl) ?_;exact AF (by omega) (Ev.bind g (AF d (AF v (AR _))))
theorem Ld(b:List Int)(g:Bytes b):∀(n:Nat) (l:List AQ) (t:List Ba) (B:Nat) (md:List Int) (p:Int) (m:Nat),Kk l->l.length+n≤20->Inv t B->(B+1)*2 ^ n≤16384->t.length+n≤100->md.length=3->Rd p (m+18*n+20) ->
  ∃(l':List AQ) (v:Int),Ev (λk=>AW.l0 k l t md n b p) (l',v)∧Kk l'∧l'.length≤21∧Rd v m
 | 0,l,t,B,md,p,m,hw,hl,hI,hB,W,hm,z=>Oo b g l t md p m hw (by omega) (z.less (by omega))
 | n+1,l,t,B,md,p,m,hw,hl,hI,hB,W,hm,z=>by
  obtain⟨r,I,hR,J,K,_⟩:=Dn b p 3 (m+18*n+37) g (z.less (by omega))
  have K:=K (by omega)
  have w1:wrap64 (1+r)=1+r:=AN _ (by omega) (by omega)
  have L:wrap64 (1+r-1)=r:=by rw[AN _ (by omega) (by omega)];omega
  obtain⟨k,i,u,a,s,v,h1,⟨G,x,E,M,O,P⟩,h3⟩:=Lf b g t B (1+r) (rd md r) (p+1) (m+18*n+20) hI (by omega) hR
  have T:B+1≤16384:=RJ (SY _ (Nat.two_pow_pos _)) hB
  obtain⟨A,j,w,U,_⟩:=QB t B k i u a s hI (by omega) (by omega) G x E (by omega) P
  have d:Inv A ((2*B+1:Nat):Int):=w.more (by omega)
  have c:(2*B+1+1)*2 ^ n≤16384:=by
   have e:(2*B+1+1)*2 ^ n=(B+1)*2 ^ (n+1):=by rw[Nat.pow_succ,show 2*B+1+1=(B+1)*2 by omega,Nat.mul_assoc,Nat.mul_comm 2]
   rw[e];exact hB
  have hs:=NC l (1+r) (by omega)
  have y:DT k:=by rcases G with rfl|rfl|rfl <;> exact Bm (by omega) (by omega)
  have X:DT (1+r):=Bm (by omega) (by omega)
  have o:NS (⟨1+r,wrap64 (Fv l (1+r)+1),⟨k,i,u,a,s⟩⟩:AQ):=⟨X,H9 _,y,E,M,O,by show s.size≤_;omega⟩
  have wn:wrap64 (((n+1:Nat):Int)-1)=n:=by rw[AN _ (by omega) (by omega)];omega
  by_cases D:k=1
  ·obtain⟨l',q,f1,f2,f3,f4⟩:=Ld b g n (l++[⟨1+r,wrap64 (Fv l (1+r)+1),⟨k,i,u,a,s⟩⟩]) A (2*B+1) (md.set r.toNat (wrap64 (rd md r+1))) v m (H8 hw o) (by simp;omega) d c (by omega) (by rw[Si];exact hm) h3
   refine⟨l',q,?_,f2,f3,f4⟩
   refine Ev.step (λn=>by simp only[AW.l0];rfl) ?_
   refine Al (by omega) (Ev.bind I ?_)
   simp only[w1,L]
   refine Al J (Al (by omega) (Ev.bind h1 (Al D (Ev.bind hs (Al (by omega) (Ev.bind j ?_))))))
   rw[wn]
   exact f1
  ·obtain⟨l',q,f1,f2,f3,f4⟩:=Ld b g n (l++[⟨1+r,wrap64 (Fv l (1+r)+1),⟨k,i,u,a,s⟩⟩]) A (2*B+1) md v m (H8 hw o) (by simp;omega) d c (by omega) hm h3
   refine⟨l',q,?_,f2,f3,f4⟩
   refine Ev.step (λn=>by simp only[AW.l0];rfl) ?_
   refine Al (by omega) (Ev.bind I ?_)
   simp only[w1,L]
   refine Al J (Al (by omega) (Ev.bind h1 (AF D (Ev.bind hs (Al (by omega) (Ev.bind j ?_))))))
   rw[wn]
   exact f1
theorem On(b:List Int)(g:Bytes b)(p:Int)(m:Nat)(o:Rd p (m+300)):∃(l:List AQ) (d:Int),Ev (λk=>AW.f k b p) (l,d)∧Kk l∧l.length≤21∧Rd d m:=by
 obtain⟨r,q,hR,t,i,_⟩:=Dn b p 14 (m+299) g o;have i:=i (by omega);obtain⟨n,rfl⟩:∃n:Nat,r=n:=⟨r.toNat,by omega⟩
 have hI:Inv ([⟨1,0,⟨#[]⟩⟩,⟨2,0,⟨#[]⟩⟩,⟨3,0,⟨#[]⟩⟩]:List Ba) ((0:Nat):Int):=by
  refine⟨λx a=>?_,λx a h3=>?_,⟨⟨3,0,⟨#[]⟩⟩,by simp,rfl⟩,λx a=>?_⟩;all_goals simp only[List.mem_cons,List.not_mem_nil,or_false]at a
  ·rcases a with rfl|rfl|rfl <;> exact⟨Tl _,Tl _⟩
  ·rcases a with rfl|rfl|rfl <;> rfl
  rcases a with rfl|rfl|rfl <;> exact⟨Bm (by decide) (by decide),by decide⟩
 have c:(0+1)*2 ^ n≤16384:=by have:2 ^ n≤2 ^ 14:=Nat.pow_le_pow_right (by decide) (by omega);omega
 obtain⟨l,d,h1,j,h3,h4⟩:=Ld b g n [] _ 0 [0,0,0] (p+1) m (λe he=>by cases he) (by simp;omega) hI c (by simp;omega) rfl (hR.less (by omega));refine⟨l,d,?_,j,h3,h4⟩;unfold AW.f Dp.f;simp only[Option.bind_some];exact Ev.bind q h1
theorem PU(code:List Int)(h:∀x∈code,0≤x∧x≤255):∃b:List Int,D8.f code=some (b,0)∧Bytes b:=by
 unfold D8.f;by_cases hl:(code.length:Int)>2000
 ·refine⟨code.take 2000,by rw[Ry hl,Ry (by omega)],by rw[RV];omega,λx a=>h x (SA a)⟩
 exact⟨code,by rw[Rz hl],by omega,h⟩
def Od(a b:AQ):Bool:=a.f0==b.f0&&(a.f1==b.f1&&(a.f2.f0==b.f2.f0&&(a.f2.f1==b.f2.f1&&(a.f2.f2==b.f2.f2&&(a.f2.f3==b.f2.f3&&(a.f2.f4.toList==b.f2.f4.toList))))))
def KB(l:List AQ)(e:AQ):Bool:=l.any λx=>Od x e
theorem Mi(x:AQ)(l:List AQ)(e:AQ):KB (x::l) e=(Od x e || KB l e):=rfl
theorem M_(l:List AQ)(e:AQ)(hl:l.length≤1099511627776):∀n i:Nat,i+n=l.length->Ev (λk=>Cg.l0 k l i e.f0 e.f1 e.f2.f0 e.f2.f1 e.f2.f2 e.f2.f3 e.f2.f4) (KB (l.drop i) e)
 | 0,i,h=>by
  rw[Sb (by omega)]
  refine Ev.step (f:=λ_=>some false) (λk=>?_) (AR _)
  simp only[Cg.l0];rw[Rz (by omega)]
 | n+1,i,h=>by
  have hi:i<l.length:=by omega
  rw[RZ hi,Mi]
  refine Ev.step (f:=λk=>if Od l[i] e=true then some true else Cg.l0 k l ((i+1:Nat):Int) e.f0 e.f1 e.f2.f0 e.f2.f1 e.f2.f2 e.f2.f3 e.f2.f4) (λk=>?_) ?_
  ·simp only[Cg.l0]
   rw[Ry (by omega),Ry (by omega),Fo l i hi,EV i (by omega) (by omega)]
   rfl
  ·cases hq:Od l[i] e with
   | true=>exact Al rfl (AR _)
   | false=>exact AF (by decide) (M_ l e hl n (i+1) (by omega))
theorem QG(l:List AQ)(e:AQ)(hl:l.length≤1099511627776):Ev (λk=>Cg.f k l e.f0 e.f1 e.f2.f0 e.f2.f1 e.f2.f2 e.f2.f3 e.f2.f4) (KB l e):=by unfold Cg.f;exact M_ l e hl l.length 0 (by omega)
def MT(l:List AQ)(e:AQ):List AQ×Int:=if KB l e=true then(l,0)else if e.f1=Fv l e.f0+1 then(if(l.length:Int)≥40 then(l,-1)else(l++[e],1))else(l,-1)
theorem Qs(l:List AQ)(e:AQ)(hl:l.length≤1099511627776):Ev (λk=>Ct.f k l e.f0 e.f1 e.f2.f0 e.f2.f1 e.f2.f2 e.f2.f3 e.f2.f4) (MT l e):=by
 have b:=LH l e.f0;have w1:wrap64 (Fv l e.f0+1)=Fv l e.f0+1:=EV _ b.1 (by omega);unfold Ct.f MT;refine Ev.bind (NC l e.f0 (by omega)) (Ev.bind (QG l e hl) ?_);rw[w1];cases KB l e with
 | true=>exact Al rfl (AR _)
 | false =>
  refine AF (by decide) ?_
  rw[Rz (show¬ (false=true) by decide)]
  by_cases h1:e.f1=Fv l e.f0+1
  ·refine Al h1 ?_
   rw[Ry h1]
   by_cases a:(l.length:Int)≥40
   ·refine Al a ?_
    rw[Ry a]
    exact AR _
   ·refine AF a ?_
    rw[Rz a]
    simp only[Option.bind_some,List.nil_append,List.length_nil,List.length_cons]
    exact Al (by omega) (Al (by omega) (AR _))
  ·refine AF h1 ?_
   rw[Rz h1]
   exact AR _
theorem MU{l:List AQ}{e:AQ}(h:(MT l e).2=1):(MT l e).1=l++[e]∧KB l e=false∧e.f1=Fv l e.f0+1∧l.length<40:=by
 unfold MT at h⊢;cases b:KB l e with
 | true=>rw[b,Ry rfl]at h;exact absurd h (show¬ ((0:Int)=1) by decide)
 | false =>
  rw[b,Rz (show¬ (false=true) by decide)]at h
  rw[Rz (show¬ (false=true) by decide)]
  by_cases h1:e.f1=Fv l e.f0+1
  ·rw[Ry h1]at h⊢
   by_cases a:(l.length:Int)≥40
   ·rw[Ry a]at h;exact absurd h (show¬ ((-1:Int)=1) by decide)
   ·rw[Rz a];exact⟨rfl,rfl,h1,by omega⟩
  ·rw[Rz h1]at h;exact absurd h (show¬ ((-1:Int)=1) by decide)
end Go.Proofs.YtlhlpfnljglhoaaDoor.PL
