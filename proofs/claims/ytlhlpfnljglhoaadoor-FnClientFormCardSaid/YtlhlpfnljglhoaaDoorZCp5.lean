/- Joined by programs (wip/shake.py, wip/mini.py). -/
import Derived.Test.YtlhlpfnljglhoaaDoorZCp4
set_option linter.unusedVariables false
set_option linter.unusedSimpArgs false
set_option linter.unusedSectionVars false
set_option maxHeartbeats 8000000
set_option maxRecDepth 100000
namespace Go.Proofs.YtlhlpfnljglhoaaDoor.P
open Go.RowKit Go.Proofs.YtlhlpfnljglhoaaDoorW.PrintWords Go.Proofs.YtlhlpfnljglhoaaDoorW.Bc
theorem AG.calls(k:Nat)(ae:Option Addr)(af:Nat)(P:List (AM))(T:Int)(U:Bool)(ak:Option Addr)(ai:Nat)(x:List (EI))(ay:Option Addr)(aj:Nat)(m:List (Dm))(r1:List (AM))(r2:Int)(r3:Bool)(r4:List (EI))(r5:List (Dm))(w:World)(cD:Kd.C BT w ae P.length P)(cy:P.length≤af)(cE:Kd.C GW w ak x.length x)(cz:x.length≤ai)(cF:Kd.C E2 w ay m.length m)(cA:m.length≤aj)(h:AG.f k P T U x m=some (r1,r2,r3,r4,r5)) :
  Calls Tryd.prog 61 #[.agg #[.slice ae P.length af,.int .i64 T,.bool U,.slice ak x.length ai,.slice ay m.length aj]] w λe w'=>∃cM ed ee:Value,e=.returned (.agg #[cM,.int .i64 r2,.bool r3,ed,ee])∧Kd.R BT 32 w' w.heap.size (λ_=>True) cM r1∧Kd.S GW 26 w' w.heap.size (λM=>some M≠(cM:Value).ownBlock) ed r4∧Kd.S E2 114 w' w.heap.size (λM=>some M≠(cM:Value).ownBlock) ee r5∧Below w.heap.size w w':=by
 have gR:=Tryd.underlying64;have gQ:=Tryd.underlying60;have gP:=Tryd.underlying26;have gJ:=Tryd.underlying114;have de:=a_ cD;have dd:=a_ cy;clear cD cy;have df:=a_ cE;have et:=a_ cz;clear cE cz;have dg:=a_ cF;have eu:=a_ cA;clear cF cA;have HB:=a_ (Below.refl w.heap.size w);unfold AG.f at h;have H:=h;clear h;replace H:=BU H;obtain⟨⟨u,X,Y⟩,dO,H⟩:=H;try dsimp only at H
 have A2:=a_ dO;clear dO;obtain⟨ar,a4⟩:∃y_:List (Dm),y_=(([]:List (Dm))):=⟨_,rfl⟩
 replace H:(AG.l0 k 0 P T U x m u X Y ([]:List (EI)) ar)=some (r1,r2,r3,r4,r5):=by first|(rw[a4];with_reducible exact H)|(have av:=(Option.bind_some _ _).symm.trans H;rw[a4];with_reducible exact av)|(have av:=(Option.bind_some _ _).symm.trans H;with_reducible exact av)|with_reducible exact H|(rw[a4];exact H)|exact H
 have ca:=a_ a4;clear a4;have H':=a_ H;clear H;go_enter Tryd.func61,Tryd.ntmps61;go_wp2_with(first|((with_reducible refine Cd (N:=1) rfl ?_);refine CE 1 (#[.slice ae P.length af,.int .i64 T,.bool U,.slice ak x.length ai,.slice ay m.length aj]) 64 ?_;intro L hg w3 az hb;have a:=a_ (az);have en:=a_ ((by rw[hg];exact(Ab (Ad)):w.heap.size≤L));have eh:=a_ ((by rw[hg];exact(Ab (Ad)):w.heap.size≤L));replace HB:=a_ (BA (Ad) hb);clear hb az hg)|((with_reducible refine Cd (N:=2) rfl ?_);refine CE 2 (#[.slice none 0 0,.int .i64 0,.bool false,.slice none 0 0,.slice none 0 0]) 64 ?_;intro E hg w4 az hb;have r:=a_ (az);have eo:=a_ ((by rw[hg];exact(Ab (Ad)):w.heap.size≤E));have ei:=a_ ((by rw[hg];exact(Ab (Ad)):w.heap.size≤E));have al:=a_ ((by rw[hg];exact Nat.ne_of_lt (AU (g:=L) (o:=.cells #[.slice ae P.length af,.int .i64 T,.bool U,.slice ak x.length ai,.slice ay m.length aj] 64 (0,0)) (Bp a.o)):L≠E));have an:=a_ ((by rw[hg];exact Nat.ne_of_gt (AU (g:=L) (o:=.cells #[.slice ae P.length af,.int .i64 T,.bool U,.slice ak x.length ai,.slice ay m.length aj] 64 (0,0)) (Bp a.o)):E≠L));replace a:=a_ (C3 a.o hb);replace HB:=a_ (BA (Ad) hb);clear hb az hg;have gM:=al.o;have gN:=an.o;obtain⟨cV,cW,cX,cY,cZ,cQ,cR,cS,cT,cU⟩:=Cy a.o)|((with_reducible refine BN (f:=71) rfl ?_);refine BR 9 Tryd.func71 #[.agg #[.slice ae P.length af,.int .i64 T,.bool U]] ?_;(with_reducible refine(D4.calls _ _ P T U u X Y _ ?q' ?z' A2.o).mono ?_);(case q'=>exact Gt de.o);(case z'=>exact dd.o);rintro e w7 ⟨gS,rfl,bZ,hb⟩;refine⟨_,rfl,?_⟩;have aT:=a_ (Kd.AN bZ (Ab (Ad)));replace HB:=a_ (BA (Ad) hb);replace a:=a_ (C3 a.o hb);replace r:=a_ (C3 r.o hb);(try clear hb bZ))|((with_reducible refine Cd (N:=10) rfl ?_);refine Kd.Oi E2 _ 114 ?hg (N:=10) ?hd (xs:=([]:List (Dm))) (inner:=[]) (ok:=λ_=>True) (okp:=λ_=>True) ?hr ?hp (λ_ y=>y) trivial (Below.refl _ _) (Nat.le_refl _) (by simp) ?_;(case hd=>rfl);(case hg=>rfl);(case hr=>first|(go_simp;done)|(go_simp;rfl));(case hp=>exact(Bi.none _ _));intro gT w8 cC hb Du bJ;clear Du bJ;(first|rw[<-ca.o]at cC|(simp only[Int.reduceToNat]at cC;rw[<-ca.o]at cC));have bd:=a_ (Kd.DX (Kd.Mn cC (Kd.DQ (BC aT.o))) (Ab (Ad)));replace aT:=a_ (Kd.AZ (BC aT.o) hb);replace HB:=a_ (BA (Ad) hb);replace a:=a_ (C3 a.o hb);replace r:=a_ (C3 r.o hb);clear hb cC;obtain⟨a1,a2,dT⟩:=Kd.Ej bd.o;subst dT;obtain⟨I,J,dU⟩:=Kd.Bg aT.o;subst dU)|((with_reducible refine Cd (N:=3) rfl ?_);refine CE 3 (#[.slice none 0 0,.int .i64 0,.bool false,.slice none 0 0,.slice none 0 0]) 64 ?_;intro z hg gZ az hb;have d:=a_ (az);have ep:=a_ ((by rw[hg];exact(Ab (Ad)):w.heap.size≤z));have ej:=a_ ((by rw[hg];exact(Ab (Ad)):w.heap.size≤z));have Z:=a_ ((by rw[hg];exact Nat.ne_of_lt (AU (g:=L) (o:=.cells #[.slice ae P.length af,.int .i64 T,.bool U,.slice ak x.length ai,.slice ay m.length aj] 64 (0,0)) (Bp a.o)):L≠z));have ag:=a_ ((by rw[hg];exact Nat.ne_of_gt (AU (g:=L) (o:=.cells #[.slice ae P.length af,.int .i64 T,.bool U,.slice ak x.length ai,.slice ay m.length aj] 64 (0,0)) (Bp a.o)):z≠L));have aa:=a_ ((by rw[hg];exact Nat.ne_of_lt (AU (g:=E) (o:=.cells #[.slice none 0 0,.int .i64 0,.bool false,.slice none 0 0,.slice none 0 0] 64 (0,0)) (Bp r.o)):E≠z));have aw:=a_ ((by rw[hg];exact Nat.ne_of_gt (AU (g:=E) (o:=.cells #[.slice none 0 0,.int .i64 0,.bool false,.slice none 0 0,.slice none 0 0] 64 (0,0)) (Bp r.o)):z≠E));replace aT:=a_ (Kd.AZ (BC aT.o) hb);replace bd:=a_ (Kd.Fy (IV bd.o) hb);replace a:=a_ (C3 a.o hb);replace r:=a_ (C3 r.o hb);replace HB:=a_ (BA (Ad) hb);clear hb az hg;have fZ:=ag.o;have gu:=Z.o;have f_:=aw.o;have gv:=aa.o;obtain⟨cl,cm,cn,cp,cq,cd,cf,cg,cj,ck⟩:=Cy d.o));go_loopg [4] k (λkq v4 w'=>∃(D:Int) (B:List (EI)) (u584003:Value),v4=.int .i64 D∧Ae (AG.l0 kq D P T U x m u X Y B ar=some (r1,r2,r3,r4,r5))∧Ae (kq≤k)∧Ae (Kd.R BT 32 w' w.heap.size (λ_=>True) (.slice I u.length J) u)∧Ae (Kd.S GW 26 w' w.heap.size (λM=>some M≠((.slice I u.length J):Value).ownBlock) u584003 B)∧Ae (Kd.S E2 114 w' w.heap.size (λM=>some M≠((.slice I u.length J):Value).ownBlock) (.slice a1 ar.length a2) ar)∧Ae (w'.heap[L]?=some (.cells #[(.slice ae P.length af),.int .i64 T,.bool U,(.slice ak x.length ai),(.slice ay m.length aj)] 64 (0,0)))∧Ae (w'.heap[E]?=some (.cells #[(.slice none 0 0),.int .i64 0,.bool false,(.slice none 0 0),(.slice none 0 0)] 64 (0,0)))∧Ae (w'.heap[z]?=some (.cells #[(.slice I u.length J),.int .i64 X,.bool Y,u584003,(.slice a1 ar.length a2)] 64 (0,0)))∧Ae (Below w.heap.size w w'))
 case atStart=>exact⟨(0),(([]:List (EI))),(.slice none 0 0),(Cr),H',⟨Nat.le_refl _⟩,⟨by(with_reducible repeat(first|apply Kd.R_alloc|apply Kd.An|apply Kd.As));exact Kd.Aj (IU (g:=z) (Kd.AF aT.o d.o (by decide)) (λ_ y=>y.2) (.slice I u.length J) (.int .i64 X) (.bool Y) (.slice none 0 0) (.slice a1 ar.length a2)) (λ_ y=>trivial)⟩,⟨by first|exact Kd.K2 _ _ _ _ _|exact Kd.N_nil _ _ _ _ _|exact Kd.V_nil _ _ _ _ _|exact Kd.Q_nil _ _ _ _ _|exact Kd.JT _ _ _ _ _⟩,⟨by(with_reducible repeat(first|apply Kd.S_alloc|apply Kd.S_drewN|apply Kd.De));exact Kd.Cu (Kd.BS (p:=⟨z,4,none⟩) (Kd.BS (p:=⟨z,3,none⟩) (Kd.BS (p:=⟨z,2,none⟩) (Kd.BS (p:=⟨z,1,none⟩) (Kd.BS (p:=⟨z,0,none⟩) (Kd.DY bd.o d.o (by decide)) (λ_ y=>y.2) (.slice I u.length J)) (λ_ y=>y.2) (.int .i64 X)) (λ_ y=>y.2) (.bool Y)) (λ_ y=>y.2) (.slice none 0 0)) (λ_ y=>y.2) (.slice a1 ar.length a2)) (λ_ y=>y.1.2)⟩,⟨Dv Z.o a.o⟩,⟨Dv aa.o r.o⟩,⟨Gu d.o⟩,⟨Ad⟩⟩
 clear H';try clear c1
 try clear cl cm cn cp cq cd cf cg cj ck
 try clear cV cW cX cY cZ cQ cR cS cT cU
 obtain⟨D,B,u584003,rfl,HA,cI,l,c,j,a,r,d,HB⟩:=hrel;cases gk with
 | zero=>exact absurd HA.o (by simp[AG.l0])
 | succ k1 =>
  have H:=HA.o
  clear HA
  simp only[AG.l0]at H
  by_cases bI:D<(x.length:Int)
  ·rw[if_pos bI]at H
   have cr:decide (D<(x.length:Int))=true:=BJ bI
   clear bI
   by_cases ct:0≤D
   ·rw[if_pos ct]at H
    have dL:decide (0≤D)=true:=BJ ct
    clear ct
    replace H:=BU H
    obtain⟨⟨bA,bB,a9,ba,bC,bD⟩,cN,H⟩:=H
    try dsimp only at H
    have eg:=a_ cN
    clear cN
    by_cases cu:B.length<1759218604441
    ·rw[if_pos cu]at H
     have dh:=a_ cu
     clear cu
     obtain⟨bb,a5⟩:∃y_:List (EI),y_=(B++[(⟨bA,bB,a9,ba,bC,bD⟩:EI)]):=⟨_,rfl⟩
     replace H:(AG.l0 k1 (wrap64 (D+1)) P T U x m u X Y bb ar)=some (r1,r2,r3,r4,r5):=by first|(rw[a5];with_reducible exact H)|(have av:=(Option.bind_some _ _).symm.trans H;rw[a5];with_reducible exact av)|(have av:=(Option.bind_some _ _).symm.trans H;with_reducible exact av)|with_reducible exact H|(rw[a5];exact H)|exact H
     have dk:=a_ a5
     clear a5
     have H':=a_ H
     clear H
     have ga:=al.o
     have gw:=an.o
     have gb:=Z.o
     have gx:=ag.o
     obtain⟨dB,dC,dD,dE,dF,dp,dq,dr,du,dv⟩:=Cy (W:=wr) a.o
     try go_wp2
     replace l:=a_ (Kd.As l.o)
     replace c:=a_ (Kd.De c.o)
     replace j:=a_ (Kd.De j.o)
     replace a:=a_ (DA a.o)
     replace r:=a_ (DA r.o)
     replace d:=a_ (DA d.o)
     replace HB:=a_ (Ay HB.o)
     have bW:0≤(D:Int):=Bu
     have bX:D<(x.length:Int):=Bu
     obtain⟨ah,bK,bQ,bL,bR,dR,aI,aJ,aK,aM,aN,aQ,bq,bn,br,bo⟩:=O9 df.o D bW bX
     have aH:=aQ
     have aG:=aN
     have aE:=aM
     have aD:=aK
     have aC:=aJ
     have aA:=aI
     cases dR
     replace aI:=(Au HB.o aI:)
     replace aJ:=(Au HB.o aJ:)
     replace aK:=(Au HB.o aK:)
     replace aM:=(Au HB.o aM:)
     replace aN:=(Au HB.o aN:)
     replace aQ:=(Au HB.o aQ:)
     have bh:=a_ bn
     have b6:=a_ bq
     clear bn bq
     have bj:=a_ bo
     have b7:=a_ br
     clear bo br
     replace bW:=eq_true bW
     replace bX:=eq_true bX
     refine Ch (n:=12) (S:=λw'=>w'.cell? ⟨z,0,none⟩=some (.slice I u.length J)∧w'.cell? ⟨z,1,none⟩=some (.int .i64 X)∧w'.cell? ⟨z,2,none⟩=some (.bool Y)∧w'.cell? ⟨z,3,none⟩=some (u584003)∧w'.cell? ⟨z,4,none⟩=some (.slice a1 ar.length a2)∧w'.cell? ⟨L,0,none⟩=some (.slice ae P.length af)∧w'.cell? ⟨L,1,none⟩=some (.int .i64 T)∧w'.cell? ⟨L,2,none⟩=some (.bool U)∧w'.cell? ⟨L,3,none⟩=some (.slice (some ah) x.length ai)∧w'.cell? ⟨L,4,none⟩=some (.slice ay m.length aj)∧w'.cell? (ah.add ((D).toNat*6))=some (.int .i64 ((Aw x D).f0))∧w'.cell? ⟨(ah.add ((D).toNat*6)).block,(ah.add ((D).toNat*6)).off+1,none⟩=some (.int .i64 ((Aw x D).f1))∧w'.cell? ⟨(ah.add ((D).toNat*6)).block,(ah.add ((D).toNat*6)).off+2,none⟩=some (.slice bK ((Aw x D).f2).length bQ)∧w'.cell? ⟨(ah.add ((D).toNat*6)).block,(ah.add ((D).toNat*6)).off+3,none⟩=some (.slice bL ((Aw x D).f3).length bR)∧w'.cell? ⟨(ah.add ((D).toNat*6)).block,(ah.add ((D).toNat*6)).off+4,none⟩=some (.int .i64 ((Aw x D).f4))∧w'.cell? ⟨(ah.add ((D).toNat*6)).block,(ah.add ((D).toNat*6)).off+5,none⟩=some (.int .i64 ((Aw x D).f5))) (ds:=[11]) #[false,false,false,false,false,false,false,false,false,false,false,false] (by kernel_rfl) rfl rfl ⟨(AO d.o 0).trans rfl,(AO d.o 1).trans rfl,(AO d.o 2).trans rfl,(AO d.o 3).trans rfl,(AO d.o 4).trans rfl,(AO a.o 0).trans rfl,(AO a.o 1).trans rfl,(AO a.o 2).trans rfl,(AO a.o 3).trans rfl,(AO a.o 4).trans rfl,((Au HB.o aA:)),((Au HB.o aC:)),((Au HB.o aD:)),((Au HB.o aE:)),((Au HB.o aG:)),((Au HB.o aH:))⟩ (λaX=>?_);refine BZ AG.Nf AG.J0 (λHT_ HW_=>?_)
     generalize wr.drew=g0 at l c j a r d HB bh bj aI aJ aK aM aN aQ aX⊢
     refine A_ 0 19 ?_
     refine A_ 2 21 ?_
     refine A_ 4 23 ?_
     refine Nc 1 20 aX ?_
     refine Nc 3 22 aX ?_
     refine A_ 5 24 ?_
     refine Nc 6 25 aX ?_
     refine EU 7 26 (λK hK=>?_)
     refine Dp Tryd.func27 (by kernel_rfl) rfl #[.agg #[.int .i64 ((Aw x D).f0),.int .i64 ((Aw x D).f1),.slice bK ((Aw x D).f2).length bQ,.slice bL ((Aw x D).f3).length bR,.int .i64 ((Aw x D).f4),.int .i64 ((Aw x D).f5)]] (by rfl) rfl rfl Lz ?_
     with_reducible refine(D7.calls ((Aw x D).f0) ((Aw x D).f1) _ _ ((Aw x D).f2) _ _ ((Aw x D).f3) ((Aw x D).f4) ((Aw x D).f5) bA bB a9 ba bC bD _ ?q' ?z' ?y' ?v' eg.o).mono ?_
     (case q'=>exact Gt bh.o)
     (case z'=>exact b6.o)
     (case y'=>exact Ft (Kd.Ct bj.o HB.o))
     (case v'=>exact b7.o)
     rintro e g1 ⟨gU,gV,rfl,bZ,cB,hb⟩
     refine⟨_,rfl,?_⟩
     replace c:=a_ (Kd.Cu (Kd.Jq (Kd.Jq (Kd.Oj (IV c.o) hb) (Kd.BO bZ)) (Kd.BO cB)) (λ_ h_=>h_.1))
     replace j:=a_ (Kd.G0 (IV j.o) (Kd.BO cB) hb)
     have be:=a_ (Kd.AN bZ (Ab (Ad)))
     have bf:=a_ (Kd.AN (Kd.DC cB (Kd.DQ (BC l.o))) (Ab (Ad)))
     replace l:=a_ (Kd.CB (BC l.o) (Kd.BO cB) hb)
     replace HB:=a_ (BA (Ad) hb)
     replace a:=a_ (C3 a.o hb)
     replace r:=a_ (C3 r.o hb)
     replace d:=a_ (C3 d.o hb)
     try clear hb bZ cB
     obtain⟨cO,c0,da⟩:=Kd.Bg be.o
     (first|subst da|(injection da with bk cv bl;have cw:=bk.symm;have cx:=bl.symm;clear bk cv bl;subst cw;subst cx))
     obtain⟨cP,c_,db⟩:=Kd.Bg bf.o
     (first|subst db|(injection db with bk cv bl;have cw:=bk.symm;have cx:=bl.symm;clear bk cv bl;subst cw;subst cx))
     refine hK.out _ _ ⟨(AO d.o 0).trans rfl,(AO d.o 1).trans rfl,(AO d.o 2).trans rfl,(AO d.o 3).trans rfl,(AO d.o 4).trans rfl,(AO a.o 0).trans rfl,(AO a.o 1).trans rfl,(AO a.o 2).trans rfl,(AO a.o 3).trans rfl,(AO a.o 4).trans rfl,((Au HB.o aA:)),((Au HB.o aC:)),((Au HB.o aD:)),((Au HB.o aE:)),((Au HB.o aG:)),((Au HB.o aH:))⟩ (λaX=>?_)
     clear hK K
     refine Ea 26 ?_
     refine EU 8 27 (λK hK=>?_)
     refine F4 (w1:=?_) (v:=?_) (by rfl) rfl ?_ ?_
     rotate_left 2
     ·go_simp
      constructor
      ·rfl
      ·rfl
     refine hK.out _ _ ⟨(AO (Eb d.o _) 0).trans rfl,(AO (Eb d.o _) 1).trans rfl,(AO (Eb d.o _) 2).trans rfl,(AO (Eb d.o _) 3).trans rfl,(AO (Eb d.o _) 4).trans rfl,(AO (Eb a.o _) 0).trans rfl,(AO (Eb a.o _) 1).trans rfl,(AO (Eb a.o _) 2).trans rfl,(AO (Eb a.o _) 3).trans rfl,(AO (Eb a.o _) 4).trans rfl,(World.cell?_alloc_lt _ _ _ (FF _ _ (((Au HB.o aA:))))).trans (((Au HB.o aA:))),(World.cell?_alloc_lt _ _ _ (FF _ _ (((Au HB.o aC:))))).trans (((Au HB.o aC:))),(World.cell?_alloc_lt _ _ _ (FF _ _ (((Au HB.o aD:))))).trans (((Au HB.o aD:))),(World.cell?_alloc_lt _ _ _ (FF _ _ (((Au HB.o aE:))))).trans (((Au HB.o aE:))),(World.cell?_alloc_lt _ _ _ (FF _ _ (((Au HB.o aG:))))).trans (((Au HB.o aG:))),(World.cell?_alloc_lt _ _ _ (FF _ _ (((Au HB.o aH:))))).trans (((Au HB.o aH:)))⟩ (λaX=>?_)
     clear hK K
     refine Ea 27 ?_
     refine EU 9 28 (λK hK=>?_)
     refine Kd.IF GW (w0:=w) w.heap.size (by rfl) (.tmp 20) (.tmp 27) 61 26 (.agg #[(.int .i64 0),(.int .i64 0),(.slice none 0 0),(.slice none 0 0),(.int .i64 0),(.int .i64 0)]) 80 rfl Tryd.underlying61 KB rfl (by decide) (by omega) u584003 B (⟨bA,bB,a9,ba,bC,bD⟩:EI) [.int .i64 bA,.int .i64 bB,.slice cO a9.length c0,.slice cP ba.length c_,.int .i64 bC,.int .i64 bD] (λM=>some M≠(.slice I u.length J:Value).ownBlock) (λM=>some M=(.slice cO a9.length c0:Value).ownBlock∨some M=(.slice cP ba.length c_:Value).ownBlock) rfl rfl ?aP (λM dN=>dN.elim (λh_=>((Kd.Aj (Fc:=λM=>((λM=>some M≠(.slice I u.length J:Value).ownBlock)) M∧some M≠(u584003:Value).ownBlock) (Kd.Dd (Kd.Dd (be.o) (Kd.C9 l.o) (by decide)) (Kd.Dg c.o) (by decide)) (λM y=>⟨y.1.2,y.2⟩))).1 M h_.symm) (λh_=>((Kd.Aj (Fc:=λM=>((λM=>some M≠(.slice I u.length J:Value).ownBlock)) M∧some M≠(u584003:Value).ownBlock) (Kd.Dd (bf.o) (Kd.Dg c.o) (by decide)) (λM y=>⟨y.1.2,y.2⟩))).1 M h_.symm)) ?aF ?aO ?aB ?aS ?aL ?_
     (case aP=>exact Ig _ _ _ (⟨bA,bB,a9,ba,bC,bD⟩:EI) (Kd.Aj (Kd.Fx rfl (Kd.Aj (Fc:=λM=>((λM=>some M≠(.slice I u.length J:Value).ownBlock)) M∧some M≠(u584003:Value).ownBlock) (Kd.Dd (Kd.Dd (be.o) (Kd.C9 l.o) (by decide)) (Kd.Dg c.o) (by decide)) (λM y=>⟨y.1.2,y.2⟩))) (λ_ h_=>Or.inl h_)) (Kd.Aj (Kd.Fx rfl (Kd.Aj (Fc:=λM=>((λM=>some M≠(.slice I u.length J:Value).ownBlock)) M∧some M≠(u584003:Value).ownBlock) (Kd.Dd (bf.o) (Kd.Dg c.o) (by decide)) (λM y=>⟨y.1.2,y.2⟩))) (λ_ h_=>Or.inr (h_))))
     (case aB=>exact(Ad))
     (case aF=>exact(λM y=>Kd.EA (Kd.DQ (BC l.o)) M y))
     (case aO=>exact(by(with_reducible repeat(first|apply Kd.S_alloc|apply Kd.S_drewN|apply Kd.De));exact Kd.Cu c.o (λM y=>⟨y.1.1,λe_=>e_.elim (λh_=>y.1.2 h_) (λh_=>y.2 h_)⟩)))
     (case aS=>exact(Ab (Ad)))
     (case aL=>have:=dh.o;omega)
     intro gW gK ho hb hg bm
     rw[<-dk.o]at ho
     replace l:=a_ (Kd.Df (BC l.o) (Kd.Dg (IV c.o)) (by decide) hg)
     replace j:=a_ (Kd.Jp (IV j.o) (Kd.Dg (IV c.o)) (by decide) hg)
     replace a:=a_ (AJ (g:=L) (o:=.cells #[.slice ae P.length af,.int .i64 T,.bool U,.slice (some ah) x.length ai,.slice ay m.length aj] 64 (0,0)) (Bp a.o) hg (Kd.JY c.o a.o (by decide)))
     replace r:=a_ (AJ (g:=E) (o:=.cells #[.slice none 0 0,.int .i64 0,.bool false,.slice none 0 0,.slice none 0 0] 64 (0,0)) (Bp r.o) hg (Kd.JY c.o r.o (by decide)))
     replace d:=a_ (AJ (g:=z) (o:=.cells #[.slice I u.length J,.int .i64 X,.bool Y,u584003,.slice a1 ar.length a2] 64 (0,0)) (Bp d.o) hg (Kd.JY c.o d.o (by decide)))
     replace HB:=a_ (hb)
     have b8:=a_ (ho)
     clear c be bf
     clear ho hb hg bm
     obtain⟨bM,bS,dc⟩:=Kd.Ej b8.o
     (first|subst dc|(injection dc with bk cv bl;have cw:=bk.symm;have cx:=bl.symm;clear bk cv bl;subst cw;subst cx))
     refine hK.out _ _ ⟨(AO d.o 0).trans rfl,(AO d.o 1).trans rfl,(AO d.o 2).trans rfl,(AO d.o 3).trans rfl,(AO d.o 4).trans rfl,(AO a.o 0).trans rfl,(AO a.o 1).trans rfl,(AO a.o 2).trans rfl,(AO a.o 3).trans rfl,(AO a.o 4).trans rfl,((Au HB.o aA:)),((Au HB.o aC:)),((Au HB.o aD:)),((Au HB.o aE:)),((Au HB.o aG:)),((Au HB.o aH:))⟩ (λaX=>?_)
     clear hK K
     refine Ea 28 ?_
     refine A_ 10 29 ?_
     refine EX (i:=11) (N:=none) #[true,true,true,true,true,true,true,true,true,true,true,true] rfl rfl (It HT_.o (by kernel_rfl)) (by decide) (λK hK=>?_)
     have gO:gK.cell? ⟨z,3,none⟩=some (u584003):=(AO d.o 3).trans rfl
     have fY:=DT d.o 3
     have ea:=Z.o
     have ec:=aa.o
     have dZ:=ag.o
     have d_:=aw.o
     refine E4 (w1:=?_) (by rfl) rfl ?_ ?_
     rotate_left
     ·go_simp
      rfl
     refine hK.out _ _ ?_
     clear hK K
     refine CT (CU HT_.o (by kernel_rfl)) ?_
     try go_wp2
     go_roundg k1
     case measure=>have:=cI.o;omega
     case rel=>exact⟨(wrap64 (D+1)),(bb),(.slice bM bb.length bS),(Cr),H',⟨by have:=cI.o;omega⟩,⟨by(with_reducible repeat(first|apply Kd.R_alloc|apply Kd.An|apply Kd.As));exact Kd.Aj (Kd.CQ (p:=⟨z,3,none⟩) (Kd.AF l.o d.o (by decide)) (λ_ y=>y.2) (.slice bM bb.length bS)) (λ_ y=>trivial)⟩,⟨by(with_reducible repeat(first|apply Kd.S_alloc|apply Kd.S_drewN|apply Kd.De));exact Kd.Cu (Kd.BS (p:=⟨z,3,none⟩) (Kd.DY b8.o d.o (by decide)) (λ_ y=>y.2) (.slice bM bb.length bS)) (λ_ y=>y.1)⟩,⟨by(with_reducible repeat(first|apply Kd.S_alloc|apply Kd.S_drewN|apply Kd.De));exact Kd.Cu (Kd.BS (p:=⟨z,3,none⟩) (Kd.DY j.o d.o (by decide)) (λ_ y=>y.2) (.slice bM bb.length bS)) (λ_ y=>y.1.1)⟩,⟨Dv Z.o a.o⟩,⟨Dv aa.o r.o⟩,⟨by(with_reducible repeat(first|refine E6 ?_ _|refine DA ?_|refine Eb ?_ _));refine Bw (cs:=#[.slice I u.length J,.int .i64 X,.bool Y,u584003,.slice a1 ar.length a2]) ?_ 3 _ rfl;(with_reducible repeat(first|refine E6 ?_ _|refine DA ?_|refine Eb ?_ _));exact d.o⟩,⟨Ad⟩⟩
    ·rw[if_neg cu]at H
     exact absurd H (by simp)
   ·rw[if_neg ct]at H
    exact absurd H (by simp)
  ·rw[if_neg bI]at H
   have cr:decide (D<(x.length:Int))=false:=C1 bI
   clear bI
   have H':=a_ H
   clear H
   have gf:=al.o
   have gy:=an.o
   have gg:=Z.o
   have gz:=ag.o
   obtain⟨dG,dH,dI,dJ,dK,dw,dx,dy,dz,dA⟩:=Cy (W:=wr) a.o
   go_wp2
   go_loopg [5] k1 (λkq v5 w'=>∃(q:Int) (G:List (Dm)) (u584004:Value),v5=.int .i64 q∧Ae (AG.l1 kq q P T U x m u X Y B G=some (r1,r2,r3,r4,r5))∧Ae (kq≤k1)∧Ae (Kd.R BT 32 w' w.heap.size (λ_=>True) (.slice I u.length J) u)∧Ae (Kd.S GW 26 w' w.heap.size (λM=>some M≠((.slice I u.length J):Value).ownBlock) u584003 B)∧Ae (Kd.S E2 114 w' w.heap.size (λM=>some M≠((.slice I u.length J):Value).ownBlock) u584004 G)∧Ae (w'.heap[L]?=some (.cells #[(.slice ae P.length af),.int .i64 T,.bool U,(.slice ak x.length ai),(.slice ay m.length aj)] 64 (0,0)))∧Ae (w'.heap[E]?=some (.cells #[(.slice none 0 0),.int .i64 0,.bool false,(.slice none 0 0),(.slice none 0 0)] 64 (0,0)))∧Ae (w'.heap[z]?=some (.cells #[(.slice I u.length J),.int .i64 X,.bool Y,u584003,u584004] 64 (0,0)))∧Ae (Below w.heap.size w w'))
   case atStart=>exact⟨(0),(ar),(.slice a1 ar.length a2),(Cr),H',⟨Nat.le_refl _⟩,⟨by(with_reducible repeat(first|apply Kd.R_alloc|apply Kd.An|apply Kd.As));exact l.o⟩,⟨by(with_reducible repeat(first|apply Kd.S_alloc|apply Kd.S_drewN|apply Kd.De));exact c.o⟩,⟨by(with_reducible repeat(first|apply Kd.S_alloc|apply Kd.S_drewN|apply Kd.De));exact j.o⟩,⟨Bp a.o⟩,⟨Bp r.o⟩,⟨Bp d.o⟩,⟨Ad⟩⟩
   case round =>
    clear H'
    try clear bI
    try clear cr
    try clear ct
    try clear dL
    try clear cu
    try clear aI
    try clear aJ
    try clear aK
    try clear aM
    try clear aN
    try clear aQ
    try clear bW
    try clear bX
    try clear cl cm cn cp cq cd cf cg cj ck
    try clear dB dC dD dE dF dp dq dr du dv
    try clear dG dH dI dJ dK dw dx dy dz dA
    try clear cV cW cX cY cZ cQ cR cS cT cU
    obtain⟨q,G,u584004,rfl,HA,dQ,l,c,j,a,r,d,HB⟩:=hrel
    cases gk with
    | zero=>exact absurd HA.o (by simp[AG.l1])
    | succ k2 =>
     have H:=HA.o
     clear HA
     simp only[AG.l1]at H
     by_cases bY:q<(m.length:Int)
     ·rw[if_pos bY]at H
      have dM:decide (q<(m.length:Int))=true:=BJ bY
      clear bY
      by_cases cJ:0≤q
      ·rw[if_pos cJ]at H
       have fX:decide (0≤q)=true:=BJ cJ
       clear cJ
       obtain⟨bE,a6⟩:∃y_:List (AM),y_=(([]:List (AM))):=⟨_,rfl⟩
       replace H:(if bE.length+((AB m q).f2).length<2199023255552 then(if G.length<3518437208883 then(AG.l1 k2 (wrap64 (q+1)) P T U x m u X Y B (G++[(⟨(AB m q).f0,(AB m q).f1,(bE++((AB m q).f2))⟩:Dm)]))else(none))else(none))=some (r1,r2,r3,r4,r5):=by first|(rw[a6];with_reducible exact H)|(have av:=(Option.bind_some _ _).symm.trans H;rw[a6];with_reducible exact av)|(have av:=(Option.bind_some _ _).symm.trans H;with_reducible exact av)|with_reducible exact H|(rw[a6];exact H)|exact H
       have cb:=a_ a6
       clear a6
       by_cases cK:bE.length+((AB m q).f2).length<2199023255552
       ·rw[if_pos cK]at H
        have di:=a_ cK
        clear cK
        obtain⟨ab,a7⟩:∃y_:List (AM),y_=(bE++((AB m q).f2)):=⟨_,rfl⟩
        replace H:(if G.length<3518437208883 then(AG.l1 k2 (wrap64 (q+1)) P T U x m u X Y B (G++[(⟨(AB m q).f0,(AB m q).f1,ab⟩:Dm)]))else(none))=some (r1,r2,r3,r4,r5):=by first|(rw[a7];with_reducible exact H)|(have av:=(Option.bind_some _ _).symm.trans H;rw[a7];with_reducible exact av)|(have av:=(Option.bind_some _ _).symm.trans H;with_reducible exact av)|with_reducible exact H|(rw[a7];exact H)|exact H
        have dm:=a_ a7
        clear a7
        by_cases cL:G.length<3518437208883
        ·rw[if_pos cL]at H
         have dj:=a_ cL
         clear cL
         obtain⟨bc,a8⟩:∃y_:List (Dm),y_=(G++[(⟨(AB m q).f0,(AB m q).f1,ab⟩:Dm)]):=⟨_,rfl⟩
         replace H:(AG.l1 k2 (wrap64 (q+1)) P T U x m u X Y B bc)=some (r1,r2,r3,r4,r5):=by first|(rw[a8];with_reducible exact H)|(have av:=(Option.bind_some _ _).symm.trans H;rw[a8];with_reducible exact av)|(have av:=(Option.bind_some _ _).symm.trans H;with_reducible exact av)|with_reducible exact H|(rw[a8];exact H)|exact H
         have dn:=a_ a8
         clear a8
         have H':=a_ H
         clear H
         have gh:=al.o
         have gA:=an.o
         have gi:=Z.o
         have gB:=ag.o
         obtain⟨fc,fe,fg,fh,fi,ev,ew,ey,ez,eA⟩:=Cy (W:=wr) a.o
         have cG:0≤(q:Int):=Bu
         have cH:q<(m.length:Int):=Bu
         obtain⟨a0,au,ax,dS,bw,bx,bz,bu,bp⟩:=Nz dg.o q cG cH
         cases dS
         replace bw:=(Au HB.o bw:)
         replace bx:=(Au HB.o bx:)
         replace bz:=(Au HB.o bz:)
         have b_:=a_ bp
         have dP:=a_ bu
         clear bp bu
         replace cG:=eq_true cG
         replace cH:=eq_true cH
         go_wp2_with(first|((with_reducible refine Cd (N:=6) rfl ?_);refine CE 6 (#[.int .i64 0,.int .i64 0,.slice none 0 0]) 114 ?_;intro A hg g2 az hb;have O:=a_ (az);have er:=a_ ((by rw[hg];exact(Ab (Ad)):w.heap.size≤A));have ek:=a_ ((by rw[hg];exact(Ab (Ad)):w.heap.size≤A));have aU:=a_ ((by rw[hg];exact Nat.ne_of_lt (AU (g:=L) (o:=.cells #[.slice ae P.length af,.int .i64 T,.bool U,.slice ak x.length ai,.slice (some a0) m.length aj] 64 (0,0)) (Bp a.o)):L≠A));have bF:=a_ ((by rw[hg];exact Nat.ne_of_gt (AU (g:=L) (o:=.cells #[.slice ae P.length af,.int .i64 T,.bool U,.slice ak x.length ai,.slice (some a0) m.length aj] 64 (0,0)) (Bp a.o)):A≠L));have aV:=a_ ((by rw[hg];exact Nat.ne_of_lt (AU (g:=E) (o:=.cells #[.slice none 0 0,.int .i64 0,.bool false,.slice none 0 0,.slice none 0 0] 64 (0,0)) (Bp r.o)):E≠A));have bG:=a_ ((by rw[hg];exact Nat.ne_of_gt (AU (g:=E) (o:=.cells #[.slice none 0 0,.int .i64 0,.bool false,.slice none 0 0,.slice none 0 0] 64 (0,0)) (Bp r.o)):A≠E));have aW:=a_ ((by rw[hg];exact Nat.ne_of_lt (AU (g:=z) (o:=.cells #[.slice I u.length J,.int .i64 X,.bool Y,u584003,u584004] 64 (0,0)) (Bp d.o)):z≠A));have bH:=a_ ((by rw[hg];exact Nat.ne_of_gt (AU (g:=z) (o:=.cells #[.slice I u.length J,.int .i64 X,.bool Y,u584003,u584004] 64 (0,0)) (Bp d.o)):A≠z));replace l:=a_ (Kd.AZ (BC l.o) hb);replace c:=a_ (Kd.Fy (IV c.o) hb);replace j:=a_ (Kd.Fy (Kd.JX (IV j.o) A (Nat.le_of_eq hg.symm)) hb);replace a:=a_ (C3 a.o hb);replace r:=a_ (C3 r.o hb);replace d:=a_ (C3 d.o hb);replace HB:=a_ (BA (Ad) hb);clear hb az hg;have gj:=bF.o;have gC:=aU.o;have gl:=bG.o;have gD:=aV.o;have gm:=bH.o;have gE:=aW.o;obtain⟨fj,fk,fl,eB,eC,eD⟩:=DK O.o)|((with_reducible refine Cd (N:=42) rfl ?_);refine Kd.DD BT _ 32 ?hg (N:=42) ?hd (xs:=([]:List (AM))) (inner:=[]) (ok:=λ_=>True) (okp:=λ_=>True) ?hr ?hp (λ_ y=>y) trivial (Below.refl _ _) (Nat.le_refl _) (by simp) ?_;(case hd=>rfl);(case hg=>rfl);(case hr=>first|(go_simp;done)|(go_simp;rfl));(case hp=>exact(Bi.none _ _));intro ef g3 a3 hb Du bJ;clear Du bJ;(first|rw[<-cb.o]at a3|(simp only[Int.reduceToNat]at a3;rw[<-cb.o]at a3));have aY:=a_ (Kd.AN (Kd.DC a3 (Kd.DQ (by(with_reducible repeat(first|apply Kd.R_alloc|apply Kd.An|apply Kd.As));exact(Kd.Aj (L6 (g:=A) (Kd.AF l.o O.o (by decide)) (λ_ y=>y.2) (.int .i64 ((AB m q).f0)) (.int .i64 ((AB m q).f1)) (.slice au ((AB m q).f2).length ax)) (λ_ h_=>h_.1))))) (Ab (Ad)));replace l:=a_ (Kd.CB (by(with_reducible repeat(first|apply Kd.R_alloc|apply Kd.An|apply Kd.As));exact(Kd.Aj (L6 (g:=A) (Kd.AF l.o O.o (by decide)) (λ_ y=>y.2) (.int .i64 ((AB m q).f0)) (.int .i64 ((AB m q).f1)) (.slice au ((AB m q).f2).length ax)) (λ_ h_=>h_.1))) (Kd.BO a3) hb);replace c:=a_ (Kd.G0 (by(with_reducible repeat(first|apply Kd.S_alloc|apply Kd.S_drewN|apply Kd.De));exact(Kd.Cu (Kd.BS (p:=⟨A,2,none⟩) (Kd.BS (p:=⟨A,1,none⟩) (Kd.BS (p:=⟨A,0,none⟩) (Kd.DY c.o O.o (by decide)) (λ_ y=>y.2) (.int .i64 ((AB m q).f0))) (λ_ y=>y.2) (.int .i64 ((AB m q).f1))) (λ_ y=>y.2) (.slice au ((AB m q).f2).length ax)) (λ_ h_=>h_.1))) (Kd.BO a3) hb);replace j:=a_ (Kd.G0 (by(with_reducible repeat(first|apply Kd.S_alloc|apply Kd.S_drewN|apply Kd.De));exact(Kd.Cu (Kd.BS (p:=⟨A,2,none⟩) (Kd.BS (p:=⟨A,1,none⟩) (Kd.BS (p:=⟨A,0,none⟩) (Kd.Cu j.o (λM y=>(⟨y,y.2⟩:_∧M≠A))) (λ_ y=>y.2) (.int .i64 ((AB m q).f0))) (λ_ y=>y.2) (.int .i64 ((AB m q).f1))) (λ_ y=>y.2) (.slice au ((AB m q).f2).length ax)) (λ_ h_=>h_.1))) (Kd.BO a3) hb);replace a:=a_ (Az (g:=L) (o:=.cells #[.slice ae P.length af,.int .i64 T,.bool U,.slice ak x.length ai,.slice (some a0) m.length aj] 64 (0,0)) (Dv aU.o a.o) hb);replace r:=a_ (Az (g:=E) (o:=.cells #[.slice none 0 0,.int .i64 0,.bool false,.slice none 0 0,.slice none 0 0] 64 (0,0)) (Dv aV.o r.o) hb);replace d:=a_ (Az (g:=z) (o:=.cells #[.slice I u.length J,.int .i64 X,.bool Y,u584003,u584004] 64 (0,0)) (Dv aW.o d.o) hb);replace O:=a_ (Az (g:=A) (o:=.cells #[.int .i64 ((AB m q).f0),.int .i64 ((AB m q).f1),.slice au ((AB m q).f2).length ax] 114 (0,0)) (NP O.o) hb);replace HB:=a_ (BA (Ad) hb);clear hb a3;obtain⟨fm,fo,fp,eE,eF,eG⟩:=DK O.o)|((with_reducible refine Bt (b:=.append) (xs:=#[.tmp 42,.tmp 44]) rfl ?_);at_builtin;refine Kd.Co BT (w0:=w) w.heap.size rfl (.tmp 42) (.tmp 44) 24 32 (.agg #[(.int .i64 0),(.int .i64 0),(.int .i64 0),(.int .i64 0),(.int .i64 0),(.int .i64 0),(.string ⟨#[]⟩)]) 64 rfl Tryd.underlying24 C7 rfl (by decide) (by omega) ef bE ((AB m q).f2) _ _ _ (λM=>some M≠(.slice I u.length J:Value).ownBlock) (λ_=>False) rfl rfl ?aO ?aR (λ_ _ h=>h) (λ_ h=>h.elim) ?aF ?aB ?aS ?aL ?_;(case aR=>exact Ft (Kd.Ct b_.o HB.o));(case aB=>exact(Ad));(case aF=>exact(λM y=>Kd.EA (Kd.DQ (BC l.o)) M y));(case aO=>exact(by(with_reducible repeat(first|apply Kd.R_alloc|apply Kd.An|apply Kd.As));exact Kd.Aj aY.o (λ_ y=>y.2)));(case aS=>exact(Ab (Ad)));(case aL=>have:=di.o;omega);intro gX gL ho hb hg bm;rw[<-dm.o]at ho;replace l:=a_ (Kd.Ei (ok:=(λ_=>True)) (BC l.o) hg bm);replace c:=a_ (Kd.KZ (ok:=(λM=>some M≠(.slice I u.length J:Value).ownBlock)) (IV c.o) hg bm);replace j:=a_ (Kd.KZ (ok:=(λM=>some M≠(.slice I u.length J:Value).ownBlock∧M≠A)) (IV j.o) hg bm);replace a:=a_ (AJ (g:=L) (o:=.cells #[.slice ae P.length af,.int .i64 T,.bool U,.slice ak x.length ai,.slice (some a0) m.length aj] 64 (0,0)) (Bp a.o) hg (Kd.Ez aY.o a.o (by decide)));replace r:=a_ (AJ (g:=E) (o:=.cells #[.slice none 0 0,.int .i64 0,.bool false,.slice none 0 0,.slice none 0 0] 64 (0,0)) (Bp r.o) hg (Kd.Ez aY.o r.o (by decide)));replace d:=a_ (AJ (g:=z) (o:=.cells #[.slice I u.length J,.int .i64 X,.bool Y,u584003,u584004] 64 (0,0)) (Bp d.o) hg (Kd.Ez aY.o d.o (by decide)));replace O:=a_ (AJ (g:=A) (o:=.cells #[.int .i64 ((AB m q).f0),.int .i64 ((AB m q).f1),.slice au ((AB m q).f2).length ax] 114 (0,0)) (Bp O.o) hg (Kd.Ez aY.o O.o (by decide)));replace HB:=a_ (hb);have aZ:=a_ (ho);clear aY;clear ho hb hg bm;obtain⟨ao,aq,dV⟩:=Kd.Bg aZ.o;subst dV;obtain⟨fq,ft,fu,eH,eI,eJ⟩:=DK O.o)|((with_reducible refine CS (t:=24) (p:=46) rfl ?_);refine Cx (t:=24) (p:=46) (v:=?m') (w1:=(gL.setCell ⟨A,2,none⟩ (.slice ao ab.length aq))) ?hg ?ho ?hn ?hr ?_;(case ho=>rfl);(case hg=>rfl);(case hn=>rfl);(case hr=>first|(go_simp;done)|(go_simp;rfl));intro bg hw;replace l:Ae (Kd.R BT 32 bg w.heap.size (λM=>some M≠(.slice ao ab.length aq:Value).ownBlock) (.slice I u.length J) u):=⟨(by rw[hw];exact(by(with_reducible repeat(first|apply Kd.R_alloc|apply Kd.An|apply Kd.As));exact Kd.Aj (Kd.CQ (p:=⟨A,2,none⟩) (Kd.AF l.o O.o (by decide)) (λ_ y=>y.2) (.slice ao ab.length aq)) (λ_ y=>y.1.2)))⟩;replace c:Ae (Kd.S GW 26 bg w.heap.size (λM=>some M≠(.slice I u.length J:Value).ownBlock∧some M≠(.slice ao ab.length aq:Value).ownBlock) u584003 B):=⟨(by rw[hw];exact(by(with_reducible repeat(first|apply Kd.S_alloc|apply Kd.S_drewN|apply Kd.De));exact Kd.Cu (Kd.BS (p:=⟨A,2,none⟩) (Kd.DY c.o O.o (by decide)) (λ_ y=>y.2) (.slice ao ab.length aq)) (λ_ y=>⟨y.1.1,y.1.2⟩)))⟩;replace j:Ae (Kd.S E2 114 bg w.heap.size (λM=>some M≠(.slice I u.length J:Value).ownBlock∧some M≠(.slice ao ab.length aq:Value).ownBlock∧M≠A) u584004 G):=⟨(by rw[hw];exact(by(with_reducible repeat(first|apply Kd.S_alloc|apply Kd.S_drewN|apply Kd.De));exact Kd.Cu (Kd.BS (p:=⟨A,2,none⟩) (Kd.Cu j.o (λM y=>(⟨y,y.1.2⟩:_∧M≠A))) (λ_ y=>y.2) (.slice ao ab.length aq)) (λ_ y=>⟨y.1.1.1,⟨y.1.2,y.1.1.2⟩⟩)))⟩;replace aZ:Ae (Kd.R BT 32 bg w.heap.size (λM=>some M≠(.slice I u.length J:Value).ownBlock) (.slice ao ab.length aq) ab):=⟨(by rw[hw];exact(by(with_reducible repeat(first|apply Kd.R_alloc|apply Kd.An|apply Kd.As));exact Kd.Aj (Kd.CQ (p:=⟨A,2,none⟩) (Kd.AF aZ.o O.o (by decide)) (λ_ y=>y.2) (.slice ao ab.length aq)) (λ_ y=>y.1)))⟩;replace a:Ae (bg.heap[L]?=some (.cells #[.slice ae P.length af,.int .i64 T,.bool U,.slice ak x.length ai,.slice (some a0) m.length aj] 64 (0,0))):=⟨(by rw[hw];exact(Dv aU.o a.o))⟩;replace r:Ae (bg.heap[E]?=some (.cells #[.slice none 0 0,.int .i64 0,.bool false,.slice none 0 0,.slice none 0 0] 64 (0,0))):=⟨(by rw[hw];exact(Dv aV.o r.o))⟩;replace d:Ae (bg.heap[z]?=some (.cells #[.slice I u.length J,.int .i64 X,.bool Y,u584003,u584004] 64 (0,0))):=⟨(by rw[hw];exact(Dv aW.o d.o))⟩;replace O:Ae (bg.heap[A]?=some (.cells #[.int .i64 ((AB m q).f0),.int .i64 ((AB m q).f1),.slice ao ab.length aq] 114 (0,0))):=⟨(by rw[hw];exact(by(with_reducible repeat(first|refine E6 ?_ _|refine DA ?_|refine Eb ?_ _));refine Bw (cs:=#[.int .i64 ((AB m q).f0),.int .i64 ((AB m q).f1),.slice au ((AB m q).f2).length ax]) ?_ 2 _ rfl;(with_reducible repeat(first|refine E6 ?_ _|refine DA ?_|refine Eb ?_ _));exact O.o))⟩;replace HB:Ae (Below w.heap.size w bg):=⟨(by rw[hw];exact(Ad))⟩;clear hw;have gn:=aw.o;have gF:=aa.o;obtain⟨fv,fw,fx,fy,fz,eK,eL,eM,eN,eO⟩:=Cy d.o;obtain⟨fA,fB,fC,eP,eQ,eR⟩:=DK O.o)|((with_reducible refine Bt (b:=.append) (xs:=#[.tmp 48,.tmp 50]) rfl ?_);at_builtin;refine Kd.JW E2 (w0:=w) w.heap.size rfl (.tmp 48) (.tmp 50) 62 114 (.agg #[(.int .i64 0),(.int .i64 0),(.slice none 0 0)]) 40 rfl Tryd.underlying62 G7 rfl (by decide) (by omega) u584004 G (⟨(AB m q).f0,(AB m q).f1,ab⟩:Dm) [.int .i64 ((AB m q).f0),.int .i64 ((AB m q).f1),.slice ao ab.length aq] (λM=>some M≠(.slice I u.length J:Value).ownBlock∧M≠A) (λM=>some M=(.slice ao ab.length aq:Value).ownBlock) rfl rfl ?aP (λM dN=>((Kd.Aj (Fc:=λM=>((λM=>some M≠(.slice I u.length J:Value).ownBlock∧M≠A)) M∧some M≠(u584004:Value).ownBlock) (Kd.AF (Kd.Dd (aZ.o) (Kd.Dg j.o) (by decide)) O.o (by decide)) (λM y=>⟨⟨y.1.1,y.2⟩,y.1.2⟩))).1 M dN.symm) ?aF ?aO ?aB ?aS ?aL ?_;(case aP=>exact MQ _ _ _ (⟨(AB m q).f0,(AB m q).f1,ab⟩:Dm) (Kd.Aj (Kd.Fx rfl (Kd.Aj (Fc:=λM=>((λM=>some M≠(.slice I u.length J:Value).ownBlock∧M≠A)) M∧some M≠(u584004:Value).ownBlock) (Kd.AF (Kd.Dd (aZ.o) (Kd.Dg j.o) (by decide)) O.o (by decide)) (λM y=>⟨⟨y.1.1,y.2⟩,y.1.2⟩))) (λ_ h_=>h_)));(case aB=>exact(Ad));(case aF=>exact(λM y=>⟨Kd.EA (Kd.DQ (BC l.o)) M y,Kd.EB (g:=A) (o:=.cells #[.int .i64 ((AB m q).f0),.int .i64 ((AB m q).f1),.slice ao ab.length aq] 114 (0,0)) (Bp O.o) M y⟩));(case aO=>exact(by(with_reducible repeat(first|apply Kd.S_alloc|apply Kd.S_drewN|apply Kd.De));exact Kd.Cu j.o (λM y=>⟨⟨y.1,y.2.2⟩,λe_=>y.2.1 e_⟩)));(case aS=>exact(Ab (Ad)));(case aL=>have:=dj.o;omega);intro gY g4 ho hb hg bm;rw[<-dn.o]at ho;replace l:=a_ (Kd.Df (BC l.o) (Kd.Dg (IV j.o)) (by decide) hg);replace c:=a_ (Kd.Jp (IV c.o) (Kd.Dg (IV j.o)) (by decide) hg);replace a:=a_ (AJ (g:=L) (o:=.cells #[.slice ae P.length af,.int .i64 T,.bool U,.slice ak x.length ai,.slice (some a0) m.length aj] 64 (0,0)) (Bp a.o) hg (Kd.JY j.o a.o (by decide)));replace r:=a_ (AJ (g:=E) (o:=.cells #[.slice none 0 0,.int .i64 0,.bool false,.slice none 0 0,.slice none 0 0] 64 (0,0)) (Bp r.o) hg (Kd.JY j.o r.o (by decide)));replace d:=a_ (AJ (g:=z) (o:=.cells #[.slice I u.length J,.int .i64 X,.bool Y,u584003,u584004] 64 (0,0)) (Bp d.o) hg (Kd.JY j.o d.o (by decide)));replace O:=a_ (AJ (g:=A) (o:=.cells #[.int .i64 ((AB m q).f0),.int .i64 ((AB m q).f1),.slice ao ab.length aq] 114 (0,0)) (Bp O.o) hg (Kd.Mk j.o (λ_ y=>y.2.2)));replace HB:=a_ (hb);have b9:=a_ (ho);clear j aZ;clear ho hb hg bm;obtain⟨bN,bT,dW⟩:=Kd.Ej b9.o;subst dW;obtain⟨fD,fE,fF,fG,fH,eS,eT,eU,eV,eW⟩:=Cy d.o))
         go_roundg k2
         case measure=>have:=cI.o;have:=dQ.o;omega
         case rel=>exact⟨(wrap64 (q+1)),(bc),(.slice bN bc.length bT),(Cr),H',⟨by have:=cI.o;have:=dQ.o;omega⟩,⟨by(with_reducible repeat(first|apply Kd.R_alloc|apply Kd.An|apply Kd.As));exact Kd.Aj (Kd.CQ (p:=⟨z,4,none⟩) (Kd.AF l.o d.o (by decide)) (λ_ y=>y.2) (.slice bN bc.length bT)) (λ_ y=>trivial)⟩,⟨by(with_reducible repeat(first|apply Kd.S_alloc|apply Kd.S_drewN|apply Kd.De));exact Kd.Cu (Kd.BS (p:=⟨z,4,none⟩) (Kd.DY c.o d.o (by decide)) (λ_ y=>y.2) (.slice bN bc.length bT)) (λ_ y=>y.1.1)⟩,⟨by(with_reducible repeat(first|apply Kd.S_alloc|apply Kd.S_drewN|apply Kd.De));exact Kd.Cu (Kd.BS (p:=⟨z,4,none⟩) (Kd.DY b9.o d.o (by decide)) (λ_ y=>y.2) (.slice bN bc.length bT)) (λ_ y=>y.1.1)⟩,⟨Dv Z.o a.o⟩,⟨Dv aa.o r.o⟩,⟨by(with_reducible repeat(first|refine E6 ?_ _|refine DA ?_|refine Eb ?_ _));refine Bw (cs:=#[.slice I u.length J,.int .i64 X,.bool Y,u584003,u584004]) ?_ 4 _ rfl;(with_reducible repeat(first|refine E6 ?_ _|refine DA ?_|refine Eb ?_ _));exact d.o⟩,⟨Ad⟩⟩
        ·rw[if_neg cL]at H
         exact absurd H (by simp)
       ·rw[if_neg cK]at H
        exact absurd H (by simp)
      ·rw[if_neg cJ]at H
       exact absurd H (by simp)
     ·rw[if_neg bY]at H
      have dM:decide (q<(m.length:Int))=false:=C1 bY
      clear bY
      simp only[Option.some.injEq,Prod.mk.injEq]at H
      obtain⟨rfl,rfl,rfl,rfl,rfl⟩:=H
      have gp:=al.o
      have gG:=an.o
      have gq:=Z.o
      have gH:=ag.o
      obtain⟨fI,fJ,fK,fL,fM,eX,eY,eZ,e0,e1⟩:=Cy (W:=wr) a.o
      have gr:=aw.o
      have gI:=aa.o
      obtain⟨fN,fO,fP,fQ,fR,e2,e3,e4,e5,e6⟩:=Cy (W:=wr) d.o
      obtain⟨fS,fT,fU,fV,fW,e7,e8,e9,fa,fb⟩:=Cy (W:=wr) r.o
      obtain⟨bO,bU,dX⟩:=Kd.Ej c.o
      subst dX
      obtain⟨bP,bV,dY⟩:=Kd.Ej j.o
      subst dY
      go_wp2
      refine bodyPost_ret (results_cell_row rfl _ _ E 64 #[.slice I u.length J,.int .i64 X,.bool Y,.slice bO B.length bU,.slice bP G.length bV] (0,0) _ rfl (Gu r.o) Tryd.underlying64 rfl (by kernel_rfl)) rfl ?_
      exact⟨_,_,_,C_,by(with_reducible repeat(first|apply Kd.R_alloc|apply Kd.An|apply Kd.As));exact Kd.Aj (IU (g:=E) (Kd.AF l.o r.o (by decide)) (λ_ y=>y.2) (.slice I u.length J) (.int .i64 X) (.bool Y) (.slice bO B.length bU) (.slice bP G.length bV)) (λ_ y=>trivial),by(with_reducible repeat(first|apply Kd.S_alloc|apply Kd.S_drewN|apply Kd.De));exact Kd.Cu (Kd.BS (p:=⟨E,4,none⟩) (Kd.BS (p:=⟨E,3,none⟩) (Kd.BS (p:=⟨E,2,none⟩) (Kd.BS (p:=⟨E,1,none⟩) (Kd.BS (p:=⟨E,0,none⟩) (Kd.DY c.o r.o (by decide)) (λ_ y=>y.2) (.slice I u.length J)) (λ_ y=>y.2) (.int .i64 X)) (λ_ y=>y.2) (.bool Y)) (λ_ y=>y.2) (.slice bO B.length bU)) (λ_ y=>y.2) (.slice bP G.length bV)) (λ_ y=>y.1),by(with_reducible repeat(first|apply Kd.S_alloc|apply Kd.S_drewN|apply Kd.De));exact Kd.Cu (Kd.BS (p:=⟨E,4,none⟩) (Kd.BS (p:=⟨E,3,none⟩) (Kd.BS (p:=⟨E,2,none⟩) (Kd.BS (p:=⟨E,1,none⟩) (Kd.BS (p:=⟨E,0,none⟩) (Kd.DY j.o r.o (by decide)) (λ_ y=>y.2) (.slice I u.length J)) (λ_ y=>y.2) (.int .i64 X)) (λ_ y=>y.2) (.bool Y)) (λ_ y=>y.2) (.slice bO B.length bU)) (λ_ y=>y.2) (.slice bP G.length bV)) (λ_ y=>y.1),Ad⟩
end Go.Proofs.YtlhlpfnljglhoaaDoor.P
namespace Go.Proofs.YtlhlpfnljglhoaaDoor.P
open Go.RowKit Go.Proofs.YtlhlpfnljglhoaaDoorW.PrintWords Go.Proofs.YtlhlpfnljglhoaaDoorW.Bc Go.Proofs.YtlhlpfnljglhoaaDoorW.C6
structure Wd where
 l0:Dk
 s:Int
 u:Bool
 l3:Ef
 l4:Dl
structure IY where
 k:Int
 CL:Int
 n:Int
 o:Et
def DM.f(k:Nat)(x:Wd)(m:Dm):Option Wd :=
 if m.f0=0 then(if(0:Int)<(m.f2.length:Int)then
   ((D6.f k x.l0 x.s x.u (Aa m.f2 0).f0 (Aa m.f2 0).f1 (Aa m.f2 0).f2.f0 (Aa m.f2 0).f2.f1 (Aa m.f2 0).f2.f2 (Aa m.f2 0).f2.f3 (Aa m.f2 0).f2.f4).bind λp=>some ⟨p.1,p.2.1,p.2.2.1,x.l3,x.l4⟩)else none)
 else(if 0≤wrap64 (m.f0-1)then(if wrap64 (m.f0-1)<(x.l3.length:Int)then
   ((Ap.f k (Aw x.l3 (wrap64 (m.f0-1))).f0 (Aw x.l3 (wrap64 (m.f0-1))).f1 (Aw x.l3 (wrap64 (m.f0-1))).f2 (Aw x.l3 (wrap64 (m.f0-1))).f3 (Aw x.l3 (wrap64 (m.f0-1))).f4 (Aw x.l3 (wrap64 (m.f0-1))).f5 m.f1 m.f2).bind λq =>
    some ⟨x.l0,x.s,x.u,x.l3.set (wrap64 (m.f0-1)).toNat ⟨q.1,q.2.1,q.2.2.1,q.2.2.2.1,q.2.2.2.2.1,q.2.2.2.2.2.1⟩,x.l4⟩)else none)else none)
def DG.f(k:Nat)(x:Wd)(e:IY):Option Wd :=
 if x.l4.length≤1000 then(if 0≤e.n∧e.n<(x.l4.length:Int)then
  (if e.k=10 then some ⟨x.l0,x.s,x.u,x.l3,BI.f x.l4 (AB x.l4 e.n)⟩
   else(if e.k=8 then DM.f k ⟨x.l0,x.s,x.u,x.l3,x.l4.take e.n.toNat++x.l4.drop (e.n.toNat+1)⟩ (AB x.l4 e.n)
    else some ⟨x.l0,x.s,x.u,x.l3,x.l4.take e.n.toNat++x.l4.drop (e.n.toNat+1)⟩))else some x)else none
def Gb:Dl->Dk->Dl
 | l4,[]=>l4
 | l4,e::l=>Gb (BI.f l4 ⟨0,0,[e]⟩) l
def DH.f(k:Nat)(x:Wd)(e:IY):Option Wd :=
 if 1≤e.CL∧e.CL≤3 then(if e.CL-1<(x.l3.length:Int)then
  (if e.k=1 then((Cg.f k (Aw x.l3 (e.CL-1)).f0 (Aw x.l3 (e.CL-1)).f1 (Aw x.l3 (e.CL-1)).f2 (Aw x.l3 (e.CL-1)).f3 (Aw x.l3 (e.CL-1)).f4 (Aw x.l3 (e.CL-1)).f5 e.o.f0 e.o.f1 e.o.f2 e.o.f3 e.o.f4).bind λq =>
    some ⟨x.l0,x.s,x.u,x.l3.set (e.CL-1).toNat ⟨q.1,q.2.1,q.2.2.1,q.2.2.2.1,q.2.2.2.2.1,q.2.2.2.2.2.1⟩,x.l4⟩)
   else(if e.k=2 then some ⟨x.l0,x.s,x.u,x.l3,Gb x.l4 (Aw x.l3 (e.CL-1)).f3⟩
    else(if e.k=4 then(if x.u=true then(if 0≤e.n∧e.n≤x.s then
      ((Di.f k x.l0 x.s true e.n).bind λl=>some ⟨x.l0,x.s,x.u,x.l3,BI.f x.l4 ⟨e.CL,e.n,l⟩⟩)else some x)else some x)else some x)))else none)else some x
def Es.f(k:Nat)(x:Wd)(e:IY):Option Wd :=
 if e.k=1∨e.k=2∨e.k=4 then DH.f k x e
 else if e.k=3 then(if x.u=true then some ⟨x.l0,x.l0.length,x.u,x.l3,x.l4⟩else some x)
 else if e.k=5 then(if 0≤e.n∧e.n≤40 then((D5.f x.l0 x.s x.u e.n).bind λp=>some ⟨p.1,p.2.1,p.2.2,x.l3,x.l4⟩)else some x)
 else if e.k=6∨e.k=7 then some ⟨x.l0,x.s,decide (e.k=7),x.l3,x.l4⟩
 else if e.k=8∨e.k=9∨e.k=10 then DG.f k x e
 else some x
def IM:Et:=⟨0,0,0,0,⟨#[]⟩⟩
def Gh(k:Nat)(b:List Int)(p:Int)(x:Wd):Option (IY×Int) :=
 (Ac.f k b p (wrap64 ((x.l4.length:Int)+1))).bind λr=>(Ac.f k b r.2 2).bind λq=>some (⟨8,0,wrap64 (r.1*q.1),IM⟩,q.2)
def DN.f(k:Nat)(b:List Int)(p:Int)(x:Wd):Option (IY×Int) :=
 (Ac.f k b p 3).bind λw=>if 0≤w.1 then(if w.1<(x.l3.length:Int)then
  ((Ac.f k b w.2 14).bind λq =>
   if q.1=0∨q.1=1∨q.1=2∨q.1=3 then
    ((Cb.f k (Aw x.l3 w.1).f2 (Aw x.l3 w.1).f3).bind λt=>(Av.f k b q.2 t (1+w.1) (Aw x.l3 w.1).f5).bind λo=>some (⟨1,1+w.1,0,⟨o.1,o.2.1,o.2.2.1,o.2.2.2.1,o.2.2.2.2.1⟩⟩,o.2.2.2.2.2))
   else if q.1=4 then some (⟨2,1+w.1,0,IM⟩,q.2)
   else if q.1=5∨q.1=6 then some (⟨3,0,0,IM⟩,q.2)
   else if q.1=7∨q.1=8 then((Ac.f k b q.2 4).bind λr=>some (⟨4,1+w.1,wrap64 (Int.tdiv (wrap64 (mn (Aw x.l3 w.1).f1 x.s*r.1)) 3),IM⟩,r.2))
   else if q.1=9 then((Ac.f k b q.2 3).bind λr =>
    if r.1=0 then((Ac.f k b r.2 3).bind λv=>some (⟨5,0,v.1,IM⟩,v.2))
    else if x.u=true then((Ac.f k b r.2 4).bind λv=>if v.1=0 then some (⟨6,0,0,IM⟩,v.2)else Gh k b v.2 x)
    else some (⟨7,0,0,IM⟩,r.2))
   else if q.1=10 then((Ac.f k b q.2 2).bind λr=>(Ac.f k b r.2 (wrap64 ((x.l4.length:Int)+1))).bind λv =>
    if r.1=0 then some (⟨10,0,v.1,IM⟩,v.2)else some (⟨9,0,v.1,IM⟩,v.2))
   else Gh k b q.2 x)else none)else none
def Cc.l0:Nat->List Int->Int->Int->Wd->Option (Wd×Int)
 | 0,_,_,_,_=>none
 | k+1,b,p,n,x=>if n>0 then((DN.f k b p x).bind λe=>(Es.f k x e.1).bind λy=>Cc.l0 k b e.2 (wrap64 (n-1)) y)else some (x,p)
def Cc.f(k:Nat)(b:List Int)(p:Int):Option (Wd×Int) :=
 (Bh.f k).bind λw=>(Ac.f k b p 46).bind λn=>if n.1≤1000 then((Cc.l0 k b n.2 n.1 ⟨w.1,w.2.1,w.2.2.1,w.2.2.2.1,w.2.2.2.2⟩).bind λq =>
  (AG.f k q.1.l0 q.1.s q.1.u q.1.l3 q.1.l4).bind λc=>some (⟨c.1,c.2.1,c.2.2.1,c.2.2.2.1,c.2.2.2.2⟩,q.2))else none
def DO.f(k:Nat)(b:List Int)(p:Int):Option (Wd×Int) :=
 (Cc.f k b p).bind λy=>(Ac.f k b y.2 3).bind λi=>(Ac.f k b i.2 40).bind λq =>
  if q.1=0 then((Ac.f k b q.2 3).bind λr=>some (⟨y.1.l0,wrap64 (wrap64 (y.1.s+r.1)-1),y.1.u,y.1.l3,y.1.l4⟩,r.2))
  else if q.1=1 then(if 0≤i.1∧i.1<(y.1.l3.length:Int)then((Ac.f k b q.2 5).bind λr=>some (⟨y.1.l0,y.1.s,y.1.u,y.1.l3.set i.1.toNat { Aw y.1.l3 i.1 with f1:=r.1 },y.1.l4⟩,r.2))else none)
  else if q.1=2 then(if 0≤i.1∧i.1<(y.1.l3.length:Int)then((Ac.f k b q.2 8).bind λr=>some (⟨y.1.l0,y.1.s,y.1.u,y.1.l3.set i.1.toNat { Aw y.1.l3 i.1 with f5:=r.1 },y.1.l4⟩,r.2))else none)
  else if q.1=3 then((AQ.f k b q.2).bind λr=>some (⟨r.1,y.1.s,y.1.u,y.1.l3,y.1.l4⟩,r.2))
  else if q.1=4 then(if 1≤y.1.l3.length then some (⟨y.1.l0,y.1.s,y.1.u,y.1.l3.drop 1,y.1.l4⟩,q.2)else none)
  else some (y.1,q.2)
def CJ.f(k:Nat)(b:List Int)(p:Int):Option (Int×Int×List Ba×List AM×Int×Int×Int) :=
 (DO.f k b p).bind λy=>(Ac.f k b y.2 (y.1.l3.length:Int)).bind λi=>if 0≤i.1 then(if i.1<(y.1.l3.length:Int)then
  ((Ac.f k b i.2 24).bind λq =>
   if q.1=0 then((Ac.f k b q.2 4).bind λr=>some ((Aw y.1.l3 i.1).f0,(Aw y.1.l3 i.1).f1,(Aw y.1.l3 i.1).f2,(Aw y.1.l3 i.1).f3,r.1,(Aw y.1.l3 i.1).f5,r.2))
   else if q.1=1 then((Ac.f k b q.2 9).bind λr=>(AY.f k b r.2).bind λo=>if(Aw y.1.l3 i.1).f3.length<1000000 then
    some ((Aw y.1.l3 i.1).f0,(Aw y.1.l3 i.1).f1,(Aw y.1.l3 i.1).f2,(Aw y.1.l3 i.1).f3++[⟨(Aw y.1.l3 i.1).f0,wrap64 (1+r.1),⟨o.1,o.2.1,o.2.2.1,o.2.2.2.1,o.2.2.2.2.1⟩⟩],(Aw y.1.l3 i.1).f4,(Aw y.1.l3 i.1).f5,o.2.2.2.2.2)else none)
   else some ((Aw y.1.l3 i.1).f0,(Aw y.1.l3 i.1).f1,(Aw y.1.l3 i.1).f2,(Aw y.1.l3 i.1).f3,(Aw y.1.l3 i.1).f4,(Aw y.1.l3 i.1).f5,q.2))else none)else none
section
variable {w0 w W W1:World} {zs zs':List Nat} {S S':Nat->Prop} {bs:List Bx} {v0 v3 v4 u:Value} {l0:Dk} {l3:Ef} {l4:Dl}
theorem St.drew(h:St w0 w W zs S bs v0 v3 v4 l0 l3 l4):St w0 w W.drew zs S bs v0 v3 v4 l0 l3 l4 :=
 ⟨⟨EN h.M.hB,h.M.hz,Kd.AR h.M.h0,Kd.Mh h.M.h3,Kd.Mh h.M.h4⟩,⟨h.B.at_,h.B.nd,h.B.ge,h.B.mem,Kept.drew h.B.hK⟩,h.hw⟩
theorem WM.dt(h:WM w0 W zs v0 v3 v4 l0 l3 l4){k:Nat}(a:W.heap.size≤k):Dt zs v3 v4 k:=⟨λe=>by have:=h.hz k e;omega,λe=>by have:=Kd.JS h.h3 k e.symm;omega,λe=>by have:=Kd.JS h.h4 k e.symm;omega⟩
theorem St.Qf{b:Nat}{c:Value}{a:Dk}(h:St w0 w W zs S bs v0 v3 v4 l0 l3 l4)(d:Kd.V BT 32 W b (Dt zs v3 v4) c a):St w0 w W zs S bs c v3 v4 a l3 l4 :=
 ⟨⟨h.M.hB,h.M.hz,d,h.M.h3,h.M.h4⟩,h.B,h.hw⟩
theorem Mq{α:Type}{d:Kd α}{e b b':Nat}{P:Nat->Prop}{xs:List α}{v:Value}(h:WM w0 W zs v0 v3 v4 l0 l3 l4)(i:Kd.V d e W1 b (λk=>P k∨W.heap.size≤k) v xs)(c:∀k,P k->Dt zs v3 v4 k):Kd.V d e W1 b' (Dt zs v3 v4) v xs :=
 Kd.AH (show Kd.V d e W1 b' (λk=>P k∨W.heap.size≤k) v xs from i) (λk g=>g.elim (c k) (λa=>h.dt a))
theorem F9{α:Type}{d:Kd α}{e b g:Nat}{xs:List α}{v:Value}(i:Kd.V d e W b (Dt zs v3 v4) v xs)(hg:g=W.heap.size)(c:Below W.heap.size W W1):Kd.V d e W1 b (Dt (g::zs) v3 v4) v xs :=
 Kd.AH (Kd.BE (Kd.Fz i) c) (λk a=>⟨not_cons a.1.1 (by have:=a.2;omega),a.1.2⟩)
theorem St.Qh(h:St w0 w W zs S bs v0 v3 v4 l0 l3 l4)(i:Nat){g t:Nat}{a b c d e a' b' j:Value}(l:bs[i]?=some ⟨g,[a,b,c,d,e],t⟩):St w0 w (((W.setCell ⟨g,0,none⟩ a').setCell ⟨g,1,none⟩ b').setCell ⟨g,2,none⟩ j) zs S (bs.set i ⟨g,[a',b',j,d,e],t⟩) v0 v3 v4 l0 l3 l4:=by have hl:i<bs.length:=(List.getElem?_eq_some_iff.1 l).1;have h1:=h.put i 0 a' l;have k:=h1.put i 1 (g:=g) (cs:=[a',b,c,d,e]) (t:=t) b' (by rw[List.getElem?_set_self hl];rfl);rw[List.set_set]at k;have h3:=k.put i 2 (g:=g) (cs:=[a',b',c,d,e]) (t:=t) j (by rw[List.getElem?_set_self hl];rfl);rw[List.set_set]at h3;exact h3
theorem St.elem{g n cap:Nat}(h:St w0 w W zs S bs v0 (.slice (some ⟨g,0,none⟩) n cap) v4 l0 l3 l4)(i:Int)(h0:0≤i)(h1:i<n):∃d c2 l c3,(W.cell? ⟨g,i.toNat*6,none⟩=some (.int .i64 (Aw l3 i).f0)∧W.cell? ⟨g,i.toNat*6+1,none⟩=some (.int .i64 (Aw l3 i).f1)∧W.cell? ⟨g,i.toNat*6+2,none⟩=some (.slice d (Aw l3 i).f2.length c2)∧W.cell? ⟨g,i.toNat*6+3,none⟩=some (.slice l (Aw l3 i).f3.length c3)∧W.cell? ⟨g,i.toNat*6+4,none⟩=some (.int .i64 (Aw l3 i).f4)∧W.cell? ⟨g,i.toNat*6+5,none⟩=some (.int .i64 (Aw l3 i).f5)) ∧
  Kd.V Dj 68 W w0.heap.size (Dt zs (.slice (some ⟨g,0,none⟩) n cap) v4) (.slice d (Aw l3 i).f2.length c2) (Aw l3 i).f2∧Kd.V BT 32 W w0.heap.size (Dt zs (.slice (some ⟨g,0,none⟩) n cap) v4) (.slice l (Aw l3 i).f3.length c3) (Aw l3 i).f3∧∀j,W.frozen? ⟨g,i.toNat*6+j,none⟩=false:=by
 obtain⟨c,q,hF,a,m⟩:=Kd.Kr h.M.h3 Py i h0 h1;obtain⟨d,c2,l,c3,rfl,r,f2,p,f3⟩:=LQ hF;have b:∀k,((k∉zs∧some k≠v4.ownBlock)∧k≠g)->Dt zs (.slice (some ⟨g,0,none⟩) n cap) v4 k:=λk o=>⟨o.1.1,λe=>o.2 (by simpa[Value.ownBlock]using e),o.1.2⟩
 exact⟨d,c2,l,c3,⟨a 0 _ rfl,a 1 _ rfl,a 2 _ rfl,a 3 _ rfl,a 4 _ rfl,a 5 _ rfl⟩,Kd.Ny r (Kd.GD f2 b),Kd.Ny p (Kd.GD f3 b),m⟩
theorem St.Kx{g n cap o p:Nat}{z A:Option Addr}(h:St w0 w W zs S bs v0 (.slice (some ⟨g,0,none⟩) n cap) v4 l0 l3 l4)(L:S g)(i:Int)(h0:0≤i)(h1:i<n){a b c d:Int}{t:List Ba}{u:Dk}{G I:Nat}
  (f2:Kd.V Dj 68 W G (Dt zs (.slice (some ⟨g,0,none⟩) n cap) v4) (.slice z t.length o) t)(f3:Kd.V BT 32 W I (Dt zs (.slice (some ⟨g,0,none⟩) n cap) v4) (.slice A u.length p) u) :
  St w0 w ((((((W.setCell ⟨g,i.toNat*6,none⟩ (.int .i64 a)).setCell ⟨g,i.toNat*6+1,none⟩ (.int .i64 b)).setCell ⟨g,i.toNat*6+2,none⟩ (.slice z t.length o)).setCell ⟨g,i.toNat*6+3,none⟩ (.slice A u.length p)).setCell ⟨g,i.toNat*6+4,none⟩ (.int .i64 c)).setCell ⟨g,i.toNat*6+5,none⟩ (.int .i64 d)) zs S bs v0 (.slice (some ⟨g,0,none⟩) n cap) v4 l0 (l3.set i.toNat ⟨a,b,t,u,c,d⟩) l4:=by
 obtain⟨v,x,hF,B,O⟩:=Kd.Kr h.M.h3 Py i h0 h1;have y:∀k,Dt zs (.slice (some ⟨g,0,none⟩) n cap) v4 k->(k∉zs∧some k≠v4.ownBlock)∧k≠g:=λk m=>⟨⟨m.1,m.2.2⟩,λe=>m.2.1 (by rw[e];simp[Value.ownBlock])⟩
 have K:Kd.FK GW W (Dt zs (.slice (some ⟨g,0,none⟩) n cap) v4) (⟨a,b,t,u,c,d⟩:EI) (v.take 0++[.int .i64 a,.int .i64 b,.slice z t.length o,.slice A u.length p,.int .i64 c,.int .i64 d]++v.drop (0+6)):=by have M:v.drop (0+6)=[]:=List.drop_eq_nil_of_le (by have:v.length=6:=x;omega);rw[M,List.take_zero,List.nil_append,List.append_nil];exact NN _ _ _ (Kd.JZ f2).2.1 (Kd.Qv f2) (Kd.JZ f3).2.1 (Kd.Qv f3)
 obtain⟨J,hg⟩:=Kd.PM h.M.h3 i h0 h1 (c:=v) (seg:=[.int .i64 a,.int .i64 b,.slice z t.length o,.slice A u.length p,.int .i64 c,.int .i64 d]) (j:=0) x B (show 0+6≤6 by decide) K y;have D:∀k,Dt zs (.slice (some ⟨g,0,none⟩) n cap) v4 k->some k≠some g:=λk m e=>(y k m).2 (by injection e)
 have r:(Value.slice (some ⟨g,0,none⟩) n cap).ownBlock=some g:=by simp[Value.ownBlock]
 have hz:g∉zs∧some g≠v4.ownBlock:=h.M.Hc r;have l:w0.heap.size≤g:=Kd.OR h.M.h3 g r
 exact⟨⟨EK (EK (EK (EK (EK (EK h.M.hB l) l) l) l) l) l,λk m=>Nat.lt_of_lt_of_le (h.M.hz k m) hg.size,Kd.Jr h.M.h0 hg D,J,Kd.Jn h.M.h4 hg (λk m e=>m.2 (by rw[r];exact e))⟩,
  ⟨λq E=>AJ (h.B.at_ q E) hg (λe=>hz.1 (by injection e with e;exact e ▸ h.B.mem q E)),h.B.nd,h.B.ge,h.B.mem,h.B.hK.Dy hg (λk m=>.inl (by injection m with m;exact m ▸ L))⟩,h.hw⟩
theorem PW{W:World}{A:Option Addr}{xs:Dk}(h:Kd.C BT W A xs.length xs)(h1:(0:Int)<xs.length):∃ad,A=some ad∧W.cell? ad=some (.int .i64 (Aa xs 0).f0)∧W.cell? ⟨ad.block,ad.off+1,none⟩=some (.int .i64 (Aa xs 0).f1)∧W.cell? ⟨ad.block,ad.off+2,none⟩=some (.int .i64 (Aa xs 0).f2.f0)∧W.cell? ⟨ad.block,ad.off+3,none⟩=some (.int .i64 (Aa xs 0).f2.f1)∧W.cell? ⟨ad.block,ad.off+4,none⟩=some (.int .i64 (Aa xs 0).f2.f2)∧W.cell? ⟨ad.block,ad.off+5,none⟩=some (.int .i64 (Aa xs 0).f2.f3)∧W.cell? ⟨ad.block,ad.off+6,none⟩=some (.string (Aa xs 0).f2.f4):=by obtain⟨ad,e,a,b,c,d,g,i,j⟩:=CD h 0 (by omega) h1;rw[show((0:Int)).toNat*7=0 from rfl,Addr.add_zero']at a b c d g i j;exact⟨ad,e,a,b,c,d,g,i,j⟩
end
end Go.Proofs.YtlhlpfnljglhoaaDoor.P
namespace Go.Proofs.YtlhlpfnljglhoaaDoor.P
open Go.RowKit Go.Proofs.YtlhlpfnljglhoaaDoorW.PrintWords Go.Proofs.YtlhlpfnljglhoaaDoorW.Bc Go.Proofs.YtlhlpfnljglhoaaDoorW.C6
theorem DM.calls(k:Nat)(zs:List Nat)(v0 v3 v4 vl:Value)(l0:Dk)(s:Int)(u:Bool)(l3:Ef)(l4:Dl)(A fr:Int)(o:Dk)(r0:Dk)(r1:Int)(r2:Bool)(r3:Ef)(r4:Dl)(w0 w:World)(h:WM w0 w zs v0 v3 v4 l0 l3 l4)(hl:Kd.V BT 32 w w0.heap.size (Dt zs v3 v4) vl o)
  (q:DM.f k ⟨l0,s,u,l3,l4⟩ ⟨A,fr,o⟩=some ⟨r0,r1,r2,r3,r4⟩) :
  Calls Tryd.prog 74 #[.agg #[v0,.int .i64 s,.bool u,v3,v4],.agg #[.int .i64 A,.int .i64 fr,vl]] w λe w'=>∃af,e=.returned (.agg #[af,.int .i64 r1,.bool r2,v3,v4])∧WM w0 w' zs af v3 v4 r0 r3 r4∧Kept w w' (λk_=>some k_=v3.ownBlock):=by
 have au:=Tryd.underlying64;have aj:=Tryd.underlying114;have ar:=Tryd.underlying60;have aq:=Tryd.underlying32;have ao:=Tryd.underlying26;obtain⟨W,X,rfl⟩:=Kd.Ca h.h0;obtain⟨B,c4,rfl⟩:=Kd.CM h.h4;obtain⟨AL,Y,rfl⟩:=Kd.Ca hl;unfold DM.f at q;dsimp only at q;by_cases c:A=0
 ·rw[if_pos c]at q;have cb:(A==0)=true:=beq_iff_eq.mpr c;clear c;by_cases c2:(0:Int)<(o.length:Int)
  ·rw[if_pos c2]at q;obtain⟨⟨p1,p2,p3,p4⟩,hp,q⟩:=BU q;simp only[Option.some.injEq,Wd.mk.injEq]at q;obtain⟨rfl,rfl,rfl,rfl,rfl⟩:=q;have HP:=a_ hp;clear hp;obtain⟨A3,c3,rfl⟩:=Kd.CM h.h3;obtain⟨ad,rfl,x0,x1,P,x3,x4,x5,x6⟩:=PW (Kd.Bk hl).2.2 c2;have M:=a_ (St.start h (λk=>some k=(Value.slice A3 l3.length c3).ownBlock));have p:=a_ hl;have XX:=a_ (And.intro x0 (And.intro x1 (And.intro P (And.intro x3 (And.intro x4 (And.intro x5 x6))))));have q2:=eq_true c2;have q3:(0<o.length)=True:=eq_true (by omega);clear h hl c2 x0 x1 P x3 x4 x5 x6;go_enter Tryd.func74,Tryd.ntmps74;go_wp2_with(first
   | ((with_reducible refine Cd (N:=2) rfl ?_);refine CE 2 (#[.slice W l0.length X,.int .i64 s,.bool u,.slice A3 l3.length c3,.slice B l4.length c4]) 64 ?_;intro v hg w1 j l;have D:=M.o.box (cs:=[.slice W l0.length X,.int .i64 s,.bool u,.slice A3 l3.length c3,.slice B l4.length c4]) hg l j;have m:=a_ (F9 p.o hg l);clear M p j l hg;have M:=a_ D;clear D;have p:=m;clear m)
   | ((with_reducible refine Cd (N:=3) rfl ?_);refine CE 3 (#[.int .i64 A,.int .i64 fr,.slice (some ad) o.length Y]) 114 ?_;intro O hg w2 j l;have D:=M.o.box (cs:=[.int .i64 A,.int .i64 fr,.slice (some ad) o.length Y]) hg l j;have m:=a_ (F9 p.o hg l);clear M p j l hg;have M:=a_ D;clear D;have p:=m;clear m)
   | ((with_reducible refine Cd (N:=4) rfl ?_);refine CE 4 (#[.slice none 0 0,.int .i64 0,.bool false,.slice none 0 0,.slice none 0 0]) 64 ?_;intro x hg w3 j l;have D:=M.o.box (cs:=[.slice none 0 0,.int .i64 0,.bool false,.slice none 0 0,.slice none 0 0]) hg l j;have m:=a_ (F9 p.o hg l);clear M p j l hg;have M:=a_ D;clear D;have p:=m;clear m;obtain⟨z0,z1,z2,z3,z4,y⟩:=M.o.B.c5 2 rfl;obtain⟨x0,x1,P,-⟩:=M.o.B.c3 1 rfl))
   have ag:=a_ (show Kept w w3 _ from M.o.B.hK);obtain⟨av,ed,E,G,I,J,L,z,e6⟩:=PW (Kd.Bk p.o).2.2 (of_eq_true q2);cases ed;have T:=a_ (Kd.AR p.o);have Md:=a_ M.o.drew;clear M p XX ag;have M:=Md;have p:=T;clear Md T;refine Ch (n:=12) (S:=λw'=>w'.cell? ⟨v,0,none⟩=some (.slice W l0.length X)∧w'.cell? ⟨v,1,none⟩=some (.int .i64 s)∧w'.cell? ⟨v,2,none⟩=some (.bool u)∧w'.cell? ⟨O,2,none⟩=some (.slice (some ad) o.length Y)∧w'.cell? ad=some (.int .i64 (Aa o 0).f0)∧w'.cell? ⟨ad.block,ad.off+1,none⟩=some (.int .i64 (Aa o 0).f1)∧w'.cell? ⟨ad.block,ad.off+2,none⟩=some (.int .i64 (Aa o 0).f2.f0)∧w'.cell? ⟨ad.block,ad.off+3,none⟩=some (.int .i64 (Aa o 0).f2.f1)∧w'.cell? ⟨ad.block,ad.off+4,none⟩=some (.int .i64 (Aa o 0).f2.f2)∧w'.cell? ⟨ad.block,ad.off+5,none⟩=some (.int .i64 (Aa o 0).f2.f3)∧w'.cell? ⟨ad.block,ad.off+6,none⟩=some (.string (Aa o 0).f2.f4)) (ds:=[11]) #[false,false,false,false,false,false,false,false,false,false,false,false] (by kernel_rfl) rfl rfl ⟨z0,z1,z2,P,E,G,I,J,L,z,e6⟩ (λg=>?_);refine A_ 0 9 ?_;refine A_ 2 11 ?_;refine Gc 1 10 g ?_;refine Gc 3 12 g ?_;refine A_ 4 13 ?_;refine Gc 5 14 g ?_;refine EU 6 15 (λK hK=>?_);refine Dp Tryd.func76 (by kernel_rfl) rfl #[.agg #[.slice W l0.length X,.int .i64 s,.bool u],.agg #[.int .i64 (Aa o 0).f0,.int .i64 (Aa o 0).f1,.int .i64 (Aa o 0).f2.f0,.int .i64 (Aa o 0).f2.f1,.int .i64 (Aa o 0).f2.f2,.int .i64 (Aa o 0).f2.f3,.string (Aa o 0).f2.f4]] (by rfl) rfl rfl (by simp only[List.map_toArray,List.map_cons,List.map_nil];rfl) ?_;with_reducible refine(D6.calls k (Dt (x::O::v::zs) (.slice A3 l3.length c3) (.slice B l4.length c4)) W X l0 s u (Aa o 0).f0 (Aa o 0).f1 (Aa o 0).f2.f0 (Aa o 0).f2.f1 (Aa o 0).f2.f2 (Aa o 0).f2.f3 (Aa o 0).f2.f4 p1 p2 p3 p4 _ M.o.M.h0 HP.o).mono ?_
   rintro e w5 ⟨af,rfl,hv,l⟩;refine⟨_,rfl,?_⟩;have D:=(M.o.below l).Qf (b:=0) (Mq M.o.M hv (λk Z=>Z));obtain⟨A5,c5,z⟩:=Kd.Ca hv;subst z;have U:=a_ (show _ from(⟨(l.cell (FF _ _ E)).trans E,(l.cell (FF _ _ G)).trans G,(l.cell (FF _ _ I)).trans I,(l.cell (FF _ _ J)).trans J,(l.cell (FF _ _ L)).trans L,(l.cell (FF _ _ z)).trans z,(l.cell (FF _ _ e6)).trans e6⟩:_∧_∧_∧_∧_∧_∧_));clear M hv l z0 z1 z2 z3 z4 y x0 x1 P E G I J L z e6;have M:=a_ D;clear D;obtain⟨z0,z1,z2,z3,z4,y⟩:=M.o.B.c5 2 rfl;obtain⟨t0,t1,t2,t3,t4,ty⟩:=M.o.B.c5 0 rfl;obtain⟨-,-,P,-⟩:=M.o.B.c3 1 rfl;obtain⟨E,G,I,J,L,z,e6⟩:=U.o;clear U;have ae:x≠v:=M.o.B.ne (i:=0) (i':=2) rfl rfl (by decide);have ak:v≠x:=λe=>ae e.symm
   refine hK.out _ _ ⟨z0,z1,z2,P,E,G,I,J,L,z,e6⟩ (λg=>?_);clear hK K;refine Ea 15 ?_;refine A_ 7 8 ?_;refine A_ 8 16 ?_;refine A_ 9 17 ?_;refine A_ 10 18 ?_;refine EX (i:=11) (N:=none) #[true,true,true,true,true,true,true,true,true,true,true,true] rfl rfl (by kernel_rfl) (by decide) (λK hK=>?_);refine E4 (w1:=?_) (by rfl) rfl ?_ ?_;rotate_left
   ·go_simp;rfl
   refine hK.out _ _ ?_;clear hK K;refine CT (by kernel_rfl) ?_;go_wp2;have D2:St w0 w _ (x::O::v::zs) _ [⟨x,[.slice A5 p1.length c5,.int .i64 p2,.bool p3,.slice A3 l3.length c3,.slice B l4.length c4],64⟩,⟨O,[.int .i64 A,.int .i64 fr,.slice (some ad) o.length Y],114⟩,⟨v,[.slice A5 p1.length c5,.int .i64 p2,.bool p3,.slice A3 l3.length c3,.slice B l4.length c4],64⟩] _ _ _ _ _ _:=(M.o.Qh 2 rfl).DL 0 rfl;have DB:=D2.B.EJ 0 rfl;refine bodyPost_ret (results_cell_row rfl _ _ x 64 #[.slice A5 p1.length c5,.int .i64 p2,.bool p3,.slice A3 l3.length c3,.slice B l4.length c4] (0,0) _ rfl DB Tryd.underlying64 rfl (by kernel_rfl)) rfl ?_;exact⟨_,rfl,D2.M.mono (λk Z=>by simp[Z]),D2.B.hK⟩
  rw[if_neg c2]at q;exact absurd q (by simp)
 rw[if_neg c]at q;have cb:(A==0)=false:=Dq c;clear c;obtain⟨i,hi⟩:∃i,i=wrap64 (A-1):=⟨_,rfl⟩
 rw[<-hi]at q;have ax:wrap64 (A-1)=i:=hi.symm;clear hi;by_cases c2:0≤i
 ·rw[if_pos c2]at q;by_cases c3:i<(l3.length:Int)
  ·rw[if_pos c3]at q;obtain⟨⟨p1,p2,p3,p4,p5,p6,p7⟩,hp,q⟩:=BU q;simp only[Option.some.injEq,Wd.mk.injEq]at q;obtain⟨rfl,rfl,rfl,rfl,rfl⟩:=q;have HP:=a_ hp;clear hp;obtain⟨r,t,rfl,-⟩:=Kd.Jm h.h3 (by omega);have M:=a_ (St.start h (λk=>some k=(Value.slice (some ⟨r,0,none⟩) l3.length t).ownBlock));have p:=a_ hl;have CC:=a_ (And.intro c2 c3);have q2:=eq_true c2;have q3:=eq_true c3;clear h hl c2 c3;go_enter Tryd.func74,Tryd.ntmps74;go_wp2_with(first
  | ((with_reducible refine Cd (N:=2) rfl ?_);refine CE 2 (#[.slice W l0.length X,.int .i64 s,.bool u,.slice (some ⟨r,0,none⟩) l3.length t,.slice B l4.length c4]) 64 ?_;intro v hg w1 j l;have D:=M.o.box (cs:=[.slice W l0.length X,.int .i64 s,.bool u,.slice (some ⟨r,0,none⟩) l3.length t,.slice B l4.length c4]) hg l j;have m:=a_ (F9 p.o hg l);clear M p j l hg;have M:=a_ D;clear D;have p:=m;clear m)
  | ((with_reducible refine Cd (N:=3) rfl ?_);refine CE 3 (#[.int .i64 A,.int .i64 fr,.slice AL o.length Y]) 114 ?_;intro O hg w2 j l;have D:=M.o.box (cs:=[.int .i64 A,.int .i64 fr,.slice AL o.length Y]) hg l j;have m:=a_ (F9 p.o hg l);clear M p j l hg;have M:=a_ D;clear D;have p:=m;clear m)
  | ((with_reducible refine Cd (N:=4) rfl ?_);refine CE 4 (#[.slice none 0 0,.int .i64 0,.bool false,.slice none 0 0,.slice none 0 0]) 64 ?_;intro x hg w3 j l;have D:=M.o.box (cs:=[.slice none 0 0,.int .i64 0,.bool false,.slice none 0 0,.slice none 0 0]) hg l j;have m:=a_ (F9 p.o hg l);clear M p j l hg;have M:=a_ D;clear D;have p:=m;clear m;obtain⟨z0,z1,z2,z3,z4,y⟩:=M.o.B.c5 2 rfl;obtain⟨x0,x1,P,-⟩:=M.o.B.c3 1 rfl))
   obtain⟨B2,b2,B3,b3,⟨E,G,I,J,L,z⟩,f2,f3,-⟩:=M.o.elem i CC.o.1 CC.o.2
   have F2:=a_ (Kd.AR f2)
   have F3:=a_ (Kd.AR f3)
   clear f2 f3
   have T:=a_ (Kd.AR p.o)
   have Md:=a_ M.o.drew
   clear M p
   have M:=Md
   have p:=T
   clear Md T
   refine Ch (n:=22) (S:=λw'=>w'.cell? ⟨v,3,none⟩=some (.slice (some ⟨r,0,none⟩) l3.length t)∧w'.cell? ⟨O,0,none⟩=some (.int .i64 A)∧w'.cell? ⟨O,1,none⟩=some (.int .i64 fr)∧w'.cell? ⟨O,2,none⟩=some (.slice AL o.length Y)∧w'.cell? ⟨r,i.toNat*6,none⟩=some (.int .i64 (Aw l3 i).f0)∧w'.cell? ⟨r,i.toNat*6+1,none⟩=some (.int .i64 (Aw l3 i).f1)∧w'.cell? ⟨r,i.toNat*6+2,none⟩=some (.slice B2 (Aw l3 i).f2.length b2)∧w'.cell? ⟨r,i.toNat*6+3,none⟩=some (.slice B3 (Aw l3 i).f3.length b3)∧w'.cell? ⟨r,i.toNat*6+4,none⟩=some (.int .i64 (Aw l3 i).f4)∧w'.cell? ⟨r,i.toNat*6+5,none⟩=some (.int .i64 (Aw l3 i).f5)) (ds:=[21]) #[false,false,false,false,false,false,false,false,false,false,false,false,false,false,false,false,false,false,false,false,false,false] (by kernel_rfl) rfl rfl ⟨z3,x0,x1,P,E,G,I,J,L,z⟩ (λg=>?_)
   refine A_ 0 21 ?_
   refine A_ 2 23 ?_
   refine A_ 5 26 ?_
   refine A_ 7 28 ?_
   refine A_ 12 33 ?_
   refine A_ 14 35 ?_
   refine Ix 1 22 g ?_
   refine Ix 3 24 g ?_
   refine A_ 4 25 ?_
   refine Ix 6 27 g ?_
   refine Ix 8 29 g ?_
   refine A_ 9 30 ?_
   refine A_ 10 31 ?_
   refine Ix 11 32 g ?_
   refine Ix 13 34 g ?_
   refine Ix 15 36 g ?_
   refine EU 16 37 (λK hK=>?_)
   refine Dp Tryd.func77 (by kernel_rfl) rfl #[.agg #[.int .i64 (Aw l3 i).f0,.int .i64 (Aw l3 i).f1,.slice B2 (Aw l3 i).f2.length b2,.slice B3 (Aw l3 i).f3.length b3,.int .i64 (Aw l3 i).f4,.int .i64 (Aw l3 i).f5],.int .i64 fr,.slice AL o.length Y] (by rfl) rfl rfl (by simp only[List.map_toArray,List.map_cons,List.map_nil];rfl) ?_
   with_reducible refine(Ap.calls k (Aw l3 i).f0 (Aw l3 i).f1 (Dt (x::O::v::zs) (.slice (some ⟨r,0,none⟩) l3.length t) (.slice B l4.length c4)) B2 b2 (Aw l3 i).f2 (Dt (x::O::v::zs) (.slice (some ⟨r,0,none⟩) l3.length t) (.slice B l4.length c4)) B3 b3 (Aw l3 i).f3 (Aw l3 i).f4 (Aw l3 i).f5 fr AL Y o p1 p2 p3 p4 p5 p6 p7 _ (show Kd.V _ _ _ _ _ _ _ from F2.o) (show Kd.V _ _ _ _ _ _ _ from F3.o) (Kd.Bk p.o).2.2 (Kd.Bk p.o).2.1 HP.o).mono ?_
   rintro e w5 ⟨aA,aB,rfl,aa,ab,l⟩
   refine⟨_,rfl,?_⟩
   obtain⟨D2,d2,ah⟩:=Kd.Ca aa
   subst ah
   obtain⟨D3,d3,ai⟩:=Kd.Ca ab
   subst ai
   have G2:=a_ (Mq (b':=0) M.o.M aa (λk Z=>Z.elim id id))
   have G3:=a_ (Mq (b':=0) M.o.M ab (λk Z=>Z.elim id id))
   have D:=M.o.below l
   have U:=a_ (show _ from(⟨(l.cell (FF _ _ E)).trans E,(l.cell (FF _ _ G)).trans G,(l.cell (FF _ _ I)).trans I,(l.cell (FF _ _ J)).trans J,(l.cell (FF _ _ L)).trans L,(l.cell (FF _ _ z)).trans z⟩:_∧_∧_∧_∧_∧_))
   clear M F2 F3 aa ab l z0 z1 z2 z3 z4 y x0 x1 P E G I J L z
   have M:=a_ D
   clear D
   obtain⟨z0,z1,z2,z3,z4,y⟩:=M.o.B.c5 2 rfl
   obtain⟨x0,x1,P,-⟩:=M.o.B.c3 1 rfl
   obtain⟨t0,t1,t2,t3,t4,ty⟩:=M.o.B.c5 0 rfl
   obtain⟨-,-,-,-,-,-,-,fz⟩:=M.o.elem i CC.o.1 CC.o.2
   obtain⟨E,G,I,J,L,z⟩:=U.o
   clear U
   have aw:w5.frozen? ⟨r,i.toNat*6,none⟩=false:=fz 0
   have ae:x≠v:=M.o.B.ne (i:=0) (i':=2) rfl rfl (by decide)
   have ak:v≠x:=λe=>ae e.symm
   have NZ:=a_ (M.o.M.Hc (k:=r) (by simp[Value.ownBlock]))
   have al:r≠v:=λe=>NZ.o.1 (by simp[e])
   have ay:v≠r:=λe=>al e.symm
   have an:r≠x:=λe=>NZ.o.1 (by simp[e])
   have az:x≠r:=λe=>an e.symm
   refine hK.out _ _ ⟨z3,x0,x1,P,E,G,I,J,L,z⟩ (λg=>?_)
   clear hK K
   refine Ea 37 ?_
   refine A_ 17 20 ?_
   refine A_ 18 38 ?_
   refine A_ 19 39 ?_
   refine A_ 20 40 ?_
   refine EX (i:=21) (N:=none) #[true,true,true,true,true,true,true,true,true,true,true,true,true,true,true,true,true,true,true,true,true,true] rfl rfl (by kernel_rfl) (by decide) (λK hK=>?_)
   refine E4 (w1:=?_) (by rfl) rfl ?_ ?_
   rotate_left
   ·go_simp
    rfl
   refine hK.out _ _ ?_
   clear hK K
   refine CT (by kernel_rfl) ?_
   go_wp2
   have D2:St w0 w _ (x::O::v::zs) _ [⟨x,[.slice W l0.length X,.int .i64 s,.bool u,.slice (some ⟨r,0,none⟩) l3.length t,.slice B l4.length c4],64⟩,⟨O,[.int .i64 A,.int .i64 fr,.slice AL o.length Y],114⟩,⟨v,[.slice W l0.length X,.int .i64 s,.bool u,.slice (some ⟨r,0,none⟩) l3.length t,.slice B l4.length c4],64⟩] _ _ _ _ _ _:=(M.o.Kx (a:=p1) (b:=p2) (c:=p5) (d:=p6) (by simp[Value.ownBlock]) i CC.o.1 CC.o.2 G2.o G3.o).DL 0 rfl
   have DB:=D2.B.EJ 0 rfl
   refine bodyPost_ret (results_cell_row rfl _ _ x 64 #[.slice W l0.length X,.int .i64 s,.bool u,.slice (some ⟨r,0,none⟩) l3.length t,.slice B l4.length c4] (0,0) _ rfl DB Tryd.underlying64 rfl (by kernel_rfl)) rfl ?_
   exact⟨_,rfl,D2.M.mono (λk Z=>by simp[Z]),D2.B.hK⟩
  rw[if_neg c3]at q;exact absurd q (by simp)
 rw[if_neg c2]at q;exact absurd q (by simp)
section
variable {w0 w W W1:World} {zs zs':List Nat} {S S':Nat->Prop} {bs:List Bx} {v0 v3 v4 u:Value} {l0:Dk} {l3:Ef} {l4:Dl}
theorem St.letter{g n cap:Nat}(h:St w0 w W zs S bs v0 v3 (.slice (some ⟨g,0,none⟩) n cap) l0 l3 l4)(i:Int)(h0:0≤i)(h1:i<n):∃b c2,(W.cell? ⟨g,i.toNat*3,none⟩=some (.int .i64 (AB l4 i).f0)∧W.cell? ⟨g,i.toNat*3+1,none⟩=some (.int .i64 (AB l4 i).f1)∧W.cell? ⟨g,i.toNat*3+2,none⟩=some (.slice b (AB l4 i).f2.length c2)) ∧
  Kd.V BT 32 W w0.heap.size (Dt zs v3 (.slice (some ⟨g,0,none⟩) n cap)) (.slice b (AB l4 i).f2.length c2) (AB l4 i).f2:=by obtain⟨c,j,hF,a,l⟩:=Kd.Kr h.M.h4 Px i h0 h1;obtain⟨b,c2,rfl,m,f2⟩:=KD hF;exact⟨b,c2,⟨a 0 _ rfl,a 1 _ rfl,a 2 _ rfl⟩,Kd.Ny m (Kd.GD f2 (λk d=>⟨d.1.1,d.1.2,λe=>d.2 (by simpa[Value.ownBlock]using e)⟩))⟩
theorem St.QA(h:St w0 w W zs S bs v0 v3 v4 l0 l3 l4)(i:Nat){g t:Nat}{a b c a' b' d:Value}(j:bs[i]?=some ⟨g,[a,b,c],t⟩):St w0 w (((W.setCell ⟨g,0,none⟩ a').setCell ⟨g,1,none⟩ b').setCell ⟨g,2,none⟩ d) zs S (bs.set i ⟨g,[a',b',d],t⟩) v0 v3 v4 l0 l3 l4:=by have hl:i<bs.length:=(List.getElem?_eq_some_iff.1 j).1;have h1:=h.put i 0 a' j;have e:=h1.put i 1 (g:=g) (cs:=[a',b,c]) (t:=t) b' (by rw[List.getElem?_set_self hl];rfl);rw[List.set_set]at e;have h3:=e.put i 2 (g:=g) (cs:=[a',b',c]) (t:=t) d (by rw[List.getElem?_set_self hl];rfl);rw[List.set_set]at h3;exact h3
structure NR (w0 w W:World) (b:Nat) (zs:List Nat) (S:Nat->Prop) (bs:List Bx) (v0 v3 v4:Value) (l0:Dk) (l3:Ef) (l4:Dl) (v:Value) (xs:Dl):Prop where
 M:WM w0 W (b::zs) v0 v3 v4 l0 l3 l4
 B:BX w W zs S bs
 hw:w0.heap.size≤w.heap.size
 own:v.ownBlock=some b
 ge:w.heap.size≤b
 nb:b∉zs
 hN:Kd.N E2 114 W w0.heap.size (λk=>k∉zs∧some k≠v3.ownBlock) v xs
theorem WM.turn{row:Option Nat}{b':Nat}(h:WM w0 W zs' v0 v3 v4 l0 l3 l4)(hz:∀k,k∈zs->k∈zs')(hB:Below w0.heap.size w0 W1)(hg:W.grownBy W1 row)(d:∀k,row=some k->k∈zs')(c:b'∈zs'∨W.heap.size≤b')(b:b'<W1.heap.size):WM w0 W1 (b'::zs) v0 v3 v4 l0 l3 l4:=by
 have key:∀k,k∉zs'->k<W.heap.size->k∉b'::zs:=λk h1 g e=>(List.mem_cons.1 e).elim (λe=>c.elim (λq=>h1 (e ▸ q)) (λq=>by omega)) (λe=>h1 (hz k e))
 have ne:∀k,k∉zs'->some k≠row:=λk h1 e=>h1 (d k e.symm)
 exact⟨hB,λk a=>(List.mem_cons.1 a).elim (λe=>e ▸ b) (λa=>Nat.lt_of_lt_of_le (h.hz k (hz k a)) hg.size),
  Kd.AH (Kd.Jr (Kd.Fz h.h0) hg (λk a=>ne k a.1.1)) (λk a=>⟨key k a.1.1 a.2,a.1.2⟩),Kd.F7 (Kd.Jn (Kd.GY h.h3) hg (λk a=>ne k a.1.1)) (λk a=>⟨key k a.1.1 a.2,a.1.2⟩),Kd.F7 (Kd.Jn (Kd.GY h.h4) hg (λk a=>ne k a.1.1)) (λk a=>⟨key k a.1.1 a.2,a.1.2⟩)⟩
theorem Kv{α:Type}{d:Kd α}{e b b':Nat}{xs:List α}{v:Value}{row:Option Nat}(h:Kd.V d e W b (Dt zs' v3 v4) v xs)(hz:∀k,k∈zs->k∈zs')(hg:W.grownBy W1 row)(g:∀k,row=some k->k∈zs')(c:b'∈zs'∨W.heap.size≤b'):Kd.V d e W1 b (Dt (b'::zs) v3 v4) v xs:=by
 have key:∀k,k∉zs'->k<W.heap.size->k∉b'::zs:=λk h1 i e=>(List.mem_cons.1 e).elim (λe=>c.elim (λq=>h1 (e ▸ q)) (λq=>by omega)) (λe=>h1 (hz k e))
 exact Kd.AH (Kd.Jr (Kd.Fz h) hg (λk a e=>a.1.1 (g k e.symm))) (λk a=>⟨key k a.1.1 a.2,a.1.2⟩)
theorem NR.lit{v1:Value}(h:St w0 w W zs S bs v0 v3 v4 l0 l3 l4)(hN:Kd.N E2 114 W1 w0.heap.size (λk=>k∉zs∧some k≠v3.ownBlock) v1 [])(hB:Below w0.heap.size w0 W1)(hg:W.grownBy W1 none)(c:∃b,v1.ownBlock=some b∧W.heap.size≤b):∃b,NR w0 w W1 b zs S bs v0 v3 v4 l0 l3 l4 v1 []∧W.heap.size≤b:=by obtain⟨b,d,hle⟩:=c;exact⟨b,⟨h.M.turn (λ_ a=>a) hB hg (λk a=>by cases a) (.inr hle) (Kd.JS hN b d),⟨λq g=>AJ (h.B.at_ q g) hg (λe=>by cases e),h.B.nd,h.B.ge,h.B.mem,h.B.hK.Dy hg (λk a=>by cases a)⟩,h.hw,d,Nat.le_trans h.B.hK.1 hle,(hN.1 b d).1,hN⟩,hle⟩
theorem NR.app{b:Nat}{v v1:Value}{xs ys:Dl}(h:NR w0 w W b zs S bs v0 v3 v4 l0 l3 l4 v xs)(hN:Kd.N E2 114 W1 w0.heap.size (λk=>k∉zs∧some k≠v3.ownBlock) v1 ys)(hB:Below w0.heap.size w0 W1)(hg:W.grownBy W1 v.ownBlock)(i:v1.ownBlock=v.ownBlock∨∃b,v1.ownBlock=some b∧W.heap.size≤b):∃b',NR w0 w W1 b' zs S bs v0 v3 v4 l0 l3 l4 v1 ys∧(b'∈b::zs∨W.heap.size≤b'):=by
 have m:∀k,v.ownBlock=some k->k∈b::zs:=λk a=>by rw[h.own]at a;injection a with a;rw[<-a];exact List.mem_cons_self
 obtain⟨b',c,g⟩:∃b',v1.ownBlock=some b'∧(b'=b∨W.heap.size≤b'):=by
  rcases i with e|⟨b',e,hle⟩
  ·exact⟨b,e.trans h.own,.inl rfl⟩
  exact⟨b',e,.inr hle⟩
 have d:b'∈b::zs∨W.heap.size≤b':=g.imp_left (λe=>by rw[e];exact List.mem_cons_self);have j:w.heap.size≤b':=g.elim (λe=>e ▸ h.ge) (λe=>Nat.le_trans h.B.hK.1 e);exact⟨b',⟨h.M.turn (λ_ a=>List.mem_cons_of_mem _ a) hB hg m d (Kd.JS hN b' c),⟨λq l=>AJ (h.B.at_ q l) hg (λe=>h.nb (by rw[h.own]at e;injection e with e;exact e ▸ h.B.mem q l)),h.B.nd,h.B.ge,h.B.mem,h.B.hK.Dy hg (λk a=>by rw[h.own]at a;injection a with a;exact .inr (a ▸ h.ge))⟩,h.hw,c,j,(hN.1 b' c).1,hN⟩,d⟩
theorem NR.fin{b:Nat}{v:Value}{xs:Dl}(h:NR w0 w W b zs S bs v0 v3 v4 l0 l3 l4 v xs):St w0 w W zs S bs v0 v3 v l0 l3 xs:=by
 have key:∀k,k∉b::zs->k∉zs∧some k≠v.ownBlock:=λk a=>⟨λe=>a (List.mem_cons_of_mem _ e),λe=>a (by rw[h.own]at e;injection e with e;rw[e];exact List.mem_cons_self)⟩
 exact⟨⟨h.M.hB,λk a=>h.M.hz k (List.mem_cons_of_mem _ a),Kd.AH h.M.h0 (λk a=>⟨(key k a.1).1,a.2.1,(key k a.1).2⟩),Kd.F7 h.M.h3 (λk a=>key k a.1),h.hN⟩,h.B,h.hw⟩
theorem PS{α:Type}{d:Kd α}{e c b:Nat}{xs:List α}{g v:Value}(h:Kd.V d e W c (Dt (b::zs) v3 v4) g xs)(i:v.ownBlock=some b):Kd.V d e W c (Dt zs v3 v) g xs :=
 Kd.AH h (λk a=>⟨λe=>a.1 (List.mem_cons_of_mem _ e),a.2.1,λe=>a.1 (by rw[i]at e;injection e with e;rw[e];exact List.mem_cons_self)⟩)
theorem Pe(n:Int)(m:Nat)(hm:(m:Int)≤4611686018427387904):Aq.f n 0 (wrap64 ((m:Int)-1))=some (decide (0≤n)&&decide (n<(m:Int))):=by
 unfold Aq.f;have e:wrap64 ((m:Int)-1)=(m:Int)-1:=by unfold wrap64;omega
 rw[e];by_cases h:0≤n
 ·rw[if_pos h,BJ h,Bool.true_and];by_cases a:n<(m:Int)
  ·rw[BJ a,BJ (show n≤(m:Int)-1 by omega)]
  rw[C1 a,C1 (show¬ n≤(m:Int)-1 by omega)]
 rw[if_neg h,C1 h,Bool.false_and]
end
end Go.Proofs.YtlhlpfnljglhoaaDoor.P
namespace Go.Proofs.YtlhlpfnljglhoaaDoor.P
open Go.RowKit Go.Proofs.YtlhlpfnljglhoaaDoorW.PrintWords Go.Proofs.YtlhlpfnljglhoaaDoorW.Bc Go.Proofs.YtlhlpfnljglhoaaDoorW.C6
section
variable {w0 w W W1:World} {zs zs':List Nat} {S S':Nat->Prop} {bs:List Bx} {v0 v3 v4 u:Value} {l0:Dk} {l3:Ef} {l4:Dl}
theorem Ms{α:Type}{d:Kd α}{e b:Nat}{ok:Nat->Prop}{v:Value}{xs:List α}(h:WM w0 W zs v0 v3 v4 l0 l3 l4)(c:d.R e W1 W.heap.size ok v xs):Kd.V d e W1 b (Dt zs v3 v4) v xs :=
 Kd.AH (Kd.Oh (Kd.CO c)) (λk a=>h.dt a.2.1)
theorem P9(a b c:Int):Aq.f a b c=some (decide (b≤a)&&decide (a≤c)):=by
 unfold Aq.f;by_cases h:a≥b
 ·rw[if_pos h,BJ (show b≤a from h),Bool.true_and]
 rw[if_neg h,C1 (show¬ b≤a from h),Bool.false_and]
theorem KA{a b c:Int}(h:b≤a∧a≤c):Aq.f a b c=some true:=by rw[P9,BJ h.1,BJ h.2];rfl
theorem MN{a b c:Int}(h:¬ (b≤a∧a≤c)):Aq.f a b c=some false:=by
 rw[P9,Option.some.injEq,Bool.and_eq_false_iff];by_cases h1:b≤a
 ·exact .inr (C1 (λd=>h ⟨h1,d⟩))
 exact .inl (C1 h1)
theorem KL(a:Dl)(wl:Dk)(i:Int)(h0:0≤i)(h1:i<wl.length):Gb a (wl.drop i.toNat)=Gb (BI.f a ⟨0,0,[Aa wl i]⟩) (wl.drop (i+1).toNat):=by
 have b:=List.drop_eq_getElem_cons (l:=wl) (i:=i.toNat) (by omega);rw[b,show i.toNat+1=(i+1).toNat by omega];have he:Aa wl i=wl[i.toNat]'(by omega):=by unfold Aa;rw[List.getD_eq_getElem?_getD,List.getElem?_eq_getElem (by omega)];rfl
 rw[he];rfl
theorem L7(a:Dl)(wl:Dk)(i:Int)(h1:¬ i<wl.length):Gb a (wl.drop i.toNat)=a:=by rw[List.drop_eq_nil_of_le (by omega)];rfl
theorem QG{W:World}{A:Option Addr}{xs:Dk}{base c n:Nat}{ok:Nat->Prop}(h:Kd.V BT 32 W base ok (.slice A n c) xs)(i:Int)(h0:0≤i)(h1:i<xs.length):∃ad,A=some ad∧W.cell? (ad.add (i.toNat*7))=some (.int .i64 (Aa xs i).f0)∧W.cell? ⟨(ad.add (i.toNat*7)).block,(ad.add (i.toNat*7)).off+1,none⟩=some (.int .i64 (Aa xs i).f1)∧W.cell? ⟨(ad.add (i.toNat*7)).block,(ad.add (i.toNat*7)).off+2,none⟩=some (.int .i64 (Aa xs i).f2.f0)∧W.cell? ⟨(ad.add (i.toNat*7)).block,(ad.add (i.toNat*7)).off+3,none⟩=some (.int .i64 (Aa xs i).f2.f1)∧W.cell? ⟨(ad.add (i.toNat*7)).block,(ad.add (i.toNat*7)).off+4,none⟩=some (.int .i64 (Aa xs i).f2.f2)∧W.cell? ⟨(ad.add (i.toNat*7)).block,(ad.add (i.toNat*7)).off+5,none⟩=some (.int .i64 (Aa xs i).f2.f3)∧W.cell? ⟨(ad.add (i.toNat*7)).block,(ad.add (i.toNat*7)).off+6,none⟩=some (.string (Aa xs i).f2.f4) :=
 CD (Kd.Bk h).2.2 i h0 h1
theorem St.Ib(h:St w0 w W zs S bs v0 v3 v4 l0 l3 l4)(i:Nat){g t:Nat}{a b c d e f a' b' j d' e' k:Value}(o:bs[i]?=some ⟨g,[a,b,c,d,e,f],t⟩):St w0 w ((((((W.setCell ⟨g,0,none⟩ a').setCell ⟨g,1,none⟩ b').setCell ⟨g,2,none⟩ j).setCell ⟨g,3,none⟩ d').setCell ⟨g,4,none⟩ e').setCell ⟨g,5,none⟩ k) zs S (bs.set i ⟨g,[a',b',j,d',e',k],t⟩) v0 v3 v4 l0 l3 l4:=by have hl:i<bs.length:=(List.getElem?_eq_some_iff.1 o).1;have h1:=h.put i 0 a' o;have l:=h1.put i 1 (g:=g) (cs:=[a',b,c,d,e,f]) (t:=t) b' (by rw[List.getElem?_set_self hl];rfl);rw[List.set_set]at l;have h3:=l.put i 2 (g:=g) (cs:=[a',b',c,d,e,f]) (t:=t) j (by rw[List.getElem?_set_self hl];rfl);rw[List.set_set]at h3;have h4:=h3.put i 3 (g:=g) (cs:=[a',b',j,d,e,f]) (t:=t) d' (by rw[List.getElem?_set_self hl];rfl);rw[List.set_set]at h4;have m:=h4.put i 4 (g:=g) (cs:=[a',b',j,d',e,f]) (t:=t) e' (by rw[List.getElem?_set_self hl];rfl);rw[List.set_set]at m;have n:=m.put i 5 (g:=g) (cs:=[a',b',j,d',e',f]) (t:=t) k (by rw[List.getElem?_set_self hl];rfl);rw[List.set_set]at n;exact n
theorem DE{α:Type}{d:Kd α}{e base g:Nat}{xs:List α}{a:Value}(h:Kd.V d e W base (Dt zs v3 v4) a xs)(hg:g∈zs)(j:Nat)(x:Value):Kd.V d e (W.setCell ⟨g,j,none⟩ x) base (Dt zs v3 v4) a xs :=
 Kd.Bb (p:=⟨g,j,none⟩) h (λk b e=>b.1 (by rw[e];exact hg)) x
theorem PT{α:Type}{d:Kd α}{e base:Nat}{xs:List α}{c Gd:Value}(h:Kd.V d e W base (Dt zs v3 v4) c xs)(o:Out w0 W W1 zs v3 v4 Gd):Kd.V d e W1 base (Dt zs v3 Gd) c xs:=by
 refine Kd.AH (Kd.O6 (Kd.Fz h) o.hK (λk a hs=>hs.elim a.1.2.1 a.1.2.2)) (λk a=>⟨a.1.1,a.1.2.1,λe=>?_⟩);rcases o.o4 with f|⟨b,f,g⟩
 ·exact a.1.2.2 (e.trans f)
 rw[f]at e;injection e with e;have:=a.2;omega
end
end Go.Proofs.YtlhlpfnljglhoaaDoor.P
namespace Go.Proofs.YtlhlpfnljglhoaaDoor.P
open Go.RowKit Go.Proofs.YtlhlpfnljglhoaaDoorW.PrintWords Go.Proofs.YtlhlpfnljglhoaaDoorW.Bc Go.Proofs.YtlhlpfnljglhoaaDoorW.C6
structure Sg (w0 w W:World) (g:Nat) (b:List Int) (p:Int) (zs:List Nat) (bs:List Bx) (v0 v3 v4:Value) (l0:Dk) (l3:Ef) (l4:Dl):Prop where
 st:St w0 w W zs (λk=>k=g) bs v0 v3 v4 l0 l3 l4
 hI:Af w0 W g b p
 hz:g∈zs
 hg:g<w.heap.size
section
variable {w0 w W W1:World} {g:Nat} {b:List Int} {p:Int} {zs:List Nat} {bs:List Bx} {v0 v3 v4 u:Value} {l0:Dk} {l3:Ef} {l4:Dl}
theorem Sg.start(h:WM w0 w zs v0 v3 v4 l0 l3 l4)(hI:Af w0 w g b p)(hz:g∈zs):Sg w0 w w g b p zs [] v0 v3 v4 l0 l3 l4:=⟨St.start h _,hI,hz,hI.lt⟩
theorem Sg.box(h:Sg w0 w W g b p zs bs v0 v3 v4 l0 l3 l4){a:Nat}{cs:List Value}{t:Nat}(e:a=W.heap.size)(d:Below W.heap.size W W1)(c:W1.heap[a]?=some (.cells cs.toArray t (0,0))):Sg w0 w W1 g b p (a::zs) (⟨a,cs,t⟩::bs) v0 v3 v4 l0 l3 l4 :=
 ⟨h.st.box e d c,h.hI.below d,List.mem_cons_of_mem _ h.hz,h.hg⟩
theorem Sg.below(h:Sg w0 w W g b p zs bs v0 v3 v4 l0 l3 l4)(a:Below W.heap.size W W1):Sg w0 w W1 g b p zs bs v0 v3 v4 l0 l3 l4:=⟨h.st.below a,h.hI.below a,h.hz,h.hg⟩
theorem Sg.drew(h:Sg w0 w W g b p zs bs v0 v3 v4 l0 l3 l4):Sg w0 w W.drew g b p zs bs v0 v3 v4 l0 l3 l4:=⟨h.st.drew,h.hI.drew,h.hz,h.hg⟩
theorem Sg.pick{a:Int}(h:Sg w0 w W g b p zs bs v0 v3 v4 l0 l3 l4)(hI:Af w0 W1 g b a)(hB:Below w0.heap.size w0 W1)(c:Ai W W1 g none):Sg w0 w W1 g b a zs bs v0 v3 v4 l0 l3 l4:=⟨h.st.J8 hB c h.hz h.hg rfl,hI,h.hz,h.hg⟩
theorem Sg.put(h:Sg w0 w W g b p zs bs v0 v3 v4 l0 l3 l4)(i j:Nat){a t:Nat}{cs:List Value}(x:Value)(c:bs[i]?=some ⟨a,cs,t⟩):Sg w0 w (W.setCell ⟨a,j,none⟩ x) g b p zs (bs.set i ⟨a,cs.set j x,t⟩) v0 v3 v4 l0 l3 l4 :=
 ⟨h.st.put i j x c,h.hI.GV (p:=⟨a,j,none⟩) (λe=>by have:=h.st.B.ge _ (List.mem_of_getElem? c);have:=h.hg;have d:g=a:=e;simp only at *;omega) x,h.hz,h.hg⟩
theorem Sg.CA(h:Sg w0 w W g b p zs bs v0 v3 v4 l0 l3 l4):Ai w W g none:=⟨h.st.B.hK.1,λi h1 a _=>h.st.B.hK.2 i h1 a⟩
theorem Qb(hz:g∈zs):∀k,Dt zs v3 v4 k->k≠g:=λk a e=>a.1 (e ▸ hz)
theorem K6{α:Type}{d:Kd α}{e base:Nat}{xs:List α}{b:Value}(h:Kd.V d e W base (Dt zs v3 v4) b xs)(hz:g∈zs)(a:Ai W W1 g none):Kd.V d e W1 base (Dt zs v3 v4) b xs:=Kd.Mr h a (λk a e=>a.1 (e ▸ hz))
theorem Sg.Ib(h:Sg w0 w W g b p zs bs v0 v3 v4 l0 l3 l4)(i:Nat){q t:Nat}{r k j e d c b0 b1 b2 b3 b4 b5:Value}(o:bs[i]?=some ⟨q,[r,k,j,e,d,c],t⟩):Sg w0 w ((((((W.setCell ⟨q,0,none⟩ b0).setCell ⟨q,1,none⟩ b1).setCell ⟨q,2,none⟩ b2).setCell ⟨q,3,none⟩ b3).setCell ⟨q,4,none⟩ b4).setCell ⟨q,5,none⟩ b5) g b p zs (bs.set i ⟨q,[b0,b1,b2,b3,b4,b5],t⟩) v0 v3 v4 l0 l3 l4:=by have hl:i<bs.length:=(List.getElem?_eq_some_iff.1 o).1;have h1:=h.put i 0 b0 o;have l:=h1.put i 1 (a:=q) (cs:=[b0,k,j,e,d,c]) (t:=t) b1 (by rw[List.getElem?_set_self hl];rfl);rw[List.set_set]at l;have h3:=l.put i 2 (a:=q) (cs:=[b0,b1,j,e,d,c]) (t:=t) b2 (by rw[List.getElem?_set_self hl];rfl);rw[List.set_set]at h3;have h4:=h3.put i 3 (a:=q) (cs:=[b0,b1,b2,e,d,c]) (t:=t) b3 (by rw[List.getElem?_set_self hl];rfl);rw[List.set_set]at h4;have m:=h4.put i 4 (a:=q) (cs:=[b0,b1,b2,b3,d,c]) (t:=t) b4 (by rw[List.getElem?_set_self hl];rfl);rw[List.set_set]at m;have n:=m.put i 5 (a:=q) (cs:=[b0,b1,b2,b3,b4,c]) (t:=t) b5 (by rw[List.getElem?_set_self hl];rfl);rw[List.set_set]at n;exact n
theorem Sg.DL(h:Sg w0 w W g b p zs bs v0 v3 v4 l0 l3 l4)(i:Nat){q t:Nat}{n j e d c b0 b1 b2 b3 b4:Value}(m:bs[i]?=some ⟨q,[n,j,e,d,c],t⟩):Sg w0 w (((((W.setCell ⟨q,0,none⟩ b0).setCell ⟨q,1,none⟩ b1).setCell ⟨q,2,none⟩ b2).setCell ⟨q,3,none⟩ b3).setCell ⟨q,4,none⟩ b4) g b p zs (bs.set i ⟨q,[b0,b1,b2,b3,b4],t⟩) v0 v3 v4 l0 l3 l4:=by have hl:i<bs.length:=(List.getElem?_eq_some_iff.1 m).1;have h1:=h.put i 0 b0 m;have k:=h1.put i 1 (a:=q) (cs:=[b0,j,e,d,c]) (t:=t) b1 (by rw[List.getElem?_set_self hl];rfl);rw[List.set_set]at k;have h3:=k.put i 2 (a:=q) (cs:=[b0,b1,e,d,c]) (t:=t) b2 (by rw[List.getElem?_set_self hl];rfl);rw[List.set_set]at h3;have h4:=h3.put i 3 (a:=q) (cs:=[b0,b1,b2,d,c]) (t:=t) b3 (by rw[List.getElem?_set_self hl];rfl);rw[List.set_set]at h4;have l:=h4.put i 4 (a:=q) (cs:=[b0,b1,b2,b3,c]) (t:=t) b4 (by rw[List.getElem?_set_self hl];rfl);rw[List.set_set]at l;exact l
theorem Sg.HZ(h:Sg w0 w W g b p zs bs v0 v3 v4 l0 l3 l4)(i:Nat){q t:Nat}{A o m k j e d c b0 b1 b2 b3 b4 b5 l n:Value}(z:bs[i]?=some ⟨q,[A,o,m,k,j,e,d,c],t⟩):Sg w0 w ((((((((W.setCell ⟨q,0,none⟩ b0).setCell ⟨q,1,none⟩ b1).setCell ⟨q,2,none⟩ b2).setCell ⟨q,3,none⟩ b3).setCell ⟨q,4,none⟩ b4).setCell ⟨q,5,none⟩ b5).setCell ⟨q,6,none⟩ l).setCell ⟨q,7,none⟩ n) g b p zs (bs.set i ⟨q,[b0,b1,b2,b3,b4,b5,l,n],t⟩) v0 v3 v4 l0 l3 l4:=by have hl:i<bs.length:=(List.getElem?_eq_some_iff.1 z).1;have h1:=h.put i 0 b0 z;have r:=h1.put i 1 (a:=q) (cs:=[b0,o,m,k,j,e,d,c]) (t:=t) b1 (by rw[List.getElem?_set_self hl];rfl);rw[List.set_set]at r;have h3:=r.put i 2 (a:=q) (cs:=[b0,b1,m,k,j,e,d,c]) (t:=t) b2 (by rw[List.getElem?_set_self hl];rfl);rw[List.set_set]at h3;have h4:=h3.put i 3 (a:=q) (cs:=[b0,b1,b2,k,j,e,d,c]) (t:=t) b3 (by rw[List.getElem?_set_self hl];rfl);rw[List.set_set]at h4;have u:=h4.put i 4 (a:=q) (cs:=[b0,b1,b2,b3,j,e,d,c]) (t:=t) b4 (by rw[List.getElem?_set_self hl];rfl);rw[List.set_set]at u;have v:=u.put i 5 (a:=q) (cs:=[b0,b1,b2,b3,b4,e,d,c]) (t:=t) b5 (by rw[List.getElem?_set_self hl];rfl);rw[List.set_set]at v;have x:=v.put i 6 (a:=q) (cs:=[b0,b1,b2,b3,b4,b5,d,c]) (t:=t) l (by rw[List.getElem?_set_self hl];rfl);rw[List.set_set]at x;have y:=x.put i 7 (a:=q) (cs:=[b0,b1,b2,b3,b4,b5,l,c]) (t:=t) n (by rw[List.getElem?_set_self hl];rfl);rw[List.set_set]at y;exact y
end
end Go.Proofs.YtlhlpfnljglhoaaDoor.P
namespace Go.Proofs.YtlhlpfnljglhoaaDoor.P
open Go.RowKit Go.Proofs.YtlhlpfnljglhoaaDoorW.PrintWords Go.Proofs.YtlhlpfnljglhoaaDoorW.Bc Go.Proofs.YtlhlpfnljglhoaaDoorW.C6
theorem Pf:(Tryd.prog.info? 95).map (λi=>(i.zero,i.size,i.bytes))=some (some (.agg #[.int .i64 0,.int .i64 0,.int .i64 0,.int .i64 0,.int .i64 0,.int .i64 0,.int .i64 0,.string ⟨#[]⟩]),(Kd.raw 8).sz,72):=by kernel_rfl
theorem Kh{P:Program}{fn:Func}{p u:Tmp}{ty:TypeId}(h:fn.results=#[.tmp u,.cell p ty])(tmps:Array Value)(w:World)(g:Nat)(t:TypeId)(cs:Array Value)(fr:Nat×Nat)(d:TypeDesc)
  (c:tmps.getD p undef=.pointer (some ⟨g,0,none⟩))(hg:w.heap[g]?=some (.cells cs t fr))
  (hu:P.underlying ty=some d)(b:(match d with|.struct _|.array _ _=>true|_=>false)=true)(hi:(P.info? ty).map (·.size)=some cs.size) :
  (results fn tmps).run P w=.ok (.tuple #[tmps.getD u undef,.agg cs]) w:=by
 have a:tmps[p]?.getD undef=.pointer (some ⟨g,0,none⟩):=by simpa using c
 simp[results,h,a,asAddr,run_loadVar_row w g t ty cs fr d hg hu b hi]
section
variable {w0 w W W1:World} {g:Nat} {b:List Int} {p:Int} {zs zs':List Nat} {S:Nat->Prop} {bs:List Bx} {v0 v3 v4 u:Value} {l0:Dk} {l3:Ef} {l4:Dl}
theorem WM.made{base:Nat}{o3 o4:Nat->Prop}{l:Nat->Prop}(hB:Below w0.heap.size w0 W)(hz:∀k,k∈zs->k<base)(b:base≤W.heap.size)(d:w0.heap.size≤base)(h0:Kd.R BT 32 W base l v0 l0)(h3:Kd.S GW 26 W base o3 v3 l3)(h4:Kd.S E2 114 W base o4 v4 l4):WM w0 W zs v0 v3 v4 l0 l3 l4:=by
 have c:∀k,base≤k->k∉zs:=λk a e=>by have:=hz k e;omega
 have i:=Kd.FR (Kd.JV h3 (Kd.Dg h4) (by decide));have j:=Kd.FR (Kd.JV h4 (Kd.Dg h3) (by decide));have g:=Kd.CO (Kd.Dd (Kd.Dd h0 (Kd.Dg h3) (by decide)) (Kd.Dg h4) (by decide))
 exact⟨hB,λk a=>Nat.lt_of_lt_of_le (hz k a) b,Kd.AH (Kd.Oh g) (λk a=>⟨c k a.2.1,a.1.1.2,a.1.2⟩),
  Kd.KW (Kd.QE (Kd.Cu i (λk a=>⟨c k a.2.1,a.1.2⟩))) d,Kd.KW (Kd.QE (Kd.Cu j (λk a=>⟨c k a.2.1,a.1.2⟩))) d⟩
theorem BX.drop{q:Bx}(h:BX w W (q.g::zs) S (q::bs)):BX w W zs S bs:=by
 have b:=(List.nodup_cons.1 (show(q.g::bs.map Bx.g).Nodup from h.nd))
 exact⟨λc a=>h.at_ c (List.mem_cons_of_mem _ a),b.2,λc a=>h.ge c (List.mem_cons_of_mem _ a),λc a=>(List.mem_cons.1 (h.mem c (List.mem_cons_of_mem _ a))).elim (λe=>(b.1 (e ▸ List.mem_map_of_mem a)).elim) id,h.hK⟩
structure F6 (w0 w W:World) (g:Nat) (b:List Int) (p:Int) (eb:Nat) (zs:List Nat) (bs:List Bx) (v0 v3 v4:Value) (l0:Dk) (l3:Ef) (l4:Dl) (vE:Value) (n:Nat):Prop where
 M:WM w0 W (eb::zs) v0 v3 v4 l0 l3 l4
 B:BX w W zs (λk=>k=g) bs
 hw:w0.heap.size≤w.heap.size
 hI:Af w0 W g b p
 hz:g∈zs
 hg:g<w.heap.size
 own:vE.ownBlock=some eb
 ge:w.heap.size≤eb
 nb:eb∉zs
 hR:∃rows:List (List Value),rows.length=n∧(Kd.raw 8).R 95 W w0.heap.size (λk=>some k=vE.ownBlock) vE rows
 o3:∀k,v3.ownBlock=some k->w.heap.size≤k
 o4:∀k,v4.ownBlock=some k->w.heap.size≤k
variable {eb n:Nat} {vE:Value}
theorem F6.below(h:F6 w0 w W g b p eb zs bs v0 v3 v4 l0 l3 l4 vE n)(a:Below W.heap.size W W1):F6 w0 w W1 g b p eb zs bs v0 v3 v4 l0 l3 l4 vE n:=by obtain⟨rows,hl,hR⟩:=h.hR;exact⟨h.M.below a,h.B.below a,h.hw,h.hI.below a,h.hz,h.hg,h.own,h.ge,h.nb,⟨rows,hl,Kd.AZ hR a⟩,h.o3,h.o4⟩
theorem F6.box(h:F6 w0 w W g b p eb zs bs v0 v3 v4 l0 l3 l4 vE n){a:Nat}{cs:List Value}{t:Nat}(i:a=W.heap.size)(d:Below W.heap.size W W1)(c:W1.heap[a]?=some (.cells cs.toArray t (0,0))):F6 w0 w W1 g b p eb (a::zs) (⟨a,cs,t⟩::bs) v0 v3 v4 l0 l3 l4 vE n:=by obtain⟨rows,hl,hR⟩:=h.hR;have l:eb<W.heap.size:=h.M.hz eb List.mem_cons_self;exact⟨(h.M.new i d (AU c)).mono (λk j=>by simp only[List.mem_cons]at j⊢;rcases j with e|e|e <;> simp[e]),h.B.new i d c,h.hw,h.hI.below d,List.mem_cons_of_mem _ h.hz,h.hg,h.own,h.ge,not_cons h.nb (by omega),⟨rows,hl,Kd.AZ hR d⟩,h.o3,h.o4⟩
theorem F6.pick{c:Int}(h:F6 w0 w W g b p eb zs bs v0 v3 v4 l0 l3 l4 vE n)(hI:Af w0 W1 g b c)(hB:Below w0.heap.size w0 W1)(a:Ai W W1 g none):F6 w0 w W1 g b c eb zs bs v0 v3 v4 l0 l3 l4 vE n:=by obtain⟨rows,hl,hR⟩:=h.hR;exact⟨h.M.J8 (List.mem_cons_of_mem _ h.hz) hB a,h.B.J8 a h.hg rfl,h.hw,hI,h.hz,h.hg,h.own,h.ge,h.nb,⟨rows,hl,Kd.Bq hR a (λk a e=>h.nb (by rw[h.own]at a;injection a with a;rw[<-a,e];exact h.hz))⟩,h.o3,h.o4⟩
theorem F6.put(h:F6 w0 w W g b p eb zs bs v0 v3 v4 l0 l3 l4 vE n)(i j:Nat){a t:Nat}{cs:List Value}(x:Value)(l:bs[i]?=some ⟨a,cs,t⟩):F6 w0 w (W.setCell ⟨a,j,none⟩ x) g b p eb zs (bs.set i ⟨a,cs.set j x,t⟩) v0 v3 v4 l0 l3 l4 vE n:=by obtain⟨rows,hl,hR⟩:=h.hR;have hm:=List.mem_of_getElem? l;have d:w.heap.size≤a:=h.B.ge _ hm;have hz:a∈zs:=h.B.mem _ hm;exact⟨h.M.set (List.mem_cons_of_mem _ hz) (Nat.le_trans h.hw d) j x,h.B.set i j x l,h.hw,h.hI.GV (p:=⟨a,j,none⟩) (λe=>by have:=h.hg;have m:g=a:=e;omega) x,h.hz,h.hg,h.own,h.ge,h.nb,⟨rows,hl,Kd.CQ hR (p:=⟨a,j,none⟩) (λk c e=>h.nb (by rw[h.own]at c;injection c with c;rw[<-c];exact e ▸ hz)) x⟩,h.o3,h.o4⟩
theorem F6.app{v1:Value}{a:List (List Value)}(h:F6 w0 w W g b p eb zs bs v0 v3 v4 l0 l3 l4 vE n)(hN:(Kd.raw 8).R 95 W1 w0.heap.size (λ_=>True) v1 a)(hl:a.length=n+1)(hB:Below w0.heap.size w0 W1)(d:W.grownBy W1 vE.ownBlock)(m:v1.ownBlock=vE.ownBlock∨∃b,v1.ownBlock=some b∧W.heap.size≤b):∃l,F6 w0 w W1 g b p l zs bs v0 v3 v4 l0 l3 l4 v1 (n+1):=by
 have v:∀k,vE.ownBlock=some k->k∈eb::zs:=λk c=>by rw[h.own]at c;injection c with c;rw[<-c];exact List.mem_cons_self
 obtain⟨b',j,i⟩:∃b',v1.ownBlock=some b'∧(b'=eb∨W.heap.size≤b'):=by
  rcases m with e|⟨b',e,hle⟩
  ·exact⟨eb,e.trans h.own,.inl rfl⟩
  exact⟨b',e,.inr hle⟩
 have r:b'∈eb::zs∨W.heap.size≤b':=i.imp_left (λe=>by rw[e];exact List.mem_cons_self);have o:w.heap.size≤b':=i.elim (λe=>e ▸ h.ge) (λe=>Nat.le_trans h.B.hK.1 e);have t:b'∉zs:=i.elim (λe=>e ▸ h.nb) (λe hm=>by have:=h.M.hz b' (List.mem_cons_of_mem _ hm);omega);exact⟨b',⟨h.M.turn (λ_ c=>List.mem_cons_of_mem _ c) hB d v r (Kd.DQ hN b' j),⟨λq u=>AJ (h.B.at_ q u) d (λe=>h.nb (by rw[h.own]at e;injection e with e;exact e ▸ h.B.mem q u)),h.B.nd,h.B.ge,h.B.mem,h.B.hK.Dy d (λk c=>by rw[h.own]at c;injection c with c;exact .inr (c ▸ h.ge))⟩,h.hw,h.hI.grown d (λe=>h.nb (by rw[h.own]at e;injection e with e;exact e ▸ h.hz)),h.hz,h.hg,j,o,t,⟨a,hl,Kd.Fx rfl hN⟩,h.o3,h.o4⟩⟩
theorem F6.QM{c Gd:Value}{j:Dk}{l:Ef}{m:Dl}(h:F6 w0 w W g b p eb zs bs v0 v3 v4 l0 l3 l4 vE n)(o:WM w0 W1 (eb::zs) c v3 Gd j l m)(d:Out w0 W W1 (eb::zs) v3 v4 Gd):F6 w0 w W1 g b p eb zs bs c v3 Gd j l m vE n:=by
 obtain⟨rows,hl,hR⟩:=h.hR;have i:∀k,(some k=v3.ownBlock∨some k=v4.ownBlock)->k∉eb::zs:=λk a=>a.elim (λe=>(h.M.Hc e.symm).1) (λe=>(h.M.Iv e.symm).1)
 refine⟨o,h.B.kept d.hK (λk a=>.inr (a.elim (λe=>h.o3 k e.symm) (λe=>h.o4 k e.symm))) (λk a e=>i k a (List.mem_cons_of_mem _ e)),h.hw,h.hI.kept d.hK (λhs=>i g hs (List.mem_cons_of_mem _ h.hz)),h.hz,h.hg,h.own,h.ge,h.nb,⟨rows,hl,Kd.OY hR d.hK (λk a hs=>i k hs (by rw[h.own]at a;injection a with a;rw[a];exact List.mem_cons_self))⟩,h.o3,λk a=>?_⟩;rcases d.o4 with e|⟨b',e,hle⟩
 ·exact h.o4 k (e ▸ a)
 rw[e]at a;injection a with a;have:=h.B.hK.1;omega
theorem F6.drop{q:Bx}(h:F6 w0 w W g b p eb (q.g::zs) (q::bs) v0 v3 v4 l0 l3 l4 vE n):F6 w0 w W g b p eb zs bs v0 v3 v4 l0 l3 l4 vE n :=
 ⟨h.M.mono (λk a=>by simp only[List.mem_cons]at a⊢;rcases a with e|e <;> simp[e]),h.B.drop,h.hw,h.hI,(List.mem_cons.1 h.hz).elim (λe=>by have:=h.B.ge q List.mem_cons_self;have:=h.hg;omega) id,h.hg,h.own,h.ge,λe=>h.nb (List.mem_cons_of_mem _ e),h.hR,h.o3,h.o4⟩
theorem F6.DL(h:F6 w0 w W g b p eb zs bs v0 v3 v4 l0 l3 l4 vE n)(i:Nat){q t:Nat}{o j e d c b0 b1 b2 b3 b4:Value}(m:bs[i]?=some ⟨q,[o,j,e,d,c],t⟩):F6 w0 w (((((W.setCell ⟨q,0,none⟩ b0).setCell ⟨q,1,none⟩ b1).setCell ⟨q,2,none⟩ b2).setCell ⟨q,3,none⟩ b3).setCell ⟨q,4,none⟩ b4) g b p eb zs (bs.set i ⟨q,[b0,b1,b2,b3,b4],t⟩) v0 v3 v4 l0 l3 l4 vE n:=by have hl:i<bs.length:=(List.getElem?_eq_some_iff.1 m).1;have h1:=h.put i 0 b0 m;have k:=h1.put i 1 (a:=q) (cs:=[b0,j,e,d,c]) (t:=t) b1 (by rw[List.getElem?_set_self hl];rfl);rw[List.set_set]at k;have h3:=k.put i 2 (a:=q) (cs:=[b0,b1,e,d,c]) (t:=t) b2 (by rw[List.getElem?_set_self hl];rfl);rw[List.set_set]at h3;have h4:=h3.put i 3 (a:=q) (cs:=[b0,b1,b2,d,c]) (t:=t) b3 (by rw[List.getElem?_set_self hl];rfl);rw[List.set_set]at h4;have l:=h4.put i 4 (a:=q) (cs:=[b0,b1,b2,b3,c]) (t:=t) b4 (by rw[List.getElem?_set_self hl];rfl);rw[List.set_set]at l;exact l
theorem F6.HZ(h:F6 w0 w W g b p eb zs bs v0 v3 v4 l0 l3 l4 vE n)(i:Nat){q t:Nat}{B r m k j e d c b0 b1 b2 b3 b4 b5 l o:Value}(A:bs[i]?=some ⟨q,[B,r,m,k,j,e,d,c],t⟩):F6 w0 w ((((((((W.setCell ⟨q,0,none⟩ b0).setCell ⟨q,1,none⟩ b1).setCell ⟨q,2,none⟩ b2).setCell ⟨q,3,none⟩ b3).setCell ⟨q,4,none⟩ b4).setCell ⟨q,5,none⟩ b5).setCell ⟨q,6,none⟩ l).setCell ⟨q,7,none⟩ o) g b p eb zs (bs.set i ⟨q,[b0,b1,b2,b3,b4,b5,l,o],t⟩) v0 v3 v4 l0 l3 l4 vE n:=by have hl:i<bs.length:=(List.getElem?_eq_some_iff.1 A).1;have h1:=h.put i 0 b0 A;have u:=h1.put i 1 (a:=q) (cs:=[b0,r,m,k,j,e,d,c]) (t:=t) b1 (by rw[List.getElem?_set_self hl];rfl);rw[List.set_set]at u;have h3:=u.put i 2 (a:=q) (cs:=[b0,b1,m,k,j,e,d,c]) (t:=t) b2 (by rw[List.getElem?_set_self hl];rfl);rw[List.set_set]at h3;have h4:=h3.put i 3 (a:=q) (cs:=[b0,b1,b2,k,j,e,d,c]) (t:=t) b3 (by rw[List.getElem?_set_self hl];rfl);rw[List.set_set]at h4;have v:=h4.put i 4 (a:=q) (cs:=[b0,b1,b2,b3,j,e,d,c]) (t:=t) b4 (by rw[List.getElem?_set_self hl];rfl);rw[List.set_set]at v;have x:=v.put i 5 (a:=q) (cs:=[b0,b1,b2,b3,b4,e,d,c]) (t:=t) b5 (by rw[List.getElem?_set_self hl];rfl);rw[List.set_set]at x;have y:=x.put i 6 (a:=q) (cs:=[b0,b1,b2,b3,b4,b5,d,c]) (t:=t) l (by rw[List.getElem?_set_self hl];rfl);rw[List.set_set]at y;have z:=y.put i 7 (a:=q) (cs:=[b0,b1,b2,b3,b4,b5,l,c]) (t:=t) o (by rw[List.getElem?_set_self hl];rfl);rw[List.set_set]at z;exact z
theorem F6.QO{v1:Value}(h:Sg w0 w W g b p zs bs v0 v3 v4 l0 l3 l4)(hN:(Kd.raw 8).R 95 W1 w0.heap.size (λ_=>True) v1 [])(hB:Below w0.heap.size w0 W1)(a:W.grownBy W1 none)(d:∃b,v1.ownBlock=some b∧W.heap.size≤b)(o3:∀k,v3.ownBlock=some k->w.heap.size≤k)(o4:∀k,v4.ownBlock=some k->w.heap.size≤k):∃eb,F6 w0 w W1 g b p eb zs bs v0 v3 v4 l0 l3 l4 v1 0:=by obtain⟨eb,i,hle⟩:=d;exact⟨eb,⟨h.st.M.turn (λ_ c=>c) hB a (λk c=>by cases c) (.inr hle) (Kd.DQ hN eb i),⟨λq j=>AJ (h.st.B.at_ q j) a (λe=>by cases e),h.st.B.nd,h.st.B.ge,h.st.B.mem,h.st.B.hK.Dy a (λk c=>by cases c)⟩,h.st.hw,h.hI.grown a (by simp),h.hz,h.hg,i,Nat.le_trans h.st.B.hK.1 hle,λhm=>by have:=h.st.M.hz eb hm;omega,⟨[],rfl,Kd.Fx rfl hN⟩,o3,o4⟩⟩
theorem Sg.made{l:Nat}{cs:List Value}{t:Nat}{o3 o4 o:Nat->Prop}(hI:Af w0 w g b p)(hB:Below w0.heap.size w0 w)(hg:l=w.heap.size)(d:Below w.heap.size w W)(c:W.heap[l]?=some (.cells cs.toArray t (0,0)))(a:Below W.heap.size W W1)(h0:Kd.R BT 32 W1 W.heap.size o v0 l0)(h3:Kd.S GW 26 W1 W.heap.size o3 v3 l3)(h4:Kd.S E2 114 W1 W.heap.size o4 v4 l4):Sg w0 w W1 g b p [l,g] [⟨l,cs,t⟩] v0 v3 v4 l0 l3 l4:=by
 have i:=hI.lt;have n:=AU c;refine⟨⟨WM.made (base:=W.heap.size) (BA (BA hB d) a) (λk m=>?_) a.size (Nat.le_trans hB.size d.size) h0 h3 h4,⟨λq j=>?_,by simp,λq j=>?_,λq j=>?_,(Kept.C4 d _).below a⟩,hB.size⟩,(hI.below d).below a,by simp,i⟩
 ·simp only[List.mem_cons,List.not_mem_nil,or_false]at m;rcases m with e|e
  ·rw[e];exact n
  rw[e];exact Nat.lt_of_lt_of_le i d.size
 ·rw[List.mem_singleton.1 j];exact Az c a
 ·rw[List.mem_singleton.1 j];exact Nat.le_of_eq hg.symm
 rw[List.mem_singleton.1 j];simp
end
end Go.Proofs.YtlhlpfnljglhoaaDoor.P
namespace Go.Proofs.YtlhlpfnljglhoaaDoor.P
open Go.RowKit Go.Proofs.YtlhlpfnljglhoaaDoorW.PrintWords Go.Proofs.YtlhlpfnljglhoaaDoorW.Bc Go.Proofs.YtlhlpfnljglhoaaDoorW.C6
theorem DH.calls(k:Nat)(zs:List Nat)(v0 v3 v4:Value)(l0:Dk)(s:Int)(u:Bool)(l3:Ef)(l4:Dl)(ek T X o0 o1 o2 o3:Int)(o4:ByteArray)(r0:Dk)(r1:Int)(r2:Bool)(r3:Ef)(r4:Dl)(w0 w:World)(h:WM w0 w zs v0 v3 v4 l0 l3 l4)
  (B:DH.f k ⟨l0,s,u,l3,l4⟩ ⟨ek,T,X,⟨o0,o1,o2,o3,o4⟩⟩=some ⟨r0,r1,r2,r3,r4⟩) :
  Calls Tryd.prog 68 #[.agg #[v0,.int .i64 s,.bool u,v3,v4],.agg #[.int .i64 ek,.int .i64 T,.int .i64 X,.int .i64 o0,.int .i64 o1,.int .i64 o2,.int .i64 o3,.string o4]] w λe w'=>∃Gd,e=.returned (.agg #[v0,.int .i64 r1,.bool r2,v3,Gd])∧WM w0 w' zs v0 v3 Gd r0 r3 r4∧Out w0 w w' zs v3 v4 Gd:=by
 have aK:=Tryd.underlying64;have aC:=Tryd.underlying114;have aL:=Tryd.underlying95;have aJ:=Tryd.underlying60;have aI:=Tryd.underlying32;have aG:=Tryd.underlying26;have aH:=Tryd.underlying30;obtain⟨G,I,rfl⟩:=Kd.Ca h.h0;obtain⟨J,c4,rfl⟩:=Kd.CM h.h4;unfold DH.f at B;dsimp only at B;by_cases c:1≤T∧T≤3
 ·rw[if_pos c]at B;have IN:=a_ (KA c);obtain⟨j,hj⟩:∃j,j=T-1:=⟨_,rfl⟩
  rw[<-hj]at B;have aP:wrap64 (T-1)=j:=by rw[hj];unfold wrap64;omega
  by_cases c2:j<(l3.length:Int)
  ·rw[if_pos c2]at B;have CC:=a_ (show 0≤j∧j<(l3.length:Int)from⟨by omega,c2⟩);have q2:(0≤j)=True:=eq_true CC.o.1;have q3:=eq_true c2;obtain⟨r,c3,rfl,-⟩:=Kd.Jm h.h3 (by omega);have M:=a_ (St.start h (λk=>some k=(Value.slice (some ⟨r,0,none⟩) l3.length c3).ownBlock∨some k=(Value.slice J l4.length c4).ownBlock));obtain⟨l,ai⟩:∃c:EI,c=Aw l3 j:=⟨_,rfl⟩
   rw[<-ai]at B;have HC:=a_ ai;clear h c c2 hj ai;go_enter Tryd.func68,Tryd.ntmps68
   go_upto_region 4 with(first
    | ((with_reducible refine Cd (N:=2) rfl ?_);refine CE 2 (#[.slice G l0.length I,.int .i64 s,.bool u,.slice (some ⟨r,0,none⟩) l3.length c3,.slice J l4.length c4]) 64 ?_;intro z hg w1 o q;have D:=M.o.box (cs:=[.slice G l0.length I,.int .i64 s,.bool u,.slice (some ⟨r,0,none⟩) l3.length c3,.slice J l4.length c4]) hg q o;clear M o q hg;have M:=a_ D;clear D)
    | ((with_reducible refine Cd (N:=3) rfl ?_);refine CE 3 (#[.int .i64 ek,.int .i64 T,.int .i64 X,.int .i64 o0,.int .i64 o1,.int .i64 o2,.int .i64 o3,.string o4]) 95 ?_;intro L hg w2 o q;have D:=M.o.box (cs:=[.int .i64 ek,.int .i64 T,.int .i64 X,.int .i64 o0,.int .i64 o1,.int .i64 o2,.int .i64 o3,.string o4]) hg q o;clear M o q hg;have M:=a_ D;clear D)
    | ((with_reducible refine Cd (N:=4) rfl ?_);refine CE 4 (#[.slice none 0 0,.int .i64 0,.bool false,.slice none 0 0,.slice none 0 0]) 64 ?_;intro A hg w3 o q;have D:=M.o.box (cs:=[.slice none 0 0,.int .i64 0,.bool false,.slice none 0 0,.slice none 0 0]) hg q o;clear M o q hg;have M:=a_ D;clear D;obtain⟨z0,z1,z2,U,z4,y⟩:=M.o.B.c5 2 rfl;obtain⟨x0,x1,x2,x3,x4,x5,x6,x7,-⟩:=M.o.B.c8 1 rfl;obtain⟨t0,t1,t2,t3,t4,ty⟩:=M.o.B.c5 0 rfl)
    | (go_at_call 20;(with_reducible refine(Aq.calls T 1 3 true _ IN.o).mono ?_);rintro e w4 ⟨rfl,Y⟩;have D:=M.o.below Y.below;clear M Y z0 z1 z2 U z4 y x0 x1 x2 x3 x4 x5 x6 x7 t0 t1 t2 t3 t4 ty;have M:=a_ D;clear D;obtain⟨z0,z1,z2,U,z4,y⟩:=M.o.B.c5 2 rfl;obtain⟨x0,x1,x2,x3,x4,x5,x6,x7,-⟩:=M.o.B.c8 1 rfl;obtain⟨t0,t1,t2,t3,t4,ty⟩:=M.o.B.c5 0 rfl;obtain⟨B2,b2,B3,b3,⟨f0,f1,f2,f3,f4,f5⟩,g2,ah,-⟩:=M.o.elem j CC.o.1 CC.o.2;rw[<-HC.o]at f0 f1 f2 f3 f4 f5 g2 ah;have H2:=a_ g2;have O:=a_ ah;clear g2 ah)
    | ((with_reducible refine Cd (N:=5) rfl ?_);refine CE 5 (#[.int .i64 0,.int .i64 0,.slice none 0 0,.slice none 0 0,.int .i64 0,.int .i64 0]) 26 ?_;intro E hg w5 o q;have D:=M.o.box (cs:=[.int .i64 0,.int .i64 0,.slice none 0 0,.slice none 0 0,.int .i64 0,.int .i64 0]) hg q o;have aa:=a_ (F9 H2.o hg q);have P:=a_ (F9 O.o hg q);replace f0:=(q.cell (FF _ _ f0)).trans f0;replace f1:=(q.cell (FF _ _ f1)).trans f1;replace f2:=(q.cell (FF _ _ f2)).trans f2;replace f3:=(q.cell (FF _ _ f3)).trans f3;replace f4:=(q.cell (FF _ _ f4)).trans f4;replace f5:=(q.cell (FF _ _ f5)).trans f5;clear M H2 O z0 z1 z2 U z4 y x0 x1 x2 x3 x4 x5 x6 x7 t0 t1 t2 t3 t4 ty o q hg;have M:=a_ D;clear D;have H2:=aa;have O:=P;clear aa P;obtain⟨d0,d1,d2,d3,d4,d5,dy⟩:=M.o.B.c6 0 rfl)
    | ((with_reducible refine CS (t:=26) (p:=5) rfl ?_);refine Cx (t:=26) (p:=5) (v:=?q') (w1:=((((((w5.setCell ⟨E,0,none⟩ (.int .i64 l.f0)).setCell ⟨E,1,none⟩ (.int .i64 l.f1)).setCell ⟨E,2,none⟩ (.slice B2 l.f2.length b2)).setCell ⟨E,3,none⟩ (.slice B3 l.f3.length b3)).setCell ⟨E,4,none⟩ (.int .i64 l.f4)).setCell ⟨E,5,none⟩ (.int .i64 l.f5))) ?hg ?ho ?hn ?hr ?_;(case ho=>rfl);(case hg=>rfl);(case hn=>rfl);(case hr=>first|(go_simp;done)|(go_simp;rfl));intro w6 hw;have D:St w0 w _ (E::A::L::z::zs) _ [⟨E,[.int .i64 l.f0,.int .i64 l.f1,.slice B2 l.f2.length b2,.slice B3 l.f3.length b3,.int .i64 l.f4,.int .i64 l.f5],26⟩,⟨A,[.slice none 0 0,.int .i64 0,.bool false,.slice none 0 0,.slice none 0 0],64⟩,⟨L,[.int .i64 ek,.int .i64 T,.int .i64 X,.int .i64 o0,.int .i64 o1,.int .i64 o2,.int .i64 o3,.string o4],95⟩,⟨z,[.slice G l0.length I,.int .i64 s,.bool u,.slice (some ⟨r,0,none⟩) l3.length c3,.slice J l4.length c4],64⟩] _ _ _ _ _ _:=M.o.Ib 0 rfl;rw[<-hw]at D;have aa:=a_ (show Kd.V Dj 68 w6 w0.heap.size (Dt (E::A::L::z::zs) (.slice (some ⟨r,0,none⟩) l3.length c3) (.slice J l4.length c4)) (.slice B2 l.f2.length b2) l.f2 by rw[hw];exact(DE (DE (DE (DE (DE (DE H2.o List.mem_cons_self 0 _) List.mem_cons_self 1 _) List.mem_cons_self 2 _) List.mem_cons_self 3 _) List.mem_cons_self 4 _) List.mem_cons_self 5 _));have P:=a_ (show Kd.V BT 32 w6 w0.heap.size (Dt (E::A::L::z::zs) (.slice (some ⟨r,0,none⟩) l3.length c3) (.slice J l4.length c4)) (.slice B3 l.f3.length b3) l.f3 by rw[hw];exact(DE (DE (DE (DE (DE (DE O.o List.mem_cons_self 0 _) List.mem_cons_self 1 _) List.mem_cons_self 2 _) List.mem_cons_self 3 _) List.mem_cons_self 4 _) List.mem_cons_self 5 _));clear M H2 O hw f0 f1 f2 f3 f4 f5 d0 d1 d2 d3 d4 d5 dy;have M:=a_ D;have H2:=aa;have O:=P;clear D aa P;obtain⟨z0,z1,z2,U,z4,y⟩:=M.o.B.c5 3 rfl;obtain⟨x0,x1,x2,x3,x4,x5,x6,x7,-⟩:=M.o.B.c8 2 rfl;obtain⟨t0,t1,t2,t3,t4,ty⟩:=M.o.B.c5 1 rfl;obtain⟨d0,d1,d2,d3,d4,d5,dy⟩:=M.o.B.c6 0 rfl))
   by_cases k1:ek=1
   ·rw[if_pos k1]at B;have cb:(ek==1)=true:=beq_iff_eq.mpr k1;clear k1;obtain⟨⟨p1,p2,p3,p4,p5,p6,p7⟩,hp,B⟩:=BU B;simp only[Option.some.injEq,Wd.mk.injEq]at B;obtain⟨rfl,rfl,rfl,rfl,rfl⟩:=B;have HP:=a_ hp;clear hp;go_upto_region 6 with(fail)
    have ao:=a_ (Kd.AR H2.o);have ae:=a_ (Kd.AR O.o);have Md:=a_ M.o.drew;clear M H2 O;have M:=Md;have H2:=ao;have O:=ae;clear Md ao ae;refine Ch (n:=14) (S:=λw'=>w'.cell? ⟨z,3,none⟩=some (.slice (some ⟨r,0,none⟩) l3.length c3)∧w'.cell? ⟨L,1,none⟩=some (.int .i64 T)∧w'.cell? ⟨L,3,none⟩=some (.int .i64 o0)∧w'.cell? ⟨L,4,none⟩=some (.int .i64 o1)∧w'.cell? ⟨L,5,none⟩=some (.int .i64 o2)∧w'.cell? ⟨L,6,none⟩=some (.int .i64 o3)∧w'.cell? ⟨L,7,none⟩=some (.string o4)∧w'.cell? ⟨E,0,none⟩=some (.int .i64 l.f0)∧w'.cell? ⟨E,1,none⟩=some (.int .i64 l.f1)∧w'.cell? ⟨E,2,none⟩=some (.slice B2 l.f2.length b2)∧w'.cell? ⟨E,3,none⟩=some (.slice B3 l.f3.length b3)∧w'.cell? ⟨E,4,none⟩=some (.int .i64 l.f4)∧w'.cell? ⟨E,5,none⟩=some (.int .i64 l.f5)) (ds:=[13]) #[false,false,false,false,false,false,false,false,false,false,false,false,false,false] (by kernel_rfl) rfl rfl ⟨U,x1,x3,x4,x5,x6,x7,d0,d1,d2,d3,d4,d5⟩ (λm=>?_);refine A_ 0 24 ?_;refine A_ 2 26 ?_;refine A_ 6 30 ?_;refine E0 1 25 m ?_;refine E0 3 27 m ?_;refine A_ 4 28 ?_;refine E0 5 29 m ?_;refine E0 7 31 m ?_;refine EU 8 32 (λK hK=>?_);refine Dp Tryd.func26 (by kernel_rfl) rfl #[.agg #[.int .i64 l.f0,.int .i64 l.f1,.slice B2 l.f2.length b2,.slice B3 l.f3.length b3,.int .i64 l.f4,.int .i64 l.f5],.agg #[.int .i64 o0,.int .i64 o1,.int .i64 o2,.int .i64 o3,.string o4]] (by rfl) rfl rfl (by simp only[List.map_toArray,List.map_cons,List.map_nil];rfl) ?_;with_reducible refine(Cg.calls k l.f0 l.f1 (Dt (E::A::L::z::zs) (.slice (some ⟨r,0,none⟩) l3.length c3) (.slice J l4.length c4)) B2 b2 l.f2 (Dt (E::A::L::z::zs) (.slice (some ⟨r,0,none⟩) l3.length c3) (.slice J l4.length c4)) B3 b3 l.f3 l.f4 l.f5 o0 o1 o2 o3 o4 p1 p2 p3 p4 p5 p6 p7 _ (show Kd.V _ _ _ _ _ _ _ from H2.o) (show Kd.V _ _ _ _ _ _ _ from O.o) HP.o).mono ?_
    rintro e w8 ⟨aV,aW,rfl,al,an,q⟩;refine⟨_,rfl,?_⟩;obtain⟨W,aM,ay⟩:=Kd.Ca al;subst ay;obtain⟨D3,aN,aA⟩:=Kd.Ca an;subst aA;have G2:=a_ (Mq (b':=0) M.o.M al (λk Z=>Z.elim id id));have G3:=a_ (Mq (b':=0) M.o.M an (λk Z=>Z.elim id id));have D:=M.o.below q;clear M H2 O al an q z0 z1 z2 U z4 y x0 x1 x2 x3 x4 x5 x6 x7 t0 t1 t2 t3 t4 ty d0 d1 d2 d3 d4 d5 dy;have M:=a_ D;clear D;obtain⟨z0,z1,z2,U,z4,y⟩:=M.o.B.c5 3 rfl;obtain⟨x0,x1,x2,x3,x4,x5,x6,x7,-⟩:=M.o.B.c8 2 rfl;obtain⟨t0,t1,t2,t3,t4,ty⟩:=M.o.B.c5 1 rfl;obtain⟨d0,d1,d2,d3,d4,d5,dy⟩:=M.o.B.c6 0 rfl;obtain⟨_,_,_,_,⟨f0,f1,f2,f3,f4,f5⟩,-,-,fz⟩:=M.o.elem j CC.o.1 CC.o.2;have aO:w8.frozen? ⟨r,j.toNat*6,none⟩=false:=fz 0;have aD:A≠z:=M.o.B.ne (i:=1) (i':=3) rfl rfl (by decide);have aR:z≠A:=λe=>aD e.symm
    have NZ:=a_ (M.o.M.Hc (k:=r) (by simp[Value.ownBlock]));have aE:r≠z:=λe=>NZ.o.1 (by simp[e])
    have aS:z≠r:=λe=>aE e.symm
    have aF:r≠A:=λe=>NZ.o.1 (by simp[e])
    have aT:A≠r:=λe=>aF e.symm
    refine hK.out _ _ ⟨U,x1,x3,x4,x5,x6,x7,d0,d1,d2,d3,d4,d5⟩ (λm=>?_);clear hK K;refine Ea 32 ?_;refine A_ 9 23 ?_;refine A_ 10 33 ?_;refine A_ 11 34 ?_;refine A_ 12 35 ?_;refine EX (i:=13) (N:=none) #[true,true,true,true,true,true,true,true,true,true,true,true,true,true] rfl rfl (by kernel_rfl) (by decide) (λK hK=>?_);refine E4 (w1:=?_) (by rfl) rfl ?_ ?_;rotate_left
    ·go_simp;rfl
    refine hK.out _ _ ?_;clear hK K;refine CT (by kernel_rfl) ?_;go_wp2;have W:St w0 w _ (E::A::L::z::zs) _ [⟨E,[.int .i64 l.f0,.int .i64 l.f1,.slice B2 l.f2.length b2,.slice B3 l.f3.length b3,.int .i64 l.f4,.int .i64 l.f5],26⟩,⟨A,[.slice G l0.length I,.int .i64 s,.bool u,.slice (some ⟨r,0,none⟩) l3.length c3,.slice J l4.length c4],64⟩,⟨L,[.int .i64 ek,.int .i64 T,.int .i64 X,.int .i64 o0,.int .i64 o1,.int .i64 o2,.int .i64 o3,.string o4],95⟩,⟨z,[.slice G l0.length I,.int .i64 s,.bool u,.slice (some ⟨r,0,none⟩) l3.length c3,.slice J l4.length c4],64⟩] _ _ _ _ _ _:=(M.o.Kx (a:=p1) (b:=p2) (c:=p5) (d:=p6) (.inl (by simp[Value.ownBlock])) j CC.o.1 CC.o.2 G2.o G3.o).DL 1 rfl;have DB:=W.B.EJ 1 rfl;refine bodyPost_ret (results_cell_row rfl _ _ A 64 #[.slice G l0.length I,.int .i64 s,.bool u,.slice (some ⟨r,0,none⟩) l3.length c3,.slice J l4.length c4] (0,0) _ rfl DB Tryd.underlying64 rfl (by kernel_rfl)) rfl ?_;exact⟨_,rfl,W.M.mono (λk Z=>by simp[Z]),W.B.hK,.inl rfl⟩
   rw[if_neg k1]at B;have cb:(ek==1)=false:=Dq k1;clear k1;by_cases k2:ek=2
   ·rw[if_pos k2]at B;have aw:(ek==2)=true:=beq_iff_eq.mpr k2;clear k2;obtain⟨lt,ak⟩:∃x:Dl,x=Gb l4 l.f3:=⟨_,rfl⟩
    rw[<-ak]at B;simp only[Option.some.injEq,Wd.mk.injEq]at B;obtain⟨rfl,rfl,rfl,rfl,rfl⟩:=B;have aq:=a_ (show Gb l4 (l.f3.drop (0:Int).toNat)=lt from ak.symm);have LB:=a_ (show l.f3.length≤9223372036854775807 from(Kd.Bk O.o).2.2.2.1);clear ak;go_wp2;go_loopg [6] (l.f3.length+1) (λkq v6 w'=>∃(i:Int) (lq:Dl) (q4:Value),v6=.int .i64 i∧Ae (0≤i∧i≤(l.f3.length:Int)∧(l.f3.length:Int)-i<kq∧kq≤l.f3.length+1)∧Ae (Gb lq (l.f3.drop i.toNat)=lt)∧Ae (St w0 w w' (E::A::L::z::zs) (λk=>some k=(Value.slice (some ⟨r,0,none⟩) l3.length c3).ownBlock∨some k=(Value.slice J l4.length c4).ownBlock) [⟨E,[.int .i64 l.f0,.int .i64 l.f1,.slice B2 l.f2.length b2,.slice B3 l.f3.length b3,.int .i64 l.f4,.int .i64 l.f5],26⟩,⟨A,[.slice none 0 0,.int .i64 0,.bool false,.slice none 0 0,.slice none 0 0],64⟩,⟨L,[.int .i64 ek,.int .i64 T,.int .i64 X,.int .i64 o0,.int .i64 o1,.int .i64 o2,.int .i64 o3,.string o4],95⟩,⟨z,[.slice G l0.length I,.int .i64 s,.bool u,.slice (some ⟨r,0,none⟩) l3.length c3,q4],64⟩] (.slice G l0.length I) (.slice (some ⟨r,0,none⟩) l3.length c3) q4 l0 l3 lq)∧Ae (Kd.V BT 32 w' w0.heap.size (Dt (E::A::L::z::zs) (.slice (some ⟨r,0,none⟩) l3.length c3) q4) (.slice B3 l.f3.length b3) l.f3)∧Ae (q4.ownBlock=(Value.slice J l4.length c4).ownBlock∨∃b,q4.ownBlock=some b∧w.heap.size≤b))
    case atStart=>exact⟨0,l4,.slice J l4.length c4,rfl,⟨by omega,by omega,by omega,by omega⟩,aq,M,O,⟨.inl rfl⟩⟩
    clear M H2 O aq z0 z1 z2 U z4 y x0 x1 x2 x3 x4 x5 x6 x7 t0 t1 t2 t3 t4 ty d0 d1 d2 d3 d4 d5 dy;obtain⟨i,lq,q4,rfl,HI,HS,M,O,OO⟩:=hrel;cases gk with
    | zero=>exact absurd HI.o.2.2.1 (by have:=HI.o;omega)
    | succ k1 =>
     obtain⟨A9,c9,rfl⟩:=Kd.CM M.o.M.h4
     obtain⟨z0,z1,z2,U,z4,y⟩:=M.o.B.c5 3 rfl;obtain⟨x0,x1,x2,x3,x4,x5,x6,x7,-⟩:=M.o.B.c8 2 rfl;obtain⟨t0,t1,t2,t3,t4,ty⟩:=M.o.B.c5 1 rfl;obtain⟨d0,d1,d2,d3,d4,d5,dy⟩:=M.o.B.c6 0 rfl
     by_cases c3:i<(l.f3.length:Int)
     ·have av:decide (i<(l.f3.length:Int))=true:=BJ c3
      obtain⟨ad,rfl,e0,e1,e2,e3,e4,e5,e6⟩:=QG O.o i HI.o.1 c3
      obtain⟨ln,aj⟩:∃x:Dl,x=BI.f lq ⟨0,0,[(Aa l.f3 i)]⟩:=⟨_,rfl⟩
      have ar:=a_ (show Gb ln (l.f3.drop (i+1).toNat)=lt by rw[aj,<-KL lq l.f3 i HI.o.1 c3];exact HS.o)
      have HQ:=a_ aj
      have II:=a_ (And.intro HI.o.1 (And.intro c3 (show wrap64 (i+1)=i+1 by have:=HI.o;have:=LB.o;unfold wrap64;omega)))
      have q4:=eq_true HI.o.1
      have q5:=eq_true c3
      have aQ:=II.o.2.2
      clear c3 HS aj
      go_upto_region 11 with(fail)
      have ae:=a_ (Kd.AR O.o)
      have Md:=a_ M.o.drew
      clear M O
      have M:=Md
      have O:=ae
      clear Md ae
      refine Ch (n:=10) (S:=λw'=>w'.cell? ⟨z,0,none⟩=some (.slice G l0.length I)∧w'.cell? ⟨z,1,none⟩=some (.int .i64 s)∧w'.cell? ⟨z,2,none⟩=some (.bool u)∧w'.cell? ⟨z,3,none⟩=some (.slice (some ⟨r,0,none⟩) l3.length c3)∧w'.cell? ⟨z,4,none⟩=some (.slice A9 lq.length c9)∧w'.cell? ⟨E,3,none⟩=some (.slice (some ad) l.f3.length b3)∧w'.cell? (ad.add (i.toNat*7))=some (.int .i64 (Aa l.f3 i).f0)∧w'.cell? ⟨(ad.add (i.toNat*7)).block,(ad.add (i.toNat*7)).off+1,none⟩=some (.int .i64 (Aa l.f3 i).f1)∧w'.cell? ⟨(ad.add (i.toNat*7)).block,(ad.add (i.toNat*7)).off+2,none⟩=some (.int .i64 (Aa l.f3 i).f2.f0)∧w'.cell? ⟨(ad.add (i.toNat*7)).block,(ad.add (i.toNat*7)).off+3,none⟩=some (.int .i64 (Aa l.f3 i).f2.f1)∧w'.cell? ⟨(ad.add (i.toNat*7)).block,(ad.add (i.toNat*7)).off+4,none⟩=some (.int .i64 (Aa l.f3 i).f2.f2)∧w'.cell? ⟨(ad.add (i.toNat*7)).block,(ad.add (i.toNat*7)).off+5,none⟩=some (.int .i64 (Aa l.f3 i).f2.f3)∧w'.cell? ⟨(ad.add (i.toNat*7)).block,(ad.add (i.toNat*7)).off+6,none⟩=some (.string (Aa l.f3 i).f2.f4)) (ds:=[8,9]) #[false,false,false,false,false,false,false,false,false,false] (by kernel_rfl) rfl rfl ⟨z0,z1,z2,U,z4,d3,e0,e1,e2,e3,e4,e5,e6⟩ (λm=>?_)
      refine A_ 1 46 ?_
      refine A_ 3 48 ?_
      refine E0 0 45 m ?_
      refine E0 2 47 m ?_
      refine A_ 4 49 ?_
      refine E0 5 50 m ?_
      refine EU 6 51 (λK hK=>?_)
      refine Kd.CR BT _ 32 ?hg (N:=51) ?hd (xs:=([(Aa l.f3 i)]:Dk)) (inner:=[.int .i64 (Aa l.f3 i).f0,.int .i64 (Aa l.f3 i).f1,.int .i64 (Aa l.f3 i).f2.f0,.int .i64 (Aa l.f3 i).f2.f1,.int .i64 (Aa l.f3 i).f2.f2,.int .i64 (Aa l.f3 i).f2.f3,.string (Aa l.f3 i).f2.f4]) (ok:=λ_=>True) (okp:=λ_=>True) ?hr ?hp (λ_ Z=>Z) trivial (Below.refl _ _) (Nat.le_refl _) (by simp) ?_;(case hd=>rfl);(case hg=>rfl);(case hr=>first|(go_simp;done)|(go_simp;rfl));(case hp=>exact(Bi.c7 (show Kd.M BT _ _ _ (Aa l.f3 i) [.int .i64 (Aa l.f3 i).f0,.int .i64 (Aa l.f3 i).f1,.int .i64 (Aa l.f3 i).f2.f0,.int .i64 (Aa l.f3 i).f2.f1,.int .i64 (Aa l.f3 i).f2.f2,.int .i64 (Aa l.f3 i).f2.f3,.string (Aa l.f3 i).f2.f4]from(Ex _ _ _ (Aa l.f3 i))) (Bi.none _ _)))
      intro u1 w8 ho q hg aB
      have HN:=a_ (Ms (b:=w0.heap.size) M.o.M ho)
      obtain⟨ab,Dr,ag⟩:=Kd.Ca HN.o
      subst ag
      have P:=a_ (Kd.BE O.o q)
      have D:=M.o.below q
      have XX:=a_ (show _ from(⟨(q.cell (FF _ _ e0)).trans e0,(q.cell (FF _ _ e1)).trans e1,(q.cell (FF _ _ e2)).trans e2,(q.cell (FF _ _ e3)).trans e3,(q.cell (FF _ _ e4)).trans e4,(q.cell (FF _ _ e5)).trans e5,(q.cell (FF _ _ e6)).trans e6⟩:_∧_∧_∧_∧_∧_∧_))
      clear M O ho q hg aB e0 e1 e2 e3 e4 e5 e6 z0 z1 z2 U z4 y x0 x1 x2 x3 x4 x5 x6 x7 t0 t1 t2 t3 t4 ty d0 d1 d2 d3 d4 d5 dy
      have M:=a_ D
      have O:=P
      clear D P
      obtain⟨z0,z1,z2,U,z4,y⟩:=M.o.B.c5 3 rfl;obtain⟨x0,x1,x2,x3,x4,x5,x6,x7,-⟩:=M.o.B.c8 2 rfl;obtain⟨t0,t1,t2,t3,t4,ty⟩:=M.o.B.c5 1 rfl;obtain⟨d0,d1,d2,d3,d4,d5,dy⟩:=M.o.B.c6 0 rfl
      obtain⟨e0,e1,e2,e3,e4,e5,e6⟩:=XX.o
      clear XX
      refine hK.out _ _ ⟨z0,z1,z2,U,z4,d3,e0,e1,e2,e3,e4,e5,e6⟩ (λm=>?_)
      clear hK K
      refine Ea 51 ?_
      refine A_ 7 52 ?_
      refine EX (i:=8) (N:=some 53) #[true,true,true,true,true,true,true,true,true,false] rfl rfl (by kernel_rfl) (by decide) (λK hK=>?_)
      refine Dp Tryd.func72 (by kernel_rfl) rfl #[.agg #[.slice G l0.length I,.int .i64 s,.bool u,.slice (some ⟨r,0,none⟩) l3.length c3,.slice A9 lq.length c9],.agg #[.int .i64 0,.int .i64 0,.slice ab ([(Aa l.f3 i)]:Dk).length Dr]] (by rfl) rfl rfl (by simp only[List.map_toArray,List.map_cons,List.map_nil];rfl) ?_
      with_reducible refine(BI.calls (E::A::L::z::zs) (.slice G l0.length I) (.slice (some ⟨r,0,none⟩) l3.length c3) (.slice A9 lq.length c9) (.slice ab ([(Aa l.f3 i)]:Dk).length Dr) l0 s u l3 lq 0 0 [(Aa l.f3 i)] w0 _ M.o.M HN.o).mono ?_
      rintro e w9 ⟨Gd,rfl,hM,hO⟩
      refine⟨_,rfl,?_⟩
      rw[<-HQ.o]at hM
      obtain⟨A7,c7,e7⟩:=Kd.CM hM.h4
      subst e7
      have HK:=hO.hK
      have BB:=M.o.B.kept hO.hK (λk Z=>Z.elim (λe=>.inl (.inl e)) (λe=>OO.o.elim (λf=>.inl (.inr (e.trans f))) (λ⟨b,f,g⟩=>.inr (by rw[f]at e;injection e with e;omega)))) (λk Z=>Z.elim (λe=>(M.o.M.Hc e.symm).1) (λe=>(M.o.M.Iv e.symm).1))
      have P:=a_ (show Kd.V BT 32 w9 w0.heap.size (Dt (E::A::L::z::zs) (.slice (some ⟨r,0,none⟩) l3.length c3) (.slice A7 ln.length c7)) (.slice (some ad) l.f3.length b3) l.f3 from PT O.o hO)
      have OX:=a_ (show(Value.slice A7 ln.length c7).ownBlock=(Value.slice J l4.length c4).ownBlock∨∃b,(Value.slice A7 ln.length c7).ownBlock=some b∧w.heap.size≤b from hO.o4.elim (λe=>OO.o.imp (λf=>e.trans f) (λ⟨b,f,g⟩=>⟨b,e.trans f,g⟩)) (λ⟨b,f,g⟩=>.inr ⟨b,f,Nat.le_trans M.o.B.hK.1 g⟩))
      have D:St w0 w _ _ _ _ _ _ _ _ _ _:=⟨hM,BB,M.o.hw⟩
      clear M O HN hM hO BB OO HK z0 z1 z2 U z4 y x0 x1 x2 x3 x4 x5 x6 x7 t0 t1 t2 t3 t4 ty d0 d1 d2 d3 d4 d5 dy
      have M:=a_ D
      have O:=P
      have OO:=OX
      clear D P OX
      obtain⟨z0,z1,z2,U,z4,y⟩:=M.o.B.c5 3 rfl;obtain⟨x0,x1,x2,x3,x4,x5,x6,x7,-⟩:=M.o.B.c8 2 rfl;obtain⟨t0,t1,t2,t3,t4,ty⟩:=M.o.B.c5 1 rfl;obtain⟨d0,d1,d2,d3,d4,d5,dy⟩:=M.o.B.c6 0 rfl
      obtain⟨au,az,f0,f1,f2,f3,f4,f5,f6⟩:=QG O.o i II.o.1 II.o.2.1
      obtain rfl:ad=au:=by injection az
      clear e0 e1 e2 e3 e4 e5 e6
      have e0:=f0
      have e1:=f1
      have e2:=f2
      have e3:=f3
      have e4:=f4
      have e5:=f5
      have e6:=f6
      clear f0 f1 f2 f3 f4 f5 f6
      refine hK.out _ _ ?_
      clear hK K
      refine Ea 53 ?_
      refine EX (i:=9) (N:=none) #[true,true,true,true,true,true,true,true,true,true] rfl rfl (by kernel_rfl) (by decide) (λK hK=>?_)
      refine E4 (w1:=?_) (by rfl) rfl ?_ ?_
      rotate_left
      ·go_simp
       rfl
      refine hK.out _ _ ?_
      clear hK K
      refine CT (by kernel_rfl) ?_
      go_wp2
      go_roundg k1
      case measure=>have:=HI.o;omega
      case rel=>exact⟨i+1,ln,.slice A7 ln.length c7,(by first|rfl|(simp[*];done)),⟨by have:=HI.o;have:=II.o;omega⟩,ar,⟨M.o.DL 3 rfl⟩,⟨(DE (DE (DE (DE (DE O.o (by simp) 0 _) (by simp) 1 _) (by simp) 2 _) (by simp) 3 _) (by simp) 4 _)⟩,OO⟩
     ·have av:decide (i<(l.f3.length:Int))=false:=C1 c3
      have he:=HS.o
      rw[L7 lq l.f3 i c3]at he
      subst he
      clear c3 HS
      go_wp2
      have W:St w0 w _ (E::A::L::z::zs) _ [⟨E,[.int .i64 l.f0,.int .i64 l.f1,.slice B2 l.f2.length b2,.slice B3 l.f3.length b3,.int .i64 l.f4,.int .i64 l.f5],26⟩,⟨A,[.slice G l0.length I,.int .i64 s,.bool u,.slice (some ⟨r,0,none⟩) l3.length c3,.slice A9 lq.length c9],64⟩,⟨L,[.int .i64 ek,.int .i64 T,.int .i64 X,.int .i64 o0,.int .i64 o1,.int .i64 o2,.int .i64 o3,.string o4],95⟩,⟨z,[.slice G l0.length I,.int .i64 s,.bool u,.slice (some ⟨r,0,none⟩) l3.length c3,.slice A9 lq.length c9],64⟩] _ _ _ _ _ _:=M.o.DL 1 rfl
      have DB:=W.B.EJ 1 rfl
      refine bodyPost_ret (results_cell_row rfl _ _ A 64 #[.slice G l0.length I,.int .i64 s,.bool u,.slice (some ⟨r,0,none⟩) l3.length c3,.slice A9 lq.length c9] (0,0) _ rfl DB Tryd.underlying64 rfl (by kernel_rfl)) rfl ?_
      exact⟨_,rfl,W.M.mono (λk Z=>by simp[Z]),W.B.hK,OO.o⟩
   rw[if_neg k2]at B;have aw:(ek==2)=false:=Dq k2;clear k2;by_cases k4:ek=4
   ·rw[if_pos k4]at B;have ax:(ek==4)=true:=beq_iff_eq.mpr k4;clear k4;cases u with
    | true =>
     rw[if_pos rfl]at B
     by_cases c4:0≤X∧X≤s
     ·rw[if_pos c4]at B
      obtain⟨ln,hp,B⟩:=BU B
      simp only[Option.some.injEq,Wd.mk.injEq]at B
      obtain⟨rfl,rfl,rfl,rfl,rfl⟩:=B
      have HP:=a_ hp
      have af:=a_ (KA c4)
      clear hp c4
      go_upto_region 14 with((go_at_call 20;(with_reducible refine(Aq.calls X 0 s true _ af.o).mono ?_);rintro e w7 ⟨rfl,Y⟩;have D:=M.o.below Y.below;have aa:=a_ (Kd.BE H2.o Y.below);have P:=a_ (Kd.BE O.o Y.below);clear H2 O;have H2:=aa;have O:=P;clear aa P;clear M Y z0 z1 z2 U z4 y x0 x1 x2 x3 x4 x5 x6 x7 t0 t1 t2 t3 t4 ty d0 d1 d2 d3 d4 d5 dy;have M:=a_ D;clear D;obtain⟨z0,z1,z2,U,z4,y⟩:=M.o.B.c5 3 rfl;obtain⟨x0,x1,x2,x3,x4,x5,x6,x7,-⟩:=M.o.B.c8 2 rfl;obtain⟨t0,t1,t2,t3,t4,ty⟩:=M.o.B.c5 1 rfl;obtain⟨d0,d1,d2,d3,d4,d5,dy⟩:=M.o.B.c6 0 rfl))
      have Md:=a_ M.o.drew
      clear M
      have M:=Md
      clear Md
      refine Ch (n:=13) (S:=λw'=>w'.cell? ⟨z,0,none⟩=some (.slice G l0.length I)∧w'.cell? ⟨z,1,none⟩=some (.int .i64 s)∧w'.cell? ⟨z,2,none⟩=some (.bool true)∧w'.cell? ⟨z,3,none⟩=some (.slice (some ⟨r,0,none⟩) l3.length c3)∧w'.cell? ⟨z,4,none⟩=some (.slice J l4.length c4)∧w'.cell? ⟨L,1,none⟩=some (.int .i64 T)∧w'.cell? ⟨L,2,none⟩=some (.int .i64 X)) (ds:=[11,12]) #[false,false,false,false,false,false,false,false,false,false,false,false,false] (by kernel_rfl) rfl rfl ⟨z0,z1,z2,U,z4,x1,x2⟩ (λm=>?_)
      refine A_ 1 68 ?_
      refine A_ 3 70 ?_
      refine A_ 5 72 ?_
      refine A_ 7 74 ?_
      refine Iy 0 67 m ?_
      refine Iy 2 69 m ?_
      refine Iy 4 71 m ?_
      refine Iy 6 73 m ?_
      refine Iy 8 75 m ?_
      refine EU 9 76 (λK hK=>?_)
      refine Dp Tryd.func73 (by kernel_rfl) rfl #[.agg #[.slice G l0.length I,.int .i64 s,.bool true],.int .i64 X] (by rfl) rfl rfl (by simp only[List.map_toArray,List.map_cons,List.map_nil];rfl) ?_
      with_reducible refine(Di.calls k G I l0 s true X ln _ (Kd.Bk M.o.M.h0).2.2 (Kd.Bk M.o.M.h0).2.1 HP.o).mono ?_
      rintro e w8 ⟨aU,rfl,hr,q⟩
      refine⟨_,rfl,?_⟩
      have HN:=a_ (Ms (b:=w0.heap.size) M.o.M hr)
      obtain⟨ab,Dr,ag⟩:=Kd.Ca HN.o
      subst ag
      have D:=M.o.below q
      clear M hr q H2 O z0 z1 z2 U z4 y x0 x1 x2 x3 x4 x5 x6 x7 t0 t1 t2 t3 t4 ty d0 d1 d2 d3 d4 d5 dy
      have M:=a_ D
      clear D
      obtain⟨z0,z1,z2,U,z4,y⟩:=M.o.B.c5 3 rfl;obtain⟨x0,x1,x2,x3,x4,x5,x6,x7,-⟩:=M.o.B.c8 2 rfl;obtain⟨t0,t1,t2,t3,t4,ty⟩:=M.o.B.c5 1 rfl;obtain⟨d0,d1,d2,d3,d4,d5,dy⟩:=M.o.B.c6 0 rfl
      refine hK.out _ _ ⟨z0,z1,z2,U,z4,x1,x2⟩ (λm=>?_)
      clear hK K
      refine Ea 76 ?_
      refine A_ 10 77 ?_
      refine EX (i:=11) (N:=some 78) #[true,true,true,true,true,true,true,true,true,true,true,true,false] rfl rfl (by kernel_rfl) (by decide) (λK hK=>?_)
      refine Dp Tryd.func72 (by kernel_rfl) rfl #[.agg #[.slice G l0.length I,.int .i64 s,.bool true,.slice (some ⟨r,0,none⟩) l3.length c3,.slice J l4.length c4],.agg #[.int .i64 T,.int .i64 X,.slice ab ln.length Dr]] (by rfl) rfl rfl (by simp only[List.map_toArray,List.map_cons,List.map_nil];rfl) ?_
      with_reducible refine(BI.calls (E::A::L::z::zs) (.slice G l0.length I) (.slice (some ⟨r,0,none⟩) l3.length c3) (.slice J l4.length c4) (.slice ab ln.length Dr) l0 s true l3 l4 T X ln w0 _ M.o.M HN.o).mono ?_
      rintro e w9 ⟨Gd,rfl,hM,hO⟩
      refine⟨_,rfl,?_⟩
      obtain⟨A7,c7,e7⟩:=Kd.CM hM.h4
      subst e7
      have BB:=M.o.B.kept hO.hK (λk Z=>.inl Z) (λk Z=>Z.elim (λe=>(M.o.M.Hc e.symm).1) (λe=>(M.o.M.Iv e.symm).1))
      have OO:=a_ (show(Value.slice A7 (BI.f l4 ⟨T,X,ln⟩).length c7).ownBlock=(Value.slice J l4.length c4).ownBlock∨∃b,(Value.slice A7 (BI.f l4 ⟨T,X,ln⟩).length c7).ownBlock=some b∧w.heap.size≤b from hO.o4.imp_right (λ⟨b,h1,h2⟩=>⟨b,h1,Nat.le_trans M.o.B.hK.1 h2⟩))
      have D:St w0 w _ _ _ _ _ _ _ _ _ _:=⟨hM,BB,M.o.hw⟩
      clear M HN hM hO BB z0 z1 z2 U z4 y x0 x1 x2 x3 x4 x5 x6 x7 t0 t1 t2 t3 t4 ty d0 d1 d2 d3 d4 d5 dy
      have M:=a_ D
      clear D
      obtain⟨z0,z1,z2,U,z4,y⟩:=M.o.B.c5 3 rfl;obtain⟨x0,x1,x2,x3,x4,x5,x6,x7,-⟩:=M.o.B.c8 2 rfl;obtain⟨t0,t1,t2,t3,t4,ty⟩:=M.o.B.c5 1 rfl;obtain⟨d0,d1,d2,d3,d4,d5,dy⟩:=M.o.B.c6 0 rfl
      refine hK.out _ _ ?_
      clear hK K
      refine Ea 78 ?_
      refine EX (i:=12) (N:=none) #[true,true,true,true,true,true,true,true,true,true,true,true,true] rfl rfl (by kernel_rfl) (by decide) (λK hK=>?_)
      refine E4 (w1:=?_) (by rfl) rfl ?_ ?_
      rotate_left
      ·go_simp
       rfl
      refine hK.out _ _ ?_
      clear hK K
      refine CT (by kernel_rfl) ?_
      go_wp2
      have W:St w0 w _ (E::A::L::z::zs) _ [⟨E,[.int .i64 l.f0,.int .i64 l.f1,.slice B2 l.f2.length b2,.slice B3 l.f3.length b3,.int .i64 l.f4,.int .i64 l.f5],26⟩,⟨A,[.slice G l0.length I,.int .i64 s,.bool true,.slice (some ⟨r,0,none⟩) l3.length c3,.slice A7 (BI.f l4 ⟨T,X,ln⟩).length c7],64⟩,⟨L,[.int .i64 ek,.int .i64 T,.int .i64 X,.int .i64 o0,.int .i64 o1,.int .i64 o2,.int .i64 o3,.string o4],95⟩,⟨z,[.slice G l0.length I,.int .i64 s,.bool true,.slice (some ⟨r,0,none⟩) l3.length c3,.slice J l4.length c4],64⟩] _ _ _ _ _ _:=M.o.DL 1 rfl
      have DB:=W.B.EJ 1 rfl
      refine bodyPost_ret (results_cell_row rfl _ _ A 64 #[.slice G l0.length I,.int .i64 s,.bool true,.slice (some ⟨r,0,none⟩) l3.length c3,.slice A7 (BI.f l4 ⟨T,X,ln⟩).length c7] (0,0) _ rfl DB Tryd.underlying64 rfl (by kernel_rfl)) rfl ?_
      exact⟨_,rfl,W.M.mono (λk Z=>by simp[Z]),W.B.hK,OO.o⟩
     ·rw[if_neg c4]at B
      simp only[Option.some.injEq,Wd.mk.injEq]at B
      obtain⟨rfl,rfl,rfl,rfl,rfl⟩:=B
      have af:=a_ (MN c4)
      clear c4
      go_wp2_with((go_at_call 20;(with_reducible refine(Aq.calls X 0 s false _ af.o).mono ?_);rintro e w7 ⟨rfl,Y⟩;have D:=M.o.below Y.below;clear M Y z0 z1 z2 U z4 y x0 x1 x2 x3 x4 x5 x6 x7 t0 t1 t2 t3 t4 ty d0 d1 d2 d3 d4 d5 dy;have M:=a_ D;clear D;obtain⟨z0,z1,z2,U,z4,y⟩:=M.o.B.c5 3 rfl;obtain⟨x0,x1,x2,x3,x4,x5,x6,x7,-⟩:=M.o.B.c8 2 rfl;obtain⟨t0,t1,t2,t3,t4,ty⟩:=M.o.B.c5 1 rfl;obtain⟨d0,d1,d2,d3,d4,d5,dy⟩:=M.o.B.c6 0 rfl))
      have W:St w0 w _ (E::A::L::z::zs) _ [⟨E,[.int .i64 l.f0,.int .i64 l.f1,.slice B2 l.f2.length b2,.slice B3 l.f3.length b3,.int .i64 l.f4,.int .i64 l.f5],26⟩,⟨A,[.slice G l0.length I,.int .i64 s,.bool true,.slice (some ⟨r,0,none⟩) l3.length c3,.slice J l4.length c4],64⟩,⟨L,[.int .i64 ek,.int .i64 T,.int .i64 X,.int .i64 o0,.int .i64 o1,.int .i64 o2,.int .i64 o3,.string o4],95⟩,⟨z,[.slice G l0.length I,.int .i64 s,.bool true,.slice (some ⟨r,0,none⟩) l3.length c3,.slice J l4.length c4],64⟩] _ _ _ _ _ _:=M.o.DL 1 rfl
      have DB:=W.B.EJ 1 rfl
      refine bodyPost_ret (results_cell_row rfl _ _ A 64 #[.slice G l0.length I,.int .i64 s,.bool true,.slice (some ⟨r,0,none⟩) l3.length c3,.slice J l4.length c4] (0,0) _ rfl DB Tryd.underlying64 rfl (by kernel_rfl)) rfl ?_
      exact⟨_,rfl,W.M.mono (λk Z=>by simp[Z]),W.B.hK,.inl rfl⟩
    | false =>
     rw[if_neg (by decide)]at B
     simp only[Option.some.injEq,Wd.mk.injEq]at B
     obtain⟨rfl,rfl,rfl,rfl,rfl⟩:=B
     go_wp2
     have W:St w0 w _ (E::A::L::z::zs) _ [⟨E,[.int .i64 l.f0,.int .i64 l.f1,.slice B2 l.f2.length b2,.slice B3 l.f3.length b3,.int .i64 l.f4,.int .i64 l.f5],26⟩,⟨A,[.slice G l0.length I,.int .i64 s,.bool false,.slice (some ⟨r,0,none⟩) l3.length c3,.slice J l4.length c4],64⟩,⟨L,[.int .i64 ek,.int .i64 T,.int .i64 X,.int .i64 o0,.int .i64 o1,.int .i64 o2,.int .i64 o3,.string o4],95⟩,⟨z,[.slice G l0.length I,.int .i64 s,.bool false,.slice (some ⟨r,0,none⟩) l3.length c3,.slice J l4.length c4],64⟩] _ _ _ _ _ _:=M.o.DL 1 rfl
     have DB:=W.B.EJ 1 rfl
     refine bodyPost_ret (results_cell_row rfl _ _ A 64 #[.slice G l0.length I,.int .i64 s,.bool false,.slice (some ⟨r,0,none⟩) l3.length c3,.slice J l4.length c4] (0,0) _ rfl DB Tryd.underlying64 rfl (by kernel_rfl)) rfl ?_
     exact⟨_,rfl,W.M.mono (λk Z=>by simp[Z]),W.B.hK,.inl rfl⟩
   rw[if_neg k4]at B;have ax:(ek==4)=false:=Dq k4;clear k4;simp only[Option.some.injEq,Wd.mk.injEq]at B;obtain⟨rfl,rfl,rfl,rfl,rfl⟩:=B;go_wp2;have W:St w0 w _ (E::A::L::z::zs) _ [⟨E,[.int .i64 l.f0,.int .i64 l.f1,.slice B2 l.f2.length b2,.slice B3 l.f3.length b3,.int .i64 l.f4,.int .i64 l.f5],26⟩,⟨A,[.slice G l0.length I,.int .i64 s,.bool u,.slice (some ⟨r,0,none⟩) l3.length c3,.slice J l4.length c4],64⟩,⟨L,[.int .i64 ek,.int .i64 T,.int .i64 X,.int .i64 o0,.int .i64 o1,.int .i64 o2,.int .i64 o3,.string o4],95⟩,⟨z,[.slice G l0.length I,.int .i64 s,.bool u,.slice (some ⟨r,0,none⟩) l3.length c3,.slice J l4.length c4],64⟩] _ _ _ _ _ _:=M.o.DL 1 rfl;have DB:=W.B.EJ 1 rfl;refine bodyPost_ret (results_cell_row rfl _ _ A 64 #[.slice G l0.length I,.int .i64 s,.bool u,.slice (some ⟨r,0,none⟩) l3.length c3,.slice J l4.length c4] (0,0) _ rfl DB Tryd.underlying64 rfl (by kernel_rfl)) rfl ?_;exact⟨_,rfl,W.M.mono (λk Z=>by simp[Z]),W.B.hK,.inl rfl⟩
  rw[if_neg c2]at B;exact absurd B (by simp)
 rw[if_neg c]at B;simp only[Option.some.injEq,Wd.mk.injEq]at B;obtain⟨rfl,rfl,rfl,rfl,rfl⟩:=B;obtain⟨A3,c3,rfl⟩:=Kd.CM h.h3;have IN:=a_ (MN c);have M:=a_ (St.start h (λk=>some k=(Value.slice A3 l3.length c3).ownBlock∨some k=(Value.slice J l4.length c4).ownBlock));clear h c;go_enter Tryd.func68,Tryd.ntmps68
 go_wp2_with(first
  | ((with_reducible refine Cd (N:=2) rfl ?_);refine CE 2 (#[.slice G l0.length I,.int .i64 s,.bool u,.slice A3 l3.length c3,.slice J l4.length c4]) 64 ?_;intro z hg w1 o q;have D:=M.o.box (cs:=[.slice G l0.length I,.int .i64 s,.bool u,.slice A3 l3.length c3,.slice J l4.length c4]) hg q o;clear M o q hg;have M:=a_ D;clear D)
  | ((with_reducible refine Cd (N:=3) rfl ?_);refine CE 3 (#[.int .i64 ek,.int .i64 T,.int .i64 X,.int .i64 o0,.int .i64 o1,.int .i64 o2,.int .i64 o3,.string o4]) 95 ?_;intro L hg w2 o q;have D:=M.o.box (cs:=[.int .i64 ek,.int .i64 T,.int .i64 X,.int .i64 o0,.int .i64 o1,.int .i64 o2,.int .i64 o3,.string o4]) hg q o;clear M o q hg;have M:=a_ D;clear D)
  | ((with_reducible refine Cd (N:=4) rfl ?_);refine CE 4 (#[.slice none 0 0,.int .i64 0,.bool false,.slice none 0 0,.slice none 0 0]) 64 ?_;intro A hg w3 o q;have D:=M.o.box (cs:=[.slice none 0 0,.int .i64 0,.bool false,.slice none 0 0,.slice none 0 0]) hg q o;clear M o q hg;have M:=a_ D;clear D;obtain⟨z0,z1,z2,U,z4,y⟩:=M.o.B.c5 2 rfl;obtain⟨x0,x1,x2,x3,x4,x5,x6,x7,-⟩:=M.o.B.c8 1 rfl;obtain⟨t0,t1,t2,t3,t4,ty⟩:=M.o.B.c5 0 rfl)
  | (go_at_call 20;(with_reducible refine(Aq.calls T 1 3 false _ IN.o).mono ?_);rintro e w4 ⟨rfl,Y⟩;have D:=M.o.below Y.below;clear M Y z0 z1 z2 U z4 y x0 x1 x2 x3 x4 x5 x6 x7 t0 t1 t2 t3 t4 ty;have M:=a_ D;clear D;obtain⟨z0,z1,z2,U,z4,y⟩:=M.o.B.c5 2 rfl;obtain⟨x0,x1,x2,x3,x4,x5,x6,x7,-⟩:=M.o.B.c8 1 rfl;obtain⟨t0,t1,t2,t3,t4,ty⟩:=M.o.B.c5 0 rfl))
 have W:St w0 w _ (A::L::z::zs) _ [⟨A,[.slice G l0.length I,.int .i64 s,.bool u,.slice A3 l3.length c3,.slice J l4.length c4],64⟩,⟨L,[.int .i64 ek,.int .i64 T,.int .i64 X,.int .i64 o0,.int .i64 o1,.int .i64 o2,.int .i64 o3,.string o4],95⟩,⟨z,[.slice G l0.length I,.int .i64 s,.bool u,.slice A3 l3.length c3,.slice J l4.length c4],64⟩] _ _ _ _ _ _:=M.o.DL 0 rfl;have DB:=W.B.EJ 0 rfl;refine bodyPost_ret (results_cell_row rfl _ _ A 64 #[.slice G l0.length I,.int .i64 s,.bool u,.slice A3 l3.length c3,.slice J l4.length c4] (0,0) _ rfl DB Tryd.underlying64 rfl (by kernel_rfl)) rfl ?_;exact⟨_,rfl,W.M.mono (λk Z=>by simp[Z]),W.B.hK,.inl rfl⟩
theorem DG.calls(k:Nat)(zs:List Nat)(v0 v3 v4:Value)(l0:Dk)(s:Int)(u:Bool)(l3:Ef)(l4:Dl)(U ew a o0 o1 o2 o3:Int)(o4:ByteArray)(r0:Dk)(r1:Int)(r2:Bool)(r3:Ef)(r4:Dl)(w0 w:World)(h:WM w0 w zs v0 v3 v4 l0 l3 l4)
  (G:DG.f k ⟨l0,s,u,l3,l4⟩ ⟨U,ew,a,⟨o0,o1,o2,o3,o4⟩⟩=some ⟨r0,r1,r2,r3,r4⟩) :
  Calls Tryd.prog 70 #[.agg #[v0,.int .i64 s,.bool u,v3,v4],.agg #[.int .i64 U,.int .i64 ew,.int .i64 a,.int .i64 o0,.int .i64 o1,.int .i64 o2,.int .i64 o3,.string o4]] w λe w'=>∃aq Gd,e=.returned (.agg #[aq,.int .i64 r1,.bool r2,v3,Gd])∧WM w0 w' zs aq v3 Gd r0 r3 r4∧Out w0 w w' zs v3 v4 Gd:=by
 have aJ:=Tryd.underlying64;have aH:=Tryd.underlying114;have aK:=Tryd.underlying95;obtain⟨O,T,rfl⟩:=Kd.Ca h.h0;obtain⟨o,c3,rfl⟩:=Kd.CM h.h3;unfold DG.f at G;dsimp only at G;by_cases hm:l4.length≤1000
 ·rw[if_pos hm]at G;have m:=Pe a l4.length (by omega);by_cases c:0≤a∧a<(l4.length:Int)
  ·rw[if_pos c]at G;rw[BJ c.1,BJ c.2,Bool.true_and]at m;have IN:=a_ m;obtain⟨g4,c4,rfl,-⟩:=Kd.Jm h.h4 (by omega);have M:=a_ (St.start h (λk=>some k=(Value.slice o l3.length c3).ownBlock∨some k=(Value.slice (some ⟨g4,0,none⟩) l4.length c4).ownBlock));have CC:=a_ c;have HM:=a_ hm;have q2:=eq_true c.1;have q3:=eq_true c.2;clear h c m hm;go_enter Tryd.func70,Tryd.ntmps70
   go_upto_region 4 with(first
    | ((with_reducible refine Cd (N:=2) rfl ?_);refine CE 2 (#[.slice O l0.length T,.int .i64 s,.bool u,.slice o l3.length c3,.slice (some ⟨g4,0,none⟩) l4.length c4]) 64 ?_;intro x hg w1 d l;have D:=M.o.box (cs:=[.slice O l0.length T,.int .i64 s,.bool u,.slice o l3.length c3,.slice (some ⟨g4,0,none⟩) l4.length c4]) hg l d;clear M d l hg;have M:=a_ D;clear D)
    | ((with_reducible refine Cd (N:=3) rfl ?_);refine CE 3 (#[.int .i64 U,.int .i64 ew,.int .i64 a,.int .i64 o0,.int .i64 o1,.int .i64 o2,.int .i64 o3,.string o4]) 95 ?_;intro z hg w2 d l;have D:=M.o.box (cs:=[.int .i64 U,.int .i64 ew,.int .i64 a,.int .i64 o0,.int .i64 o1,.int .i64 o2,.int .i64 o3,.string o4]) hg l d;clear M d l hg;have M:=a_ D;clear D)
    | ((with_reducible refine Cd (N:=4) rfl ?_);refine CE 4 (#[.slice none 0 0,.int .i64 0,.bool false,.slice none 0 0,.slice none 0 0]) 64 ?_;intro q hg w3 d l;have D:=M.o.box (cs:=[.slice none 0 0,.int .i64 0,.bool false,.slice none 0 0,.slice none 0 0]) hg l d;clear M d l hg;have M:=a_ D;clear D;obtain⟨z0,z1,z2,z3,E,y⟩:=M.o.B.c5 2 rfl;obtain⟨x0,x1,B,-⟩:=M.o.B.c8 1 rfl;obtain⟨t0,t1,t2,t3,t4,ty⟩:=M.o.B.c5 0 rfl)
    | (go_at_call 20;(with_reducible refine(Aq.calls a 0 (wrap64 ((l4.length:Int)-1)) true _ IN.o).mono ?_);rintro e w4 ⟨rfl,af⟩;have D:=M.o.below af.below;clear M af z0 z1 z2 z3 E y x0 x1 B t0 t1 t2 t3 t4 ty;have M:=a_ D;clear D;obtain⟨z0,z1,z2,z3,E,y⟩:=M.o.B.c5 2 rfl;obtain⟨x0,x1,B,-⟩:=M.o.B.c8 1 rfl;obtain⟨t0,t1,t2,t3,t4,ty⟩:=M.o.B.c5 0 rfl;obtain⟨I,J,⟨f0,f1,f2⟩,av⟩:=M.o.letter a CC.o.1 CC.o.2;have au:=a_ av;clear av)
    | ((with_reducible refine Cd (N:=5) rfl ?_);refine CE 5 (#[.int .i64 0,.int .i64 0,.slice none 0 0]) 114 ?_;intro r hg w5 d l;have D:=M.o.box (cs:=[.int .i64 0,.int .i64 0,.slice none 0 0]) hg l d;have ab:=a_ (F9 au.o hg l);replace f0:=(l.cell (FF _ _ f0)).trans f0;replace f1:=(l.cell (FF _ _ f1)).trans f1;replace f2:=(l.cell (FF _ _ f2)).trans f2;clear M au z0 z1 z2 z3 E y x0 x1 B t0 t1 t2 t3 t4 ty d l hg;have M:=a_ D;clear D;have HL:=ab;clear ab;obtain⟨d0,d1,d2,dy⟩:=M.o.B.c3 0 rfl)
    | ((with_reducible refine CS (t:=114) (p:=5) rfl ?_);refine Cx (t:=114) (p:=5) (v:=?q') (w1:=(((w5.setCell ⟨r,0,none⟩ (.int .i64 (AB l4 a).f0)).setCell ⟨r,1,none⟩ (.int .i64 (AB l4 a).f1)).setCell ⟨r,2,none⟩ (.slice I (AB l4 a).f2.length J))) ?hg ?ho ?hn ?hr ?_;(case ho=>rfl);(case hg=>rfl);(case hn=>rfl);(case hr=>first|(go_simp;done)|(go_simp;rfl));intro w6 hw;have D:St w0 w _ (r::q::z::x::zs) _ [⟨r,[.int .i64 (AB l4 a).f0,.int .i64 (AB l4 a).f1,.slice I (AB l4 a).f2.length J],114⟩,⟨q,[.slice none 0 0,.int .i64 0,.bool false,.slice none 0 0,.slice none 0 0],64⟩,⟨z,[.int .i64 U,.int .i64 ew,.int .i64 a,.int .i64 o0,.int .i64 o1,.int .i64 o2,.int .i64 o3,.string o4],95⟩,⟨x,[.slice O l0.length T,.int .i64 s,.bool u,.slice o l3.length c3,.slice (some ⟨g4,0,none⟩) l4.length c4],64⟩] _ _ _ _ _ _:=M.o.QA 0 rfl;rw[<-hw]at D;have ab:=a_ (show Kd.V BT 32 w6 w0.heap.size (Dt (r::q::z::x::zs) (.slice o l3.length c3) (.slice (some ⟨g4,0,none⟩) l4.length c4)) (.slice I (AB l4 a).f2.length J) (AB l4 a).f2 by rw[hw];exact Kd.Bb (p:=⟨r,2,none⟩) (Kd.Bb (p:=⟨r,1,none⟩) (Kd.Bb (p:=⟨r,0,none⟩) HL.o (λk g e=>g.1 (by rw[e];exact List.mem_cons_self)) _) (λk g e=>g.1 (by rw[e];exact List.mem_cons_self)) _) (λk g e=>g.1 (by rw[e];exact List.mem_cons_self)) _);clear M HL hw f0 f1 f2 d0 d1 d2 dy;have M:=a_ D;have HL:=ab;clear D ab;obtain⟨z0,z1,z2,z3,E,y⟩:=M.o.B.c5 3 rfl;obtain⟨x0,x1,B,x3,x4,x5,x6,x7,-⟩:=M.o.B.c8 2 rfl;obtain⟨t0,t1,t2,t3,t4,ty⟩:=M.o.B.c5 1 rfl;obtain⟨d0,d1,d2,dy⟩:=M.o.B.c3 0 rfl))
   by_cases aa:U=10
   ·rw[if_pos aa]at G;simp only[Option.some.injEq,Wd.mk.injEq]at G;obtain⟨rfl,rfl,rfl,rfl,rfl⟩:=G;have cb:(U==10)=true:=beq_iff_eq.mpr aa;clear aa;have HW:=a_ M.o.hw;have LT:=a_ (show w.heap.size≤w6.heap.size from M.o.B.hK.1);go_wp2_with(go_at_call 72;(with_reducible refine(BI.calls (r::q::z::x::zs) (.slice O l0.length T) (.slice o l3.length c3) (.slice (some ⟨g4,0,none⟩) l4.length c4) (.slice I (AB l4 a).f2.length J) l0 s u l3 l4 (AB l4 a).f0 (AB l4 a).f1 (AB l4 a).f2 w0 _ M.o.M HL.o).mono ?_);rintro e w7 ⟨Gd,rfl,hM,hO⟩;obtain⟨A7,c7,e7⟩:=Kd.CM hM.h4;subst e7;have BB:=a_ (M.o.B.kept hO.hK (λk g=>.inl g) (λk g=>g.elim (λe=>(M.o.M.Hc e.symm).1) (λe=>(M.o.M.Iv e.symm).1)));have MM:=a_ hM;have OO:=a_ hO.o4;clear M hM hO z0 z1 z2 z3 E y x0 x1 B x3 x4 x5 x6 x7 t0 t1 t2 t3 t4 ty d0 d1 d2 dy;obtain⟨t0,t1,t2,t3,t4,ty⟩:=BB.o.c5 1 rfl);have X:St w0 w _ (r::q::z::x::zs) _ [⟨r,[.int .i64 (AB l4 a).f0,.int .i64 (AB l4 a).f1,.slice I (AB l4 a).f2.length J],114⟩,⟨q,[.slice O l0.length T,.int .i64 s,.bool u,.slice o l3.length c3,.slice A7 (BI.f l4 ⟨(AB l4 a).f0,(AB l4 a).f1,(AB l4 a).f2⟩).length c7],64⟩,⟨z,[.int .i64 U,.int .i64 ew,.int .i64 a,.int .i64 o0,.int .i64 o1,.int .i64 o2,.int .i64 o3,.string o4],95⟩,⟨x,[.slice O l0.length T,.int .i64 s,.bool u,.slice o l3.length c3,.slice (some ⟨g4,0,none⟩) l4.length c4],64⟩] _ _ _ _ _ _:=(St.mk MM.o BB.o HW.o).DL 1 rfl;have DB:=X.B.EJ 1 rfl;refine bodyPost_ret (results_cell_row rfl _ _ q 64 #[.slice O l0.length T,.int .i64 s,.bool u,.slice o l3.length c3,.slice A7 (BI.f l4 ⟨(AB l4 a).f0,(AB l4 a).f1,(AB l4 a).f2⟩).length c7] (0,0) _ rfl DB Tryd.underlying64 rfl (by kernel_rfl)) rfl ?_;exact⟨_,_,rfl,X.M.mono (λk g=>by simp[g]),X.B.hK,OO.o.imp_right (λ⟨b,h1,h2⟩=>⟨b,h1,Nat.le_trans LT.o h2⟩)⟩
   rw[if_neg aa]at G;have cb:(U==10)=false:=Dq aa;clear aa;obtain⟨y1,ak⟩:∃y:Dl,y=l4.take a.toNat:=⟨_,rfl⟩
   obtain⟨y2,al⟩:∃y:Dl,y=l4.drop (a.toNat+1):=⟨_,rfl⟩
   obtain⟨lx,ai⟩:∃y:Dl,y=[]++y1:=⟨_,rfl⟩
   obtain⟨Z,aj⟩:∃y:Dl,y=lx++y2:=⟨_,rfl⟩
   rw[<-ak,<-al,show y1++y2=Z by rw[aj,ai];rfl]at G;have hc:=CC.o;have ag:y1.length=a.toNat:=by rw[ak,List.length_take];omega
   have ah:y2.length=l4.length-(a+1).toNat:=by rw[al,List.length_drop];omega
   have ax:(a+1).toNat=a.toNat+1:=by omega
   have aL:wrap64 (a+1)=a+1:=by have:=HM.o;unfold wrap64;omega
   have Y:l4.length≤c4:=(Kd.E9 M.o.M.h4).2.1;obtain⟨i1,ao,_,aA,_⟩:=info_parts G7;have ae:=GJ (P:=Tryd.prog) 62 114 .i64 Tryd.underlying62 ao (some ⟨g4,0,none⟩) l4.length c4 a hc.1 (by omega) Y;have L:=F_ (P:=Tryd.prog) 62 114 .i64 Tryd.underlying62 ao 3 aA (some ⟨g4,0,none⟩) l4.length c4 (a+1) (by omega) (by omega);rw[<-ag]at ae;rw[<-ah]at L;obtain⟨A5,hA5⟩:∃A:Option Addr,A=(if c4=(a+1).toNat then some ⟨g4,0,none⟩else(some (⟨g4,0,none⟩:Addr)).map (·.add ((a+1).toNat*3))):=⟨_,rfl⟩
   rw[<-hA5]at L;obtain⟨c5,aw⟩:∃c:Nat,c=c4-(a+1).toNat:=⟨_,rfl⟩
   rw[<-aw]at L;have aC:=a_ ai;have aD:=a_ aj;have aE:=a_ ak;have aF:=a_ al;have HA:=a_ hA5;have HR:=a_ Y;have aB:=a_ ax;have LY:=a_ (show y1.length≤1000∧y2.length≤1000∧lx.length≤1000∧Z.length≤2000 by have:=HM.o;refine⟨by omega,by omega,by rw[ai,List.nil_append];omega,by rw[aj,List.length_append,ai,List.nil_append];omega⟩);clear ai aj ak al hA5 Y ax hc ao aA ag ah aw;have HW:=a_ M.o.hw;go_upto_region 6 with(fail)
   have ar:=a_ (Kd.AR HL.o);have Md:=a_ M.o.drew;clear M HL;have M:=Md;have HL:=ar;clear Md ar;refine Ch (n:=16) (S:=λw'=>w'.cell? ⟨x,4,none⟩=some (.slice (some ⟨g4,0,none⟩) l4.length c4)∧w'.cell? ⟨z,2,none⟩=some (.int .i64 a)) (ds:=[15]) #[false,false,false,false,false,false,false,false,false,false,false,false,false,false,false,false] (by kernel_rfl) rfl rfl ⟨E,B⟩ (λj=>?_);refine A_ 1 28 ?_;refine A_ 3 30 ?_;refine A_ 7 34 ?_;refine A_ 9 36 ?_;refine Kj 2 29 j ?_;refine Kj 4 31 j ?_;refine A_ 5 32 ?_;refine Kj 8 35 j ?_;refine Kj 10 37 j ?_;refine A_ 11 38 ?_;refine A_ 12 39 ?_;refine EU 0 27 (λK hK=>?_);refine Kd.Ks E2 (w0:=w0) w0.heap.size 114 ?hg (N':=27) ?hd (xs:=([]:Dl)) (inner:=[]) (ok:=(λk=>k∉r::q::z::x::zs∧some k≠(Value.slice o l3.length c3).ownBlock)) (okp:=λ_=>False) ?hr ?hp (λ_ h=>h.elim) (M.o.M.fresh _ (Nat.le_refl _)) M.o.M.hB M.o.M.hB.size (by simp) ?_;(case hd=>rfl);(case hg=>rfl);(case hr=>first|(go_simp;done)|(go_simp;rfl));(case hp=>exact(Bi.none _ _));intro u1 w8 ho l hg W;obtain⟨b1,R,m⟩:=NR.lit M.o ho l hg W;have R1:=a_ R;have H1:=a_ (Kv HL.o (λ_ h=>h) hg (λ_ g=>by cases g) (.inr m));clear M HL ho l hg W R m z0 z1 z2 z3 E y x0 x1 B x3 x4 x5 x6 x7 t0 t1 t2 t3 t4 ty d0 d1 d2 dy;have E:=R1.o.B.cell 3 4 rfl rfl;have B:=R1.o.B.cell 2 2 rfl rfl;refine hK.out _ _ ⟨E,B⟩ (λj=>?_);clear hK K;refine Ea 27 ?_;refine EU 6 33 (λK hK=>?_);refine Kd.Fq E2 (w0:=w0) w0.heap.size (by rfl) (.tmp 27) (.tmp 32) 62 114 (.agg #[(.int .i64 0),(.int .i64 0),(.slice none 0 0)]) 40 rfl Tryd.underlying62 G7 rfl (by decide) (by omega) u1 [] y1 (some ⟨g4,0,none⟩) _ _ (λk=>k∉r::q::z::x::zs∧some k≠(Value.slice o l3.length c3).ownBlock) (λk=>k∉b1::r::q::z::x::zs∧some k≠(Value.slice o l3.length c3).ownBlock) rfl rfl R1.o.hN (by rw[aE.o];exact Kd.OM (Kd.QD R1.o.M.h4) (by have:=CC.o;omega)) (λk g=>⟨⟨λe=>g.1 (List.mem_cons_of_mem _ e),g.2⟩,λe=>g.1 (by rw[R1.o.own]at e;injection e with e;rw[e];exact List.mem_cons_self)⟩) (λk g=>⟨λe=>by have:=R1.o.M.hz k (List.mem_cons_of_mem _ e);omega,λe=>by have:=Kd.JS R1.o.M.h3 k e.symm;omega⟩) R1.o.M.hB R1.o.M.hB.size (by have:=HM.o;have:=LY.o;simp only[List.length_nil];omega) ?_;intro u2 w9 ho l hg W;rw[<-aC.o]at ho;have ay:∀k,(u1:Value).ownBlock=some k->k∈b1::r::q::z::x::zs:=λk g=>by rw[R1.o.own]at g;injection g with g;rw[<-g];exact List.mem_cons_self
   obtain⟨b2,R,m⟩:=NR.app R1.o ho l hg W;have R2:=a_ R;have H2:=a_ (Kv H1.o (λ_ h=>List.mem_cons_of_mem _ h) hg ay m);clear R1 H1 ho l hg W R m ay E B;have E:=R2.o.B.cell 3 4 rfl rfl;have B:=R2.o.B.cell 2 2 rfl rfl;refine hK.out _ _ ⟨E,B⟩ (λj=>?_);clear hK K;refine Ea 33 ?_;refine EU 13 40 (λK hK=>?_);refine Kd.Fq E2 (w0:=w0) w0.heap.size (by rfl) (.tmp 33) (.tmp 39) 62 114 (.agg #[(.int .i64 0),(.int .i64 0),(.slice none 0 0)]) 40 rfl Tryd.underlying62 G7 rfl (by decide) (by omega) u2 lx y2 A5 _ _ (λk=>k∉r::q::z::x::zs∧some k≠(Value.slice o l3.length c3).ownBlock) (λk=>k∉b2::r::q::z::x::zs∧some k≠(Value.slice o l3.length c3).ownBlock) rfl rfl R2.o.hN (by rw[HA.o,aF.o,aB.o];exact Kd.Oc (c:=c4) (Kd.QD R2.o.M.h4) (by have:=CC.o;omega) HR.o) (λk g=>⟨⟨λe=>g.1 (List.mem_cons_of_mem _ e),g.2⟩,λe=>g.1 (by rw[R2.o.own]at e;injection e with e;rw[e];exact List.mem_cons_self)⟩) (λk g=>⟨λe=>by have:=R2.o.M.hz k (List.mem_cons_of_mem _ e);omega,λe=>by have:=Kd.JS R2.o.M.h3 k e.symm;omega⟩) R2.o.M.hB R2.o.M.hB.size (by have:=HM.o;have:=LY.o;omega) ?_;intro u3 aI ho l hg W;rw[<-aD.o]at ho;have az:∀k,(u2:Value).ownBlock=some k->k∈b2::r::q::z::x::zs:=λk g=>by rw[R2.o.own]at g;injection g with g;rw[<-g];exact List.mem_cons_self
   obtain⟨b3,R,m⟩:=NR.app R2.o ho l hg W;have R3:=a_ R;have H3:=a_ (Kv H2.o (λ_ h=>List.mem_cons_of_mem _ h) hg az m);obtain⟨A9,c9,e9⟩:=Kd.CM ho;subst e9;clear R2 H2 ho l hg W R m az E B;have E:=R3.o.B.cell 3 4 rfl rfl;have B:=R3.o.B.cell 2 2 rfl rfl;have yW:=R3.o.B.fr 3 4 rfl;refine hK.out _ _ ⟨E,B⟩ (λj=>?_);clear hK K;refine Ea 40 ?_;refine A_ 14 41 ?_;refine EX (i:=15) (N:=none) #[true,true,true,true,true,true,true,true,true,true,true,true,true,true,true,true] rfl rfl (by kernel_rfl) (by decide) (λK hK=>?_);refine E4 (w1:=?_) (by rfl) rfl ?_ ?_;rotate_left
   ·go_simp;rfl
   refine hK.out _ _ ?_;clear hK K;refine CT (by kernel_rfl) ?_;have D:St w0 w _ (r::q::z::x::zs) _ [⟨r,[.int .i64 (AB l4 a).f0,.int .i64 (AB l4 a).f1,.slice I (AB l4 a).f2.length J],114⟩,⟨q,[.slice none 0 0,.int .i64 0,.bool false,.slice none 0 0,.slice none 0 0],64⟩,⟨z,[.int .i64 U,.int .i64 ew,.int .i64 a,.int .i64 o0,.int .i64 o1,.int .i64 o2,.int .i64 o3,.string o4],95⟩,⟨x,[.slice O l0.length T,.int .i64 s,.bool u,.slice o l3.length c3,.slice A9 Z.length c9],64⟩] _ _ _ _ _ _:=R3.o.fin.put 3 4 (.slice A9 Z.length c9) rfl;have HL:=a_ (PS (Kd.Bb (p:=⟨x,4,none⟩) H3.o (λk g e=>g.1 (by rw[e];simp)) (.slice A9 Z.length c9)) R3.o.own);have OO:=a_ (show ∃b,(Value.slice A9 Z.length c9).ownBlock=some b∧w.heap.size≤b from⟨b3,R3.o.own,R3.o.ge⟩);clear R3 H3 E B yW j ae L;generalize aI.setCell ⟨x,4,none⟩ (.slice A9 Z.length c9)=aM at D HL⊢;have M:=a_ D;clear D;obtain⟨z0,z1,z2,z3,E,y⟩:=M.o.B.c5 3 rfl;obtain⟨x0,x1,B,x3,x4,x5,x6,x7,-⟩:=M.o.B.c8 2 rfl;obtain⟨t0,t1,t2,t3,t4,ty⟩:=M.o.B.c5 1 rfl;obtain⟨d0,d1,d2,dy⟩:=M.o.B.c3 0 rfl;by_cases k8:U=8
   ·rw[if_pos k8]at G;have aG:(U==8)=true:=beq_iff_eq.mpr k8;clear k8;have HF:=a_ G;clear G;go_wp2_with(go_at_call 74;(with_reducible refine(DM.calls k (r::q::z::x::zs) (.slice O l0.length T) (.slice o l3.length c3) (.slice A9 Z.length c9) (.slice I (AB l4 a).f2.length J) l0 s u l3 Z (AB l4 a).f0 (AB l4 a).f1 (AB l4 a).f2 r0 r1 r2 r3 r4 w0 _ M.o.M HL.o HF.o).mono ?_);rintro e aN ⟨aq,rfl,hM,hK⟩;obtain⟨A7,c7,e7⟩:=Kd.Ca hM.h0;subst e7;have BB:=a_ (M.o.B.kept hK (λk g=>.inl (.inl g)) (λk g=>(M.o.M.Hc g.symm).1));have MM:=a_ hM;clear M hM hK z0 z1 z2 z3 E y x0 x1 B x3 x4 x5 x6 x7 t0 t1 t2 t3 t4 ty d0 d1 d2 dy;obtain⟨t0,t1,t2,t3,t4,ty⟩:=BB.o.c5 1 rfl);have X:St w0 w _ (r::q::z::x::zs) _ [⟨r,[.int .i64 (AB l4 a).f0,.int .i64 (AB l4 a).f1,.slice I (AB l4 a).f2.length J],114⟩,⟨q,[.slice A7 r0.length c7,.int .i64 r1,.bool r2,.slice o l3.length c3,.slice A9 Z.length c9],64⟩,⟨z,[.int .i64 U,.int .i64 ew,.int .i64 a,.int .i64 o0,.int .i64 o1,.int .i64 o2,.int .i64 o3,.string o4],95⟩,⟨x,[.slice O l0.length T,.int .i64 s,.bool u,.slice o l3.length c3,.slice A9 Z.length c9],64⟩] _ _ _ _ _ _:=(St.mk MM.o BB.o HW.o).DL 1 rfl;have DB:=X.B.EJ 1 rfl;refine bodyPost_ret (results_cell_row rfl _ _ q 64 #[.slice A7 r0.length c7,.int .i64 r1,.bool r2,.slice o l3.length c3,.slice A9 Z.length c9] (0,0) _ rfl DB Tryd.underlying64 rfl (by kernel_rfl)) rfl ?_;exact⟨_,_,rfl,X.M.mono (λk g=>by simp[g]),X.B.hK,.inr OO.o⟩
   rw[if_neg k8]at G;have aG:(U==8)=false:=Dq k8;clear k8;simp only[Option.some.injEq,Wd.mk.injEq]at G;obtain⟨rfl,rfl,rfl,rfl,rfl⟩:=G;go_wp2;have X:St w0 w _ (r::q::z::x::zs) _ [⟨r,[.int .i64 (AB l4 a).f0,.int .i64 (AB l4 a).f1,.slice I (AB l4 a).f2.length J],114⟩,⟨q,[.slice O l0.length T,.int .i64 s,.bool u,.slice o l3.length c3,.slice A9 Z.length c9],64⟩,⟨z,[.int .i64 U,.int .i64 ew,.int .i64 a,.int .i64 o0,.int .i64 o1,.int .i64 o2,.int .i64 o3,.string o4],95⟩,⟨x,[.slice O l0.length T,.int .i64 s,.bool u,.slice o l3.length c3,.slice A9 Z.length c9],64⟩] _ _ _ _ _ _:=M.o.DL 1 rfl;have DB:=X.B.EJ 1 rfl;refine bodyPost_ret (results_cell_row rfl _ _ q 64 #[.slice O l0.length T,.int .i64 s,.bool u,.slice o l3.length c3,.slice A9 Z.length c9] (0,0) _ rfl DB Tryd.underlying64 rfl (by kernel_rfl)) rfl ?_;exact⟨_,_,rfl,X.M.mono (λk g=>by simp[g]),X.B.hK,.inr OO.o⟩
  rw[if_neg c]at G;simp only[Option.some.injEq,Wd.mk.injEq]at G;obtain⟨rfl,rfl,rfl,rfl,rfl⟩:=G;obtain⟨A4,c4,rfl⟩:=Kd.CM h.h4
  have an:(decide (0≤a)&&decide (a<(l4.length:Int)))=false:=by
   rw[Bool.and_eq_false_iff];rcases Int.lt_or_le a 0 with h1|h1
   ·exact .inl (C1 (by omega))
   exact .inr (C1 (λh2=>c ⟨h1,h2⟩))
  rw[an]at m;have IN:=a_ m;have M:=a_ (St.start h (λk=>some k=(Value.slice o l3.length c3).ownBlock∨some k=(Value.slice A4 l4.length c4).ownBlock));clear h c m hm an;go_enter Tryd.func70,Tryd.ntmps70
  go_wp2_with(first
   | ((with_reducible refine Cd (N:=2) rfl ?_);refine CE 2 (#[.slice O l0.length T,.int .i64 s,.bool u,.slice o l3.length c3,.slice A4 l4.length c4]) 64 ?_;intro x hg w1 d l;have D:=M.o.box (cs:=[.slice O l0.length T,.int .i64 s,.bool u,.slice o l3.length c3,.slice A4 l4.length c4]) hg l d;clear M d l hg;have M:=a_ D;clear D)
   | ((with_reducible refine Cd (N:=3) rfl ?_);refine CE 3 (#[.int .i64 U,.int .i64 ew,.int .i64 a,.int .i64 o0,.int .i64 o1,.int .i64 o2,.int .i64 o3,.string o4]) 95 ?_;intro z hg w2 d l;have D:=M.o.box (cs:=[.int .i64 U,.int .i64 ew,.int .i64 a,.int .i64 o0,.int .i64 o1,.int .i64 o2,.int .i64 o3,.string o4]) hg l d;clear M d l hg;have M:=a_ D;clear D)
   | ((with_reducible refine Cd (N:=4) rfl ?_);refine CE 4 (#[.slice none 0 0,.int .i64 0,.bool false,.slice none 0 0,.slice none 0 0]) 64 ?_;intro q hg w3 d l;have D:=M.o.box (cs:=[.slice none 0 0,.int .i64 0,.bool false,.slice none 0 0,.slice none 0 0]) hg l d;clear M d l hg;have M:=a_ D;clear D;obtain⟨z0,z1,z2,z3,E,y⟩:=M.o.B.c5 2 rfl;obtain⟨x0,x1,B,-⟩:=M.o.B.c8 1 rfl;obtain⟨t0,t1,t2,t3,t4,ty⟩:=M.o.B.c5 0 rfl)
   | (go_at_call 20;(with_reducible refine(Aq.calls a 0 (wrap64 ((l4.length:Int)-1)) false _ IN.o).mono ?_);rintro e w4 ⟨rfl,af⟩;have D:=M.o.below af.below;clear M af z0 z1 z2 z3 E y x0 x1 B t0 t1 t2 t3 t4 ty;have M:=a_ D;clear D;obtain⟨z0,z1,z2,z3,E,y⟩:=M.o.B.c5 2 rfl;obtain⟨x0,x1,B,-⟩:=M.o.B.c8 1 rfl;obtain⟨t0,t1,t2,t3,t4,ty⟩:=M.o.B.c5 0 rfl))
  have X:St w0 w _ (q::z::x::zs) _ [⟨q,[.slice O l0.length T,.int .i64 s,.bool u,.slice o l3.length c3,.slice A4 l4.length c4],64⟩,⟨z,[.int .i64 U,.int .i64 ew,.int .i64 a,.int .i64 o0,.int .i64 o1,.int .i64 o2,.int .i64 o3,.string o4],95⟩,⟨x,[.slice O l0.length T,.int .i64 s,.bool u,.slice o l3.length c3,.slice A4 l4.length c4],64⟩] _ _ _ _ _ _:=M.o.DL 0 rfl;have DB:=X.B.EJ 0 rfl;refine bodyPost_ret (results_cell_row rfl _ _ q 64 #[.slice O l0.length T,.int .i64 s,.bool u,.slice o l3.length c3,.slice A4 l4.length c4] (0,0) _ rfl DB Tryd.underlying64 rfl (by kernel_rfl)) rfl ?_;exact⟨_,_,rfl,X.M.mono (λk g=>by simp[g]),X.B.hK,.inl rfl⟩
 rw[if_neg hm]at G;exact absurd G (by simp)
end Go.Proofs.YtlhlpfnljglhoaaDoor.P
