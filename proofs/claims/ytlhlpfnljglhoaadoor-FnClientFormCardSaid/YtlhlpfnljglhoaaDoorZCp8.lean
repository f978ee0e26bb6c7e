/- Joined by programs (wip/shake.py, wip/mini.py). -/
import Derived.Test.YtlhlpfnljglhoaaDoorZCp7
set_option linter.unusedVariables false
set_option linter.unusedSimpArgs false
set_option linter.unusedSectionVars false
set_option maxHeartbeats 8000000
set_option maxRecDepth 100000
namespace Go.Proofs.YtlhlpfnljglhoaaDoor.P
open Go.RowKit Go.Proofs.YtlhlpfnljglhoaaDoorW.PrintWords Go.Proofs.YtlhlpfnljglhoaaDoorW.Bc
theorem Am.calls(k:Nat)(A0:Option Addr)(c0:Nat)(l0:List Int)(A1:Option Addr)(c1:Nat)(l1:List Int)(r:Bool)(w:World)(dL:Kd.C (Kd.int .u8) w A0 l0.length l0)(dH:l0.length≤c0)(dM:Kd.C (Kd.int .u8) w A1 l1.length l1)(dI:l1.length≤c1)(h:Am.f k l0 l1=some r)(hG:B1 w) :
  Calls Tryd.prog 3 #[.slice A0 l0.length c0,.slice A1 l1.length c1] w λe w'=>e=.returned (.bool r)∧Below w.heap.size w w':=by
 have g2:=Tryd.underlying26;have g3:=Tryd.underlying30;have g4:=Tryd.underlying32;have dn:=a_ dL;have dj:=a_ dH;clear dL dH;have g8:=a_ dM;have g7:=a_ dI;clear dM dI;have HB:=a_ (Below.refl w.heap.size w);have HG:=a_ hG;clear hG;unfold Am.f at h;have H:=h;clear h;have cb:=a_ H;clear H;go_enter Tryd.func3,Tryd.ntmps3;go_upto_region 1 with(fail)
 go_cut [18] (λgV wc=>∃(kq:Nat) (a9:Bool),gV=.bool a9∧Ae (Am.j0 kq l0 l1 a9=some r)∧Ae (kq≤k)∧Ae (Below w.heap.size w wc))
 case first =>
  have H:=cb.o;clear cb;by_cases c4:(l0.length:Int)>1048576
  ·rw[if_pos c4]at H;have aX:decide (1048576<(l0.length:Int))=true:=BJ c4;have bI:decide (1048576<l0.length)=true:=BJ (by omega);clear c4;(first|rw[aX]|(simp only[Cp,Cv];rw[aX])|skip);have H':=a_ H;clear H;go_wp2;go_meet
   exact⟨_,(true),(Cr),H',⟨by first|omega|exact Nat.le_refl _⟩,⟨Ad⟩⟩
  rw[if_neg c4]at H;have aX:decide (1048576<(l0.length:Int))=false:=C1 c4;have bI:decide (1048576<l0.length)=false:=C1 (by omega);clear c4;(first|rw[aX]|(simp only[Cp,Cv];rw[aX])|skip);have H':=a_ H;clear H;go_wp2;go_meet
  exact⟨_,(decide ((l1.length:Int)>1048576)),(Cr),H',⟨by first|omega|exact Nat.le_refl _⟩,⟨Ad⟩⟩
 clear cb;try clear c1
 try clear c4
 try clear aX
 try clear bI
 obtain⟨kq,a9,rfl,HA,dk,HB⟩:=hcut;cases kq with
 | zero=>exact absurd HA.o (by simp[Am.j0])
 | succ aE =>
  have H:=HA.o
  clear HA
  simp only[Am.j0]at H
  by_cases c5:a9=true
  ·subst c5
   have H1:(some true)=some r:=by rw[if_pos rfl]at H;exact H
   clear H
   have H:=H1
   clear H1
   obtain rfl:=C5 H
   go_wp2
   go_ret
   exact⟨C_,Ad⟩
  ·replace c5:=Bool.eq_false_iff.mpr c5
   subst c5
   have H1:((CG.f aE l0).bind λaa=>((Ah.f aE aa.1 aa.2.1 aa.2.2.1 aa.2.2.2.1 aa.2.2.2.2.1 aa.2.2.2.2.2).bind λaN=>((Ar.f aE aa.1 aa.2.1 aa.2.2.1 aa.2.2.2.1 aa.2.2.2.2.1 aa.2.2.2.2.2).bind λaU=>(if(aN != aU)=true then(none)else(if aN=true then(Am.l0 aE l1 (aa.2.2.2.1.length:Int) 0 aa.1 aa.2.1 aa.2.2.1 aa.2.2.2.1 aa.2.2.2.2.1 aa.2.2.2.2.2)else((Ar.f aE aa.1 aa.2.1 aa.2.2.1 aa.2.2.2.1 aa.2.2.2.2.1 aa.2.2.2.2.2).bind λbp=>(some (aN==bp))))))))=some r:=by rw[if_neg (show¬ (false=true) by decide)]at H;exact H
   clear H
   have H:=H1
   clear H1
   replace H:=BU H
   obtain⟨⟨l,y,x,b,q,z⟩,dg,H⟩:=H
   try dsimp only at H
   have A6:=a_ dg
   clear dg
   replace H:=BU H
   obtain⟨aN,dh,H⟩:=H
   try dsimp only at H
   have A7:=a_ dh
   clear dh
   replace H:=BU H
   obtain⟨aU,di,H⟩:=H
   try dsimp only at H
   have A8:=a_ di
   clear di
   by_cases c9:(aN != aU)=true
   ·rw[if_pos c9]at H
    exact absurd H (by simp)
   ·rw[if_neg c9]at H
    have dp:(aN != aU)=false:=by simpa using c9
    (try(have dq:decide (aN=aU)=true:=by simpa using c9))
    (try(have dr:(aN==aU)=true:=by simpa using c9))
    clear c9
    by_cases Dr:aN=true
    ·subst Dr
     have H1:(Am.l0 aE l1 (b.length:Int) 0 l y x b q z)=some r:=by rw[if_pos rfl]at H;exact H
     clear H
     have H:=H1
     clear H1
     have H':=a_ H
     clear H
     go_wp2_with(first|((with_reducible refine BN (f:=5) rfl ?_);refine BR 20 Tryd.func5 #[.slice A0 l0.length c0] ?_;(with_reducible refine(CG.calls aE _ _ l0 l y x b q z _ ?q' ?z' A6.o).mono ?_);(case q'=>exact Gt dn.o);(case z'=>exact dj.o);rintro e g9 ⟨dN,dO,rfl,bM,bN,T⟩;refine⟨_,rfl,?_⟩;have U:=a_ (Kd.AN bM (Ab (Ad)));have W:=a_ (Kd.AN bN (Ab (Ad)));replace HB:=a_ (BA (Ad) T);(try clear T bM bN))|((with_reducible refine Cd (N:=5) rfl ?_);refine CE 5 (#[.int .i64 0,.int .i64 0,.slice none 0 0,.slice none 0 0,.int .i64 0,.int .i64 0]) 26 ?_;intro A hg g_ aD T;have a:=a_ (aD);have ca:=a_ ((by rw[hg];exact(Ab (Ad)):w.heap.size≤A));have b_:=a_ ((by rw[hg];exact(Ab (Ad)):w.heap.size≤A));replace U:=a_ (Kd.AZ (BC U.o) T);replace W:=a_ (Kd.AZ (BC W.o) T);replace HB:=a_ (BA (Ad) T);clear T aD hg;obtain⟨cC,cD,cE,cF,cG,cH,cg,cj,ck,cl,cm,cn⟩:=Cs a.o;obtain⟨I,G,dw⟩:=Kd.Bg U.o;subst dw;obtain⟨E,D,dx⟩:=Kd.Bg W.o;subst dx)|((with_reducible refine BN (f:=6) rfl ?_);refine BR 22 Tryd.func6 #[.agg #[.int .i64 l,.int .i64 y,.slice I x.length G,.slice E b.length D,.int .i64 q,.int .i64 z]] ?_;(with_reducible refine(Ah.calls aE l y _ _ x _ _ b q z true _ ?q' ?z' ?y' ?v' A7.o ?m').mono ?_);(case q'=>refine(Kd.AD (e:=68) (base:=w.heap.size) (ok:=λk_=>True) (n:=x.length) (c:=G) ?_).2.2;exact(by(with_reducible repeat(first|apply Kd.R_alloc|apply Kd.An|apply Kd.As));exact(Kd.Aj (EZ (g:=A) (Kd.AF U.o a.o (by decide)) (λ_ M=>M.2) (.int .i64 l) (.int .i64 y) (.slice I x.length G) (.slice E b.length D) (.int .i64 q) (.int .i64 z)) (λ_ h_=>h_.1))));(case z'=>exact(Kd.AD U.o).2.1);(case y'=>refine(Kd.AD (e:=32) (base:=w.heap.size) (ok:=λk_=>True) (n:=b.length) (c:=D) ?_).2.2;exact(by(with_reducible repeat(first|apply Kd.R_alloc|apply Kd.An|apply Kd.As));exact(Kd.Aj (EZ (g:=A) (Kd.AF W.o a.o (by decide)) (λ_ M=>M.2) (.int .i64 l) (.int .i64 y) (.slice I x.length G) (.slice E b.length D) (.int .i64 q) (.int .i64 z)) (λ_ h_=>h_.1))));(case v'=>exact(Kd.AD W.o).2.1);(case m'=>exact B1.below HG.o (Ad));rintro e ha ⟨rfl,T⟩;refine⟨_,rfl,?_⟩;replace U:=a_ (Kd.AZ (by(with_reducible repeat(first|apply Kd.R_alloc|apply Kd.An|apply Kd.As));exact(Kd.Aj (EZ (g:=A) (Kd.AF U.o a.o (by decide)) (λ_ M=>M.2) (.int .i64 l) (.int .i64 y) (.slice I x.length G) (.slice E b.length D) (.int .i64 q) (.int .i64 z)) (λ_ h_=>h_.1))) T);replace W:=a_ (Kd.AZ (by(with_reducible repeat(first|apply Kd.R_alloc|apply Kd.An|apply Kd.As));exact(Kd.Aj (EZ (g:=A) (Kd.AF W.o a.o (by decide)) (λ_ M=>M.2) (.int .i64 l) (.int .i64 y) (.slice I x.length G) (.slice E b.length D) (.int .i64 q) (.int .i64 z)) (λ_ h_=>h_.1))) T);replace a:=a_ (Az (g:=A) (o:=.cells #[.int .i64 l,.int .i64 y,.slice I x.length G,.slice E b.length D,.int .i64 q,.int .i64 z] 26 (0,0)) (GM a.o) T);replace HB:=a_ (BA (Ad) T);(try clear T);obtain⟨cI,cJ,cK,cL,cM,cN,cp,cq,cr,ct,cu,cv⟩:=Cs a.o)|((with_reducible refine BN (f:=7) rfl ?_);refine BR 25 Tryd.func7 #[.agg #[.int .i64 l,.int .i64 y,.slice I x.length G,.slice E b.length D,.int .i64 q,.int .i64 z]] ?_;(with_reducible refine(Ar.calls aE l y _ _ x _ _ b q z aU _ ?q' ?z' ?y' ?v' A8.o).mono ?_);(case q'=>exact Ft (Kd.AD U.o).2.2);(case z'=>exact(Kd.AD U.o).2.1);(case y'=>exact Ft (Kd.AD W.o).2.2);(case v'=>exact(Kd.AD W.o).2.1);rintro e hc ⟨rfl,T⟩;refine⟨_,rfl,?_⟩;replace U:=a_ (Kd.AZ (BC U.o) T);replace W:=a_ (Kd.AZ (BC W.o) T);replace HB:=a_ (BA (Ad) T);replace a:=a_ (Az (g:=A) (o:=.cells #[.int .i64 l,.int .i64 y,.slice I x.length G,.slice E b.length D,.int .i64 q,.int .i64 z] 26 (0,0)) (Bp a.o) T);(try clear T);obtain⟨cO,cP,cQ,cR,cS,cT,cw,cx,cy,cz,cA,cB⟩:=Cs a.o))
     go_loopg [8] aE (λkq v8 w'=>∃(L:Int),v8=.int .i64 L∧Ae (Am.l0 kq l1 (b.length:Int) L l y x b q z=some r)∧Ae (kq≤aE)∧Ae (Kd.R Dj 68 w' w.heap.size (λ_=>True) (.slice I x.length G) x)∧Ae (Kd.R BT 32 w' w.heap.size (λ_=>True) (.slice E b.length D) b)∧Ae (w'.heap[A]?=some (.cells #[.int .i64 l,.int .i64 y,(.slice I x.length G),(.slice E b.length D),.int .i64 q,.int .i64 z] 26 (0,0)))∧Ae (Below w.heap.size w w'))
     case atStart=>exact⟨(0),(Cr),H',⟨Nat.le_refl _⟩,⟨by(with_reducible repeat(first|apply Kd.R_alloc|apply Kd.An|apply Kd.As));exact U.o⟩,⟨by(with_reducible repeat(first|apply Kd.R_alloc|apply Kd.An|apply Kd.As));exact W.o⟩,⟨Bp a.o⟩,⟨Ad⟩⟩
     case round =>
      clear H'
      try clear c1
      try clear c4
      try clear aX
      try clear bI
      try clear c5
      try clear c7
      try clear c9
      try clear dp
      try clear dq
      try clear dr
      try clear Dr
      try clear cC
      try clear cD
      try clear cE
      try clear cF
      try clear cG
      try clear cH
      try clear cI
      try clear cJ
      try clear cK
      try clear cL
      try clear cM
      try clear cN
      try clear cO
      try clear cP
      try clear cQ
      try clear cR
      try clear cS
      try clear cT
      try clear cg
      try clear cj
      try clear ck
      try clear cl
      try clear cm
      try clear cn
      try clear cp
      try clear cq
      try clear cr
      try clear ct
      try clear cu
      try clear cv
      try clear cw
      try clear cx
      try clear cy
      try clear cz
      try clear cA
      try clear cB
      obtain⟨L,rfl,HA,dm,u,d,a,HB⟩:=hrel
      cases gk with
      | zero=>exact absurd HA.o (by simp[Am.l0])
      | succ k2 =>
       have H:=HA.o
       clear HA
       simp only[Am.l0]at H
       by_cases bC:L<(b.length:Int)
       ·rw[if_pos bC]at H
        have cV:decide (L<(b.length:Int))=true:=BJ bC
        clear bC
        by_cases bS:0≤L
        ·rw[if_pos bS]at H
         have gF:decide (0≤L)=true:=BJ bS
         clear bS
         by_cases bT:L<(b.length:Int)
         ·rw[if_pos bT]at H
          have gG:decide (L<(b.length:Int))=true:=BJ bT
          clear bT
          by_cases bz:((Aa b L).f0)=l
          ·rw[if_pos bz]at H
           have cW:(((Aa b L).f0)==l)=true:=beq_iff_eq.mpr bz
           have cX:(((Aa b L).f0) != l)=false:=Ff bz
           clear bz
           by_cases bF:((Aa b L).f1)=(wrap64 ((wrap64 (q+L))+1))
           ·rw[if_pos bF]at H
            have gH:(((Aa b L).f1)==(wrap64 ((wrap64 (q+L))+1)))=true:=beq_iff_eq.mpr bF
            have gI:(((Aa b L).f1) != (wrap64 ((wrap64 (q+L))+1)))=false:=Ff bF
            clear bF
            have H':=a_ H
            clear H
            try go_wp2
            replace u:=a_ (Kd.As u.o)
            replace d:=a_ (Kd.As d.o)
            replace a:=a_ (DA a.o)
            replace HB:=a_ (Ay HB.o)
            have bO:0≤(L:Int):=Bu
            have bQ:L<(b.length:Int):=Bu
            obtain⟨Y,du,ba,bb,bc,bd,be,bf,bg⟩:=CD (Kd.AD d.o).2.2 L bO bQ
            cases du
            replace bO:=eq_true bO
            replace bQ:=eq_true bQ
            have bP:0≤(L:Int):=Bu
            have bR:L<(b.length:Int):=Bu
            obtain⟨cU,dv,bh,bj,bk,bl,bm,bn,bo⟩:=CD (Kd.AD d.o).2.2 L bP bR
            obtain rfl:Y=cU:=(by injection dv)
            replace bP:=eq_true bP
            replace bR:=eq_true bR
            refine Ch (n:=23) (S:=λw'=>w'.cell? ⟨A,0,none⟩=some (.int .i64 l)∧w'.cell? ⟨A,1,none⟩=some (.int .i64 y)∧w'.cell? ⟨A,2,none⟩=some (.slice I x.length G)∧w'.cell? ⟨A,3,none⟩=some (.slice (some Y) b.length D)∧w'.cell? ⟨A,4,none⟩=some (.int .i64 q)∧w'.cell? ⟨A,5,none⟩=some (.int .i64 z)∧w'.cell? (Y.add ((L).toNat*7))=some (.int .i64 ((Aa b L).f0))∧w'.cell? ⟨(Y.add ((L).toNat*7)).block,(Y.add ((L).toNat*7)).off+1,none⟩=some (.int .i64 ((Aa b L).f1))∧w'.cell? ⟨(Y.add ((L).toNat*7)).block,(Y.add ((L).toNat*7)).off+2,none⟩=some (.int .i64 ((Aa b L).f2.f0))∧w'.cell? ⟨(Y.add ((L).toNat*7)).block,(Y.add ((L).toNat*7)).off+3,none⟩=some (.int .i64 ((Aa b L).f2.f1))∧w'.cell? ⟨(Y.add ((L).toNat*7)).block,(Y.add ((L).toNat*7)).off+4,none⟩=some (.int .i64 ((Aa b L).f2.f2))∧w'.cell? ⟨(Y.add ((L).toNat*7)).block,(Y.add ((L).toNat*7)).off+5,none⟩=some (.int .i64 ((Aa b L).f2.f3))∧w'.cell? ⟨(Y.add ((L).toNat*7)).block,(Y.add ((L).toNat*7)).off+6,none⟩=some (.string ((Aa b L).f2.f4))∧w'.cell? (Y.add ((L).toNat*7))=some (.int .i64 ((Aa b L).f0))∧w'.cell? ⟨(Y.add ((L).toNat*7)).block,(Y.add ((L).toNat*7)).off+1,none⟩=some (.int .i64 ((Aa b L).f1))∧w'.cell? ⟨(Y.add ((L).toNat*7)).block,(Y.add ((L).toNat*7)).off+2,none⟩=some (.int .i64 ((Aa b L).f2.f0))∧w'.cell? ⟨(Y.add ((L).toNat*7)).block,(Y.add ((L).toNat*7)).off+3,none⟩=some (.int .i64 ((Aa b L).f2.f1))∧w'.cell? ⟨(Y.add ((L).toNat*7)).block,(Y.add ((L).toNat*7)).off+4,none⟩=some (.int .i64 ((Aa b L).f2.f2))∧w'.cell? ⟨(Y.add ((L).toNat*7)).block,(Y.add ((L).toNat*7)).off+5,none⟩=some (.int .i64 ((Aa b L).f2.f3))∧w'.cell? ⟨(Y.add ((L).toNat*7)).block,(Y.add ((L).toNat*7)).off+6,none⟩=some (.string ((Aa b L).f2.f4))) (ds:=[]) #[false,false,false,false,false,false,false,false,false,false,false,false,false,false,false,false,false,false,false,false,false,false,false] (by kernel_rfl) rfl rfl ⟨(AO a.o 0).trans rfl,(AO a.o 1).trans rfl,(AO a.o 2).trans rfl,(AO a.o 3).trans rfl,(AO a.o 4).trans rfl,(AO a.o 5).trans rfl,ba,bb,bc,bd,be,bf,bg,bh,bj,bk,bl,bm,bn,bo⟩ (λO=>?_);refine BZ Am.Ls Am.Jt (λHT_ HW_=>?_)
            generalize wr.drew=hf at u d a HB ba bb bc bd be bf bg bh bj bk bl bm bn bo O⊢
            refine A_ 0 43 ?_
            refine A_ 2 45 ?_
            refine A_ 6 49 ?_
            refine FC 1 44 O ?_
            refine A_ 3 46 ?_
            refine A_ 4 47 ?_
            refine FC 5 48 O ?_
            refine FC 7 50 O ?_
            refine A_ 8 51 ?_
            refine A_ 9 52 ?_
            refine A_ 10 53 ?_
            refine A_ 12 55 ?_
            refine A_ 16 59 ?_
            refine A_ 18 61 ?_
            refine FC 11 54 O ?_
            refine A_ 13 56 ?_
            refine A_ 14 57 ?_
            refine FC 15 58 O ?_
            refine FC 17 60 O ?_
            refine A_ 19 62 ?_
            refine A_ 20 63 ?_
            refine A_ 21 64 ?_
            refine A_ 22 65 ?_
            refine CT (CU HT_.o (by kernel_rfl)) ?_
            try go_wp2
            go_roundg k2
            case measure=>have:=dk.o;have:=dm.o;omega
            case rel=>exact⟨(wrap64 (L+1)),(Cr),H',⟨by have:=dk.o;have:=dm.o;omega⟩,⟨by(with_reducible repeat(first|apply Kd.R_alloc|apply Kd.An|apply Kd.As));exact u.o⟩,⟨by(with_reducible repeat(first|apply Kd.R_alloc|apply Kd.An|apply Kd.As));exact d.o⟩,⟨Bp a.o⟩,⟨Ad⟩⟩
           ·rw[if_neg bF]at H
            exact absurd H (by simp)
          ·rw[if_neg bz]at H
           have cW:(((Aa b L).f0)==l)=false:=Dq bz
           have cX:(((Aa b L).f0) != l)=true:=bne_iff_ne.mpr bz
           exact absurd H (by simp)
         ·rw[if_neg bT]at H
          exact absurd H (by simp)
        ·rw[if_neg bS]at H
         exact absurd H (by simp)
       ·rw[if_neg bC]at H
        have cV:decide (L<(b.length:Int))=false:=C1 bC
        clear bC
        obtain⟨a4,aZ⟩:∃y_:List (AM),y_=(([]:List (AM))):=⟨_,rfl⟩
        replace H:(if a4.length+b.length<2199023255552 then((some (a4++b:List (AM))).bind λay=>((some (([(⟨wrap64 ((Int.tmod l 3)+1),wrap64 ((wrap64 (q+(b.length:Int)))+1),(⟨2,wrap64 (11+Int.tmod (l1.length:Int) 3),0,0,(⟨#[]⟩:ByteArray)⟩:Et)⟩:AM)]:List (AM)):List (AM))).bind λag=>(if ay.length+ag.length<2199023255552 then(if 0≤(mx (wrap64 ((b.length:Int)-1)) 0)then(if(mx (wrap64 ((b.length:Int)-1)) 0)≤(b.length:Int)then((Ah.f k2 l y x (ay++ag) q z).bind λau=>(if au=true then(none)else((Ah.f k2 l y x (b.take ((mx (wrap64 ((b.length:Int)-1)) 0):Int).toNat) q z).bind λan=>(some an))))else(none))else(none))else(none))))else(none))=some r:=by first|(rw[aZ];with_reducible exact H)|(have aw:=(Option.bind_some _ _).symm.trans H;rw[aZ];with_reducible exact aw)|(have aw:=(Option.bind_some _ _).symm.trans H;with_reducible exact aw)|with_reducible exact H|(rw[aZ];exact H)|exact H
        have a7:=a_ aZ
        clear aZ
        by_cases bU:a4.length+b.length<2199023255552
        ·rw[if_pos bU]at H
         have br:=a_ bU
         clear bU
         obtain⟨ay,a0⟩:∃y_:List (AM),y_=(a4++b):=⟨_,rfl⟩
         replace H:((some (([(⟨wrap64 ((Int.tmod l 3)+1),wrap64 ((wrap64 (q+(b.length:Int)))+1),(⟨2,wrap64 (11+Int.tmod (l1.length:Int) 3),0,0,(⟨#[]⟩:ByteArray)⟩:Et)⟩:AM)]:List (AM)):List (AM))).bind λag=>(if ay.length+ag.length<2199023255552 then(if 0≤(mx (wrap64 ((b.length:Int)-1)) 0)then(if(mx (wrap64 ((b.length:Int)-1)) 0)≤(b.length:Int)then((Ah.f k2 l y x (ay++ag) q z).bind λau=>(if au=true then(none)else((Ah.f k2 l y x (b.take ((mx (wrap64 ((b.length:Int)-1)) 0):Int).toNat) q z).bind λan=>(some an))))else(none))else(none))else(none)))=some r:=by first|(rw[a0];with_reducible exact H)|(have aw:=(Option.bind_some _ _).symm.trans H;rw[a0];with_reducible exact aw)|(have aw:=(Option.bind_some _ _).symm.trans H;with_reducible exact aw)|with_reducible exact H|(rw[a0];exact H)|exact H
         have bx:=a_ a0
         clear a0
         obtain⟨ag,a1⟩:∃y_:List (AM),y_=(([(⟨wrap64 ((Int.tmod l 3)+1),wrap64 ((wrap64 (q+(b.length:Int)))+1),(⟨2,wrap64 (11+Int.tmod (l1.length:Int) 3),0,0,(⟨#[]⟩:ByteArray)⟩:Et)⟩:AM)]:List (AM))):=⟨_,rfl⟩
         replace H:(if ay.length+ag.length<2199023255552 then(if 0≤(mx (wrap64 ((b.length:Int)-1)) 0)then(if(mx (wrap64 ((b.length:Int)-1)) 0)≤(b.length:Int)then((Ah.f k2 l y x (ay++ag) q z).bind λau=>(if au=true then(none)else((Ah.f k2 l y x (b.take ((mx (wrap64 ((b.length:Int)-1)) 0):Int).toNat) q z).bind λan=>(some an))))else(none))else(none))else(none))=some r:=by first|(rw[a1];with_reducible exact H)|(have aw:=(Option.bind_some _ _).symm.trans H;rw[a1];with_reducible exact aw)|(have aw:=(Option.bind_some _ _).symm.trans H;with_reducible exact aw)|with_reducible exact H|(rw[a1];exact H)|exact H
         have aQ:=a_ a1
         clear a1
         by_cases bV:ay.length+ag.length<2199023255552
         ·rw[if_pos bV]at H
          have cd:=a_ bV
          clear bV
          obtain⟨ah,a2⟩:∃y_:List (AM),y_=(ay++ag):=⟨_,rfl⟩
          replace H:(if 0≤(mx (wrap64 ((b.length:Int)-1)) 0)then(if(mx (wrap64 ((b.length:Int)-1)) 0)≤(b.length:Int)then((Ah.f k2 l y x ah q z).bind λau=>(if au=true then(none)else((Ah.f k2 l y x (b.take ((mx (wrap64 ((b.length:Int)-1)) 0):Int).toNat) q z).bind λan=>(some an))))else(none))else(none))=some r:=by first|(rw[a2];with_reducible exact H)|(have aw:=(Option.bind_some _ _).symm.trans H;rw[a2];with_reducible exact aw)|(have aw:=(Option.bind_some _ _).symm.trans H;with_reducible exact aw)|with_reducible exact H|(rw[a2];exact H)|exact H
          have cf:=a_ a2
          clear a2
          obtain⟨ar,a8⟩:∃j_:Int,(mx (wrap64 ((b.length:Int)-1)) 0)=j_:=⟨_,rfl⟩
          replace H:(if 0≤(ar)then(if(ar)≤(b.length:Int)then((Ah.f k2 l y x ah q z).bind λau=>(if au=true then(none)else((Ah.f k2 l y x (b.take ((ar):Int).toNat) q z).bind λan=>(some an))))else(none))else(none))=some r:=by first|(rw[a8]at H;exact H)|(simp only[a8]at H⊢;exact H)
          have dQ:(if(wrap64 ((b.length:Int)-1))<0 then 0 else(wrap64 ((b.length:Int)-1)))=ar:=a8
          by_cases bG:0≤(ar)
          ·rw[if_pos bG]at H
           have gJ:=eq_true bG
           have gK:decide (0≤(ar))=true:=BJ bG
           clear bG
           by_cases bH:(ar)≤(b.length:Int)
           ·rw[if_pos bH]at H
            have gL:=eq_true bH
            have gM:decide ((ar)≤(b.length:Int))=true:=BJ bH
            clear bH
            obtain⟨az,a3⟩:∃y_:List (AM),y_=(b.take ((ar):Int).toNat):=⟨_,rfl⟩
            replace H:((Ah.f k2 l y x ah q z).bind λau=>(if au=true then(none)else((Ah.f k2 l y x az q z).bind λan=>(some an))))=some r:=by first|(rw[a3];with_reducible exact H)|(have aw:=(Option.bind_some _ _).symm.trans H;rw[a3];with_reducible exact aw)|(have aw:=(Option.bind_some _ _).symm.trans H;with_reducible exact aw)|with_reducible exact H|(rw[a3];exact H)|exact H
            have bE:=a_ a3
            clear a3
            replace H:=BU H
            obtain⟨au,bY,H⟩:=H
            try dsimp only at H
            have dR:=a_ bY
            clear bY
            by_cases bW:au=true
            ·subst bW
             have H1:(none)=some r:=by rw[if_pos rfl]at H;exact H
             clear H
             have H:=H1
             clear H1
             exact absurd H (by simp)
            ·replace bW:=Bool.eq_false_iff.mpr bW
             subst bW
             have H1:((Ah.f k2 l y x az q z).bind λan=>(some an))=some r:=by rw[if_neg (show¬ (false=true) by decide)]at H;exact H
             clear H
             have H:=H1
             clear H1
             replace H:=BU H
             obtain⟨an,bZ,H⟩:=H
             try dsimp only at H
             have dS:=a_ bZ
             clear bZ
             obtain rfl:=C5 H
             have fi:wr.cell? ⟨A,0,none⟩=some (.int .i64 l):=(AO a.o 0).trans rfl
             have fj:wr.cell? ⟨A,1,none⟩=some (.int .i64 y):=(AO a.o 1).trans rfl
             have fk:wr.cell? ⟨A,2,none⟩=some (.slice I x.length G):=(AO a.o 2).trans rfl
             have fl:wr.cell? ⟨A,3,none⟩=some (.slice E b.length D):=(AO a.o 3).trans rfl
             have fm:wr.cell? ⟨A,4,none⟩=some (.int .i64 q):=(AO a.o 4).trans rfl
             have fo:wr.cell? ⟨A,5,none⟩=some (.int .i64 z):=(AO a.o 5).trans rfl
             have dY:=DT a.o 0
             have dZ:=DT a.o 1
             have d_:=DT a.o 2
             have ea:=DT a.o 3
             have ec:=DT a.o 4
             have ed:=DT a.o 5
             try go_wp2_with(first|((with_reducible refine Cd (N:=9) rfl ?_);refine CE 9 (#[.int .i64 0,.int .i64 0,.slice none 0 0,.slice none 0 0,.int .i64 0,.int .i64 0]) 26 ?_;intro B hg bD aD T;have J:=a_ (aD);have dW:=a_ ((by rw[hg];exact(Ab (Ad)):w.heap.size≤B));have dU:=a_ ((by rw[hg];exact(Ab (Ad)):w.heap.size≤B));have Z:=a_ ((by rw[hg];exact Nat.ne_of_lt (AU (g:=A) (o:=.cells #[.int .i64 l,.int .i64 y,.slice I x.length G,.slice E b.length D,.int .i64 q,.int .i64 z] 26 (0,0)) (Bp a.o)):A≠B));have aW:=a_ ((by rw[hg];exact Nat.ne_of_gt (AU (g:=A) (o:=.cells #[.int .i64 l,.int .i64 y,.slice I x.length G,.slice E b.length D,.int .i64 q,.int .i64 z] 26 (0,0)) (Bp a.o)):B≠A));replace u:=a_ (Kd.AZ (BC u.o) T);replace d:=a_ (Kd.AZ (BC d.o) T);replace a:=a_ (Az (g:=A) (o:=.cells #[.int .i64 l,.int .i64 y,.slice I x.length G,.slice E b.length D,.int .i64 q,.int .i64 z] 26 (0,0)) (Bp a.o) T);replace HB:=a_ (BA (Ad) T);clear T aD hg;have gP:=aW.o;have gS:=Z.o;obtain⟨fp,fq,ft,fu,fv,fw,ee,ef,eg,eh,ei,ej⟩:=Cs J.o))
             have n0_:Ae (Kd.R Dj 68 ((((((bD.setCell ⟨B,0,none⟩ (.int .i64 l)).setCell ⟨B,1,none⟩ (.int .i64 y)).setCell ⟨B,2,none⟩ (.slice I x.length G)).setCell ⟨B,3,none⟩ (.slice E b.length D)).setCell ⟨B,4,none⟩ (.int .i64 q)).setCell ⟨B,5,none⟩ (.int .i64 z)) w.heap.size (λ_=>True) (.slice I x.length G) x):=⟨by(with_reducible repeat(first|apply Kd.R_alloc|apply Kd.An|apply Kd.As));exact Kd.Aj (EZ (g:=B) (Kd.AF u.o J.o (by decide)) (λ_ M=>M.2) (.int .i64 l) (.int .i64 y) (.slice I x.length G) (.slice E b.length D) (.int .i64 q) (.int .i64 z)) (λ_ M=>trivial)⟩
             have db:Ae (Kd.R BT 32 ((((((bD.setCell ⟨B,0,none⟩ (.int .i64 l)).setCell ⟨B,1,none⟩ (.int .i64 y)).setCell ⟨B,2,none⟩ (.slice I x.length G)).setCell ⟨B,3,none⟩ (.slice E b.length D)).setCell ⟨B,4,none⟩ (.int .i64 q)).setCell ⟨B,5,none⟩ (.int .i64 z)) w.heap.size (λ_=>True) (.slice E b.length D) b):=⟨by(with_reducible repeat(first|apply Kd.R_alloc|apply Kd.An|apply Kd.As));exact Kd.Aj (EZ (g:=B) (Kd.AF d.o J.o (by decide)) (λ_ M=>M.2) (.int .i64 l) (.int .i64 y) (.slice I x.length G) (.slice E b.length D) (.int .i64 q) (.int .i64 z)) (λ_ M=>trivial)⟩
             have dc:Ae (((((((bD.setCell ⟨B,0,none⟩ (.int .i64 l)).setCell ⟨B,1,none⟩ (.int .i64 y)).setCell ⟨B,2,none⟩ (.slice I x.length G)).setCell ⟨B,3,none⟩ (.slice E b.length D)).setCell ⟨B,4,none⟩ (.int .i64 q)).setCell ⟨B,5,none⟩ (.int .i64 z)).heap[A]?=some (.cells #[.int .i64 l,.int .i64 y,.slice I x.length G,.slice E b.length D,.int .i64 q,.int .i64 z] 26 (0,0))):=⟨Dv Z.o a.o⟩
             have dd:Ae (((((((bD.setCell ⟨B,0,none⟩ (.int .i64 l)).setCell ⟨B,1,none⟩ (.int .i64 y)).setCell ⟨B,2,none⟩ (.slice I x.length G)).setCell ⟨B,3,none⟩ (.slice E b.length D)).setCell ⟨B,4,none⟩ (.int .i64 q)).setCell ⟨B,5,none⟩ (.int .i64 z)).heap[B]?=some (.cells #[.int .i64 l,.int .i64 y,.slice I x.length G,.slice E b.length D,.int .i64 q,.int .i64 z] 26 (0,0))):=⟨GM J.o⟩
             have de:Ae (Below w.heap.size w ((((((bD.setCell ⟨B,0,none⟩ (.int .i64 l)).setCell ⟨B,1,none⟩ (.int .i64 y)).setCell ⟨B,2,none⟩ (.slice I x.length G)).setCell ⟨B,3,none⟩ (.slice E b.length D)).setCell ⟨B,4,none⟩ (.int .i64 q)).setCell ⟨B,5,none⟩ (.int .i64 z))):=⟨Ad⟩
             (try clear u)
             (try clear d)
             (try clear a)
             (try clear J)
             (try clear HB)
             generalize ((((((bD.setCell ⟨B,0,none⟩ (.int .i64 l)).setCell ⟨B,1,none⟩ (.int .i64 y)).setCell ⟨B,2,none⟩ (.slice I x.length G)).setCell ⟨B,3,none⟩ (.slice E b.length D)).setCell ⟨B,4,none⟩ (.int .i64 q)).setCell ⟨B,5,none⟩ (.int .i64 z))=gW at n0_ db dc dd de⊢
             have u:=n0_
             have d:=db
             have a:=dc
             have J:=dd
             have HB:=de
             clear n0_ db dc dd de
             replace u:=a_ (Kd.As u.o)
             replace d:=a_ (Kd.As d.o)
             replace a:=a_ (DA a.o)
             replace J:=a_ (DA J.o)
             replace HB:=a_ (Ay HB.o)
             refine Ch (n:=23) (S:=λw'=>w'.cell? ⟨A,0,none⟩=some (.int .i64 l)∧w'.cell? ⟨A,1,none⟩=some (.int .i64 y)∧w'.cell? ⟨A,2,none⟩=some (.slice I x.length G)∧w'.cell? ⟨A,3,none⟩=some (.slice E b.length D)∧w'.cell? ⟨A,4,none⟩=some (.int .i64 q)∧w'.cell? ⟨A,5,none⟩=some (.int .i64 z)) (ds:=[]) #[false,false,false,false,false,false,false,false,false,false,false,false,false,false,false,false,false,false,false,false,false,false,false] (by kernel_rfl) rfl rfl ⟨(AO a.o 0).trans rfl,(AO a.o 1).trans rfl,(AO a.o 2).trans rfl,(AO a.o 3).trans rfl,(AO a.o 4).trans rfl,(AO a.o 5).trans rfl⟩ (λO=>?_);refine BZ Am.Jd Am.Hs (λHT_ HW_=>?_)
             generalize gW.drew=hh at u d a J HB O⊢
             refine A_ 1 68 ?_
             refine A_ 4 71 ?_
             refine A_ 8 75 ?_
             refine A_ 10 77 ?_
             refine A_ 13 80 ?_
             refine A_ 14 81 ?_
             refine A_ 15 82 ?_
             refine A_ 16 83 ?_
             refine A_ 17 84 ?_
             refine Kk 2 69 O ?_
             refine Kk 5 72 O ?_
             refine A_ 6 73 ?_
             refine A_ 7 74 ?_
             refine Kk 9 76 O ?_
             refine A_ 11 78 ?_
             refine A_ 12 79 ?_
             refine A_ 18 85 ?_
             refine Lk (σ:=Value×Value×Value) 3 #[true,true,true,true,true,true,true,true,true,true,true,true,true,true,true,true,true,true,true,true,false,false,false] (λs_=>[(67,s_.1),(70,s_.2.1),(86,s_.2.2)]) (λs_ w'=>(w'.cell? ⟨A,0,none⟩=some (.int .i64 l)∧w'.cell? ⟨A,1,none⟩=some (.int .i64 y)∧w'.cell? ⟨A,2,none⟩=some (.slice I x.length G)∧w'.cell? ⟨A,3,none⟩=some (.slice E b.length D)∧w'.cell? ⟨A,4,none⟩=some (.int .i64 q)∧w'.cell? ⟨A,5,none⟩=some (.int .i64 z))∧(Kd.R BT 32 w' w.heap.size (λk_=>some k_≠(s_.2.2:Value).ownBlock∧some k_≠(.slice E b.length D:Value).ownBlock) s_.2.1 ay)∧(Kd.R BT 32 w' w.heap.size (λk_=>some k_≠(s_.2.1:Value).ownBlock∧some k_≠(.slice E b.length D:Value).ownBlock) s_.2.2 ag)∧(Kd.R Dj 68 w' w.heap.size (λ_=>True) (.slice I x.length G) x)∧(Kd.R BT 32 w' w.heap.size (λk_=>some k_≠(s_.2.1:Value).ownBlock∧some k_≠(s_.2.2:Value).ownBlock) (.slice E b.length D) b)∧(w'.heap[A]?=some (.cells #[.int .i64 l,.int .i64 y,.slice I x.length G,.slice E b.length D,.int .i64 q,.int .i64 z] 26 (0,0)))∧(w'.heap[B]?=some (.cells #[.int .i64 l,.int .i64 y,.slice I x.length G,.slice E b.length D,.int .i64 q,.int .i64 z] 26 (0,0)))∧(Below w.heap.size w w')) ?_ ?_
             rotate_left
             ·intro bA
              refine KT (i:=0) (j:=19) (Ni:=some 67) (Nj:=some 86) #[true,true,true,false,true,true,true,true,true,true,true,true,true,true,true,true,true,true,true,false,false,false,false] #[false,true,true,false,true,true,true,true,true,true,true,true,true,true,true,true,true,true,true,true,false,false,false] rfl rfl rfl rfl (JP HT_.o (by kernel_rfl)) (by decide) (by decide) (λK hK=>?_) (λK hK=>?_)
              ·skip
               refine Kd.CR BT _ 32 ?hg (N:=67) ?hd (xs:=([]:List (AM))) (inner:=[]) (ok:=λ_=>True) (okp:=λ_=>True) ?hr ?hp (λ_ M=>M) trivial (Below.refl _ _) (Nat.le_refl _) (by simp) ?_;(case hd=>rfl);(case hg=>rfl);(case hr=>first|(go_simp;done)|(go_simp;rfl));(case hp=>exact(Bi.none _ _))
               intro aV gX aq T Du ax
               clear Du ax
               (first|rw[<-a7.o]at aq|(simp only[Int.reduceToNat]at aq;rw[<-a7.o]at aq))
               replace u:=a_ (Kd.AZ (BC u.o) T)
               have af:=a_ (Kd.AN (Kd.DC aq (Kd.DQ (BC d.o))) (Ab (Ad)))
               replace d:=a_ (Kd.CB (BC d.o) (Kd.BO aq) T)
               replace HB:=a_ (BA (Ad) T)
               replace a:=a_ (Az (g:=A) (o:=.cells #[.int .i64 l,.int .i64 y,.slice I x.length G,.slice E b.length D,.int .i64 q,.int .i64 z] 26 (0,0)) (Bp a.o) T)
               replace J:=a_ (Az (g:=B) (o:=.cells #[.int .i64 l,.int .i64 y,.slice I x.length G,.slice E b.length D,.int .i64 q,.int .i64 z] 26 (0,0)) (Bp J.o) T)
               clear T aq
               refine hK.out _ _ ⟨(AO a.o 0).trans rfl,(AO a.o 1).trans rfl,(AO a.o 2).trans rfl,(AO a.o 3).trans rfl,(AO a.o 4).trans rfl,(AO a.o 5).trans rfl⟩ (λO=>?_)
               clear hK K
               refine Ea 67 ?_
               refine KT (i:=3) (j:=19) (Ni:=some 70) (Nj:=some 86) #[true,true,true,true,true,true,true,true,true,true,true,true,true,true,true,true,true,true,true,false,false,false,false] #[true,true,true,false,true,true,true,true,true,true,true,true,true,true,true,true,true,true,true,true,false,false,false] rfl rfl rfl rfl (JP HT_.o (by kernel_rfl)) (by decide) (by decide) (λK hK=>?_) (λK hK=>?_)
               ·skip
                refine Kd.Bo BT (w0:=w) w.heap.size (by rfl) (.tmp 67) (.tmp 69) 24 32 (.agg #[(.int .i64 0),(.int .i64 0),(.int .i64 0),(.int .i64 0),(.int .i64 0),(.int .i64 0),(.string ⟨#[]⟩)]) 64 rfl Tryd.underlying24 C7 rfl (by decide) (by omega) aV a4 b _ _ _ (λk_=>some k_≠(.slice E b.length D:Value).ownBlock) (λ_=>False) rfl rfl ?aO ?aR (λ_ _ h=>h) (λ_ h=>h.elim) ?aF ?aB ?aS ?aL ?_
                (case aR=>exact Ft (Kd.AD d.o).2.2)
                (case aB=>exact(Ad))
                (case aF=>exact(λk_ M=>Kd.EA (Kd.DQ (BC d.o)) k_ M))
                (case aO=>exact(by(with_reducible repeat(first|apply Kd.R_alloc|apply Kd.An|apply Kd.As));exact Kd.Aj af.o (λ_ M=>M.2)))
                (case aS=>exact(Ab (Ad)))
                (case aL=>have:=br.o;omega)
                intro aI dP ho T hg aM
                rw[<-bx.o]at ho
                replace u:=a_ (Kd.Df (BC u.o) (Kd.C9 (BC af.o)) (by decide) hg)
                replace d:=a_ (Kd.Ei (ok:=(λ_=>True)) (BC d.o) hg aM)
                replace a:=a_ (AJ (g:=A) (o:=.cells #[.int .i64 l,.int .i64 y,.slice I x.length G,.slice E b.length D,.int .i64 q,.int .i64 z] 26 (0,0)) (Bp a.o) hg (Kd.Ez af.o a.o (by decide)))
                replace J:=a_ (AJ (g:=B) (o:=.cells #[.int .i64 l,.int .i64 y,.slice I x.length G,.slice E b.length D,.int .i64 q,.int .i64 z] 26 (0,0)) (Bp J.o) hg (Kd.Ez af.o J.o (by decide)))
                replace HB:=a_ (T)
                have ai:=a_ (ho)
                clear af
                clear ho T hg aM
                refine hK.out _ _ ⟨(AO a.o 0).trans rfl,(AO a.o 1).trans rfl,(AO a.o 2).trans rfl,(AO a.o 3).trans rfl,(AO a.o 4).trans rfl,(AO a.o 5).trans rfl⟩ (λO=>?_)
                clear hK K
                refine Ea 70 ?_
                refine EU 19 86 (λK hK=>?_)
                refine Kd.CR BT _ 32 ?hg (N:=86) ?hd (xs:=([(⟨wrap64 ((Int.tmod l 3)+1),wrap64 ((wrap64 (q+(b.length:Int)))+1),(⟨2,wrap64 (11+Int.tmod (l1.length:Int) 3),0,0,(⟨#[]⟩:ByteArray)⟩:Et)⟩:AM)]:List (AM))) (inner:=[.int .i64 (wrap64 ((Int.tmod l 3)+1)),.int .i64 (wrap64 ((wrap64 (q+(b.length:Int)))+1)),.int .i64 2,.int .i64 (wrap64 (11+Int.tmod (l1.length:Int) 3)),.int .i64 0,.int .i64 0,.string (⟨#[]⟩:ByteArray)]) (ok:=λ_=>True) (okp:=λ_=>True) ?hr ?hp (λ_ M=>M) trivial (Below.refl _ _) (Nat.le_refl _) (by simp) ?_;(case hd=>rfl);(case hg=>rfl);(case hr=>first|(go_simp;done)|(go_simp;rfl));(case hp=>exact(Bi.c7 (show Kd.M BT _ _ _ (⟨wrap64 ((Int.tmod l 3)+1),wrap64 ((wrap64 (q+(b.length:Int)))+1),(⟨2,wrap64 (11+Int.tmod (l1.length:Int) 3),0,0,(⟨#[]⟩:ByteArray)⟩:Et)⟩:AM) [.int .i64 (wrap64 ((Int.tmod l 3)+1)),.int .i64 (wrap64 ((wrap64 (q+(b.length:Int)))+1)),.int .i64 2,.int .i64 (wrap64 (11+Int.tmod (l1.length:Int) 3)),.int .i64 0,.int .i64 0,.string (⟨#[]⟩:ByteArray)]from(Ex _ _ _ (⟨wrap64 ((Int.tmod l 3)+1),wrap64 ((wrap64 (q+(b.length:Int)))+1),(⟨2,wrap64 (11+Int.tmod (l1.length:Int) 3),0,0,(⟨#[]⟩:ByteArray)⟩:Et)⟩:AM) )) (Bi.none _ _)))
                intro av hj aY T Du ax
                clear Du ax
                (first|rw[<-aQ.o]at aY|(simp only[Int.reduceToNat]at aY;rw[<-aQ.o]at aY))
                replace u:=a_ (Kd.AZ (BC u.o) T)
                have X:=a_ (Kd.AN (Kd.DC (Kd.DC aY (Kd.DQ (BC d.o))) (Kd.DQ (BC ai.o))) (Ab (Ad)))
                replace d:=a_ (Kd.CB (BC d.o) (Kd.BO aY) T)
                replace ai:=a_ (Kd.CB (BC ai.o) (Kd.BO aY) T)
                replace HB:=a_ (BA (Ad) T)
                replace a:=a_ (Az (g:=A) (o:=.cells #[.int .i64 l,.int .i64 y,.slice I x.length G,.slice E b.length D,.int .i64 q,.int .i64 z] 26 (0,0)) (Bp a.o) T)
                replace J:=a_ (Az (g:=B) (o:=.cells #[.int .i64 l,.int .i64 y,.slice I x.length G,.slice E b.length D,.int .i64 q,.int .i64 z] 26 (0,0)) (Bp J.o) T)
                clear T aY
                refine hK.out _ _ ⟨(AO a.o 0).trans rfl,(AO a.o 1).trans rfl,(AO a.o 2).trans rfl,(AO a.o 3).trans rfl,(AO a.o 4).trans rfl,(AO a.o 5).trans rfl⟩ (λO=>?_)
                clear hK K
                refine Ea 86 ?_
                exact Fj (by simp only[Eh,Act.put,List.setIfInBounds_toArray,List.set_cons_zero,List.set_cons_succ]) (bA (aV,aI,av) _ ⟨O,(by(with_reducible repeat(first|apply Kd.R_alloc|apply Kd.An|apply Kd.As));exact Kd.Aj ai.o (λ_ M=>⟨M.2,M.1⟩)),(by(with_reducible repeat(first|apply Kd.R_alloc|apply Kd.An|apply Kd.As));exact Kd.Aj X.o (λ_ M=>⟨M.2,M.1.2⟩)),(BC u.o),(by(with_reducible repeat(first|apply Kd.R_alloc|apply Kd.An|apply Kd.As));exact Kd.Aj d.o (λ_ M=>⟨M.1.2,M.2⟩)),(Bp a.o),(Bp J.o),(Ad)⟩)
               ·skip
                refine Kd.CR BT _ 32 ?hg (N:=86) ?hd (xs:=([(⟨wrap64 ((Int.tmod l 3)+1),wrap64 ((wrap64 (q+(b.length:Int)))+1),(⟨2,wrap64 (11+Int.tmod (l1.length:Int) 3),0,0,(⟨#[]⟩:ByteArray)⟩:Et)⟩:AM)]:List (AM))) (inner:=[.int .i64 (wrap64 ((Int.tmod l 3)+1)),.int .i64 (wrap64 ((wrap64 (q+(b.length:Int)))+1)),.int .i64 2,.int .i64 (wrap64 (11+Int.tmod (l1.length:Int) 3)),.int .i64 0,.int .i64 0,.string (⟨#[]⟩:ByteArray)]) (ok:=λ_=>True) (okp:=λ_=>True) ?hr ?hp (λ_ M=>M) trivial (Below.refl _ _) (Nat.le_refl _) (by simp) ?_;(case hd=>rfl);(case hg=>rfl);(case hr=>first|(go_simp;done)|(go_simp;rfl));(case hp=>exact(Bi.c7 (show Kd.M BT _ _ _ (⟨wrap64 ((Int.tmod l 3)+1),wrap64 ((wrap64 (q+(b.length:Int)))+1),(⟨2,wrap64 (11+Int.tmod (l1.length:Int) 3),0,0,(⟨#[]⟩:ByteArray)⟩:Et)⟩:AM) [.int .i64 (wrap64 ((Int.tmod l 3)+1)),.int .i64 (wrap64 ((wrap64 (q+(b.length:Int)))+1)),.int .i64 2,.int .i64 (wrap64 (11+Int.tmod (l1.length:Int) 3)),.int .i64 0,.int .i64 0,.string (⟨#[]⟩:ByteArray)]from(Ex _ _ _ (⟨wrap64 ((Int.tmod l 3)+1),wrap64 ((wrap64 (q+(b.length:Int)))+1),(⟨2,wrap64 (11+Int.tmod (l1.length:Int) 3),0,0,(⟨#[]⟩:ByteArray)⟩:Et)⟩:AM) )) (Bi.none _ _)))
                intro av dP al T Du ax
                clear Du ax
                (first|rw[<-aQ.o]at al|(simp only[Int.reduceToNat]at al;rw[<-aQ.o]at al))
                replace u:=a_ (Kd.AZ (BC u.o) T)
                have X:=a_ (Kd.AN (Kd.DC (Kd.DC al (Kd.DQ (BC d.o))) (Kd.DQ (BC af.o))) (Ab (Ad)))
                replace d:=a_ (Kd.CB (BC d.o) (Kd.BO al) T)
                replace af:=a_ (Kd.CB (BC af.o) (Kd.BO al) T)
                replace HB:=a_ (BA (Ad) T)
                replace a:=a_ (Az (g:=A) (o:=.cells #[.int .i64 l,.int .i64 y,.slice I x.length G,.slice E b.length D,.int .i64 q,.int .i64 z] 26 (0,0)) (Bp a.o) T)
                replace J:=a_ (Az (g:=B) (o:=.cells #[.int .i64 l,.int .i64 y,.slice I x.length G,.slice E b.length D,.int .i64 q,.int .i64 z] 26 (0,0)) (Bp J.o) T)
                clear T al
                refine hK.out _ _ ⟨(AO a.o 0).trans rfl,(AO a.o 1).trans rfl,(AO a.o 2).trans rfl,(AO a.o 3).trans rfl,(AO a.o 4).trans rfl,(AO a.o 5).trans rfl⟩ (λO=>?_)
                clear hK K
                refine Ea 86 ?_
                refine EU 3 70 (λK hK=>?_)
                refine Kd.Bo BT (w0:=w) w.heap.size (by rfl) (.tmp 67) (.tmp 69) 24 32 (.agg #[(.int .i64 0),(.int .i64 0),(.int .i64 0),(.int .i64 0),(.int .i64 0),(.int .i64 0),(.string ⟨#[]⟩)]) 64 rfl Tryd.underlying24 C7 rfl (by decide) (by omega) aV a4 b _ _ _ (λk_=>some k_≠(.slice E b.length D:Value).ownBlock∧some k_≠(av:Value).ownBlock) (λ_=>False) rfl rfl ?aO ?aR (λ_ _ h=>h) (λ_ h=>h.elim) ?aF ?aB ?aS ?aL ?_
                (case aR=>exact Ft (Kd.AD d.o).2.2)
                (case aB=>exact(Ad))
                (case aF=>exact(λk_ M=>⟨Kd.EA (Kd.DQ (BC d.o)) k_ M,Kd.EA (Kd.DQ (BC X.o)) k_ M⟩))
                (case aO=>exact(by(with_reducible repeat(first|apply Kd.R_alloc|apply Kd.An|apply Kd.As));exact Kd.Aj af.o (λ_ M=>⟨M.1.2,M.2⟩)))
                (case aS=>exact(Ab (Ad)))
                (case aL=>have:=br.o;omega)
                intro aI gY ho T hg aM
                rw[<-bx.o]at ho
                replace u:=a_ (Kd.Df (BC u.o) (Kd.C9 (BC af.o)) (by decide) hg)
                replace d:=a_ (Kd.Ei (ok:=(λk_=>some k_≠(av:Value).ownBlock)) (by(with_reducible repeat(first|apply Kd.R_alloc|apply Kd.An|apply Kd.As));exact Kd.Aj d.o (λ_ M=>⟨M.2,M.1.2⟩)) hg aM)
                replace a:=a_ (AJ (g:=A) (o:=.cells #[.int .i64 l,.int .i64 y,.slice I x.length G,.slice E b.length D,.int .i64 q,.int .i64 z] 26 (0,0)) (Bp a.o) hg (Kd.Ez af.o a.o (by decide)))
                replace J:=a_ (AJ (g:=B) (o:=.cells #[.int .i64 l,.int .i64 y,.slice I x.length G,.slice E b.length D,.int .i64 q,.int .i64 z] 26 (0,0)) (Bp J.o) hg (Kd.Ez af.o J.o (by decide)))
                replace X:=a_ (Kd.Ei (ok:=(λk_=>some k_≠(.slice E b.length D:Value).ownBlock)) (by(with_reducible repeat(first|apply Kd.R_alloc|apply Kd.An|apply Kd.As));exact Kd.Aj X.o (λ_ M=>⟨M.1.2,M.2⟩)) hg aM)
                replace HB:=a_ (T)
                have ai:=a_ (ho)
                clear af
                clear ho T hg aM
                refine hK.out _ _ ⟨(AO a.o 0).trans rfl,(AO a.o 1).trans rfl,(AO a.o 2).trans rfl,(AO a.o 3).trans rfl,(AO a.o 4).trans rfl,(AO a.o 5).trans rfl⟩ (λO=>?_)
                clear hK K
                refine Ea 70 ?_
                exact Fj (by simp only[Eh,Act.put,List.setIfInBounds_toArray,List.set_cons_zero,List.set_cons_succ]) (bA (aV,aI,av) _ ⟨O,(by(with_reducible repeat(first|apply Kd.R_alloc|apply Kd.An|apply Kd.As));exact Kd.Aj ai.o (λ_ M=>⟨M.2,M.1⟩)),(by(with_reducible repeat(first|apply Kd.R_alloc|apply Kd.An|apply Kd.As));exact Kd.Aj X.o (λ_ M=>⟨M.2,M.1⟩)),(BC u.o),(by(with_reducible repeat(first|apply Kd.R_alloc|apply Kd.An|apply Kd.As));exact Kd.Aj d.o (λ_ M=>⟨M.2,M.1⟩)),(Bp a.o),(Bp J.o),(Ad)⟩)
              ·skip
               refine Kd.CR BT _ 32 ?hg (N:=86) ?hd (xs:=([(⟨wrap64 ((Int.tmod l 3)+1),wrap64 ((wrap64 (q+(b.length:Int)))+1),(⟨2,wrap64 (11+Int.tmod (l1.length:Int) 3),0,0,(⟨#[]⟩:ByteArray)⟩:Et)⟩:AM)]:List (AM))) (inner:=[.int .i64 (wrap64 ((Int.tmod l 3)+1)),.int .i64 (wrap64 ((wrap64 (q+(b.length:Int)))+1)),.int .i64 2,.int .i64 (wrap64 (11+Int.tmod (l1.length:Int) 3)),.int .i64 0,.int .i64 0,.string (⟨#[]⟩:ByteArray)]) (ok:=λ_=>True) (okp:=λ_=>True) ?hr ?hp (λ_ M=>M) trivial (Below.refl _ _) (Nat.le_refl _) (by simp) ?_;(case hd=>rfl);(case hg=>rfl);(case hr=>first|(go_simp;done)|(go_simp;rfl));(case hp=>exact(Bi.c7 (show Kd.M BT _ _ _ (⟨wrap64 ((Int.tmod l 3)+1),wrap64 ((wrap64 (q+(b.length:Int)))+1),(⟨2,wrap64 (11+Int.tmod (l1.length:Int) 3),0,0,(⟨#[]⟩:ByteArray)⟩:Et)⟩:AM) [.int .i64 (wrap64 ((Int.tmod l 3)+1)),.int .i64 (wrap64 ((wrap64 (q+(b.length:Int)))+1)),.int .i64 2,.int .i64 (wrap64 (11+Int.tmod (l1.length:Int) 3)),.int .i64 0,.int .i64 0,.string (⟨#[]⟩:ByteArray)]from(Ex _ _ _ (⟨wrap64 ((Int.tmod l 3)+1),wrap64 ((wrap64 (q+(b.length:Int)))+1),(⟨2,wrap64 (11+Int.tmod (l1.length:Int) 3),0,0,(⟨#[]⟩:ByteArray)⟩:Et)⟩:AM) )) (Bi.none _ _)))
               intro av gX aq T Du ax
               clear Du ax
               (first|rw[<-aQ.o]at aq|(simp only[Int.reduceToNat]at aq;rw[<-aQ.o]at aq))
               replace u:=a_ (Kd.AZ (BC u.o) T)
               have X:=a_ (Kd.AN (Kd.DC aq (Kd.DQ (BC d.o))) (Ab (Ad)))
               replace d:=a_ (Kd.CB (BC d.o) (Kd.BO aq) T)
               replace HB:=a_ (BA (Ad) T)
               replace a:=a_ (Az (g:=A) (o:=.cells #[.int .i64 l,.int .i64 y,.slice I x.length G,.slice E b.length D,.int .i64 q,.int .i64 z] 26 (0,0)) (Bp a.o) T)
               replace J:=a_ (Az (g:=B) (o:=.cells #[.int .i64 l,.int .i64 y,.slice I x.length G,.slice E b.length D,.int .i64 q,.int .i64 z] 26 (0,0)) (Bp J.o) T)
               clear T aq
               refine hK.out _ _ ⟨(AO a.o 0).trans rfl,(AO a.o 1).trans rfl,(AO a.o 2).trans rfl,(AO a.o 3).trans rfl,(AO a.o 4).trans rfl,(AO a.o 5).trans rfl⟩ (λO=>?_)
               clear hK K
               refine Ea 86 ?_
               refine EU 0 67 (λK hK=>?_)
               refine Kd.CR BT _ 32 ?hg (N:=67) ?hd (xs:=([]:List (AM))) (inner:=[]) (ok:=λ_=>True) (okp:=λ_=>True) ?hr ?hp (λ_ M=>M) trivial (Below.refl _ _) (Nat.le_refl _) (by simp) ?_;(case hd=>rfl);(case hg=>rfl);(case hr=>first|(go_simp;done)|(go_simp;rfl));(case hp=>exact(Bi.none _ _))
               intro aV dP al T Du ax
               clear Du ax
               (first|rw[<-a7.o]at al|(simp only[Int.reduceToNat]at al;rw[<-a7.o]at al))
               replace u:=a_ (Kd.AZ (BC u.o) T)
               have af:=a_ (Kd.AN (Kd.DC (Kd.DC al (Kd.DQ (BC d.o))) (Kd.DQ (BC X.o))) (Ab (Ad)))
               replace d:=a_ (Kd.CB (BC d.o) (Kd.BO al) T)
               replace X:=a_ (Kd.CB (BC X.o) (Kd.BO al) T)
               replace HB:=a_ (BA (Ad) T)
               replace a:=a_ (Az (g:=A) (o:=.cells #[.int .i64 l,.int .i64 y,.slice I x.length G,.slice E b.length D,.int .i64 q,.int .i64 z] 26 (0,0)) (Bp a.o) T)
               replace J:=a_ (Az (g:=B) (o:=.cells #[.int .i64 l,.int .i64 y,.slice I x.length G,.slice E b.length D,.int .i64 q,.int .i64 z] 26 (0,0)) (Bp J.o) T)
               clear T al
               refine hK.out _ _ ⟨(AO a.o 0).trans rfl,(AO a.o 1).trans rfl,(AO a.o 2).trans rfl,(AO a.o 3).trans rfl,(AO a.o 4).trans rfl,(AO a.o 5).trans rfl⟩ (λO=>?_)
               clear hK K
               refine Ea 67 ?_
               refine EU 3 70 (λK hK=>?_)
               refine Kd.Bo BT (w0:=w) w.heap.size (by rfl) (.tmp 67) (.tmp 69) 24 32 (.agg #[(.int .i64 0),(.int .i64 0),(.int .i64 0),(.int .i64 0),(.int .i64 0),(.int .i64 0),(.string ⟨#[]⟩)]) 64 rfl Tryd.underlying24 C7 rfl (by decide) (by omega) aV a4 b _ _ _ (λk_=>some k_≠(.slice E b.length D:Value).ownBlock∧some k_≠(av:Value).ownBlock) (λ_=>False) rfl rfl ?aO ?aR (λ_ _ h=>h) (λ_ h=>h.elim) ?aF ?aB ?aS ?aL ?_
               (case aR=>exact Ft (Kd.AD d.o).2.2)
               (case aB=>exact(Ad))
               (case aF=>exact(λk_ M=>⟨Kd.EA (Kd.DQ (BC d.o)) k_ M,Kd.EA (Kd.DQ (BC X.o)) k_ M⟩))
               (case aO=>exact(by(with_reducible repeat(first|apply Kd.R_alloc|apply Kd.An|apply Kd.As));exact Kd.Aj af.o (λ_ M=>⟨M.1.2,M.2⟩)))
               (case aS=>exact(Ab (Ad)))
               (case aL=>have:=br.o;omega)
               intro aI gY ho T hg aM
               rw[<-bx.o]at ho
               replace u:=a_ (Kd.Df (BC u.o) (Kd.C9 (BC af.o)) (by decide) hg)
               replace d:=a_ (Kd.Ei (ok:=(λk_=>some k_≠(av:Value).ownBlock)) (by(with_reducible repeat(first|apply Kd.R_alloc|apply Kd.An|apply Kd.As));exact Kd.Aj d.o (λ_ M=>⟨M.1.2,M.2⟩)) hg aM)
               replace a:=a_ (AJ (g:=A) (o:=.cells #[.int .i64 l,.int .i64 y,.slice I x.length G,.slice E b.length D,.int .i64 q,.int .i64 z] 26 (0,0)) (Bp a.o) hg (Kd.Ez af.o a.o (by decide)))
               replace J:=a_ (AJ (g:=B) (o:=.cells #[.int .i64 l,.int .i64 y,.slice I x.length G,.slice E b.length D,.int .i64 q,.int .i64 z] 26 (0,0)) (Bp J.o) hg (Kd.Ez af.o J.o (by decide)))
               replace X:=a_ (Kd.Ei (ok:=(λk_=>some k_≠(.slice E b.length D:Value).ownBlock)) (by(with_reducible repeat(first|apply Kd.R_alloc|apply Kd.An|apply Kd.As));exact Kd.Aj X.o (λ_ M=>⟨M.1.2,M.2⟩)) hg aM)
               replace HB:=a_ (T)
               have ai:=a_ (ho)
               clear af
               clear ho T hg aM
               refine hK.out _ _ ⟨(AO a.o 0).trans rfl,(AO a.o 1).trans rfl,(AO a.o 2).trans rfl,(AO a.o 3).trans rfl,(AO a.o 4).trans rfl,(AO a.o 5).trans rfl⟩ (λO=>?_)
               clear hK K
               refine Ea 70 ?_
               exact Fj (by simp only[Eh,Act.put,List.setIfInBounds_toArray,List.set_cons_zero,List.set_cons_succ]) (bA (aV,aI,av) _ ⟨O,(by(with_reducible repeat(first|apply Kd.R_alloc|apply Kd.An|apply Kd.As));exact Kd.Aj ai.o (λ_ M=>⟨M.2,M.1⟩)),(by(with_reducible repeat(first|apply Kd.R_alloc|apply Kd.An|apply Kd.As));exact Kd.Aj X.o (λ_ M=>⟨M.2,M.1⟩)),(BC u.o),(by(with_reducible repeat(first|apply Kd.R_alloc|apply Kd.An|apply Kd.As));exact Kd.Aj d.o (λ_ M=>⟨M.2,M.1⟩)),(Bp a.o),(Bp J.o),(Ad)⟩)
             rintro⟨aV,aI,av⟩ aT ⟨gN,dA,dB,dC,dD,dE,dF,dG⟩
             have ai:Ae (Kd.R BT 32 aT w.heap.size (λk_=>some k_≠(av:Value).ownBlock∧some k_≠(.slice E b.length D:Value).ownBlock) aI ay):=⟨dA⟩
             have X:Ae (Kd.R BT 32 aT w.heap.size (λk_=>some k_≠(aI:Value).ownBlock∧some k_≠(.slice E b.length D:Value).ownBlock) av ag):=⟨dB⟩
             replace u:Ae (Kd.R Dj 68 aT w.heap.size (λ_=>True) (.slice I x.length G) x):=⟨dC⟩
             replace d:Ae (Kd.R BT 32 aT w.heap.size (λk_=>some k_≠(aI:Value).ownBlock∧some k_≠(av:Value).ownBlock) (.slice E b.length D) b):=⟨dD⟩
             replace a:Ae (aT.heap[A]?=some (.cells #[.int .i64 l,.int .i64 y,.slice I x.length G,.slice E b.length D,.int .i64 q,.int .i64 z] 26 (0,0))):=⟨dE⟩
             replace J:Ae (aT.heap[B]?=some (.cells #[.int .i64 l,.int .i64 y,.slice I x.length G,.slice E b.length D,.int .i64 q,.int .i64 z] 26 (0,0))):=⟨dF⟩
             replace HB:Ae (Below w.heap.size w aT):=⟨dG⟩
             clear dA dB dC dD dE dF dG
             have O:aT.cell? ⟨A,0,none⟩=some (.int .i64 l)∧aT.cell? ⟨A,1,none⟩=some (.int .i64 y)∧aT.cell? ⟨A,2,none⟩=some (.slice I x.length G)∧aT.cell? ⟨A,3,none⟩=some (.slice E b.length D)∧aT.cell? ⟨A,4,none⟩=some (.int .i64 q)∧aT.cell? ⟨A,5,none⟩=some (.int .i64 z):=gN
             obtain⟨a5,a6,b7⟩:=Kd.Bg X.o
             (first|subst b7|(injection b7 with bJ cY bK;have cZ:=bJ.symm;have c_:=bK.symm;clear bJ cY bK;subst cZ;subst c_))
             refine Fj (a':=?_) ?_ ?_
             rotate_left
             ·simp only[Eh,Act.put,List.setIfInBounds_toArray,List.set_cons_zero,List.set_cons_succ]
              rfl
             refine EU 20 87 (λK hK=>?_)
             refine Kd.Bo BT (w0:=w) w.heap.size (by rfl) (.tmp 70) (.tmp 86) 24 32 (.agg #[(.int .i64 0),(.int .i64 0),(.int .i64 0),(.int .i64 0),(.int .i64 0),(.int .i64 0),(.string ⟨#[]⟩)]) 64 rfl Tryd.underlying24 C7 rfl (by decide) (by omega) aI ay ag _ _ _ (λk_=>some k_≠(.slice E b.length D:Value).ownBlock∧some k_≠(.slice a5 ag.length a6:Value).ownBlock) (λ_=>False) rfl rfl ?aO ?aR (λ_ _ h=>h) (λ_ h=>h.elim) ?aF ?aB ?aS ?aL ?_
             (case aR=>exact Ft (Kd.AD X.o).2.2)
             (case aB=>exact(Ad))
             (case aF=>exact(λk_ M=>⟨Kd.EA (Kd.DQ (BC d.o)) k_ M,Kd.EA (Kd.DQ (BC X.o)) k_ M⟩))
             (case aO=>exact(by(with_reducible repeat(first|apply Kd.R_alloc|apply Kd.An|apply Kd.As));exact Kd.Aj ai.o (λ_ M=>⟨M.2,M.1⟩)))
             (case aS=>exact(Ab (Ad)))
             (case aL=>have:=cd.o;omega)
             intro g6 gZ ho T hg aM
             rw[<-cf.o]at ho
             replace u:=a_ (Kd.Df (BC u.o) (Kd.C9 (BC ai.o)) (by decide) hg)
             replace d:=a_ (Kd.Ei (ok:=(λk_=>some k_≠(.slice a5 ag.length a6:Value).ownBlock)) (by(with_reducible repeat(first|apply Kd.R_alloc|apply Kd.An|apply Kd.As));exact Kd.Aj d.o (λ_ M=>⟨M.2,M.1⟩)) hg aM)
             replace a:=a_ (AJ (g:=A) (o:=.cells #[.int .i64 l,.int .i64 y,.slice I x.length G,.slice E b.length D,.int .i64 q,.int .i64 z] 26 (0,0)) (Bp a.o) hg (Kd.Ez ai.o a.o (by decide)))
             replace J:=a_ (AJ (g:=B) (o:=.cells #[.int .i64 l,.int .i64 y,.slice I x.length G,.slice E b.length D,.int .i64 q,.int .i64 z] 26 (0,0)) (Bp J.o) hg (Kd.Ez ai.o J.o (by decide)))
             replace X:=a_ (Kd.Ei (ok:=(λk_=>some k_≠(.slice E b.length D:Value).ownBlock)) (by(with_reducible repeat(first|apply Kd.R_alloc|apply Kd.An|apply Kd.As));exact Kd.Aj X.o (λ_ M=>⟨M.2,M.1⟩)) hg aM)
             replace HB:=a_ (T)
             have aj:=a_ (ho)
             clear ai
             clear ho T hg aM
             obtain⟨ao,ak,b8⟩:=Kd.Bg aj.o
             (first|subst b8|(injection b8 with bJ cY bK;have cZ:=bJ.symm;have c_:=bK.symm;clear bJ cY bK;subst cZ;subst c_))
             refine hK.out _ _ ⟨(AO a.o 0).trans rfl,(AO a.o 1).trans rfl,(AO a.o 2).trans rfl,(AO a.o 3).trans rfl,(AO a.o 4).trans rfl,(AO a.o 5).trans rfl⟩ (λO=>?_)
             clear hK K
             refine Ea 87 ?_
             refine A_ 21 88 ?_
             refine Qe (i:=22) (N:=none) #[true,true,true,true,true,true,true,true,true,true,true,true,true,true,true,true,true,true,true,true,true,true,true] rfl rfl (It HT_.o (by kernel_rfl)) (by decide) (λK hK=>?_)
             have g1:gZ.cell? ⟨B,3,none⟩=some (.slice E b.length D):=(AO J.o 3).trans rfl
             have gO:=DT J.o 3
             have dK:=Z.o
             have dJ:=aW.o
             refine E4 (w1:=?_) (by rfl) rfl ?_ ?_
             rotate_left
             ·go_simp
              rfl
             refine hK.out _ _ ⟨((PB (p:=⟨B,_,none⟩) Z.o _).trans (O.1)),((PB (p:=⟨B,_,none⟩) Z.o _).trans (O.2.1)),((PB (p:=⟨B,_,none⟩) Z.o _).trans (O.2.2.1)),((PB (p:=⟨B,_,none⟩) Z.o _).trans (O.2.2.2.1)),((PB (p:=⟨B,_,none⟩) Z.o _).trans (O.2.2.2.2.1)),((PB (p:=⟨B,_,none⟩) Z.o _).trans (O.2.2.2.2.2))⟩ (λO=>?_)
             clear hK K
             refine CT (CU HT_.o (by kernel_rfl)) ?_
             have fx:=PC a.o 0 (.int .i64 l)
             have fy:=PC a.o 1 (.int .i64 y)
             have fz:=PC a.o 2 (.slice I x.length G)
             have fA:=PC a.o 3 (.slice E b.length D)
             have fB:=PC a.o 4 (.int .i64 q)
             have fC:=PC a.o 5 (.int .i64 z)
             have ek:=DT a.o 0
             have en:=DT a.o 1
             have eo:=DT a.o 2
             have ep:=DT a.o 3
             have er:=DT a.o 4
             have et:=DT a.o 5
             try go_wp2_with(first|((with_reducible refine Cd (N:=10) rfl ?_);refine CE 10 (#[.int .i64 0,.int .i64 0,.slice none 0 0,.slice none 0 0,.int .i64 0,.int .i64 0]) 26 ?_;intro ab hg g0 aD T;have ae:=a_ (aD);have dX:=a_ ((by rw[hg];exact(Ab (Ad)):w.heap.size≤ab));have dV:=a_ ((by rw[hg];exact(Ab (Ad)):w.heap.size≤ab));have aJ:=a_ ((by rw[hg];exact Nat.ne_of_lt (AU (g:=A) (o:=.cells #[.int .i64 l,.int .i64 y,.slice I x.length G,.slice E b.length D,.int .i64 q,.int .i64 z] 26 (0,0)) (Dv Z.o a.o)):A≠ab));have bu:=a_ ((by rw[hg];exact Nat.ne_of_gt (AU (g:=A) (o:=.cells #[.int .i64 l,.int .i64 y,.slice I x.length G,.slice E b.length D,.int .i64 q,.int .i64 z] 26 (0,0)) (Dv Z.o a.o)):ab≠A));have aK:=a_ ((by rw[hg];exact Nat.ne_of_lt (AU (g:=B) (o:=.cells #[.int .i64 l,.int .i64 y,.slice I x.length G,.slice ao ah.length ak,.int .i64 q,.int .i64 z] 26 (0,0)) (by(with_reducible repeat(first|refine E6 ?_ _|refine DA ?_|refine Eb ?_ _));refine Bw (cs:=#[.int .i64 l,.int .i64 y,.slice I x.length G,.slice E b.length D,.int .i64 q,.int .i64 z]) ?_ 3 _ rfl;(with_reducible repeat(first|refine E6 ?_ _|refine DA ?_|refine Eb ?_ _));exact J.o)):B≠ab));have bw:=a_ ((by rw[hg];exact Nat.ne_of_gt (AU (g:=B) (o:=.cells #[.int .i64 l,.int .i64 y,.slice I x.length G,.slice ao ah.length ak,.int .i64 q,.int .i64 z] 26 (0,0)) (by(with_reducible repeat(first|refine E6 ?_ _|refine DA ?_|refine Eb ?_ _));refine Bw (cs:=#[.int .i64 l,.int .i64 y,.slice I x.length G,.slice E b.length D,.int .i64 q,.int .i64 z]) ?_ 3 _ rfl;(with_reducible repeat(first|refine E6 ?_ _|refine DA ?_|refine Eb ?_ _));exact J.o)):ab≠B));replace u:=a_ (Kd.AZ (by(with_reducible repeat(first|apply Kd.R_alloc|apply Kd.An|apply Kd.As));exact(Kd.Aj (Kd.CQ (p:=⟨B,3,none⟩) (Kd.AF u.o J.o (by decide)) (λ_ M=>M.2) (.slice ao ah.length ak)) (λ_ h_=>h_.1))) T);replace d:=a_ (Kd.AZ (by(with_reducible repeat(first|apply Kd.R_alloc|apply Kd.An|apply Kd.As));exact(Kd.Aj (Kd.CQ (p:=⟨B,3,none⟩) (Kd.AF d.o J.o (by decide)) (λ_ M=>M.2) (.slice ao ah.length ak)) (λ_ h_=>h_.1))) T);replace X:=a_ (Kd.AZ (by(with_reducible repeat(first|apply Kd.R_alloc|apply Kd.An|apply Kd.As));exact(Kd.Aj (Kd.CQ (p:=⟨B,3,none⟩) (Kd.AF X.o J.o (by decide)) (λ_ M=>M.2) (.slice ao ah.length ak)) (λ_ h_=>h_.1))) T);replace aj:=a_ (Kd.AZ (by(with_reducible repeat(first|apply Kd.R_alloc|apply Kd.An|apply Kd.As));exact(Kd.Aj (Kd.CQ (p:=⟨B,3,none⟩) (Kd.AF aj.o J.o (by decide)) (λ_ M=>M.2) (.slice ao ah.length ak)) (λ_ h_=>h_.1))) T);replace a:=a_ (Az (g:=A) (o:=.cells #[.int .i64 l,.int .i64 y,.slice I x.length G,.slice E b.length D,.int .i64 q,.int .i64 z] 26 (0,0)) (Dv Z.o a.o) T);replace J:=a_ (Az (g:=B) (o:=.cells #[.int .i64 l,.int .i64 y,.slice I x.length G,.slice ao ah.length ak,.int .i64 q,.int .i64 z] 26 (0,0)) (by(with_reducible repeat(first|refine E6 ?_ _|refine DA ?_|refine Eb ?_ _));refine Bw (cs:=#[.int .i64 l,.int .i64 y,.slice I x.length G,.slice E b.length D,.int .i64 q,.int .i64 z]) ?_ 3 _ rfl;(with_reducible repeat(first|refine E6 ?_ _|refine DA ?_|refine Eb ?_ _));exact J.o) T);replace HB:=a_ (BA (Ad) T);clear T aD hg;have gQ:=bu.o;have gT:=aJ.o;have gR:=bw.o;have gU:=aK.o;obtain⟨fD,fE,fF,fG,fH,fI,eu,ev,ew,ey,ez,eA⟩:=Cs ae.o)|((with_reducible refine CS (t:=26) (p:=10) rfl ?_);refine Cx (t:=26) (p:=10) (v:=?vo_w55) (w1:=((((((g0.setCell ⟨ab,0,none⟩ (.int .i64 l)).setCell ⟨ab,1,none⟩ (.int .i64 y)).setCell ⟨ab,2,none⟩ (.slice I x.length G)).setCell ⟨ab,3,none⟩ (.slice E b.length D)).setCell ⟨ab,4,none⟩ (.int .i64 q)).setCell ⟨ab,5,none⟩ (.int .i64 z))) ?hg ?ho ?hn ?hr ?_;(case ho=>rfl);(case hg=>rfl);(case hn=>rfl);(case hr=>first|(go_simp;done)|(go_simp;rfl));intro bq hw;replace u:Ae (Kd.R Dj 68 bq w.heap.size (λ_=>True) (.slice I x.length G) x):=⟨(by rw[hw];exact(by(with_reducible repeat(first|apply Kd.R_alloc|apply Kd.An|apply Kd.As));exact Kd.Aj (EZ (g:=ab) (Kd.AF u.o ae.o (by decide)) (λ_ M=>M.2) (.int .i64 l) (.int .i64 y) (.slice I x.length G) (.slice E b.length D) (.int .i64 q) (.int .i64 z)) (λ_ M=>trivial)))⟩;replace d:Ae (Kd.R BT 32 bq w.heap.size (λk_=>some k_≠(.slice a5 ag.length a6:Value).ownBlock∧some k_≠(.slice ao ah.length ak:Value).ownBlock) (.slice E b.length D) b):=⟨(by rw[hw];exact(by(with_reducible repeat(first|apply Kd.R_alloc|apply Kd.An|apply Kd.As));exact Kd.Aj (EZ (g:=ab) (Kd.AF d.o ae.o (by decide)) (λ_ M=>M.2) (.int .i64 l) (.int .i64 y) (.slice I x.length G) (.slice E b.length D) (.int .i64 q) (.int .i64 z)) (λ_ M=>⟨M.1.1,M.1.2⟩)))⟩;replace X:Ae (Kd.R BT 32 bq w.heap.size (λk_=>some k_≠(.slice E b.length D:Value).ownBlock∧some k_≠(.slice ao ah.length ak:Value).ownBlock) (.slice a5 ag.length a6) ag):=⟨(by rw[hw];exact(by(with_reducible repeat(first|apply Kd.R_alloc|apply Kd.An|apply Kd.As));exact Kd.Aj (EZ (g:=ab) (Kd.AF X.o ae.o (by decide)) (λ_ M=>M.2) (.int .i64 l) (.int .i64 y) (.slice I x.length G) (.slice E b.length D) (.int .i64 q) (.int .i64 z)) (λ_ M=>⟨M.1.1,M.1.2⟩)))⟩;replace aj:Ae (Kd.R BT 32 bq w.heap.size (λk_=>some k_≠(.slice E b.length D:Value).ownBlock∧some k_≠(.slice a5 ag.length a6:Value).ownBlock) (.slice ao ah.length ak) ah):=⟨(by rw[hw];exact(by(with_reducible repeat(first|apply Kd.R_alloc|apply Kd.An|apply Kd.As));exact Kd.Aj (EZ (g:=ab) (Kd.AF aj.o ae.o (by decide)) (λ_ M=>M.2) (.int .i64 l) (.int .i64 y) (.slice I x.length G) (.slice E b.length D) (.int .i64 q) (.int .i64 z)) (λ_ M=>⟨M.1.1,M.1.2⟩)))⟩;replace a:Ae (bq.heap[A]?=some (.cells #[.int .i64 l,.int .i64 y,.slice I x.length G,.slice E b.length D,.int .i64 q,.int .i64 z] 26 (0,0))):=⟨(by rw[hw];exact(Dv aJ.o a.o))⟩;replace J:Ae (bq.heap[B]?=some (.cells #[.int .i64 l,.int .i64 y,.slice I x.length G,.slice ao ah.length ak,.int .i64 q,.int .i64 z] 26 (0,0))):=⟨(by rw[hw];exact(Dv aK.o J.o))⟩;replace ae:Ae (bq.heap[ab]?=some (.cells #[.int .i64 l,.int .i64 y,.slice I x.length G,.slice E b.length D,.int .i64 q,.int .i64 z] 26 (0,0))):=⟨(by rw[hw];exact(GM ae.o))⟩;replace HB:Ae (Below w.heap.size w bq):=⟨(by rw[hw];exact(Ad))⟩;clear hw;obtain⟨fJ,fK,fL,fM,fN,fO,eB,eC,eD,eE,eF,eG⟩:=Cs a.o;have df:((ar):Int)≤((b.length:Int):Int):=Bu;obtain⟨g5,bL,_,da,_⟩:=info_parts C7;have bX:=GJ (P:=Tryd.prog) 24 32 .i64 Tryd.underlying24 bL E b.length D (ar) (Bu) df (Kd.AD d.o).2.1;have bB:=Kd.O0 (m:=((ar):Int).toNat) d.o (by omega);have b9:az.length=((ar):Int).toNat:=(by rw[bE.o,List.length_take];omega);rw[<-bE.o]at bB;rw[<-b9]at bB bX;clear b9 bL da d;have aP:=a_ bB;clear bB;replace df:=eq_true df;obtain⟨fP,fQ,fR,fS,fT,fU,eH,eI,eJ,eK,eL,eM⟩:=Cs ae.o;obtain⟨fV,fW,fX,fY,fZ,f_,eN,eO,eP,eQ,eR,eS⟩:=Cs J.o)|((with_reducible refine BN (f:=6) rfl ?_);refine BR 98 Tryd.func6 #[.agg #[.int .i64 l,.int .i64 y,.slice I x.length G,.slice ao ah.length ak,.int .i64 q,.int .i64 z]] ?_;(with_reducible refine(Ah.calls k2 l y _ _ x _ _ ah q z false _ ?q' ?z' ?y' ?v' dR.o ?m').mono ?_);(case q'=>refine(Kd.AD (e:=68) (base:=w.heap.size) (ok:=λk_=>True) (n:=x.length) (c:=G) ?_).2.2;exact(by(with_reducible repeat(first|apply Kd.R_alloc|apply Kd.An|apply Kd.As));exact(Kd.Aj (Kd.CQ (p:=⟨ab,3,none⟩) (Kd.AF u.o ae.o (by decide)) (λ_ M=>M.2) (.slice E az.length D)) (λ_ h_=>h_.1))));(case z'=>exact(Kd.AD u.o).2.1);(case y'=>refine(Kd.AD (e:=32) (base:=w.heap.size) (ok:=λk_=>(some k_≠(.slice E b.length D:Value).ownBlock∧some k_≠(.slice a5 ag.length a6:Value).ownBlock)) (n:=ah.length) (c:=ak) ?_).2.2;exact(by(with_reducible repeat(first|apply Kd.R_alloc|apply Kd.An|apply Kd.As));exact(Kd.Aj (Kd.CQ (p:=⟨ab,3,none⟩) (Kd.AF aj.o ae.o (by decide)) (λ_ M=>M.2) (.slice E az.length D)) (λ_ h_=>h_.1))));(case v'=>exact(Kd.AD aj.o).2.1);(case m'=>exact B1.below HG.o (Ad));rintro e hq ⟨rfl,T⟩;refine⟨_,rfl,?_⟩;replace u:=a_ (Kd.AZ (by(with_reducible repeat(first|apply Kd.R_alloc|apply Kd.An|apply Kd.As));exact(Kd.Aj (Kd.CQ (p:=⟨ab,3,none⟩) (Kd.AF u.o ae.o (by decide)) (λ_ M=>M.2) (.slice E az.length D)) (λ_ h_=>h_.1))) T);replace aP:=a_ (Kd.AZ (by(with_reducible repeat(first|apply Kd.R_alloc|apply Kd.An|apply Kd.As));exact(Kd.Aj (Kd.CQ (p:=⟨ab,3,none⟩) (Kd.AF aP.o ae.o (by decide)) (λ_ M=>M.2) (.slice E az.length D)) (λ_ h_=>h_.1))) T);replace X:=a_ (Kd.AZ (by(with_reducible repeat(first|apply Kd.R_alloc|apply Kd.An|apply Kd.As));exact(Kd.Aj (Kd.CQ (p:=⟨ab,3,none⟩) (Kd.AF X.o ae.o (by decide)) (λ_ M=>M.2) (.slice E az.length D)) (λ_ h_=>h_.1))) T);replace aj:=a_ (Kd.AZ (by(with_reducible repeat(first|apply Kd.R_alloc|apply Kd.An|apply Kd.As));exact(Kd.Aj (Kd.CQ (p:=⟨ab,3,none⟩) (Kd.AF aj.o ae.o (by decide)) (λ_ M=>M.2) (.slice E az.length D)) (λ_ h_=>h_.1))) T);replace a:=a_ (Az (g:=A) (o:=.cells #[.int .i64 l,.int .i64 y,.slice I x.length G,.slice E b.length D,.int .i64 q,.int .i64 z] 26 (0,0)) (Dv aJ.o a.o) T);replace J:=a_ (Az (g:=B) (o:=.cells #[.int .i64 l,.int .i64 y,.slice I x.length G,.slice ao ah.length ak,.int .i64 q,.int .i64 z] 26 (0,0)) (Dv aK.o J.o) T);replace ae:=a_ (Az (g:=ab) (o:=.cells #[.int .i64 l,.int .i64 y,.slice I x.length G,.slice E az.length D,.int .i64 q,.int .i64 z] 26 (0,0)) (by(with_reducible repeat(first|refine E6 ?_ _|refine DA ?_|refine Eb ?_ _));refine Bw (cs:=#[.int .i64 l,.int .i64 y,.slice I x.length G,.slice E b.length D,.int .i64 q,.int .i64 z]) ?_ 3 _ rfl;(with_reducible repeat(first|refine E6 ?_ _|refine DA ?_|refine Eb ?_ _));exact ae.o) T);replace HB:=a_ (BA (Ad) T);(try clear T);obtain⟨ga,gb,gf,gg,gh,gi,eT,eU,eV,eW,eX,eY⟩:=Cs ae.o)|(go_at_call 6;(with_reducible refine(Ah.calls k2 l y _ _ x _ _ az q z an _ ?q' ?z' ?y' ?v' dS.o ?m').mono ?_);(case q'=>exact Ft (Kd.AD u.o).2.2);(case z'=>exact(Kd.AD u.o).2.1);(case y'=>exact Ft (Kd.AD aP.o).2.2);(case v'=>exact(Kd.AD aP.o).2.1);(case m'=>exact B1.below HG.o (Ad));rintro e ht ⟨rfl,T⟩;replace u:=a_ (Kd.AZ (BC u.o) T);replace aP:=a_ (Kd.AZ (BC aP.o) T);replace X:=a_ (Kd.AZ (BC X.o) T);replace aj:=a_ (Kd.AZ (BC aj.o) T);replace HB:=a_ (BA (Ad) T);replace a:=a_ (Az (g:=A) (o:=.cells #[.int .i64 l,.int .i64 y,.slice I x.length G,.slice E b.length D,.int .i64 q,.int .i64 z] 26 (0,0)) (Bp a.o) T);replace J:=a_ (Az (g:=B) (o:=.cells #[.int .i64 l,.int .i64 y,.slice I x.length G,.slice ao ah.length ak,.int .i64 q,.int .i64 z] 26 (0,0)) (Bp J.o) T);replace ae:=a_ (Az (g:=ab) (o:=.cells #[.int .i64 l,.int .i64 y,.slice I x.length G,.slice E az.length D,.int .i64 q,.int .i64 z] 26 (0,0)) (Bp ae.o) T);(try clear T)))
             go_ret
             exact⟨by first|rfl|(simp[BK,BM] <;> rfl)|(simp only[<-a8];first|rfl|(simp[BK,BM] <;> rfl))|(simp[*,BK,BM] <;> rfl),Ad⟩
           ·rw[if_neg bH]at H
            exact absurd H (by simp)
          ·rw[if_neg bG]at H
           exact absurd H (by simp)
         ·rw[if_neg bV]at H
          exact absurd H (by simp)
        ·rw[if_neg bU]at H
         exact absurd H (by simp)
    ·replace Dr:=Bool.eq_false_iff.mpr Dr
     subst Dr
     have H1:((Ar.f aE l y x b q z).bind λbp=>(some (false==bp)))=some r:=by rw[if_neg (show¬ (false=true) by decide)]at H;exact H
     clear H
     have H:=H1
     clear H1
     replace H:=BU H
     obtain⟨bp,b6,H⟩:=H
     try dsimp only at H
     have dT:=a_ b6
     clear b6
     obtain rfl:=C5 H
     go_wp2_with(first|((with_reducible refine BN (f:=5) rfl ?_);refine BR 20 Tryd.func5 #[.slice A0 l0.length c0] ?_;(with_reducible refine(CG.calls aE _ _ l0 l y x b q z _ ?q' ?z' A6.o).mono ?_);(case q'=>exact Gt dn.o);(case z'=>exact dj.o);rintro e hv ⟨dN,dO,rfl,bM,bN,T⟩;refine⟨_,rfl,?_⟩;have U:=a_ (Kd.AN bM (Ab (Ad)));have W:=a_ (Kd.AN bN (Ab (Ad)));replace HB:=a_ (BA (Ad) T);(try clear T bM bN))|((with_reducible refine Cd (N:=5) rfl ?_);refine CE 5 (#[.int .i64 0,.int .i64 0,.slice none 0 0,.slice none 0 0,.int .i64 0,.int .i64 0]) 26 ?_;intro A hg hx aD T;have a:=a_ (aD);have ca:=a_ ((by rw[hg];exact(Ab (Ad)):w.heap.size≤A));have b_:=a_ ((by rw[hg];exact(Ab (Ad)):w.heap.size≤A));replace U:=a_ (Kd.AZ (BC U.o) T);replace W:=a_ (Kd.AZ (BC W.o) T);replace HB:=a_ (BA (Ad) T);clear T aD hg;obtain⟨gj,gl,gm,gn,gp,gq,eZ,e0,e1,e2,e3,e4⟩:=Cs a.o;obtain⟨aG,aA,dy⟩:=Kd.Bg U.o;subst dy;obtain⟨aH,aC,dz⟩:=Kd.Bg W.o;subst dz)|((with_reducible refine BN (f:=6) rfl ?_);refine BR 22 Tryd.func6 #[.agg #[.int .i64 l,.int .i64 y,.slice aG x.length aA,.slice aH b.length aC,.int .i64 q,.int .i64 z]] ?_;(with_reducible refine(Ah.calls aE l y _ _ x _ _ b q z false _ ?q' ?z' ?y' ?v' A7.o ?m').mono ?_);(case q'=>refine(Kd.AD (e:=68) (base:=w.heap.size) (ok:=λk_=>True) (n:=x.length) (c:=aA) ?_).2.2;exact(by(with_reducible repeat(first|apply Kd.R_alloc|apply Kd.An|apply Kd.As));exact(Kd.Aj (EZ (g:=A) (Kd.AF U.o a.o (by decide)) (λ_ M=>M.2) (.int .i64 l) (.int .i64 y) (.slice aG x.length aA) (.slice aH b.length aC) (.int .i64 q) (.int .i64 z)) (λ_ h_=>h_.1))));(case z'=>exact(Kd.AD U.o).2.1);(case y'=>refine(Kd.AD (e:=32) (base:=w.heap.size) (ok:=λk_=>True) (n:=b.length) (c:=aC) ?_).2.2;exact(by(with_reducible repeat(first|apply Kd.R_alloc|apply Kd.An|apply Kd.As));exact(Kd.Aj (EZ (g:=A) (Kd.AF W.o a.o (by decide)) (λ_ M=>M.2) (.int .i64 l) (.int .i64 y) (.slice aG x.length aA) (.slice aH b.length aC) (.int .i64 q) (.int .i64 z)) (λ_ h_=>h_.1))));(case v'=>exact(Kd.AD W.o).2.1);(case m'=>exact B1.below HG.o (Ad));rintro e hy ⟨rfl,T⟩;refine⟨_,rfl,?_⟩;replace U:=a_ (Kd.AZ (by(with_reducible repeat(first|apply Kd.R_alloc|apply Kd.An|apply Kd.As));exact(Kd.Aj (EZ (g:=A) (Kd.AF U.o a.o (by decide)) (λ_ M=>M.2) (.int .i64 l) (.int .i64 y) (.slice aG x.length aA) (.slice aH b.length aC) (.int .i64 q) (.int .i64 z)) (λ_ h_=>h_.1))) T);replace W:=a_ (Kd.AZ (by(with_reducible repeat(first|apply Kd.R_alloc|apply Kd.An|apply Kd.As));exact(Kd.Aj (EZ (g:=A) (Kd.AF W.o a.o (by decide)) (λ_ M=>M.2) (.int .i64 l) (.int .i64 y) (.slice aG x.length aA) (.slice aH b.length aC) (.int .i64 q) (.int .i64 z)) (λ_ h_=>h_.1))) T);replace a:=a_ (Az (g:=A) (o:=.cells #[.int .i64 l,.int .i64 y,.slice aG x.length aA,.slice aH b.length aC,.int .i64 q,.int .i64 z] 26 (0,0)) (GM a.o) T);replace HB:=a_ (BA (Ad) T);(try clear T);obtain⟨gr,gu,gv,gw,gx,gy,e5,e6,e7,e8,e9,e_⟩:=Cs a.o)|((with_reducible refine BN (f:=7) rfl ?_);refine BR 25 Tryd.func7 #[.agg #[.int .i64 l,.int .i64 y,.slice aG x.length aA,.slice aH b.length aC,.int .i64 q,.int .i64 z]] ?_;(with_reducible refine(Ar.calls aE l y _ _ x _ _ b q z aU _ ?q' ?z' ?y' ?v' A8.o).mono ?_);(case q'=>exact Ft (Kd.AD U.o).2.2);(case z'=>exact(Kd.AD U.o).2.1);(case y'=>exact Ft (Kd.AD W.o).2.2);(case v'=>exact(Kd.AD W.o).2.1);rintro e hA ⟨rfl,T⟩;refine⟨_,rfl,?_⟩;replace U:=a_ (Kd.AZ (BC U.o) T);replace W:=a_ (Kd.AZ (BC W.o) T);replace HB:=a_ (BA (Ad) T);replace a:=a_ (Az (g:=A) (o:=.cells #[.int .i64 l,.int .i64 y,.slice aG x.length aA,.slice aH b.length aC,.int .i64 q,.int .i64 z] 26 (0,0)) (Bp a.o) T);(try clear T);obtain⟨gz,gA,gB,gC,gD,gE,fa,fb,fc,fe,fg,fh⟩:=Cs a.o)|((with_reducible refine BN (f:=7) rfl ?_);refine BR 33 Tryd.func7 #[.agg #[.int .i64 l,.int .i64 y,.slice aG x.length aA,.slice aH b.length aC,.int .i64 q,.int .i64 z]] ?_;(with_reducible refine(Ar.calls aE l y _ _ x _ _ b q z bp _ ?q' ?z' ?y' ?v' dT.o).mono ?_);(case q'=>exact Ft (Kd.AD U.o).2.2);(case z'=>exact(Kd.AD U.o).2.1);(case y'=>exact Ft (Kd.AD W.o).2.2);(case v'=>exact(Kd.AD W.o).2.1);rintro e hC ⟨rfl,T⟩;refine⟨_,rfl,?_⟩;replace U:=a_ (Kd.AZ (BC U.o) T);replace W:=a_ (Kd.AZ (BC W.o) T);replace HB:=a_ (BA (Ad) T);replace a:=a_ (Az (g:=A) (o:=.cells #[.int .i64 l,.int .i64 y,.slice aG x.length aA,.slice aH b.length aC,.int .i64 q,.int .i64 z] 26 (0,0)) (Bp a.o) T);(try clear T)))
     go_ret
     exact⟨C_,Ad⟩
def Am.Pure:Prop:=∀(l0:List Int) (l1:List Int),l0.length≤maxLen->l0.length*1≤140737488351232->(∀x∈l0,(Lit.int .u8 x).wf=true)->l1.length≤maxLen->l1.length*1≤140737488351232->(∀x∈l1,(Lit.int .u8 x).wf=true)->∃k,Am.f k l0 l1=some true
theorem Am.walk(P:Am.Pure)(m:Option Addr)(c a:Nat)(j:List Int)(o:Option Addr)(g b:Nat)(l:List Int)(w:World)(w0:(m=none∧c=0∧a=0∧j=[])∨∃x,m=some x∧c≤a∧a≤maxLen∧j.length=a∧(∀i,i<j.length->w.cell? (x.add i)=some (.int .u8 (j.getD i 0)))∧∀n∈j,(Lit.int .u8 n).wf=true)(D:c*1≤140737488351232)(w1:(o=none∧g=0∧b=0∧l=[])∨∃x,o=some x∧g≤b∧b≤maxLen∧l.length=b∧(∀i,i<l.length->w.cell? (x.add i)=some (.int .u8 (l.getD i 0)))∧∀n∈l,(Lit.int .u8 n).wf=true)(E:g*1≤140737488351232)(A:B1 w) :
  Calls Tryd.prog 3 #[.slice m c a,.slice o g b] w λe w'=>e=.returned (.bool true)∧Below w.heap.size w w':=by obtain⟨l0,rfl,u,r,y,p⟩:=EH.M0 w0;obtain⟨l1,rfl,v,t,z,q⟩:=EH.M0 w1;obtain⟨k,h⟩:=P l0 l1 r D y t E z;refine(Am.calls k _ _ l0 _ _ l1 true w (Kd.GA (d:=(0:Int)) (h1:=λ_=>rfl) u) p (Kd.GA (d:=(0:Int)) (h1:=λ_=>rfl) v) q h A).mono ?_;rintro e w' ⟨rfl,B⟩;exact⟨rfl,B⟩
end Go.Proofs.YtlhlpfnljglhoaaDoor.P
namespace Go.Proofs.YtlhlpfnljglhoaaDoor.PL
open Go.RowKit Go.Proofs.YtlhlpfnljglhoaaDoor.P Go.Proofs.YtlhlpfnljglhoaaDoorW.PrintWords Go.Proofs.YtlhlpfnljglhoaaDoorW.Bc
def Bytes(b:List Int):Prop:=b.length≤2000∧∀x∈b,0≤x∧x≤255
def Rd(p:Int)(m:Nat):Prop:=0≤p∧p+m≤1000000
theorem Rd.less{p:Int}{m n:Nat}(h:Rd p m)(a:n≤m):Rd p n:=⟨h.1,by have:=h.2;omega⟩
theorem AP(x:Int)(h0:-9223372036854775808≤x)(h1:x≤9223372036854775807):wrap64 x=x:=by unfold wrap64;omega
theorem Mb(n:Int)(h0:0≤n)(h1:n<2 ^ 62):IntKind.i64.wrap n=n:=by rw[IntKind.wrap_i64];omega
theorem Oa(a b:Int)(l:0≤a)(o:0≤b)(g:a<4611686018427387904)(i:b<4611686018427387904):0≤Go.bits .xor .i64 a b:=by
 obtain⟨m,rfl⟩:∃m:Nat,a=m:=⟨a.toNat,by omega⟩
 obtain⟨n,rfl⟩:∃n:Nat,b=n:=⟨b.toNat,by omega⟩
 have hm:m<2 ^ 62:=by omega
 have j:n<2 ^ 62:=by omega
 have c:m % 2 ^ 64=m:=Nat.mod_eq_of_lt (by omega);have d:n % 2 ^ 64=n:=Nat.mod_eq_of_lt (by omega);have p:m ^^^ n<2 ^ 62:=Nat.xor_lt_two_pow hm j;have k:(BitVec.ofNat 64 m ^^^ BitVec.ofNat 64 n).toNat=m ^^^ n:=by rw[BitVec.toNat_xor,BitVec.toNat_ofNat,BitVec.toNat_ofNat,c,d]
 have e:Go.bits .xor .i64 (m:Int) (n:Int)=IntKind.i64.wrap (((BitVec.ofNat 64 m ^^^ BitVec.ofNat 64 n).toNat:Nat):Int):=by simp only[Go.bits,BitVec.ofInt_natCast];rfl
 rw[e,k,Mb _ (by omega) (by omega)];omega
theorem JL{b:List Int}(a:Bytes b)(i:Int):0≤rd b i∧rd b i≤255:=by
 unfold rd;rw[List.getD_eq_getElem?_getD];rcases Nat.lt_or_ge i.toNat b.length with h|h
 ·rw[List.getElem?_eq_getElem h];exact a.2 _ (List.getElem_mem h)
 rw[List.getElem?_eq_none h];simp
theorem F0(x n:Int)(a:0≤x)(b:1≤n):0≤Int.tmod x n∧Int.tmod x n<n:=by rw[Int.tmod_eq_emod_of_nonneg a];exact⟨Int.emod_nonneg _ (by omega),Int.emod_lt_of_pos _ (by omega)⟩
theorem C8(b:List Int)(p n:Int)(m:Nat)(i:Bytes b)(x:Rd p (m+1)):∃r:Int,Ev (λk=>Ac.f k b p n) (r,p+1)∧Rd (p+1) m∧0≤r∧(1≤n->r<n)∧(n<1->r=0):=by
 obtain⟨h0,h1⟩:=x;have hR:Rd (p+1) m:=⟨by omega,by omega⟩
 have w1:wrap64 (p+1)=p+1:=AP _ (by omega) (by omega);have t:wrap64 (p+1-1)=p:=by rw[AP (p+1-1) (by omega) (by omega)];omega
 unfold Ac.f;rw[w1];by_cases a:n<1
 ·refine⟨0,Ao a ?_,hR,Int.le_refl _,λh=>by omega,λ_=>rfl⟩;refine Ev.step (f:=λ_=>some (0,p+1)) (λk=>?_) (AW _);simp only[Ac.j0,if_true]
 by_cases hl:b.length=0
 ·refine⟨0,AE a ?_,hR,Int.le_refl _,λh=>by omega,λ_=>rfl⟩;refine Ev.step (f:=λ_=>some (0,p+1)) (λk=>?_) (AW _);have:((b.length:Int)==0)=true:=by simp[hl]
  simp only[Ac.j0,this,if_true]
 have j:((b.length:Int)==0)=false:=beq_eq_false_iff_ne.2 (by omega);by_cases l:p<(b.length:Int)
 ·have A:=JL i p;have c:=F0 (wrap64 (rd b p)) n (by rw[AP (rd b p) (by omega) (by omega)];omega) (by omega);refine⟨Int.tmod (wrap64 (rd b p)) n,AE a ?_,hR,c.1,λ_=>c.2,λh=>absurd h a⟩;refine Ev.step (f:=λ_=>some (Int.tmod (wrap64 (rd b p)) n,p+1)) (λk=>?_) (AW _);simp only[Ac.j0,j,Bool.false_eq_true,if_false,t];rw[if_pos l,if_pos h0,if_neg (show¬ n=0 by omega)]
 have hlen:(1:Int)≤b.length:=by omega
 have o:=F0 p b.length h0 hlen;have w:wrap64 (p*7)=p*7:=AP _ (by omega) (by omega);have g:wrap64 (p*7+3)=p*7+3:=AP _ (by omega) (by omega);have q:=F0 (p*7+3) b.length (by omega) hlen;have y:=JL i (Int.tmod p b.length);have z:=JL i (Int.tmod (p*7+3) b.length);have d1:0≤Int.tdiv p b.length∧Int.tdiv p b.length≤1000000:=by rw[Int.tdiv_eq_ediv_of_nonneg h0];exact⟨Int.ediv_nonneg h0 (by omega),Int.le_trans (Int.ediv_le_self _ h0) (by omega)⟩
 obtain⟨r,c⟩:∃r,r=Int.tmod (Go.bits .xor .i64 (wrap64 ((wrap64 ((wrap64 ((wrap64 ((wrap64 (rd b (Int.tmod p (b.length:Int))))*131))+(wrap64 ((wrap64 (rd b (Int.tmod (p*7+3) (b.length:Int))))*1117))))+(wrap64 (p*29))))+(wrap64 ((wrap64 (Int.tdiv p (b.length:Int)))*53)))) (wrap64 (Int.tdiv (wrap64 ((wrap64 ((wrap64 ((wrap64 ((wrap64 (rd b (Int.tmod p (b.length:Int))))*131))+(wrap64 ((wrap64 (rd b (Int.tmod (p*7+3) (b.length:Int))))*1117))))+(wrap64 (p*29))))+(wrap64 ((wrap64 (Int.tdiv p (b.length:Int)))*53)))) 64))) n:=⟨_,rfl⟩
 have e:0≤r∧r<n:=by rw[c];refine F0 _ n ?_ (by omega);generalize rd b (Int.tmod p (b.length:Int))=u at y;generalize rd b (Int.tmod (p*7+3) (b.length:Int))=v at z;generalize Int.tdiv p (b.length:Int)=d at d1;rw[AP u (by omega) (by omega),AP v (by omega) (by omega),AP d (by omega) (by omega)];rw[AP (u*131) (by omega) (by omega),AP (v*1117) (by omega) (by omega),AP (p*29) (by omega) (by omega),AP (d*53) (by omega) (by omega)];rw[AP (u*131+v*1117) (by omega) (by omega)];rw[AP (u*131+v*1117+p*29) (by omega) (by omega)];rw[AP (u*131+v*1117+p*29+d*53) (by omega) (by omega)];have hs:Int.tdiv (u*131+v*1117+p*29+d*53) 64=(u*131+v*1117+p*29+d*53) / 64:=Int.tdiv_eq_ediv_of_nonneg (by omega);rw[hs,AP _ (by omega) (by omega)];exact Oa _ _ (by omega) (by omega) (by omega) (by omega)
 refine⟨r,AE a ?_,hR,e.1,λ_=>e.2,λh=>absurd h a⟩;refine Ev.step (f:=λ_=>some (r,p+1)) (λk=>?_) (AW _);simp only[Ac.j0,j,Bool.false_eq_true,if_false,t,w,g];rw[if_neg l,if_neg (show¬ (b.length:Int)=0 by omega),if_pos o.1,if_pos o.2,if_pos q.1,if_pos q.2,if_neg (show¬ n=0 by omega),c]
theorem CF(t:List Ba)(i:Nat)(h:i<t.length):Ag t i=t[i]:=by unfold Ag;rw[List.getD_eq_getElem?_getD,show((i:Int)).toNat=i from rfl,List.getElem?_eq_getElem h];rfl
def GH(id:Int):List Ba->Nat->Int
 | [],_=>-1
 | r::rest,i=>if r.f0=id then(i:Int)else GH id rest (i+1)
def GU(t:List Ba)(id:Int):Int:=GH id t 0
theorem Om(t:List Ba)(id:Int)(hl:t.length≤1099511627776):∀(n i:Nat),i+n=t.length->Ev (λk=>Bd.l0 k t id i) (GH id (t.drop i) i)
 | 0,i,h=>by
  rw[List.drop_eq_nil_of_le (by omega)]
  refine Ev.step (f:=λ_=>some (-1)) (λk=>?_) (AW _)
  simp only[Bd.l0];rw[if_neg (by omega)]
 | n+1,i,h=>by
  have hi:i<t.length:=by omega
  rw[List.drop_eq_getElem_cons hi]
  unfold GH
  by_cases a:t[i].f0=id
  ·rw[if_pos a]
   refine Ev.step (f:=λ_=>some (i:Int)) (λk=>?_) (AW _)
   simp only[Bd.l0]
   rw[if_pos (by omega),if_pos (by omega),CF t i hi,if_pos a]
  ·rw[if_neg a]
   refine Ev.step (λk=>?_) (Om t id hl n (i+1) (by omega))
   simp only[Bd.l0]
   rw[if_pos (by omega),if_pos (by omega),CF t i hi,if_neg a,ET i (by omega) (by omega)]
   rfl
theorem FT(t:List Ba)(id:Int)(hl:t.length≤1099511627776):Ev (λk=>Bd.f k t id) (GU t id):=Om t id hl t.length 0 (by omega)
theorem H0(id:Int):∀(t:List Ba) (i:Nat),(GH id t i=-1∧∀x∈t,x.f0≠id)∨∃(j:Nat) (h:j<t.length),GH id t i=((i+j:Nat):Int)∧t[j].f0=id
 | [],i=>Or.inl ⟨rfl,λx a=>by cases a⟩
 | r::rest,i=>by
  unfold GH
  by_cases b:r.f0=id
  ·rw[if_pos b]
   exact Or.inr ⟨0,by simp,by simp,b⟩
  ·rw[if_neg b]
   rcases H0 id rest (i+1)with⟨h1,c⟩|⟨j,h,h1,c⟩
   ·refine Or.inl ⟨h1,λx a=>?_⟩
    rcases List.mem_cons.1 a with rfl|a
    ·exact b
    ·exact c x a
   ·exact Or.inr ⟨j+1,by simp;omega,by rw[h1];congr 1;omega,by simpa using c⟩
theorem Ek(t:List Ba)(id:Int):(GU t id=-1∧∀x∈t,x.f0≠id)∨∃(j:Nat) (h:j<t.length),GU t id=(j:Int)∧t[j].f0=id:=by
 rcases H0 id t 0 with h|⟨j,h,h1,a⟩
 ·exact Or.inl h
 exact Or.inr ⟨j,h,by rw[GU,h1];congr 1;omega,a⟩
theorem K7{t:List Ba}{id:Int}{x:Ba}(b:x∈t)(h:x.f0=id):∃(j:Nat) (c:j<t.length),GU t id=(j:Int)∧t[j].f0=id:=by
 rcases Ek t id with⟨_,a⟩|a
 ·exact absurd h (a x b)
 exact a
def Ds(d:Int):List Ba->Nat->Nat
 | [],e=>e
 | r::rest,e=>if r.f1>d then Ds d rest (e+1)else e
def EO(t:List Ba)(i:Nat):Nat:=Ds (t.getD i PE).f1 (t.drop (i+1)) (i+1)
theorem J5(t:List Ba)(i:Nat)(h:i<t.length):t.getD i PE=t[i]:=by rw[List.getD_eq_getElem?_getD,List.getElem?_eq_getElem h];rfl
theorem MF(t:List Ba)(a:Nat)(c:a<t.length)(hl:t.length≤1099511627776):∀(n i:Nat),i+n=t.length->Ev (λk=>Br.l0 k t a i) (Ds t[a].f1 (t.drop i) i:Int)
 | 0,i,h=>by
  rw[List.drop_eq_nil_of_le (by omega)]
  refine Ev.step (f:=λ_=>some (i:Int)) (λk=>?_) (AW _)
  simp only[Br.l0];rw[if_neg (by omega)]
 | n+1,i,h=>by
  have hi:i<t.length:=by omega
  rw[List.drop_eq_getElem_cons hi]
  unfold Ds
  by_cases b:t[i].f1>t[a].f1
  ·rw[if_pos b]
   refine Ev.step (λk=>?_) (MF t a c hl n (i+1) (by omega))
   simp only[Br.l0]
   rw[if_pos (by omega),if_pos (by omega),if_pos (by omega),if_pos (by omega),CF t i hi,CF t a c,if_pos b,ET i (by omega) (by omega)]
   rfl
  ·rw[if_neg b]
   refine Ev.step (f:=λ_=>some (i:Int)) (λk=>?_) (AW _)
   simp only[Br.l0]
   rw[if_pos (by omega),if_pos (by omega),if_pos (by omega),if_pos (by omega),CF t i hi,CF t a c,if_neg b]
theorem I1(t:List Ba)(a:Nat)(b:a<t.length)(hl:t.length≤1099511627776):Ev (λk=>Br.f k t a) (EO t a:Int):=by have:=MF t a b hl (t.length-(a+1)) (a+1) (by omega);unfold EO;rw[J5 t a b];refine Ev.congr (λk=>?_) this;unfold Br.f;rw[ET a (by omega) (by omega)];rfl
theorem G6(d:Int):∀(t:List Ba) (e:Nat),e≤Ds d t e∧Ds d t e≤e+t.length∧(∀(j:Nat) (a:j<t.length),e+j<Ds d t e->d<t[j].f1)∧(∀(a:Ds d t e-e<t.length),t[Ds d t e-e].f1≤d)
 | [],e=>⟨Nat.le_refl _,by simp[Ds],λj a=>by simp at a,λa=>by simp at a⟩
 | r::rest,e=>by
  by_cases i:r.f1>d
  ·have he:Ds d (r::rest) e=Ds d rest (e+1):=if_pos i
   obtain⟨h1,k,h3,h4⟩:=G6 d rest (e+1)
   refine⟨by rw[he];omega,by rw[he];simp;omega,λj a b=>?_,λa=>?_⟩
   ·rw[he]at b
    cases j with
    | zero=>exact i
    | succ j=>exact h3 j (by simpa using a) (by omega)
   ·have c:Ds d (r::rest) e-e=(Ds d rest (e+1)-(e+1))+1:=by rw[he];omega
    have g:Ds d rest (e+1)-(e+1)<rest.length:=by rw[c]at a;simpa using a
    have:=h4 g
    simp only[c,List.getElem_cons_succ]
    exact this
  ·have he:Ds d (r::rest) e=e:=if_neg i
   refine⟨by rw[he];exact Nat.le_refl _,by rw[he];omega,λj a b=>by rw[he]at b;omega,λa=>?_⟩
   have c:Ds d (r::rest) e-e=0:=by rw[he];omega
   simp only[c,List.getElem_cons_zero]
   omega
theorem Eu(t:List Ba)(a:Nat)(d:a<t.length):a<EO t a∧EO t a≤t.length∧(∀(j:Nat) (b:j<t.length),a<j->j<EO t a->t[a].f1<t[j].f1)∧(∀(b:EO t a<t.length),t[EO t a].f1≤t[a].f1):=by
 unfold EO;rw[J5 t a d];obtain⟨h1,c,h3,h4⟩:=G6 t[a].f1 (t.drop (a+1)) (a+1);rw[List.length_drop]at c;refine⟨by omega,by omega,λj b e g=>?_,λb=>?_⟩
 ·have:=h3 (j-(a+1)) (by rw[List.length_drop];omega) (by omega);rw[List.getElem_drop]at this;simpa[show a+1+(j-(a+1))=j by omega]using this
 have:=h4 (by rw[List.length_drop];omega);rw[List.getElem_drop]at this;simpa[show a+1+(Ds t[a].f1 (t.drop (a+1)) (a+1)-(a+1))=Ds t[a].f1 (t.drop (a+1)) (a+1) by omega]using this
def Of(t:List Ba)(a i:Nat)(x:Int):Prop:=∃(b:a<t.length) (j:Nat) (c:j<t.length),i≤j∧j<EO t a∧t[j].f0=x∧t[j].f1=wrap64 (t[a].f1+1)
theorem JD(t:List Ba)(a:Nat)(b:a<t.length)(hl:t.length≤1099511627776):∀(n i:Nat) (acc:List Int),i+n=EO t a->acc.length+n≤1099511627776 ->
  ∃r:List Int,Ev (λk=>BD.l0 k t acc a i) (acc++r)∧r.length≤n∧∀x∈r,Of t a i x
 | 0,i,acc,h,d=>by
  refine⟨[],?_,by simp,λx c=>by cases c⟩
  rw[List.append_nil]
  refine Ev.step (λk=>by simp only[BD.l0];rfl) ?_
  refine Ev.bind (I1 t a b hl) ?_
  refine AE (by omega) ?_
  exact AW _
 | n+1,i,acc,h,d=>by
  obtain⟨q,u,_,_⟩:=Eu t a b
  have hi:i<t.length:=by omega
  by_cases o:t[i].f1=wrap64 (t[a].f1+1)
  ·obtain⟨r,e,hlen,m⟩:=JD t a b hl n (i+1) (acc++[t[i].f0]) (by omega) (by simp;omega)
   refine⟨t[i].f0::r,?_,by simp;omega,λx c=>?_⟩
   ·rw[List.append_assoc]at e
    refine Ev.step (λk=>by simp only[BD.l0];rfl) ?_
    refine Ev.bind (I1 t a b hl) ?_
    refine Ao (by omega) (Ao (by omega) (Ao (by omega) (Ao (by omega) (Ao (by omega) ?_))))
    rw[CF t i hi,CF t a b,ET i (by omega) (by omega)]
    refine Ao o (Ao (by omega) ?_)
    exact e
   ·rcases List.mem_cons.1 c with rfl|c
    ·exact⟨b,i,hi,Nat.le_refl _,by omega,rfl,o⟩
    ·obtain⟨h1,j,l,p,h3,h4,g⟩:=m x c
     exact⟨h1,j,l,by omega,h3,h4,g⟩
  ·obtain⟨r,e,hlen,m⟩:=JD t a b hl n (i+1) acc (by omega) (by omega)
   refine⟨r,?_,by omega,λx c=>?_⟩
   ·refine Ev.step (λk=>by simp only[BD.l0];rfl) ?_
    refine Ev.bind (I1 t a b hl) ?_
    refine Ao (by omega) (Ao (by omega) (Ao (by omega) (Ao (by omega) (Ao (by omega) ?_))))
    rw[CF t i hi,CF t a b,ET i (by omega) (by omega)]
    refine AE o ?_
    exact e
   ·obtain⟨h1,j,l,p,h3,h4,g⟩:=m x c
    exact⟨h1,j,l,by omega,h3,h4,g⟩
theorem MW(t:List Ba)(id:Int)(hl:t.length≤1000000):∃r:List Int,Ev (λk=>BD.f k t id) r∧r.length≤t.length∧∀x∈r,∃a:Nat,GU t id=(a:Int)∧Of t a (a+1) x:=by
 unfold BD.f;simp only[Option.bind_some];rcases Ek t id with⟨h1,_⟩|⟨a,c,h1,_⟩
 ·refine⟨[],?_,by simp,λx b=>by cases b⟩;refine Ev.bind (FT t id (by omega)) ?_;rw[h1];exact Ao (by omega) (AW _)
 obtain⟨g,i,_,_⟩:=Eu t a c;obtain⟨r,e,hlen,d⟩:=JD t a c (by omega) (EO t a-(a+1)) (a+1) [] (by omega) (by simp;omega);refine⟨r,?_,by omega,λx b=>⟨a,h1,d x b⟩⟩;refine Ev.bind (FT t id (by omega)) ?_;rw[h1];refine AE (by omega) ?_;rw[ET a (by omega) (by omega)];exact e
def GI:Int->List Ba->Prop
 | _,[]=>True
 | d,x::l=>(0≤x.f1∧x.f1≤d+1)∧GI x.f1 l
def Fa:Int->List Ba->Int
 | d,[]=>d
 | _,x::l=>Fa x.f1 l
theorem FG:∀(a b:List Ba) (d:Int),GI d (a++b)↔GI d a∧GI (Fa d a) b
 | [],b,d=>by simp[GI,Fa]
 | x::a,b,d=>by
  rw[List.cons_append]
  simp only[GI,Fa,FG a b x.f1,and_assoc]
theorem NF{d d':Int}{l:List Ba}(h:GI d l)(a:d≤d'):GI d' l:=by
 cases l with
 | nil=>trivial
 | cons x l=>exact⟨⟨h.1.1,by have:=h.1.2;omega⟩,h.2⟩
theorem K9:∀(l:List Ba) (d:Int),GI d l->∀x∈l,0≤x.f1∧x.f1≤d+l.length
 | [],_,_,x,a=>by cases a
 | y::l,d,h,x,a=>by
  have h1:=h.1
  rcases List.mem_cons.1 a with rfl|a
  ·rw[List.length_cons];omega
  ·have:=K9 l y.f1 h.2 x a
   rw[List.length_cons]
   omega
theorem Ha:∀(l:List Ba) (d:Int) (p:Nat) (a:p<l.length),Fa d (l.take (p+1))=l[p].f1
 | x::l,d,0,a=>by simp[Fa]
 | x::l,d,p+1,a=>by
  rw[List.take_succ_cons]
  simp only[Fa,List.getElem_cons_succ]
  exact Ha l x.f1 p (by simpa using a)
theorem MB{t R:List Ba}{p:Nat}{m:Int}(i:GI (-1) t)(hR:GI m R)(hl:m≤Fa (-1) (t.take p))(g:m+1≤Fa m R)(h0:0<R.length)(c:∀b:p<t.length,t[p].f1≤m+1):GI (-1) (t.take p++R++t.drop p):=by
 have e:=i;rw[<-List.take_append_drop p t,FG]at e;rw[FG,FG];refine⟨⟨e.1,NF hR hl⟩,?_⟩
 have same:∀(d d':Int),Fa d R=Fa d' R:=λd d'=>by
  cases R with
  | nil=>simp at h0
  | cons x R=>rfl
 have k:m+1≤Fa (-1) (t.take p++R):=by
  have:∀(a:List Ba) (d:Int),Fa d (a++R)=Fa m R:=by
   intro a;induction a with
   | nil=>intro d;exact same _ _
   | cons y a j=>intro d;rw[List.cons_append];exact j y.f1
  rw[this];exact g
 rcases Nat.lt_or_ge p t.length with b|b
 ·rw[List.drop_eq_getElem_cons b]at e⊢;exact⟨⟨e.2.1.1,by have:=c b;omega⟩,e.2.2⟩
 rw[List.drop_eq_nil_of_le b];trivial
theorem O_{t:List Ba}{k e:Nat}(b:GI (-1) t)(d:k<t.length)(g:k≤e)(c:∀he:e<t.length,t[e].f1≤t[k].f1):GI (-1) (t.take k++t.drop e):=by
 have h1:=b;rw[<-List.take_append_drop k t,FG,List.drop_eq_getElem_cons d]at h1;have a:=b;rw[<-List.take_append_drop e t,FG]at a;rw[FG];refine⟨h1.1,?_⟩;rcases Nat.lt_or_ge e t.length with he|he
 ·rw[List.drop_eq_getElem_cons he]at a⊢;exact⟨⟨a.2.1.1,by have:=c he;have:=h1.2.1.2;omega⟩,a.2.2⟩
 rw[List.drop_eq_nil_of_le he];trivial
theorem ND{l:List Ba}{d:Int}(h:GI d l)(n:Nat):GI d (l.take n):=by rw[<-List.take_append_drop n l,FG]at h;exact h.1
theorem J9:∀(R:List Ba) (d:Int),0<R.length->∃x∈R,Fa d R=x.f1
 | [x],d,_=>⟨x,List.mem_cons_self,rfl⟩
 | x::y::R,d,_=>by
  obtain⟨z,hz,e⟩:=J9 (y::R) x.f1 (by simp)
  exact⟨z,List.mem_cons_of_mem _ hz,e⟩
def Uq(t:List Ba):Prop:=(t.map (·.f0)).Nodup
theorem KU{t:List Ba}(h:Uq t){i j:Nat}(hi:i<t.length)(a:j<t.length)(e:t[i].f0=t[j].f0):i=j:=by
 unfold Uq List.Nodup at h;rw[List.pairwise_iff_getElem]at h;rcases Nat.lt_trichotomy i j with g|g|g
 ·exact absurd (by rw[List.getElem_map,List.getElem_map];exact e) (h i j (by simpa using hi) (by simpa using a) g)
 ·exact g
 exact absurd (by rw[List.getElem_map,List.getElem_map];exact e.symm) (h j i (by simpa using a) (by simpa using hi) g)
theorem Nm{t:List Ba}(h:Uq t){x z:Ba}(b:x∈t)(hz:z∈t)(e:x.f0=z.f0):x=z:=by obtain⟨i,hi,rfl⟩:=List.getElem_of_mem b;obtain⟨j,a,rfl⟩:=List.getElem_of_mem hz;obtain rfl:i=j:=KU h hi a e;rfl
theorem MA:∀(l l':List Ba) (d:Int),l'.map (·.f1)=l.map (·.f1)->GI d l->GI d l'
 | [],[],_,_,_=>trivial
 | [],y::l',_,e,_=>by simp at e
 | x::l,[],_,e,_=>by simp at e
 | x::l,y::l',d,e,h=>by
  simp only[List.map_cons,List.cons.injEq]at e
  obtain⟨a,b⟩:=e
  refine⟨by rw[a];exact h.1,?_⟩
  rw[a]
  exact MA l l' x.f1 b h.2
theorem Pv{t:List Ba}{k:Nat}(g:k<t.length){s:ByteArray}(hu:Uq t)(b:GI (-1) t):Uq (t.set k ⟨t[k].f0,t[k].f1,s⟩)∧GI (-1) (t.set k ⟨t[k].f0,t[k].f1,s⟩):=by
 have c:(t.set k ⟨t[k].f0,t[k].f1,s⟩).map (·.f0)=t.map (·.f0):=by
  rw[List.map_set];apply List.ext_getElem (by simp);intro i h1 a;rw[List.getElem_set];split
  ·rename_i e;subst e;simp
  rfl
 have d:(t.set k ⟨t[k].f0,t[k].f1,s⟩).map (·.f1)=t.map (·.f1):=by
  rw[List.map_set];apply List.ext_getElem (by simp);intro i h1 a;rw[List.getElem_set];split
  ·rename_i e;subst e;simp
  rfl
 exact⟨by unfold Uq;rw[c];exact hu,MA _ _ _ d b⟩
theorem Nn{t R:List Ba}{p:Nat}(hu:Uq t)(hR:Uq R)(g:∀x∈R,∀y∈t,x.f0≠y.f0):Uq (t.take p++R++t.drop p):=by
 unfold Uq at *
 have i:((t.take p++R++t.drop p).map (·.f0)).Perm ((t.map (·.f0))++R.map (·.f0)):=by
  have:t.map (·.f0)=(t.take p).map (·.f0)++(t.drop p).map (·.f0):=by rw[<-List.map_append,List.take_append_drop]
  rw[this,List.map_append,List.map_append,List.append_assoc,List.append_assoc];exact List.Perm.append_left _ List.perm_append_comm
 rw[i.nodup_iff,List.nodup_append];refine⟨hu,hR,λa c b d=>?_⟩;obtain⟨y,k,rfl⟩:=List.mem_map.1 c;obtain⟨x,j,rfl⟩:=List.mem_map.1 d;exact λe=>g x j y k e.symm
def shift(d:Int)(r:Ba):Ba:=⟨r.f0,wrap64 (r.f1+d),r.f2⟩
theorem M8(t rows:List Ba)(d:Int)(p:Nat)(c:p≤t.length)(hl:t.length≤1000000)(e:rows.length≤1000000):∀(n i:Nat) (acc:List Ba),i+n=rows.length->acc.length+n≤3000000 ->
  Ev (λk=>AX.l0 k t rows d p acc i) (acc++(rows.drop i).map (shift d)++t.drop p)
 | 0,i,acc,h,b=>by
  rw[List.drop_eq_nil_of_le (show rows.length≤i by omega),List.map_nil,List.append_nil]
  refine Ev.step (λk=>by simp only[AX.l0];rfl) ?_
  refine AE (by omega) (Ao (by omega) (Ao (by omega) ?_))
  simp only[Option.bind_some]
  refine Ao (by rw[List.length_drop];omega) ?_
  exact AW _
 | n+1,i,acc,h,b=>by
  have hi:i<rows.length:=by omega
  rw[List.drop_eq_getElem_cons hi,List.map_cons]
  have a:=M8 t rows d p c hl e n (i+1) (acc++[shift d rows[i]]) (by omega) (by simp;omega)
  rw[List.append_assoc acc]at a
  refine Ev.step (λk=>by simp only[AX.l0];rfl) ?_
  refine Ao (by omega) (Ao (by omega) (Ao (by omega) ?_))
  rw[CF rows i hi,ET i (by omega) (by omega)]
  exact a
def Og(t:List Ba)(y:Ba)(a:Int)(p:Nat):Prop:=∃(j:Nat) (b:j<t.length),y=t[j]∧(p=j+1∨(a>0∧∃(i:Nat) (hi:i<t.length),t[i].f0=a∧p=EO t i))
theorem Oy(t rows:List Ba)(u a:Int)(hl:t.length≤1000000)(w:rows.length≤1000000)(h0:0<rows.length)(hu:∃x∈t,x.f0=u)(r:a>0->∃x∈t,x.f0=a) :
  ∃(y:Ba) (p:Nat),y∈t∧y.f0=u∧p≤t.length∧Ev (λk=>AX.f k t rows u a) (t.take p++rows.map (shift (wrap64 (wrap64 (y.f1+1)-rows[0].f1)))++t.drop p)∧Og t y a p:=by
 obtain⟨x,z,e⟩:=hu;obtain⟨j,b,g,l⟩:=K7 z e
 have fin:∀(p:Nat),p≤t.length->Ev (λk=>AX.j0 k t rows (wrap64 (wrap64 (t[j].f1+1)-rows[0].f1)) p) (t.take p++rows.map (shift (wrap64 (wrap64 (t[j].f1+1)-rows[0].f1)))++t.drop p):=λp v=>by
  refine Ev.step (λk=>by simp only[AX.j0];rfl) ?_
  simp only[Option.bind_some]
  refine Ao (by omega) (Ao (by omega) ?_)
  refine Ao (by simp;omega) ?_
  simp only[List.nil_append,Int.toNat_natCast]
  have:=M8 t rows (wrap64 (wrap64 (t[j].f1+1)-rows[0].f1)) p v hl w rows.length 0 (t.take p) (by omega) (by rw[List.length_take];omega)
  simpa using this
 have n:Ag rows 0=rows[0]:=CF rows 0 h0;by_cases h:a>0
 ·obtain⟨A,c,d⟩:=r h;obtain⟨i,hi,o,q⟩:=K7 c d;obtain⟨_,m,_,_⟩:=Eu t i hi;refine⟨t[j],EO t i,List.getElem_mem b,l,m,?_,j,b,rfl,Or.inr ⟨h,i,hi,q,rfl⟩⟩;unfold AX.f;refine Ev.bind (FT t u (by omega)) ?_;rw[g];refine Ao (by omega) (Ao (by omega) (Ao (by omega) (Ao h ?_)));refine Ev.bind (FT t a (by omega)) ?_;rw[o];refine Ev.bind (I1 t i hi (by omega)) ?_;rw[CF t j b,n];exact fin _ m
 refine⟨t[j],j+1,List.getElem_mem b,l,by omega,?_,j,b,rfl,Or.inl rfl⟩;unfold AX.f;refine Ev.bind (FT t u (by omega)) ?_;rw[g];refine Ao (by omega) (Ao (by omega) (Ao (by omega) (AE h ?_)));rw[CF t j b,n,ET j (by omega) (by omega)];exact fin (j+1) (by omega)
theorem N7(t:List Ba)(u id:Int)(k:Nat)(a:k<t.length)(hi:GU t id=(k:Int))(hl:t.length≤1000000) :
  Ev (λn=>D8.f n t u id) (decide (0≤GU t u)&&(decide ((k:Int)≤GU t u)&&decide (GU t u≤(EO t k:Int)-1))):=by
 obtain⟨b,c,_,_⟩:=Eu t k a;unfold D8.f;refine Ev.bind (FT t u (by omega)) ?_;refine Ev.bind (FT t id (by omega)) ?_;rw[hi];by_cases h:GU t u≥0
 ·refine Ao h (Ao (by omega) ?_);refine Ev.bind (I1 t k a (by omega)) ?_;have hw:wrap64 ((EO t k:Int)-1)=(EO t k:Int)-1:=by unfold wrap64;omega
  rw[hw,Hw,BJ (show 0≤GU t u from h),Bool.true_and];simp only[Option.bind_some];exact AW _
 rw[C1 (show¬ 0≤GU t u from h),Bool.false_and];exact AE h (AW _)
theorem IA(u:Int)(b:List Int)(j id up at_:Int)(s:ByteArray)(hl:b.length≤1000000):∀(n i:Nat) (a:Int),i+n=b.length->(a>0->a∈b∧a≠id)->∃a':Int,Ev (λk=>AV.l0 k u a b i j id up at_ s) (u,a',true)∧(a'>0->a'∈b∧a'≠id)
 | 0,i,a,h,g=>⟨a,by
   refine Ev.step (λk=>by simp only[AV.l0];rfl) ?_
   exact AE (by omega) (AW _),g⟩
 | n+1,i,a,h,g=>by
  have hi:i<b.length:=by omega
  have d:rd b i=b[i]:=by
   unfold rd
   rw[List.getD_eq_getElem?_getD,show((i:Int)).toNat=i from rfl,List.getElem?_eq_getElem hi]
   rfl
  by_cases c:b[i]=at_∧at_≠id
  ·obtain⟨a',h1,e⟩:=IA u b j id up at_ s hl n (i+1) at_ (by omega) (λ_=>⟨c.1 ▸ List.getElem_mem hi,c.2⟩)
   refine⟨a',?_,e⟩
   refine Ev.step (λk=>by simp only[AV.l0];rfl) ?_
   rw[d,ET i (by omega) (by omega)]
   exact Ao (by omega) (Ao (by omega) (Ao c.1 (AE c.2 h1)))
  ·obtain⟨a',h1,e⟩:=IA u b j id up at_ s hl n (i+1) a (by omega) g
   refine⟨a',?_,e⟩
   refine Ev.step (λk=>by simp only[AV.l0];rfl) ?_
   rw[d,ET i (by omega) (by omega)]
   refine Ao (by omega) (Ao (by omega) ?_)
   by_cases h3:b[i]=at_
   ·refine Ao h3 (Ao ?_ h1)
    by_cases h4:at_=id
    ·exact h4
    ·exact absurd ⟨h3,h4⟩ c
   ·exact AE h3 h1
structure Inv (t:List Ba) (B:Int):Prop where
 deep:∀x∈t,0≤x.f1∧x.f1≤B
 root:∀x∈t,x.f0=3->x.f1=0
 found:∃x∈t,x.f0=3
 ids:∀x∈t,EG x.f0∧x.f2.size≤2000
def Fits(t:List Ba)(b id:Int)(u a:Int):Prop :=
 b≠2∧(b≠3->GU t id=-1)∧(b=3->∃k:Nat,k<t.length∧GU t id=(k:Int)) ∧
 ∃(p:Nat) (c:p<t.length),t[p].f0=u∧(a>0->∃(q:Nat) (d:q<t.length),t[q].f0=a∧t[q].f1=t[p].f1+1∧∀k:Nat,b=3->GU t id=(k:Int)->¬ (k≤q∧q<EO t k)) ∧
  ∀k:Nat,b=3->GU t id=(k:Int)->¬ (k≤p∧p<EO t k)
theorem N9(t:List Ba)(B b id up at_:Int)(s:ByteArray)(hI:Inv t B)(hB:B≤1099511627776)(hid:id≠3)(hl:t.length≤1000000) :
  ∃(u a:Int) (ok:Bool),Ev (λn=>AV.f n t b id up at_ s) (u,a,ok)∧(ok=true->Fits t b id u a):=by
 have none_:∀f:Nat->Option (Int×Int×Bool),(∀n,f n=AV.j0 n t true b id up at_ s)->Ev f (0,0,false):=λf hf =>
  Ev.congr hf (Ev.step (f:=λ_=>some (0,0,false)) (λn=>by simp only[AV.j0,if_true]) (AW _))
 unfold AV.f;by_cases w:b=2
 ·exact⟨0,0,false,Ev.bind (FT t id (by omega)) (Ao w (none_ _ (λn=>rfl))),λh=>by cases h⟩
 by_cases h3:((decide (GU t id≥0)) != (b==3))=true
 ·exact⟨0,0,false,Ev.bind (FT t id (by omega)) (AE w (Ao h3 (none_ _ (λn=>rfl)))),λh=>by cases h⟩
 have c:decide (GU t id≥0)=(b==3):=by simpa using h3
 -- the rest: 'up' is there,or it isn't
 have rest:(∀(p k:Nat),GU t up=(p:Int)->b=3->GU t id=(k:Int)->¬ (k≤p∧p<EO t k))->∃(u a:Int),Ev (λn=>AV.j0 n t false b id up at_ s) (u,a,true)∧Fits t b id u a:=by
  intro v
  have Z:b≠3->GU t id=-1:=λi=>by
   have:(b==3)=false:=beq_eq_false_iff_ne.2 i
   rw[this]at c
   have h4:=of_decide_eq_false c
   rcases Ek t id with⟨g,_⟩|⟨j,L,g,_⟩
   ·exact g
   ·omega
  have c2:b=3->∃k:Nat,k<t.length∧GU t id=(k:Int):=λi=>by
   have:(b==3)=true:=beq_iff_eq.2 i
   rw[this]at c
   have h4:=of_decide_eq_true c
   rcases Ek t id with⟨g,_⟩|⟨j,L,g,_⟩
   ·omega
   ·exact⟨j,L,g⟩
  rcases Ek t up with⟨g,_⟩|⟨p,r,g,h6⟩
  ·obtain⟨x,hx,A⟩:=hI.found;obtain⟨p,r,rfl⟩:=List.getElem_of_mem hx;refine⟨3,0,?_,w,Z,c2,p,r,A,λh=>by omega,λk i o d=>?_⟩
   ·refine Ev.step (λn=>by simp only[AV.j0];rfl) ?_;refine AE (by decide) ?_;refine Ev.bind (FT t up (by omega)) ?_;exact Ao (by omega) (AW _)
   obtain⟨m,l,e⟩:=c2 i;obtain rfl:m=k:=by omega
   rcases Nat.eq_or_lt_of_le d.1 with O|O
   ·subst O;rcases Ek t id with⟨y,_⟩|⟨j,L,y,z⟩
    ·omega
    obtain rfl:j=m:=by omega
    exact hid (z.symm.trans A)
   have:=(Eu t m l).2.2.1 p r O d.2;have d1:=(hI.deep _ (List.getElem_mem l)).1;have d2:=hI.root _ hx A;omega
  obtain⟨ks,X,ab,W⟩:=MW t up hl;obtain⟨a,ha,T⟩:=IA up ks b id up at_ s (by omega) ks.length 0 0 (by omega) (λh=>by omega);refine⟨up,a,?_,w,Z,c2,p,r,h6,λG=>?_,λk i o=>v p k g i o⟩
  ·refine Ev.step (λn=>by simp only[AV.j0];rfl) ?_;refine AE (by decide) ?_;refine Ev.bind (FT t up (by omega)) ?_;refine AE (by omega) ?_;exact Ev.bind X ha
  obtain⟨E,Y⟩:=T G;obtain⟨D,af,ag,q,hq,ah,ai,I,J⟩:=W a E;obtain rfl:D=p:=by omega
  refine⟨q,hq,I,by rw[J];have dB:=hI.deep _ (List.getElem_mem r);exact AP _ (by omega) (by omega),λk i o d=>?_⟩;obtain⟨m,l,e⟩:=c2 i;obtain rfl:m=k:=by omega
  have out:=v D m g i o
  have ae:m≠q:=by
   rintro rfl;rcases Ek t id with⟨y,_⟩|⟨j,L,y,z⟩
   ·omega
   obtain rfl:j=m:=by omega
   exact Y (I.symm.trans z)
  have dq:=(Eu t m l).2.2.1 q hq (by omega) d.2;have dB:=hI.deep _ (List.getElem_mem r);have hw:wrap64 (t[D].f1+1)=t[D].f1+1:=AP _ (by omega) (by omega);rw[hw]at J;rcases Nat.lt_or_ge D m with P|P
  ·have:=(Eu t D r).2.2.1 m l P (by omega);omega
  exact out ⟨P,by omega⟩
 by_cases h4:GU t id≥0
 ·have aa:b=3:=by rw[BJ h4]at c;exact beq_iff_eq.1 c.symm
  rcases Ek t id with⟨g,_⟩|⟨k,i,g,h6⟩
  ·omega
  have hu:=N7 t up id k i g hl;cases K:(decide (0≤GU t up)&&(decide ((k:Int)≤GU t up)&&decide (GU t up≤(EO t k:Int)-1)))with
  | true =>
   rw[K]at hu
   exact⟨0,0,false,Ev.bind (FT t id (by omega)) (AE w (AE h3 (Ao h4 (Ev.bind hu (none_ _ (λn=>rfl)))))),λh=>by cases h⟩
  | false =>
   rw[K]at hu
   obtain⟨u,a,y,z⟩:=rest (λp M r _ U d=>by
    obtain rfl:M=k:=by omega
    have:(decide (0≤GU t up)&&(decide ((M:Int)≤GU t up)&&decide (GU t up≤(EO t M:Int)-1)))=true:=by
     simp only[Bool.and_eq_true,decide_eq_true_eq]
     omega
    rw[this]at K
    cases K)
   exact⟨u,a,true,Ev.bind (FT t id (by omega)) (AE w (AE h3 (Ao h4 (Ev.bind hu y)))),λ_=>z⟩
 obtain⟨u,a,y,z⟩:=rest (λp M r _ U d=>by omega);exact⟨u,a,true,Ev.bind (FT t id (by omega)) (AE w (AE h3 (AE h4 y))),λ_=>z⟩
theorem Hb{t:List Ba}{k e j:Nat}(a:j<t.length)(h:¬ (k≤j∧j<e))(b:k≤e):t[j]∈t.take k++t.drop e:=by
 rcases Nat.lt_or_ge j k with h1|h1
 ·exact List.mem_append_left _ (List.mem_take_iff_getElem.2 ⟨j,by omega,rfl⟩)
 exact List.mem_append_right _ (List.mem_drop_iff_getElem.2 ⟨j-e,by omega,by congr 1;omega⟩)
theorem Hh{t:List Ba}{k e:Nat}{x:Ba}(h:x∈t.take k++t.drop e):x∈t:=by
 rcases List.mem_append.1 h with h|h
 ·exact List.mem_of_mem_take h
 exact List.mem_of_mem_drop h
theorem Inv.more{t:List Ba}{B C:Int}(h:Inv t B)(b:B≤C):Inv t C:=⟨λx a=>⟨(h.deep x a).1,Int.le_trans (h.deep x a).2 b⟩,h.root,h.found,h.ids⟩
theorem I8{t:List Ba}{y:Ba}{q:Nat}{a:Int}(l:GI (-1) t)(hu:Uq t)(hl:Og t y a q)(c:a>0->∃x∈t,x.f0=a∧x.f1=y.f1+1) :
  y.f1≤Fa (-1) (t.take q)∧∀h:q<t.length,t[q].f1≤y.f1+1:=by
 obtain⟨p,d,rfl,m⟩:=hl;rcases m with rfl|⟨k,i,hi,b,rfl⟩
 ·refine⟨by rw[Ha t (-1) p d];exact Int.le_refl _,λh=>?_⟩;have e:=l;rw[<-List.take_append_drop (p+1) t,FG,List.drop_eq_getElem_cons h,Ha t (-1) p d]at e;exact e.2.1.2
 obtain⟨x,n,j,o⟩:=c k;obtain rfl:t[i]=x:=Nm hu (List.getElem_mem hi) n (b.trans j.symm);obtain⟨b1,b2,b3,b4⟩:=Eu t i hi;obtain⟨z,hz⟩:∃z,EO t i=z+1:=⟨EO t i-1,by omega⟩
 refine⟨?_,λh=>by have:=b4 h;omega⟩;rw[hz,Ha t (-1) z (by omega)];rcases Nat.eq_or_lt_of_le (show i≤z by omega)with g|g
 ·subst g;omega
 have:=b3 z (by omega) g (by omega);omega
theorem P2(t:List Ba)(B Y id up at_:Int)(s:ByteArray)(hI:Inv t B)(ay:0≤B)(hB:B≤1099511627776)(hk:Y=1∨Y=2∨Y=3)(hid:id≠3)(ab:EG id)(hl:t.length≤100000)(hs:s.size≤2000) :
  ∃t':List Ba,Ev (λn=>Bz.f n t Y id up at_ s) t'∧Inv t' (2*B+1)∧(t'.length≤t.length+1∧t.length≤t'.length)∧(Uq t->GI (-1) t->Uq t'∧GI (-1) t'):=by
 have same:∀y:List Ba,y=t->Inv y (2*B+1)∧(y.length≤t.length+1∧t.length≤y.length)∧(Uq t->GI (-1) t->Uq y∧GI (-1) y):=λy G=>by
  subst G
  exact⟨hI.more (by omega),by omega,λh1 K=>⟨h1,K⟩⟩
 unfold Bz.f;by_cases K:Y=2
 ·rcases Ek t id with⟨W,_⟩|⟨k,v,W,h6⟩
  ·refine⟨[]++t,Ev.bind (FT t id (by omega)) (Ao K ?_),same _ (by simp)⟩;simp only[Option.bind_some];refine Ao (by simp;omega) ?_;rw[W];exact AE (by omega) (AW _)
  refine⟨t.set k ⟨t[k].f0,t[k].f1,s⟩,Ev.bind (FT t id (by omega)) (Ao K ?_),?_,by rw[List.length_set];omega,Pv v⟩
  ·simp only[Option.bind_some];refine Ao (by simp;omega) ?_;rw[W];simp only[List.nil_append,Int.toNat_natCast,CF t k v];exact Ao (by omega) (Ao (by omega) (Ao (by omega) (AW _)))
  have hm:∀x∈t.set k ⟨t[k].f0,t[k].f1,s⟩,∃y∈t,x.f0=y.f0∧x.f1=y.f1∧(x.f2=s∨x.f2=y.f2):=λx b=>by
   obtain⟨i,hi,rfl⟩:=List.getElem_of_mem b
   rw[List.length_set]at hi
   rw[List.getElem_set]
   split
   ·exact⟨t[k],List.getElem_mem v,rfl,rfl,Or.inl rfl⟩
   ·exact⟨t[i],List.getElem_mem hi,rfl,rfl,Or.inr rfl⟩
  refine⟨λx b=>?_,λx b h3=>?_,?_,λx b=>?_⟩
  ·obtain⟨y,G,_,e,_⟩:=hm x b;have:=hI.deep y G;rw[e];omega
  ·obtain⟨y,G,e0,e,_⟩:=hm x b;rw[e];exact hI.root y G (e0 ▸ h3)
  ·obtain⟨x,b,h3⟩:=hI.found;obtain⟨i,hi,rfl⟩:=List.getElem_of_mem b;refine⟨(t.set k ⟨t[k].f0,t[k].f1,s⟩)[i]'(by rw[List.length_set];exact hi),List.getElem_mem _,?_⟩;rw[List.getElem_set];split
   ·rename_i e;subst e;exact h3
   exact h3
  obtain⟨y,G,e0,_,Z⟩:=hm x b;rw[e0];refine⟨(hI.ids y G).1,?_⟩;rcases Z with Z|Z <;> rw[Z]
  ·exact hs
  exact(hI.ids y G).2
 obtain⟨u,a,ok,hw,ak⟩:=N9 t B Y id up at_ s hI hB hid (by omega);cases ok with
 | false =>
  refine⟨[]++t,Ev.bind (FT t id (by omega)) (AE K (Ev.bind hw (AE (by simp) ?_))),same _ (by simp)⟩
  simp only[Option.bind_some]
  exact Ao (by simp;omega) (AW _)
 | true =>
  obtain⟨_,c1,c2,p,hp,P,O,av⟩:=ak rfl
  by_cases h1:Y=1
  ·obtain⟨y,q,G,ah,hq,aa,A⟩:=Oy t [⟨id,0,s⟩] u a (by omega) (by simp) (by simp) ⟨t[p],List.getElem_mem hp,P⟩ (λh=>by
    obtain⟨q,hq,e,_,_⟩:=O h
    exact⟨t[q],List.getElem_mem hq,e⟩)
   refine⟨_,Ev.bind (FT t id (by omega)) (AE K (Ev.bind hw (Ao rfl (Ao h1 (Ev.bind aa (AW _)))))),?_,by simp;omega,?_⟩
   rotate_left
   ·intro hu hc
    have dy:=hI.deep y G
    have E:wrap64 (wrap64 (y.f1+1)-0)=y.f1+1:=by rw[AP (y.f1+1) (by omega) (by omega),AP _ (by omega) (by omega)];omega
    have hR:([(⟨id,0,s⟩:Ba)].map (shift (wrap64 (wrap64 (y.f1+1)-([(⟨id,0,s⟩:Ba)])[0].f1))))=[⟨id,y.f1+1,s⟩]:=by
     show[(⟨id,wrap64 (0+wrap64 (wrap64 (y.f1+1)-0)),s⟩:Ba)]=_
     rw[E,AP _ (by omega) (by omega),Int.zero_add]
    have au:∀x∈t,x.f0≠id:=by
     rcases Ek t id with⟨_,h⟩|⟨j2,_,h,_⟩
     ·exact h
     ·have:=c1 (by omega);omega
    rw[hR]
    refine⟨Nn hu (by simp[Uq]) (λx b z hz e=>au z hz (by rw[<-e];simp at b;rw[b])),?_⟩
    have hyp:y=t[p]:=Nm hu G (List.getElem_mem hp) (ah.trans P.symm)
    obtain⟨g1,g2⟩:=I8 hc hu A (λh=>by obtain⟨q2,ae,e1,Z,_⟩:=O h;exact⟨t[q2],List.getElem_mem ae,e1,by rw[hyp];exact Z⟩)
    exact MB hc (m:=y.f1) ⟨⟨by simp only;omega,by simp only;omega⟩,trivial⟩ g1 (by simp[Fa]) (by simp) g2
   have dy:=hI.deep y G
   have E:wrap64 (wrap64 (y.f1+1)-0)=y.f1+1:=by rw[AP (y.f1+1) (by omega) (by omega),AP _ (by omega) (by omega)];omega
   have w:∀x∈t.take q++[(⟨id,0,s⟩:Ba)].map (shift (wrap64 (wrap64 (y.f1+1)-([(⟨id,0,s⟩:Ba)])[0].f1)))++t.drop q,x∈t∨(x.f0=id∧x.f1=y.f1+1∧x.f2=s):=λx b=>by
    rcases List.mem_append.1 b with b|b
    ·rcases List.mem_append.1 b with b|b
     ·exact Or.inl (List.mem_of_mem_take b)
     ·right
      simp only[List.map_cons,List.map_nil,List.mem_singleton]at b
      subst b
      refine⟨rfl,?_,rfl⟩
      show wrap64 (0+wrap64 (wrap64 (y.f1+1)-0))=y.f1+1
      rw[E,AP _ (by omega) (by omega)]
      omega
    ·exact Or.inl (List.mem_of_mem_drop b)
   refine⟨λx b=>?_,λx b h3=>?_,?_,λx b=>?_⟩
   ·rcases w x b with h|⟨_,h,_⟩
    ·have:=hI.deep x h
     omega
    ·rw[h];omega
   ·rcases w x b with h|⟨h,_⟩
    ·exact hI.root x h h3
    ·exact absurd (h.symm.trans h3) hid
   ·obtain⟨x,b,h3⟩:=hI.found
    rw[<-List.take_append_drop q t]at b
    rcases List.mem_append.1 b with b|b
    ·exact⟨x,List.mem_append_left _ (List.mem_append_left _ b),h3⟩
    ·exact⟨x,List.mem_append_right _ b,h3⟩
   ·rcases w x b with h|⟨h,_,K⟩
    ·exact hI.ids x h
    ·rw[h,K];exact⟨ab,hs⟩
  ·have L:Y=3:=by
    rcases hk with h|h|h
    ·exact absurd h h1
    ·exact absurd h K
    ·exact h
   obtain⟨k,v,W⟩:=c2 L
   obtain⟨e1,Z,e3,e4⟩:=Eu t k v
   have X:t[k].f0=id:=by
    rcases Ek t id with⟨h7,_⟩|⟨j,D,h7,h8⟩
    ·omega
    ·obtain rfl:j=k:=by omega
     exact h8
   have al:=av k L W
   obtain⟨rest,c⟩:∃r,r=t.take k++t.drop (EO t k):=⟨_,rfl⟩
   obtain⟨rows,o⟩:∃r,r=(t.take (EO t k)).drop k:=⟨_,rfl⟩
   have az:rows.length=EO t k-k:=by rw[o,List.length_drop,List.length_take];omega
   have aA:rest.length=k+(t.length-EO t k):=by rw[c,List.length_append,List.length_take,List.length_drop];omega
   have an:rows[0]'(by omega)=t[k]:=by
    simp only[o,List.getElem_drop,List.getElem_take]
    rfl
   have af:∀x∈rows,∃(j:Nat) (D:j<t.length),k≤j∧j<EO t k∧x=t[j]:=λx b=>by
    rw[o]at b
    obtain⟨i,hi,rfl⟩:=List.getElem_of_mem b
    rw[List.length_drop,List.length_take]at hi
    refine⟨k+i,by omega,by omega,by omega,?_⟩
    rw[List.getElem_drop,List.getElem_take]
   obtain⟨y,q,G,ah,hq,aa,A⟩:=Oy rest rows u a (by omega) (by omega) (by omega) ⟨t[p],by rw[c];exact Hb hp al (by omega),P⟩ (λh=>by
    obtain⟨q,hq,e,_,ho⟩:=O h
    exact⟨t[q],by rw[c];exact Hb hq (ho k L W) (by omega),e⟩)
   refine⟨rest.take q++rows.map (shift (wrap64 (wrap64 (y.f1+1)-(rows[0]'(by omega)).f1)))++rest.drop q,Ev.bind (FT t id (by omega)) (AE K (Ev.bind hw (Ao rfl (AE h1 ?_)))),?_,?_,?_⟩
   rotate_left
   ·have U:y∈t:=Hh (c ▸ G)
    have dy:=hI.deep y U
    have dk:=hI.deep _ (List.getElem_mem v)
    have E:wrap64 (wrap64 (y.f1+1)-(rows[0]'(by omega)).f1)=y.f1+1-t[k].f1:=by rw[an,AP (y.f1+1) (by omega) (by omega),AP _ (by omega) (by omega)]
    rw[E]
    have w:∀x∈rest.take q++rows.map (shift (y.f1+1-t[k].f1))++rest.drop q,x∈t∨(x.f0≠3∧(0≤x.f1∧x.f1≤2*B+1)∧EG x.f0∧x.f2.size≤2000):=λx b=>by
     rcases List.mem_append.1 b with b|b
     ·rcases List.mem_append.1 b with b|b
      ·exact Or.inl (Hh (c ▸ List.mem_of_mem_take b))
      ·right
       obtain⟨z,hz,rfl⟩:=List.mem_map.1 b
       obtain⟨j,D,J,I,rfl⟩:=af z hz
       have dj:=hI.deep _ (List.getElem_mem D)
       have M:t[k].f1≤t[j].f1:=by
        rcases Nat.eq_or_lt_of_le J with e|e
        ·subst e;exact Int.le_refl _
        ·exact Int.le_of_lt (e3 j D e I)
       have hf:(shift (y.f1+1-t[k].f1) t[j]).f1=t[j].f1+(y.f1+1-t[k].f1):=AP _ (by omega) (by omega)
       refine⟨?_,⟨by rw[hf];omega,by rw[hf];omega⟩,hI.ids t[j] (List.getElem_mem D)⟩
       show t[j].f0≠3
       intro h3
       rcases Nat.eq_or_lt_of_le J with e|e
       ·subst e;exact hid (X.symm.trans h3)
       ·have:=e3 j D e I
        have:=hI.root _ (List.getElem_mem D) h3
        omega
     ·exact Or.inl (Hh (c ▸ List.mem_of_mem_drop b))
    refine⟨λx b=>?_,λx b h3=>?_,?_,λx b=>?_⟩
    ·rcases w x b with h|⟨_,h,_⟩
     ·have:=hI.deep x h
      omega
     ·exact h
    ·rcases w x b with h|⟨h,_⟩
     ·exact hI.root x h h3
     ·exact absurd h3 h
    ·obtain⟨x,b,h3⟩:=hI.found
     obtain⟨j,D,rfl⟩:=List.getElem_of_mem b
     have ar:¬ (k≤j∧j<EO t k):=by
      rintro⟨g1,g2⟩
      rcases Nat.eq_or_lt_of_le g1 with e|e
      ·subst e;exact hid (X.symm.trans h3)
      ·have:=e3 j D e g2
       have:=hI.root _ (List.getElem_mem D) h3
       omega
     have aq:t[j]∈rest:=by rw[c];exact Hb D ar (by omega)
     rw[<-List.take_append_drop q rest]at aq
     rcases List.mem_append.1 aq with b|b
     ·exact⟨_,List.mem_append_left _ (List.mem_append_left _ b),h3⟩
     ·exact⟨_,List.mem_append_right _ b,h3⟩
    ·rcases w x b with h|⟨_,_,h⟩
     ·exact hI.ids x h
     ·exact h
   ·rw[List.length_append,List.length_append,List.length_map,List.length_take,List.length_drop]
    omega
   ·intro hu hc
    have U:y∈t:=Hh (c ▸ G)
    have dy:=hI.deep y U
    have dk:=hI.deep _ (List.getElem_mem v)
    have E:wrap64 (wrap64 (y.f1+1)-(rows[0]'(by omega)).f1)=y.f1+1-t[k].f1:=by rw[an,AP (y.f1+1) (by omega) (by omega),AP _ (by omega) (by omega)]
    rw[E]
    have M:∀x∈rows,t[k].f1≤x.f1∧(shift (y.f1+1-t[k].f1) x).f1=x.f1+(y.f1+1-t[k].f1):=λx b=>by
     obtain⟨j,D,J,I,rfl⟩:=af x b
     have dj:=hI.deep _ (List.getElem_mem D)
     have g:t[k].f1≤t[j].f1:=by
      rcases Nat.eq_or_lt_of_le J with e|e
      ·subst e;exact Int.le_refl _
      ·exact Int.le_of_lt (e3 j D e I)
     exact⟨g,AP _ (by omega) (by omega)⟩
    have ai:GI (-1) rest:=by rw[c];exact O_ hc v (by omega) e4
    have sub:rest.Sublist t:=by
     rw[c]
     have q1:=List.drop_sublist (EO t k-k) (t.drop k)
     rw[List.drop_drop,Nat.add_sub_cancel' (by omega)]at q1
     have q2:=List.Sublist.append (List.Sublist.refl (t.take k)) q1
     rwa[List.take_append_drop]at q2
    have ao:Uq rest:=List.Pairwise.sublist (sub.map _) hu
    have ag:Uq (rows.map (shift (y.f1+1-t[k].f1))):=by
     unfold Uq
     rw[List.map_map]
     have:rows.Sublist t:=by rw[o];exact(List.drop_sublist _ _).trans (List.take_sublist _ _)
     exact List.Pairwise.sublist (this.map _) hu
    have aj:∀x∈rows.map (shift (y.f1+1-t[k].f1)),∀z∈rest,x.f0≠z.f0:=λx b z hz e=>by
     obtain⟨x0,T,rfl⟩:=List.mem_map.1 b
     obtain⟨j,D,J,I,rfl⟩:=af x0 T
     rw[c]at hz
     rcases List.mem_append.1 hz with hz|hz
     ·obtain⟨i,hi,rfl⟩:=List.mem_take_iff_getElem.1 hz
      have:=KU hu D (by omega) (show t[j].f0=t[i].f0 from e)
      omega
     ·obtain⟨i,hi,rfl⟩:=List.mem_drop_iff_getElem.1 hz
      have:=KU hu D (by omega) (show t[j].f0=t[EO t k+i].f0 from e)
      omega
    refine⟨Nn ao ag aj,?_⟩
    have hyp:y=t[p]:=Nm hu U (List.getElem_mem hp) (ah.trans P.symm)
    obtain⟨g1,g2⟩:=I8 ai ao A (λh=>by
     obtain⟨q2,ae,f1,f2,ho⟩:=O h
     exact⟨t[q2],by rw[c];exact Hb ae (ho k L W) (by omega),f1,by rw[hyp];exact f2⟩)
    have aw:GI (t[k].f1-1) rows:=by
     have e:=hc
     rw[<-List.take_append_drop k t,FG,List.drop_eq_getElem_cons v]at e
     rw[o,List.drop_take,List.drop_eq_getElem_cons v]
     refine ND (l:=t[k]::t.drop (k+1)) ⟨⟨dk.1,by omega⟩,e.2.2⟩ _
    have ax:∀(R:List Ba) (d:Int),GI d R->(∀x∈R,t[k].f1≤x.f1∧(shift (y.f1+1-t[k].f1) x).f1=x.f1+(y.f1+1-t[k].f1))->GI (d+(y.f1+1-t[k].f1)) (R.map (shift (y.f1+1-t[k].f1))):=by
     intro R
     induction R with
     | nil=>intro d _ _;trivial
     | cons x R ih =>
      intro d h hh
      have b:=hh x List.mem_cons_self
      refine⟨⟨by rw[b.2];omega,by rw[b.2];have:=h.1.2;omega⟩,?_⟩
      rw[b.2]
      exact ih x.f1 h.2 (λz hz=>hh z (List.mem_cons_of_mem _ hz))
    have hR:=ax rows _ aw M
    rw[show t[k].f1-1+(y.f1+1-t[k].f1)=y.f1 by omega]at hR
    refine MB ai hR g1 ?_ (by rw[List.length_map];omega) g2
    obtain⟨x,b,e⟩:=J9 (rows.map (shift (y.f1+1-t[k].f1))) y.f1 (by rw[List.length_map];omega)
    obtain⟨x0,T,rfl⟩:=List.mem_map.1 b
    rw[e,(M x0 T).2]
    have:=(M x0 T).1
    omega
   ·rw[W]
    refine Ev.bind (I1 t k v (by omega)) ?_
    simp only[Option.bind_some,Int.toNat_natCast]
    refine Ao (by omega) (Ao (by omega) (Ao (by omega) ?_))
    refine Ao (by rw[List.length_drop,List.length_take];simp;omega) ?_
    refine Ao (by omega) ?_
    refine Ao (by rw[List.length_take];simp;omega) ?_
    refine Ao (by omega) ?_
    refine Ao (by rw[List.length_append,List.length_take,List.length_drop];simp;omega) ?_
    simp only[List.nil_append]
    rw[<-c,<-o]
    exact Ev.bind aa (AW _)
theorem Qd(b:List Int)(p:Int)(m:Nat)(l:List ByteArray)(c:Bytes b)(d:Rd p (m+1))(h1:1≤l.length)(g:l.length≤1000):∃(s:ByteArray),Ev (λk=>CZ.f k b p l) (s,p+1)∧s∈l:=by
 obtain⟨r,e,_,h0,a,_⟩:=C8 b p (l.length:Int) m c d;have a:=a (by omega);have hi:r.toNat<l.length:=by omega
 refine⟨l[r.toNat],?_,List.getElem_mem hi⟩;unfold CZ.f;refine Ev.bind e ?_;refine Ao h0 (Ao a ?_);have:Kb ByteArray.empty l r=l[r.toNat]:=by unfold Kb;rw[List.getD_eq_getElem?_getD,List.getElem?_eq_getElem hi];rfl
 rw[this];exact AW _
theorem Jf(b:List Int)(c:Bytes b):∀(n:Nat) (s:ByteArray) (p:Int) (m:Nat),s.size+n≤1000->Rd p (m+n+2)->∃(e:ByteArray) (d:Int),Ev (λk=>BH.l0 k s n b p) (e,d)∧Rd d m∧e.size≤1010
 | 0,s,p,m,hs,a=>by
  obtain⟨r,g,hR,_,_,_⟩:=C8 b p 40 (m+1) c a
  by_cases h0:r=0
  ·obtain⟨u,hu,hm⟩:=Qd b (p+1) m [(⟨#[101]⟩:ByteArray),(⟨#[32]⟩:ByteArray),(⟨#[97,97,97,97]⟩:ByteArray),(⟨#[39]⟩:ByteArray)] c hR (by simp) (by simp)
   have hz:u.size≤4:=by
    simp only[List.mem_cons,List.not_mem_nil,or_false]at hm
    rcases hm with rfl|rfl|rfl|rfl <;> decide
   refine⟨s++u,p+1+1,?_,⟨by have:=hR.1;omega,by have:=hR.2;omega⟩,by rw[ByteArray.size_append];omega⟩
   refine Ev.step (λk=>by simp only[BH.l0];rfl) ?_
   refine AE (by omega) (Ev.bind g (Ao h0 (Ev.bind hu (Ao (show s.size+u.size≤9223372036854775807 by omega) (AW _)))))
  ·refine⟨s,p+1,?_,hR.less (by omega),by omega⟩
   refine Ev.step (λk=>by simp only[BH.l0];rfl) ?_
   exact AE (by omega) (Ev.bind g (AE h0 (AW _)))
 | n+1,s,p,m,hs,a=>by
  obtain⟨u,hu,hm⟩:=Qd b p (m+n+2) [(⟨#[97]⟩:ByteArray),(⟨#[98]⟩:ByteArray),(⟨#[99]⟩:ByteArray),(⟨#[100]⟩:ByteArray)] c (a.less (by omega)) (by simp) (by simp)
  have hz:u.size=1:=by
   simp only[List.mem_cons,List.not_mem_nil,or_false]at hm
   rcases hm with rfl|rfl|rfl|rfl <;> decide
  obtain⟨e,d,h1,i,h3⟩:=Jf b c n (s++u) (p+1) m (by rw[ByteArray.size_append];omega) ⟨by have:=a.1;omega,by have:=a.2;omega⟩
  refine⟨e,d,?_,i,h3⟩
  refine Ev.step (λk=>by simp only[BH.l0];rfl) ?_
  refine Ao (by omega) (Ev.bind hu (Ao (show s.size+u.size≤9223372036854775807 by omega) ?_))
  have hw:wrap64 (((n+1:Nat):Int)-1)=n:=by rw[AP _ (by omega) (by have:=hs;omega)];omega
  rw[hw]
  exact h1
theorem Ld(b:List Int)(p:Int)(m:Nat)(d:Bytes b)(g:Rd p (m+6)):∃(s:ByteArray) (c:Int),Ev (λk=>BH.f k b p) (s,c)∧Rd c m∧s.size≤1010:=by
 obtain⟨r,i,hR,h0,a,_⟩:=C8 b p 4 (m+5) d g;have a:=a (by omega);obtain⟨n,rfl⟩:∃n:Nat,r=n:=⟨r.toNat,by omega⟩
 obtain⟨j,c,h1,e,h3⟩:=Jf b d n ⟨#[]⟩ (p+1) m (by show 0+n≤1000;omega) (hR.less (by omega));refine⟨j,c,?_,e,h3⟩;unfold BH.f;exact Ev.bind i h1
theorem J2(b:List Int)(p:Int)(m:Nat)(c:Bytes b)(j:Rd p (m+2)):∃r d:Int,Ev (λk=>Cn.f k b p) (r,d)∧Rd d m∧11≤r∧r≤44:=by
 obtain⟨x,l,hR,o,g,_⟩:=C8 b p 3 (m+1) c j;obtain⟨y,n,a,q,i,_⟩:=C8 b (p+1) 4 m c hR;have g:=g (by omega);have i:=i (by omega);have e:wrap64 (wrap64 (wrap64 (10*wrap64 (1+x))+1)+y)=10*(1+x)+1+y:=by rw[AP (1+x) (by omega) (by omega),AP (10*(1+x)) (by omega) (by omega),AP (10*(1+x)+1) (by omega) (by omega),AP _ (by omega) (by omega)]
 refine⟨10*(1+x)+1+y,p+1+1,?_,a,by omega,by omega⟩;unfold Cn.f;refine Ev.bind l (Ev.bind n ?_);rw[e];exact AW _
theorem Ja(w n:Int):∃r:Int,Db.f w n=some r∧(r=0∨11≤r∧r≤36):=by
 unfold Db.f;simp only[Hw,Option.bind_some];cases h1:(decide (1≤w)&&decide (w≤3))with
 | false=>exact⟨0,by simp,Or.inl rfl⟩
 | true =>
  cases a:(decide (1≤n)&&decide (n≤6))with
  | false=>exact⟨0,by simp,Or.inl rfl⟩
  | true =>
   simp only[Bool.and_eq_true,decide_eq_true_eq]at h1 a
   refine⟨10*w+n,?_,Or.inr ⟨by omega,by omega⟩⟩
   simp only[if_true]
   rw[AP (10*w) (by omega) (by omega),AP _ (by omega) (by omega)]
def Pz(k i u a:Int)(s:ByteArray):Prop:=(k=1∨k=2∨k=3)∧i≠3∧EG i∧EG u∧EG a∧s.size≤2000
theorem Bl{x:Int}(h0:-1000≤x)(h1:x≤1000):EG x:=⟨by omega,by omega⟩
theorem JF{i:Int}(h:DF i=true):i≠3:=by rintro rfl;exact absurd h (by decide)
theorem M3(b:List Int)(g:Bytes b)(w md id up at_:Int)(s:ByteArray)(f:Bool)(p:Int)(m:Nat)(hi:EG id)(hu:EG up)(e:EG at_)(hs:s.size≤2000)(j:Rd p (m+3)) :
  ∃(k i u a:Int) (t:ByteArray) (q:Int),Ev (λn=>Av.j4 n w md id up at_ s f b p) (k,i,u,a,t,q)∧Pz k i u a t∧Rd q m:=by
 cases f with
 | true =>
  obtain⟨r,c,v⟩:=Ja w (wrap64 (md+1))
  refine⟨1,r,up,at_,s,p,?_,⟨Or.inl rfl,by omega,Bl (by omega) (by omega),hu,e,hs⟩,j.less (by omega)⟩
  refine Ev.step (λn=>by simp only[Av.j4];rfl) ?_
  refine Ao (by simp) ?_
  rw[c]
  simp only[Option.bind_some]
  exact AW _
 | false =>
  cases hm:DF id with
  | true =>
   obtain⟨r,c,hR,_,_,_⟩:=C8 b p 3 (m+2) g j
   by_cases h0:r=0
   ·refine⟨2,id,0,0,s,p+1,?_,⟨Or.inr (Or.inl rfl),JF hm,hi,Bl (by omega) (by omega),Bl (by omega) (by omega),hs⟩,hR.less (by omega)⟩
    refine Ev.step (λn=>by simp only[Av.j4];rfl) ?_
    refine AE (by decide) ?_
    rw[FW id hi,hm]
    simp only[Option.bind_some]
    exact Ao (by simp) (Ev.bind c (Ao h0 (AW _)))
   ·refine⟨3,id,up,at_,⟨#[]⟩,p+1,?_,⟨Or.inr (Or.inr rfl),JF hm,hi,hu,e,by decide⟩,hR.less (by omega)⟩
    refine Ev.step (λn=>by simp only[Av.j4];rfl) ?_
    refine AE (by decide) ?_
    rw[FW id hi,hm]
    simp only[Option.bind_some]
    exact Ao (by simp) (Ev.bind c (AE h0 (AW _)))
  | false =>
   obtain⟨x,l,o,d,y,z⟩:=J2 b p (m+1) g j
   obtain⟨r,c,hR,_,_,_⟩:=C8 b l 3 m g d
   by_cases h0:r=0
   ·refine⟨2,x,0,0,s,l+1,?_,⟨Or.inr (Or.inl rfl),by omega,Bl (by omega) (by omega),Bl (by omega) (by omega),Bl (by omega) (by omega),hs⟩,hR⟩
    refine Ev.step (λn=>by simp only[Av.j4];rfl) ?_
    refine AE (by decide) ?_
    rw[FW id hi,hm]
    simp only[Option.bind_some]
    exact AE (by decide) (Ev.bind o (Ev.bind c (Ao h0 (AW _))))
   ·refine⟨3,x,up,at_,⟨#[]⟩,l+1,?_,⟨Or.inr (Or.inr rfl),by omega,Bl (by omega) (by omega),hu,e,by decide⟩,hR⟩
    refine Ev.step (λn=>by simp only[Av.j4];rfl) ?_
    refine AE (by decide) ?_
    rw[FW id hi,hm]
    simp only[Option.bind_some]
    exact AE (by decide) (Ev.bind o (Ev.bind c (AE h0 (AW _))))
theorem Ow(b:List Int)(g:Bytes b)(w md id up at_:Int)(s:ByteArray)(p:Int)(m:Nat)(hi:EG id)(hu:EG up)(l:EG at_)(hs:s.size≤2000)(o:Rd p (m+4)) :
  ∃(k i u a:Int) (d:ByteArray) (c:Int),Ev (λn=>Av.j3 n w md id up at_ s b p) (k,i,u,a,d,c)∧Pz k i u a d∧Rd c m:=by
 by_cases j:md<6
 ·obtain⟨r,q,hR,_,_,_⟩:=C8 b p 3 (m+3) g o;by_cases h0:r=0
  ·obtain⟨k,i,u,a,d,c,h1,e,h3⟩:=M3 b g w md id up at_ s true (p+1) m hi hu l hs hR;refine⟨k,i,u,a,d,c,?_,e,h3⟩;refine Ev.step (λn=>by simp only[Av.j3];rfl) ?_;exact Ao j (Ev.bind q (Ao h0 h1))
  obtain⟨k,i,u,a,d,c,h1,e,h3⟩:=M3 b g w md id up at_ s (!(DF id)) (p+1) m hi hu l hs hR;refine⟨k,i,u,a,d,c,?_,e,h3⟩;refine Ev.step (λn=>by simp only[Av.j3];rfl) ?_;rw[FW id hi];simp only[Option.bind_some];exact Ao j (Ev.bind q (AE h0 h1))
 obtain⟨k,i,u,a,d,c,h1,e,h3⟩:=M3 b g w md id up at_ s false p m hi hu l hs (o.less (by omega));refine⟨k,i,u,a,d,c,?_,e,h3⟩;refine Ev.step (λn=>by simp only[Av.j3];rfl) ?_;exact AE j h1
theorem Ov(b:List Int)(e:Bytes b)(w md id up at_:Int)(s:ByteArray)(p:Int)(m:Nat)(hi:EG id)(hu:EG up)(l:EG at_)(hs:s.size≤2000)(q:Rd p (m+7)) :
  ∃(k i u a:Int) (d:ByteArray) (c:Int),Ev (λn=>Av.j2 n w md id up at_ s b p) (k,i,u,a,d,c)∧Pz k i u a d∧Rd c m:=by
 obtain⟨r,o,hR,_,_,_⟩:=C8 b p 6 (m+6) e q;by_cases h0:r=0
 ·obtain⟨x,v,t,j,y,z⟩:=J2 b (p+1) (m+4) e hR;obtain⟨k,i,u,a,d,c,h1,g,h3⟩:=Ow b e w md id x at_ s v m hi (Bl (by omega) (by omega)) l hs j;refine⟨k,i,u,a,d,c,?_,g,h3⟩;refine Ev.step (λn=>by simp only[Av.j2];rfl) ?_;exact Ev.bind o (Ao h0 (Ev.bind t h1))
 obtain⟨k,i,u,a,d,c,h1,g,h3⟩:=Ow b e w md id up at_ s (p+1) m hi hu l hs (hR.less (by omega));refine⟨k,i,u,a,d,c,?_,g,h3⟩;refine Ev.step (λn=>by simp only[Av.j2];rfl) ?_;exact Ev.bind o (AE h0 h1)
theorem Ou(b:List Int)(l:Bytes b)(w md id up at_:Int)(p:Int)(m:Nat)(hi:EG id)(hu:EG up)(o:EG at_)(t:Rd p (m+13)) :
  ∃(k i u a:Int) (d:ByteArray) (c:Int),Ev (λn=>Av.j1 n w md id up at_ b p) (k,i,u,a,d,c)∧Pz k i u a d∧Rd c m:=by
 obtain⟨s,r,q,e,hs⟩:=Ld b p (m+7) l t;have g:=KQ s (by omega);cases hB:Fl s with
 | true =>
  rw[hB]at g
  obtain⟨k,i,u,a,d,c,h1,j,h3⟩:=Ov b l w md id up at_ s r m hi hu o (by omega) e
  refine⟨k,i,u,a,d,c,?_,j,h3⟩
  refine Ev.step (λn=>by simp only[Av.j1];rfl) ?_
  exact Ev.bind q (Ev.bind g (Ao rfl h1))
 | false =>
  rw[hB]at g
  obtain⟨k,i,u,a,d,c,h1,j,h3⟩:=Ov b l w md id up at_ ⟨#[97]⟩ r m hi hu o (by decide) e
  refine⟨k,i,u,a,d,c,?_,j,h3⟩
  refine Ev.step (λn=>by simp only[Av.j1];rfl) ?_
  exact Ev.bind q (Ev.bind g (AE (by decide) h1))
theorem Ot(b:List Int)(l:Bytes b)(w md id up at_:Int)(c:List Int)(f:Bool)(p:Int)(m:Nat)(hi:EG id)(hu:EG up)(y:EG at_)(z:∀x∈c,EG x)(o:f=true->0<c.length)(v:Rd p (m+14)) :
  ∃(k i u a:Int) (e:ByteArray) (d:Int),Ev (λn=>Av.j0 n w md id up c at_ f b p) (k,i,u,a,e,d)∧Pz k i u a e∧Rd d m:=by
 cases f with
 | true =>
  have h0:=o rfl
  obtain⟨r,A,hR,B,t,_⟩:=C8 b p (c.length:Int) (m+13) l v
  have t:=t (by omega)
  have g:r.toNat<c.length:=by omega
  have q:rd c r=c[r.toNat]:=by
   unfold rd
   rw[List.getD_eq_getElem?_getD,List.getElem?_eq_getElem g]
   rfl
  obtain⟨k,i,u,a,e,d,h1,j,h3⟩:=Ou b l w md id up (c[r.toNat]) (p+1) m hi hu (z _ (List.getElem_mem g)) hR
  refine⟨k,i,u,a,e,d,?_,j,h3⟩
  refine Ev.step (λn=>by simp only[Av.j0];rfl) ?_
  refine Ao (by simp) (Ev.bind A (Ao B (Ao t ?_)))
  rw[q]
  exact h1
 | false =>
  obtain⟨k,i,u,a,e,d,h1,j,h3⟩:=Ou b l w md id up at_ p m hi hu y (v.less (by omega))
  refine⟨k,i,u,a,e,d,?_,j,h3⟩
  refine Ev.step (λn=>by simp only[Av.j0];rfl) ?_
  exact AE (by decide) h1
theorem M2(b:List Int)(y:Bytes b)(t:List Ba)(B w md p:Int)(m:Nat)(hI:Inv t B)(hl:t.length≤1000000)(hp:Rd p (m+17)) :
  ∃(k i u a:Int) (v:ByteArray) (l:Int),Ev (λn=>Av.f n b p t w md) (k,i,u,a,v,l)∧Pz k i u a v∧Rd l m:=by
 obtain⟨x,L,_⟩:=hI.found;have h0:0<t.length:=List.length_pos_of_mem L;obtain⟨r,T,hR,Y,I,_⟩:=C8 b p (t.length:Int) (m+16) y hp;have I:=I (by omega);obtain⟨q,P,O,X,G,_⟩:=C8 b (p+1) (t.length:Int) (m+15) y hR;have G:=G (by omega);obtain⟨D,rfl⟩:∃n:Nat,r=n:=⟨r.toNat,by omega⟩
 obtain⟨o,rfl⟩:∃n:Nat,q=n:=⟨q.toNat,by omega⟩
 have g:D<t.length:=by omega
 have d:o<t.length:=by omega
 have W:=(hI.ids _ (List.getElem_mem g)).1;have U:=(hI.ids _ (List.getElem_mem d)).1;obtain⟨E,A,aa,K⟩:=MW t t[o].f0 hl
 have c:∀x∈E,EG x:=λx L=>by
  obtain⟨_,_,_,j,hj,_,_,e,_⟩:=K x L
  rw[<-e]
  exact(hI.ids _ (List.getElem_mem hj)).1
 by_cases hz:(E.length:Int)>0
 ·obtain⟨z,M,Z,_,_,_⟩:=C8 b (p+1+1) 2 (m+14) y O;obtain⟨k,i,u,a,v,l,h1,J,h3⟩:=Ot b y w md t[D].f0 t[o].f0 0 E (z==0) (p+1+1+1) m W U (Bl (by omega) (by omega)) c (λ_=>by omega) Z;refine⟨k,i,u,a,v,l,?_,J,h3⟩;unfold Av.f;refine Ev.bind T (Ao Y (Ao I (Ev.bind P (Ao X (Ao G ?_)))));simp only[CF t D g,CF t o d];exact Ev.bind A (Ao hz (Ev.bind M h1))
 obtain⟨k,i,u,a,v,l,h1,J,h3⟩:=Ot b y w md t[D].f0 t[o].f0 0 E false (p+1+1) m W U (Bl (by omega) (by omega)) c (λh=>by cases h) (O.less (by omega));refine⟨k,i,u,a,v,l,?_,J,h3⟩;unfold Av.f;refine Ev.bind T (Ao Y (Ao I (Ev.bind P (Ao X (Ao G ?_)))));simp only[CF t D g,CF t o d];exact Ev.bind A (AE hz h1)
def N8(e:AM):Prop:=EG e.f0∧EG e.f1∧EG e.f2.f0∧EG e.f2.f1∧EG e.f2.f2∧EG e.f2.f3∧e.f2.f4.size≤9223372036854775807
def GK(e:AM):Bool :=
 decide (1≤e.f0)&&decide (e.f0≤3)&&(decide (1≤e.f1)&&decide (e.f1≤40))&&Kp e.f2.f0 e.f2.f1 e.f2.f2 e.f2.f3 e.f2.f4&&(decide (e.f2.f0≠1) || decide (EV e.f2.f1-1=e.f0))
theorem Np(i:Int)(h:DF i=true):EV i-1=wrap64 (Int.tdiv i 10):=by
 obtain⟨h0,h1⟩:=GN i h;obtain⟨n,rfl⟩:∃n:Nat,i=n:=⟨i.toNat,by omega⟩
 rw[Je _ ⟨by omega,by omega⟩];exact L8 n (by omega) h
theorem P3(e:AM)(h:N8 e):Ev (λn=>Da.f n e.f0 e.f1 e.f2.f0 e.f2.f1 e.f2.f2 e.f2.f3 e.f2.f4) (GK e):=by
 obtain⟨h0,h1,o,h3,h4,p,j⟩:=h;unfold Da.f Cw.f GK;by_cases b:e.f0≥1
 ·simp only[b,if_true,Option.bind_some,ge_iff_le,decide_true,Bool.true_and];cases a2:decide (e.f0≤3)with
  | false=>simp only[Bool.false_eq_true,if_false,Bool.false_and];exact AW _
  | true =>
   simp only[if_true,Bool.true_and]
   by_cases a:e.f1<1
   ·have:decide (1≤e.f1)=false:=C1 (by omega)
    simp only[a,if_true,this,Bool.false_and];exact AW _
   ·have g:decide (1≤e.f1)=true:=BJ (by omega)
    by_cases c:e.f1>40
    ·have:decide (e.f1≤40)=false:=C1 (by omega)
     simp only[a,if_false,c,if_true,this,Bool.and_false,Bool.false_and];exact AW _
    ·have i:decide (e.f1≤40)=true:=BJ (by omega)
     simp only[a,if_false,c,g,i,Bool.true_and]
     refine Ev.bind (Pj _ _ _ _ _ j) ?_
     cases l:Kp e.f2.f0 e.f2.f1 e.f2.f2 e.f2.f3 e.f2.f4 with
     | false=>simp only[Bool.false_eq_true,if_false,Bool.false_and];exact AW _
     | true =>
      simp only[if_true,Bool.true_and]
      have hm:=Iu _ _ _ _ _ l
      unfold Cj.f
      have k:EV e.f2.f1≠0:=by
       intro hz
       unfold DF at hm
       rw[hz]at hm
       simp at hm
      rw[if_neg k]
      simp only[Option.bind_some]
      by_cases d:e.f2.f0=1
      ·simp only[d,if_true,ne_eq,not_true,decide_false,Bool.false_or]
       have:(EV e.f2.f1-1==e.f0)=decide (EV e.f2.f1-1=e.f0):=by by_cases m:EV e.f2.f1-1=e.f0 <;> simp[m]
       rw[this];exact AW _
      ·simp only[d,if_false,ne_eq,not_false_eq_true,decide_true,Bool.true_or];exact AW _
 have:decide (1≤e.f0)=false:=C1 (by omega);simp only[b,if_false,Option.bind_some,Bool.false_eq_true,this,Bool.false_and];exact AW _
theorem KM(e:AM)(h:N8 e):Ev (λn=>Bv.f n e.f0 e.f1 e.f2.f0 e.f2.f1 e.f2.f2 e.f2.f3 e.f2.f4) (GK e):=by
 obtain⟨h0,h1,i,h3,h4,b,c⟩:=h;unfold Bv.f GK;rw[Hw,Hw];simp only[Option.bind_some];cases (decide (1≤e.f0)&&decide (e.f0≤3))with
 | false=>simp only[Bool.false_eq_true,if_false,Bool.false_and];exact AW _
 | true =>
  cases (decide (1≤e.f1)&&decide (e.f1≤40))with
  | false=>simp only[Bool.false_eq_true,if_true,if_false,Bool.true_and,Bool.false_and];exact AW _
  | true =>
   simp only[if_true,Bool.true_and]
   refine Ev.bind (Qk _ _ _ _ _ h3 h4 b c) ?_
   cases d:Kp e.f2.f0 e.f2.f1 e.f2.f2 e.f2.f3 e.f2.f4 with
   | false=>simp only[Bool.false_eq_true,if_false,Bool.false_and];exact AW _
   | true =>
    simp only[if_true,Bool.true_and]
    have hm:=Np _ (Iu _ _ _ _ _ d)
    by_cases a:e.f2.f0=1
    ·simp only[a,if_true,ne_eq,not_true,decide_false,Bool.false_or]
     have:(wrap64 (Int.tdiv e.f2.f1 10)==e.f0)=decide (EV e.f2.f1-1=e.f0):=by rw[hm];by_cases g:wrap64 (Int.tdiv e.f2.f1 10)=e.f0 <;> simp[g]
     rw[this];exact AW _
    ·simp only[a,if_false,ne_eq,not_false_eq_true,decide_true,Bool.true_or];exact AW _
def Fg(l:List AM)(CL:Int):Int:=(l.countP λe=>e.f0==CL:Nat)
theorem K_(l:List AM)(CL:Int):0≤Fg l CL∧Fg l CL≤l.length:=by unfold Fg;have:=List.countP_le_length (p:=λe:AM=>e.f0==CL) (l:=l);omega
def PD:List AM->List AM->Bool
 | _,[]=>true
 | pre,e::rest=>GK e&&decide (Fg pre e.f0+1=e.f1)&&PD (pre++[e]) rest
def LU(l:List AM):Bool:=decide (l.length≤40)&&PD [] l
def Kn(l:List AM):Prop:=∀e∈l,N8 e
theorem EY(l:List AM)(i:Nat)(h:i<l.length):Aa l i=l[i]:=by unfold Aa;rw[List.getD_eq_getElem?_getD,show((i:Int)).toNat=i from rfl,List.getElem?_eq_getElem h];rfl
theorem KN(l:List AM)(CL:Int)(hl:l.length≤281474976710656):∀(n:Nat) (i:Nat) (c:Int),i+n=l.length->0≤c->c≤i->Ev (λk=>Be.l0 k l CL c i) (c+Fg (l.drop i) CL)
 | 0,i,c,h,h0,h1=>by
  refine Ev.step (f:=λ_=>some c) (λk=>?_) ?_
  ·simp only[Be.l0];rw[if_neg (by omega)]
  ·have:c+Fg (l.drop i) CL=c:=by rw[List.drop_eq_nil_of_le (by omega)];unfold Fg;simp
   rw[this];exact AW _
 | n+1,i,c,h,h0,h1=>by
  have hi:i<l.length:=by omega
  have d:=List.drop_eq_getElem_cons hi
  have b:Fg (l.drop i) CL=Fg (l.drop (i+1)) CL+(if l[i].f0=CL then 1 else 0):=by
   rw[d]
   unfold Fg
   rw[List.countP_cons]
   by_cases a:l[i].f0=CL <;> simp[a]
  rw[b]
  by_cases a:l[i].f0=CL
  ·rw[if_pos a,show c+(Fg (l.drop (i+1)) CL+1)=(c+1)+Fg (l.drop (i+1)) CL by omega]
   refine Ev.step (λk=>?_) (KN l CL hl n (i+1) (c+1) (by omega) (by omega) (by omega))
   simp only[Be.l0]
   rw[if_pos (by omega),if_pos (by omega),EY l i hi,if_pos a,ET i (by omega) (by omega),ET c (by omega) (by omega)]
   rfl
  ·rw[if_neg a,Int.add_zero]
   refine Ev.step (λk=>?_) (KN l CL hl n (i+1) c (by omega) (by omega) (by omega))
   simp only[Be.l0]
   rw[if_pos (by omega),if_pos (by omega),EY l i hi,if_neg a,ET i (by omega) (by omega)]
   rfl
theorem M_(l:List AM)(CL:Int)(hl:l.length≤281474976710656):Ev (λk=>Be.f k l CL) (Fg l CL):=by have:=KN l CL hl l.length 0 0 (by omega) (by omega) (by omega);rw[Int.zero_add]at this;exact this
theorem Lr(l:List AM)(h:Kn l)(hl:l.length≤281474976710656):∀(n:Nat) (i:Nat),i+n=l.length->Ev (λk=>Bm.l0 k l i) (PD (l.take i) (l.drop i)&&decide (l.length≤40))
 | 0,i,c=>by
  rw[List.drop_eq_nil_of_le (by omega)]
  refine Ev.step (f:=λ_=>some (decide ((l.length:Int)≤40))) (λk=>?_) ?_
  ·simp only[Bm.l0];rw[if_neg (by omega)]
  ·have:decide ((l.length:Int)≤40)=(PD (l.take i) []&&decide (l.length≤40)):=by unfold PD;simp;omega
   rw[this];exact AW _
 | n+1,i,c=>by
  have hi:i<l.length:=by omega
  rw[List.drop_eq_getElem_cons hi]
  unfold PD
  rw[<-List.take_succ_eq_append_getElem hi]
  refine Ev.step (f:=λk=>(Bv.f k l[i].f0 l[i].f1 l[i].f2.f0 l[i].f2.f1 l[i].f2.f2 l[i].f2.f3 l[i].f2.f4).bind λt127=>(if t127=true then((Be.f k (l.take i) l[i].f0).bind λt134=>(if l[i].f1=(wrap64 (t134+1))then(Bm.l0 k l ((i+1:Nat):Int))else(some false)))else(some false))) (λk=>?_) ?_
  ·simp only[Bm.l0]
   rw[if_pos (by omega),if_pos (by omega),EY l i hi,if_pos (by omega),ET i (by omega) (by omega)]
   rfl
  ·refine Ev.bind (KM _ (h _ (List.getElem_mem hi))) ?_
   cases GK l[i]with
   | false=>simp only[Bool.false_eq_true,if_false,Bool.false_and];exact AW _
   | true =>
    simp only[if_true,Bool.true_and]
    refine Ev.bind (M_ (l.take i) l[i].f0 (by rw[List.length_take];omega)) ?_
    have a:=K_ (l.take i) l[i].f0
    have hw:wrap64 (Fg (l.take i) l[i].f0+1)=Fg (l.take i) l[i].f0+1:=ET _ a.1 (by have:=a.2;rw[List.length_take]at this;omega)
    rw[hw]
    by_cases b:Fg (l.take i) l[i].f0+1=l[i].f1
    ·rw[BJ b,Bool.true_and]
     refine Ao b.symm ?_
     exact Lr l h hl n (i+1) (by omega)
    ·rw[C1 b,Bool.false_and,Bool.false_and]
     refine AE (λe=>b e.symm) ?_
     exact AW _
theorem Po(l:List AM)(h:Kn l)(hl:l.length≤281474976710656):Ev (λk=>Bm.f k l) (LU l):=by have:=Lr l h hl l.length 0 (by omega);unfold LU;rw[Bool.and_comm];exact this
theorem MX{l:List AM}(h:LU l=true):l.length≤40:=by unfold LU at h;simp only[Bool.and_eq_true,decide_eq_true_eq]at h;exact h.1
def Bj{α:Type}(f:Nat->Option α)(P:α->Prop):Prop:=∃r,Ev f r∧P r
section
variable {α β:Type} {f g:Nat->Option α} {P Q:α->Prop}
theorem Bj.now{a:α}(h:P a):Bj (λ_=>some a) P:=⟨a,AW a,h⟩
theorem Bj.of{a:α}(h:Ev f a)(p:P a):Bj f P:=⟨a,h,p⟩
theorem Bj.step(h:∀k,g (k+1)=f k)(t:Bj f P):Bj g P:=let⟨r,h1,a⟩:=t;⟨r,Ev.step h h1,a⟩
theorem Bj.pos{c:Prop}[Decidable c](h:c)(t:Bj f P):Bj (λk=>if c then f k else g k) P:=let⟨r,h1,a⟩:=t;⟨r,Ao h h1,a⟩
theorem Bj.neg{c:Prop}[Decidable c](h:¬ c)(t:Bj g P):Bj (λk=>if c then f k else g k) P:=let⟨r,h1,a⟩:=t;⟨r,AE h h1,a⟩
theorem Bj.ite{c:Prop}[Decidable c](h1:c->Bj f P)(a:¬ c->Bj g P):Bj (λk=>if c then f k else g k) P:=by
 by_cases h:c
 ·exact Bj.pos h (h1 h)
 exact Bj.neg h (a h)
theorem Bj.bind{f:Nat->Option β}{P:β->Prop}{g:Nat->β->Option α}(t:Bj f P)(h:∀r,P r->Bj (λk=>g k r) Q):Bj (λk=>(f k).bind (g k)) Q:=by obtain⟨r,h1,a⟩:=t;obtain⟨s,h3,h4⟩:=h r a;exact⟨s,Ev.bind h1 h3,h4⟩
end
structure JQ (t:List Ba) (n:Nat):Prop where
 root:∀x∈t,x.f0=3->x.f1=0
 found:∃x∈t,x.f0=3
 ids:∀x∈t,EG x.f0∧x.f2.size≤2000
 uq:Uq t
 ch:GI (-1) t
 len:t.length≤n
theorem JQ.inv{t:List Ba}{n:Nat}(h:JQ t n):Inv t (n:Int) :=
 ⟨λx a=>by have:=K9 t (-1) h.ch x a;have:=h.len;omega,h.root,h.found,h.ids⟩
theorem NW{k i u a:Int}{s:ByteArray}(h:Kp k i u a s=true):(k=1∨k=2∨k=3)∧Fl s=true:=by
 unfold Kp at h;by_cases h1:k=1
 ·rw[if_pos h1]at h;simp only[Bool.and_eq_true]at h;exact⟨Or.inl h1,h.2.2⟩
 by_cases b:k=2
 ·rw[if_neg h1,if_pos b]at h;simp only[Bool.and_eq_true]at h;exact⟨Or.inr (Or.inl b),h.2.2⟩
 by_cases h3:k=3
 ·rw[if_neg h1,if_neg b,if_pos h3]at h;simp only[Bool.and_eq_true]at h;exact⟨Or.inr (Or.inr h3),Kl s h.2.2⟩
 rw[if_neg h1,if_neg b,if_neg h3]at h;simp at h
theorem KR{s:ByteArray}(h:Fl s=true):s.size≤4:=by unfold Fl at h;rw[Bool.and_eq_true,decide_eq_true_eq]at h;exact h.2
theorem JQ.do{t:List Ba}{n:Nat}(h:JQ t n)(o:n≤1000){k i u a:Int}{s:ByteArray}(d:Kp k i u a s=true):Bj (λm=>Bz.f m t k i u a s) (λc=>JQ c (n+1)):=by obtain⟨j,l⟩:=NW d;have hm:=Iu _ _ _ _ _ d;have hs:=GN _ hm;have hl:=h.len;obtain⟨c,h1,b,h3,h4⟩:=P2 t n k i u a s h.inv (by omega) (by omega) j (JF hm) (Bl (by omega) (by omega)) (by omega) (by have:=KR l;omega);obtain⟨e,g⟩:=h4 h.uq h.ch;exact⟨c,h1,b.root,b.found,b.ids,e,g,by omega⟩
theorem Jg(l:List AM)(hl:l.length≤500)(b:∀e∈l,Kp e.f2.f0 e.f2.f1 e.f2.f2 e.f2.f3 e.f2.f4=true):∀(m i:Nat) (t:List Ba) (n:Nat),i+m=l.length->n+m≤1000->JQ t n->Bj (λk=>Cb.l0 k t l i) (λT=>JQ T (n+m))
 | 0,i,t,n,h,d,a=>by
  have:=a.len
  refine Bj.step (λk=>by simp only[Cb.l0];rfl) ?_
  simp only[Option.bind_some,List.nil_append,List.length_nil]
  exact Bj.neg (by omega) (Bj.pos (by omega) (Bj.now a))
 | m+1,i,t,n,h,d,a=>by
  have hi:i<l.length:=by omega
  refine Bj.step (λk=>by simp only[Cb.l0];rfl) ?_
  rw[EY l i hi,ET i (by omega) (by omega)]
  refine Bj.pos (by omega) (Bj.pos (by omega) (Bj.bind (a.do (by omega) (b _ (List.getElem_mem hi))) (λT c=>?_)))
  have:=Jg l hl b m (i+1) T (n+1) (by omega) (by omega) c
  rw[show n+1+m=n+(m+1) by omega]at this
  exact this
theorem Nl{l:List AM}(hl:l.length≤500)(a:∀e∈l,Kp e.f2.f0 e.f2.f1 e.f2.f2 e.f2.f3 e.f2.f4=true){t:List Ba}{n:Nat}(c:n≤500)(b:JQ t n):Bj (λk=>Cb.f k t l) (λT=>JQ T (n+l.length)):=by unfold Cb.f;exact Jg l hl a l.length 0 t n (by omega) (by omega) b
end Go.Proofs.YtlhlpfnljglhoaaDoor.PL
namespace Go.Proofs.YtlhlpfnljglhoaaDoor.PL
open Go.RowKit Go.Proofs.YtlhlpfnljglhoaaDoor.P Go.Proofs.YtlhlpfnljglhoaaDoorW.PrintWords Go.Proofs.YtlhlpfnljglhoaaDoorW.Bc
theorem Fv(x:Int):EG (wrap64 x):=by unfold wrap64;exact⟨by omega,by omega⟩
def PA(k i u a:Int)(s:ByteArray):Prop:=EG k∧EG i∧EG u∧EG a∧s.size≤2000
theorem KF(b:List Int)(q:Bytes b)(k i u a p:Int)(s:ByteArray)(m:Nat)(h:PA k i u a s)(I:Rd p (m+2)) :
  ∃(z i' D a':Int) (B:ByteArray) (A:Int),Ev (λn=>AY.j1 n b p k i u a s) (z,i',D,a',B,A)∧PA z i' D a' B∧Rd A m:=by
 obtain⟨h1,j,h3,h4,d⟩:=h;obtain⟨r,e,hR,M,O,_⟩:=C8 b p 30 (m+1) q I;obtain⟨x,J,l,P,E,_⟩:=C8 b (p+1) 5 m q hR;obtain⟨y,t,L,T,G,_⟩:=C8 b (p+1) 50 m q hR;have E:=E (by omega);have G:=G (by omega);have K:EG x:=Bl (by omega) (by omega);have v:EG y:=Bl (by omega) (by omega);by_cases c:r=0
 ·refine⟨x,i,u,a,s,p+1+1,?_,⟨K,j,h3,h4,d⟩,l⟩;refine Ev.step (λn=>by simp only[AY.j1];rfl) ?_;exact Ev.bind e (Ao c (Ev.bind J (AW _)))
 by_cases g:r=1
 ·refine⟨k,y,u,a,s,p+1+1,?_,⟨h1,v,h3,h4,d⟩,l⟩;refine Ev.step (λn=>by simp only[AY.j1];rfl) ?_;exact Ev.bind e (AE c (Ao g (Ev.bind t (AW _))))
 by_cases o:r=2
 ·refine⟨k,i,y,a,s,p+1+1,?_,⟨h1,j,v,h4,d⟩,l⟩;refine Ev.step (λn=>by simp only[AY.j1];rfl) ?_;exact Ev.bind e (AE c (AE g (Ao o (Ev.bind t (AW _)))))
 by_cases w:r=3
 ·refine⟨k,i,u,y,s,p+1+1,?_,⟨h1,j,h3,v,d⟩,l⟩;refine Ev.step (λn=>by simp only[AY.j1];rfl) ?_;exact Ev.bind e (AE c (AE g (AE o (Ao w (Ev.bind t (AW _))))))
 refine⟨k,i,u,a,s,p+1,?_,⟨h1,j,h3,h4,d⟩,hR.less (by omega)⟩;refine Ev.step (λn=>by simp only[AY.j1];rfl) ?_;exact Ev.bind e (AE c (AE g (AE o (AE w (AW _)))))
theorem M4(b:List Int)(r:Bytes b)(up at_ w:Int)(f:Bool)(k i u a p:Int)(s:ByteArray)(m:Nat)(h:PA k i u a s)(hu:EG up)(y:EG at_)(t:Rd p (m+2)) :
  ∃(c i' g a':Int) (e:ByteArray) (d:Int),Ev (λn=>AY.j0 n up at_ w f b p k i u a s) (c,i',g,a',e,d)∧PA c i' g a' e∧Rd d m:=by
 obtain⟨h1,q,h3,h4,x⟩:=h;have j1:EG 1:=Bl (by omega) (by omega);have j3:EG 3:=Bl (by omega) (by omega);cases f with
 | true =>
  obtain⟨c,i',g,a',e,d,j,l,o⟩:=KF b r 1 i up at_ p s m ⟨j1,q,hu,y,x⟩ t
  refine⟨c,i',g,a',e,d,?_,l,o⟩
  refine Ev.step (λn=>by simp only[AY.j0];rfl) ?_
  exact Ao (by simp) j
 | false =>
  obtain⟨c,i',g,a',e,d,j,l,o⟩:=KF b r 3 i up at_ p ⟨#[]⟩ m ⟨j3,q,hu,y,by decide⟩ t
  by_cases v:w=2
  ·refine⟨c,i',g,a',e,d,?_,l,o⟩
   refine Ev.step (λn=>by simp only[AY.j0];rfl) ?_
   exact AE (by decide) (Ao v j)
  ·by_cases z:w=3
   ·refine⟨c,i',g,a',e,d,?_,l,o⟩
    refine Ev.step (λn=>by simp only[AY.j0];rfl) ?_
    exact AE (by decide) (AE v (Ao z j))
   ·obtain⟨c,i',g,a',e,d,j,l,o⟩:=KF b r k i u a p s m ⟨h1,q,h3,h4,x⟩ t
    refine⟨c,i',g,a',e,d,?_,l,o⟩
    refine Ev.step (λn=>by simp only[AY.j0];rfl) ?_
    exact AE (by decide) (AE v (AE z j))
theorem M9(l:List Int)(r:Int)(h0:0≤r)(h1:r<l.length):rd l r∈l:=by
 have hi:r.toNat<l.length:=by omega
 unfold rd;rw[List.getD_eq_getElem?_getD,List.getElem?_eq_getElem hi];exact List.getElem_mem hi
theorem M1(b:List Int)(c:Bytes b)(p:Int)(m:Nat)(Z:Rd p (m+17)) :
  ∃(k i u a:Int) (s:ByteArray) (d:Int),Ev (λn=>AY.f n b p) (k,i,u,a,s,d)∧PA k i u a s∧Rd d m:=by
 obtain⟨i,p1,hi,P,i0,i1⟩:=J2 b p (m+15) c Z;obtain⟨s,p2,hs,T,s0⟩:=Ld b p1 (m+9) c P;obtain⟨u,O,hu,U,u0,u1⟩:=J2 b p2 (m+7) c T;obtain⟨x,J,W,A,e,_⟩:=C8 b O 5 (m+6) c U;have e:=e (by omega);obtain⟨v,j,I,X,v0,v1⟩:=J2 b (O+1) (m+4) c W;obtain⟨y,K,Y,B,g,_⟩:=C8 b j 2 (m+3) c X;have g:=g (by omega);obtain⟨z,hz,D,z0,z1,_⟩:=C8 b (j+1) 5 (m+2) c Y;have M:EG (rd ([1,1,u,2,3]:List Int) x):=by have:=M9 ([1,1,u,2,3]:List Int) x A (by simpa using e);simp only[List.mem_cons,List.not_mem_nil,or_false]at this;exact Bl (by omega) (by omega)
 have L:EG (rd ([0,v]:List Int) y):=by have:=M9 ([0,v]:List Int) y B (by simpa using g);simp only[List.mem_cons,List.not_mem_nil,or_false]at this;exact Bl (by omega) (by omega)
 have G:PA 2 i 0 0 s:=⟨Bl (by omega) (by omega),Bl (by omega) (by omega),Bl (by omega) (by omega),Bl (by omega) (by omega),by omega⟩
 unfold AY.f;by_cases E:z=0
 ·obtain⟨r,i',w,a',t,d,l,o,q⟩:=M4 b c _ _ z (z==0) 2 i 0 0 (j+1+1) s m G M L D;refine⟨r,i',w,a',t,d,?_,o,q⟩;refine Ev.bind hi (Ev.bind hs (Ev.bind hu ?_));simp only[Option.bind_some];refine Ev.bind J (Ao A (Ao (by simpa using e) (Ev.bind I ?_)));refine Ev.bind K (Ao B (Ao (by simpa using g) (Ev.bind hz (Ao E l))))
 obtain⟨r,i',w,a',t,d,l,o,q⟩:=M4 b c _ _ z (z==1) 2 i 0 0 (j+1+1) s m G M L D;refine⟨r,i',w,a',t,d,?_,o,q⟩;refine Ev.bind hi (Ev.bind hs (Ev.bind hu ?_));simp only[Option.bind_some];refine Ev.bind J (Ao A (Ao (by simpa using e) (Ev.bind I ?_)));refine Ev.bind K (Ao B (Ao (by simpa using g) (Ev.bind hz (AE E l))))
theorem Ge{l:List AM}(h:Kn l){e:AM}(he:N8 e):Kn (l++[e]):=by
 intro x a;rcases List.mem_append.1 a with a|a
 ·exact h x a
 rw[List.mem_singleton.1 a];exact he
theorem NT(b:List Int)(c:Bytes b)(l:List AM)(t:List Ba)(md:List Int)(p:Int)(m:Nat)(hw:Kn l)(hl:l.length≤20)(O:Rd p (m+20)) :
  ∃(l':List AM) (o:Int),Ev (λk=>AQ.l0 k l t md 0 b p) (l',o)∧Kn l'∧l'.length≤21∧Rd o m:=by
 obtain⟨r,g,hR,r0,r1,_⟩:=C8 b p 24 (m+19) c O;by_cases d:r=0
 ·obtain⟨x,B,w,I,q,_⟩:=C8 b (p+1) 3 (m+18) c hR;obtain⟨y,D,z,y0,E,_⟩:=C8 b (p+1+1) 4 (m+17) c w;obtain⟨k,i,u,a,s,o,h1,⟨J,K,L,M,g5⟩,h3⟩:=M1 b c (p+1+1+1) m z;refine⟨l++[⟨wrap64 (1+x),wrap64 (1+y),⟨k,i,u,a,s⟩⟩],o,?_,Ge hw ⟨Fv _,Fv _,J,K,L,M,by show s.size≤_;omega⟩,by simp;omega,h3⟩;refine Ev.step (λn=>by simp only[AQ.l0];rfl) ?_;exact AE (by omega) (Ev.bind g (Ao d (Ev.bind B (Ev.bind D (Ev.bind h1 (Ao (by omega) (AW _)))))))
 by_cases v:r=1
 ·by_cases hz:(l.length:Int)>0
  ·obtain⟨x,B,w,I,q,_⟩:=C8 b (p+1) (l.length:Int) (m+18) c hR;obtain⟨y,D,z,y0,E,_⟩:=C8 b (p+1+1) 4 (m+17) c w;have q:=q (by omega);have E:=E (by omega);obtain⟨j,rfl⟩:∃n:Nat,x=n:=⟨x.toNat,by omega⟩
   have G:j<l.length:=by omega
   have A:=hw _ (List.getElem_mem G);refine⟨l.set j ⟨l[j].f0,y,⟨l[j].f2.f0,l[j].f2.f1,l[j].f2.f2,l[j].f2.f3,l[j].f2.f4⟩⟩,p+1+1+1,?_,?_,by rw[List.length_set];omega,z.less (by omega)⟩
   ·refine Ev.step (λn=>by simp only[AQ.l0];rfl) ?_;refine AE (by omega) (Ev.bind g (AE d (Ao v (Ao hz (Ev.bind B (Ev.bind D (Ao I (Ao q ?_))))))));simp only[EY l j G,Int.toNat_natCast];exact AW _
   intro e he;rcases List.mem_or_eq_of_mem_set he with he|rfl
   ·exact hw e he
   obtain⟨T,q1,U,W,X,Y,Z⟩:=A;have P:EG y:=Bl (by omega) (by omega);exact⟨T,P,U,W,X,Y,Z⟩
  refine⟨l,p+1,?_,hw,by omega,hR.less (by omega)⟩;refine Ev.step (λn=>by simp only[AQ.l0];rfl) ?_;exact AE (by omega) (Ev.bind g (AE d (Ao v (AE hz (AW _)))))
 refine⟨l,p+1,?_,hw,by omega,hR.less (by omega)⟩;refine Ev.step (λn=>by simp only[AQ.l0];rfl) ?_;exact AE (by omega) (Ev.bind g (AE d (AE v (AW _))))
theorem KE(b:List Int)(g:Bytes b):∀(n:Nat) (l:List AM) (t:List Ba) (B:Nat) (md:List Int) (p:Int) (m:Nat),Kn l->l.length+n≤20->Inv t B->(B+1)*2 ^ n≤16384->t.length+n≤100->md.length=3->Rd p (m+18*n+20) ->
  ∃(l':List AM) (v:Int),Ev (λk=>AQ.l0 k l t md n b p) (l',v)∧Kn l'∧l'.length≤21∧Rd v m
 | 0,l,t,B,md,p,m,hw,hl,hI,hB,W,hm,z=>NT b g l t md p m hw (by omega) (z.less (by omega))
 | n+1,l,t,B,md,p,m,hw,hl,hI,hB,W,hm,z=>by
  obtain⟨r,I,hR,J,K,_⟩:=C8 b p 3 (m+18*n+37) g (z.less (by omega))
  have K:=K (by omega)
  have w1:wrap64 (1+r)=1+r:=AP _ (by omega) (by omega)
  have L:wrap64 (1+r-1)=r:=by rw[AP _ (by omega) (by omega)];omega
  obtain⟨k,i,u,a,s,v,h1,⟨G,x,E,M,O,P⟩,h3⟩:=M2 b g t B (1+r) (rd md r) (p+1) (m+18*n+20) hI (by omega) hR
  have T:B+1≤16384:=Nat.le_trans (Nat.le_mul_of_pos_right _ (Nat.two_pow_pos _)) hB
  obtain⟨A,j,w,U,_⟩:=P2 t B k i u a s hI (by omega) (by omega) G x E (by omega) P
  have d:Inv A ((2*B+1:Nat):Int):=w.more (by omega)
  have c:(2*B+1+1)*2 ^ n≤16384:=by
   have e:(2*B+1+1)*2 ^ n=(B+1)*2 ^ (n+1):=by rw[Nat.pow_succ,show 2*B+1+1=(B+1)*2 by omega,Nat.mul_assoc,Nat.mul_comm 2]
   rw[e];exact hB
  have hs:=M_ l (1+r) (by omega)
  have y:EG k:=by rcases G with rfl|rfl|rfl <;> exact Bl (by omega) (by omega)
  have X:EG (1+r):=Bl (by omega) (by omega)
  have o:N8 (⟨1+r,wrap64 (Fg l (1+r)+1),⟨k,i,u,a,s⟩⟩:AM):=⟨X,Fv _,y,E,M,O,by show s.size≤_;omega⟩
  have wn:wrap64 (((n+1:Nat):Int)-1)=n:=by rw[AP _ (by omega) (by omega)];omega
  by_cases D:k=1
  ·obtain⟨l',q,f1,f2,f3,f4⟩:=KE b g n (l++[⟨1+r,wrap64 (Fg l (1+r)+1),⟨k,i,u,a,s⟩⟩]) A (2*B+1) (md.set r.toNat (wrap64 (rd md r+1))) v m (Ge hw o) (by simp;omega) d c (by omega) (by rw[List.length_set];exact hm) h3
   refine⟨l',q,?_,f2,f3,f4⟩
   refine Ev.step (λn=>by simp only[AQ.l0];rfl) ?_
   refine Ao (by omega) (Ev.bind I ?_)
   simp only[w1,L]
   refine Ao J (Ao (by omega) (Ev.bind h1 (Ao D (Ev.bind hs (Ao (by omega) (Ev.bind j ?_))))))
   rw[wn]
   exact f1
  ·obtain⟨l',q,f1,f2,f3,f4⟩:=KE b g n (l++[⟨1+r,wrap64 (Fg l (1+r)+1),⟨k,i,u,a,s⟩⟩]) A (2*B+1) md v m (Ge hw o) (by simp;omega) d c (by omega) hm h3
   refine⟨l',q,?_,f2,f3,f4⟩
   refine Ev.step (λn=>by simp only[AQ.l0];rfl) ?_
   refine Ao (by omega) (Ev.bind I ?_)
   simp only[w1,L]
   refine Ao J (Ao (by omega) (Ev.bind h1 (AE D (Ev.bind hs (Ao (by omega) (Ev.bind j ?_))))))
   rw[wn]
   exact f1
theorem NS(b:List Int)(g:Bytes b)(p:Int)(m:Nat)(o:Rd p (m+300)):∃(l:List AM) (d:Int),Ev (λk=>AQ.f k b p) (l,d)∧Kn l∧l.length≤21∧Rd d m:=by
 obtain⟨r,q,hR,t,i,_⟩:=C8 b p 14 (m+299) g o;have i:=i (by omega);obtain⟨n,rfl⟩:∃n:Nat,r=n:=⟨r.toNat,by omega⟩
 have hI:Inv ([⟨1,0,⟨#[]⟩⟩,⟨2,0,⟨#[]⟩⟩,⟨3,0,⟨#[]⟩⟩]:List Ba) ((0:Nat):Int):=by
  refine⟨λx a=>?_,λx a h3=>?_,⟨⟨3,0,⟨#[]⟩⟩,by simp,rfl⟩,λx a=>?_⟩;all_goals simp only[List.mem_cons,List.not_mem_nil,or_false]at a
  ·rcases a with rfl|rfl|rfl <;> exact⟨Int.le_refl _,Int.le_refl _⟩
  ·rcases a with rfl|rfl|rfl <;> rfl
  rcases a with rfl|rfl|rfl <;> exact⟨Bl (by decide) (by decide),by decide⟩
 have c:(0+1)*2 ^ n≤16384:=by have:2 ^ n≤2 ^ 14:=Nat.pow_le_pow_right (by decide) (by omega);omega
 obtain⟨l,d,h1,j,h3,h4⟩:=KE b g n [] _ 0 [0,0,0] (p+1) m (λe he=>by cases he) (by simp;omega) hI c (by simp;omega) rfl (hR.less (by omega));refine⟨l,d,?_,j,h3,h4⟩;unfold AQ.f Dc.f;simp only[Option.bind_some];exact Ev.bind q h1
theorem Pk(code:List Int)(h:∀x∈code,0≤x∧x≤255):∃b:List Int,DI.f code=some (b,0)∧Bytes b:=by
 unfold DI.f;by_cases hl:(code.length:Int)>2000
 ·refine⟨code.take 2000,by rw[if_pos hl,if_pos (by omega)],by rw[List.length_take];omega,λx a=>h x (List.mem_of_mem_take a)⟩
 exact⟨code,by rw[if_neg hl],by omega,h⟩
end Go.Proofs.YtlhlpfnljglhoaaDoor.PL
