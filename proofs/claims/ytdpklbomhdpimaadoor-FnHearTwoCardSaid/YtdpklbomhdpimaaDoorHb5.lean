/- Joined by a program (wip/shake.py): the declarations that 'YtdpklbomhdpimaaDoorCardFnHearAgain' reaches. -/
import Derived.Test.YtdpklbomhdpimaaDoorHb4
set_option linter.unusedVariables false
set_option linter.unusedSimpArgs false
set_option linter.unusedSectionVars false
set_option maxHeartbeats 8000000
set_option maxRecDepth 100000
namespace Go.Proofs.YtdpklbomhdpimaaDoor.P
open Go.RowKit Go.Proofs.YtdpklbomhdpimaaDoorW.PrintWords Go.Proofs.YtdpklbomhdpimaaDoorW.PrintLast
theorem spec_l12Add.calls (k:Nat) (A0:Option Addr) (c0:Nat) (l0:List (S44)) (a1_0:Int) (a1_1:Int) (a1_2:Int) (a1_3:Int) (a1_4:Int) (a1_5:Int) (a1_6:ByteArray) (r1:List (S44)) (r2:Int) (w:World) (hr0:Kd.C k44 w A0 l0.length l0) (hc0:l0.length≤c0) (h:spec_l12Add.f k l0 a1_0 a1_1 a1_2 a1_3 a1_4 a1_5 a1_6=some (r1,r2)) :
  Calls Tryd.prog 91 #[.slice A0 l0.length c0,.agg #[.int .i64 a1_0,.int .i64 a1_1,.int .i64 a1_2,.int .i64 a1_3,.int .i64 a1_4,.int .i64 a1_5,.string a1_6]] w fun e w'=>∃ v0_:Value,e=.returned (.tuple #[v0_,.int .i64 r2])∧Out12 w.heap.size w' A0 c0 l0 v0_ r1 r2∧Below w.heap.size w w':=by
 have hu44:=Tryd.underlying44
 have HR0:=a_ hr0
 have HC0:=a_ hc0
 clear hr0 hc0
 have HB:=a_ (Below.refl w.heap.size w)
 unfold spec_l12Add.f at h
 have H:=h
 clear h
 replace H:=bs_ H
 obtain ⟨t149,A30,H⟩:=H
 try dsimp only at H
 have A3:=a_ A30
 clear A30
 replace H:=bs_ H
 obtain ⟨t150,A40,H⟩:=H
 try dsimp only at H
 have A4:=a_ A40
 clear A40
 by_cases c5:t150=true
 ·subst c5
  have H1:(some (l0,0))=some (r1,r2):=by rw [if_pos rfl] at H;exact H
  clear H
  have H:=H1
  clear H1
  simp only [Option.some.injEq,Prod.mk.injEq] at H
  obtain ⟨rfl,rfl⟩:=H
  go_enter Tryd.func91,Tryd.ntmps91
  go_wp2_with (first|((with_reducible refine gD_ (N:=3) rfl ?_);refine bx_ 3 (#[.int .i64 a1_0,.int .i64 a1_1,.int .i64 a1_2,.int .i64 a1_3,.int .i64 a1_4,.int .i64 a1_5,.string a1_6]) 44 ?_;intro gb148 hg w6 hbox hb;have n0_:=a_ (bS_ (bel_) hb);have n1_:=a_ (hbox);have n2_:=a_ ((by rw [hg];exact (below_size (bel_)):w.heap.size≤gb148));have n3_:=a_ ((by rw [hg];exact (below_size (bel_)):w.heap.size≤gb148));clear HB;have HB:=n0_;have BK148:=n1_;have GW148:=n2_;have GE148:=n3_;clear n0_ n1_ n2_ n3_;clear hb hbox hg;obtain ⟨Z7_0,Z7_1,Z7_2,Z7_3,Z7_4,Z7_5,Z7_6,Y7_0,Y7_1,Y7_2,Y7_3,Y7_4,Y7_5,Y7_6⟩:=op7_ BK148.out)|((with_reducible refine gC_ (f:=90) rfl ?_);refine gl_ 10 Tryd.func90 #[.slice A0 l0.length c0,.int .i64 a1_0] ?_;(with_reducible refine (spec_l12Seq.calls k _ _ l0 a1_0 t149 _ ?side1 ?side2 A3.out).mono ?_);(case side1=>exact cp_ HR0.out);(case side2=>exact HC0.out);rintro e w' ⟨rfl,⟨nd,rfl⟩⟩;refine ⟨_,rfl,?_⟩)|((with_reducible refine gC_ (f:=126) rfl ?_);refine gl_ 14 Tryd.func126 #[.slice A0 l0.length c0,.agg #[.int .i64 a1_0,.int .i64 a1_1,.int .i64 a1_2,.int .i64 a1_3,.int .i64 a1_4,.int .i64 a1_5,.string a1_6]] ?_;(with_reducible refine (spec_l12Has.calls k _ _ l0 a1_0 a1_1 a1_2 a1_3 a1_4 a1_5 a1_6 true _ ?side1 ?side2 A4.out).mono ?_);(case side1=>repeat (first|exact (Kd.C_below HR0.out (bel_))|(with_reducible refine Kd.C_alloc ?_ _)|(with_reducible refine Kd.C_drewN ?_ _)|(with_reducible refine Kd.C_drew ?_)));(case side2=>exact HC0.out);rintro e w8 ⟨rfl,hb⟩;refine ⟨_,rfl,?_⟩;replace HB:=a_ (bS_ (bel_) hb);replace BK148:=a_ (bb_ BK148.out hb);(try clear hb)))
  go_ret2
  exact ⟨_,fi_,Or.inr ⟨by decide,rfl,rfl⟩,bel_⟩
 ·replace c5:=Bool.eq_false_iff.mpr c5
  subst c5
  have H1:(if a1_1=(wrap64 (t149+1)) then (if (l0.length:Int)≥40 then (some (l0,(-1))) else ((some (([]:List (S44)):List (S44))).bind fun y151=>(if y151.length+l0.length < 2199023255552 then ((some (y151++l0:List (S44))).bind fun y154=>((some (([(⟨a1_0,a1_1,(⟨a1_2,a1_3,a1_4,a1_5,a1_6⟩:S42)⟩:S44)]:List (S44)):List (S44))).bind fun y157=>(if y154.length+y157.length < 2199023255552 then (some ((y154++y157),1)) else (none)))) else (none)))) else (some (l0,(-1))))=some (r1,r2):=by rw [if_neg (show ¬ (false=true) by decide)] at H;exact H
  clear H
  have H:=H1
  clear H1
  by_cases c9:a1_1=(wrap64 (t149+1))
  ·rw [if_pos c9] at H
   have c9b0:(a1_1==(wrap64 (t149+1)))=true:=beq_iff_eq.mpr c9
   have c9b1:(a1_1 != (wrap64 (t149+1)))=false:=be_ c9
   clear c9
   by_cases c10:(l0.length:Int)≥40
   ·rw [if_pos c10] at H
    have c10b0:decide (40≤(l0.length:Int))=true:=dt_ c10
    have c10b1:decide (40≤l0.length)=true:=dt_ (by omega)
    clear c10
    simp only [Option.some.injEq,Prod.mk.injEq] at H
    obtain ⟨rfl,rfl⟩:=H
    go_enter Tryd.func91,Tryd.ntmps91
    go_wp2_with (first|((with_reducible refine gD_ (N:=3) rfl ?_);refine bx_ 3 (#[.int .i64 a1_0,.int .i64 a1_1,.int .i64 a1_2,.int .i64 a1_3,.int .i64 a1_4,.int .i64 a1_5,.string a1_6]) 44 ?_;intro gb148 hg w11 hbox hb;have n0_:=a_ (bS_ (bel_) hb);have n1_:=a_ (hbox);have n2_:=a_ ((by rw [hg];exact (below_size (bel_)):w.heap.size≤gb148));have n3_:=a_ ((by rw [hg];exact (below_size (bel_)):w.heap.size≤gb148));clear HB;have HB:=n0_;have BK148:=n1_;have GW148:=n2_;have GE148:=n3_;clear n0_ n1_ n2_ n3_;clear hb hbox hg;obtain ⟨Z12_0,Z12_1,Z12_2,Z12_3,Z12_4,Z12_5,Z12_6,Y12_0,Y12_1,Y12_2,Y12_3,Y12_4,Y12_5,Y12_6⟩:=op7_ BK148.out)|((with_reducible refine gC_ (f:=90) rfl ?_);refine gl_ 10 Tryd.func90 #[.slice A0 l0.length c0,.int .i64 a1_0] ?_;(with_reducible refine (spec_l12Seq.calls k _ _ l0 a1_0 t149 _ ?side1 ?side2 A3.out).mono ?_);(case side1=>exact cp_ HR0.out);(case side2=>exact HC0.out);rintro e w' ⟨rfl,⟨nd,rfl⟩⟩;refine ⟨_,rfl,?_⟩)|((with_reducible refine gC_ (f:=126) rfl ?_);refine gl_ 14 Tryd.func126 #[.slice A0 l0.length c0,.agg #[.int .i64 a1_0,.int .i64 a1_1,.int .i64 a1_2,.int .i64 a1_3,.int .i64 a1_4,.int .i64 a1_5,.string a1_6]] ?_;(with_reducible refine (spec_l12Has.calls k _ _ l0 a1_0 a1_1 a1_2 a1_3 a1_4 a1_5 a1_6 false _ ?side1 ?side2 A4.out).mono ?_);(case side1=>repeat (first|exact (Kd.C_below HR0.out (bel_))|(with_reducible refine Kd.C_alloc ?_ _)|(with_reducible refine Kd.C_drewN ?_ _)|(with_reducible refine Kd.C_drew ?_)));(case side2=>exact HC0.out);rintro e w13 ⟨rfl,hb⟩;refine ⟨_,rfl,?_⟩;replace HB:=a_ (bS_ (bel_) hb);replace BK148:=a_ (bb_ BK148.out hb);(try clear hb);obtain ⟨Z14_0,Z14_1,Z14_2,Z14_3,Z14_4,Z14_5,Z14_6,Y14_0,Y14_1,Y14_2,Y14_3,Y14_4,Y14_5,Y14_6⟩:=op7_ BK148.out))
    go_ret2
    exact ⟨_,fi_,Or.inr ⟨by decide,rfl,rfl⟩,bel_⟩
   ·rw [if_neg c10] at H
    have c10b0:decide (40≤(l0.length:Int))=false:=df_ c10
    have c10b1:decide (40≤l0.length)=false:=df_ (by omega)
    clear c10
    obtain ⟨y151,hy151⟩:∃ y_:List (S44),y_=(([]:List (S44))):=⟨_,rfl⟩
    replace H:(if y151.length+l0.length < 2199023255552 then ((some (y151++l0:List (S44))).bind fun y154=>((some (([(⟨a1_0,a1_1,(⟨a1_2,a1_3,a1_4,a1_5,a1_6⟩:S42)⟩:S44)]:List (S44)):List (S44))).bind fun y157=>(if y154.length+y157.length < 2199023255552 then (some ((y154++y157),1)) else (none)))) else (none))=some (r1,r2):=by first|(rw [hy151];with_reducible exact H)|(have H2_:=(Option.bind_some _ _).symm.trans H;rw [hy151];with_reducible exact H2_)|(have H2_:=(Option.bind_some _ _).symm.trans H;with_reducible exact H2_)|with_reducible exact H|(rw [hy151];exact H)|exact H
    have Ny151:=a_ hy151
    clear hy151
    by_cases c15:y151.length+l0.length < 2199023255552
    ·rw [if_pos c15] at H
     have LMc15:=a_ c15
     clear c15
     obtain ⟨y154,hy154⟩:∃ y_:List (S44),y_=(y151++l0):=⟨_,rfl⟩
     replace H:((some (([(⟨a1_0,a1_1,(⟨a1_2,a1_3,a1_4,a1_5,a1_6⟩:S42)⟩:S44)]:List (S44)):List (S44))).bind fun y157=>(if y154.length+y157.length < 2199023255552 then (some ((y154++y157),1)) else (none)))=some (r1,r2):=by first|(rw [hy154];with_reducible exact H)|(have H2_:=(Option.bind_some _ _).symm.trans H;rw [hy154];with_reducible exact H2_)|(have H2_:=(Option.bind_some _ _).symm.trans H;with_reducible exact H2_)|with_reducible exact H|(rw [hy154];exact H)|exact H
     have Ny154:=a_ hy154
     clear hy154
     obtain ⟨y157,hy157⟩:∃ y_:List (S44),y_=(([(⟨a1_0,a1_1,(⟨a1_2,a1_3,a1_4,a1_5,a1_6⟩:S42)⟩:S44)]:List (S44))):=⟨_,rfl⟩
     replace H:(if y154.length+y157.length < 2199023255552 then (some ((y154++y157),1)) else (none))=some (r1,r2):=by first|(rw [hy157];with_reducible exact H)|(have H2_:=(Option.bind_some _ _).symm.trans H;rw [hy157];with_reducible exact H2_)|(have H2_:=(Option.bind_some _ _).symm.trans H;with_reducible exact H2_)|with_reducible exact H|(rw [hy157];exact H)|exact H
     have Ny157:=a_ hy157
     clear hy157
     by_cases c16:y154.length+y157.length < 2199023255552
     ·rw [if_pos c16] at H
      have LMc16:=a_ c16
      clear c16
      obtain ⟨y160,hy160⟩:∃ y_:List (S44),y_=(y154++y157):=⟨_,rfl⟩
      replace H:(some (y160,1))=some (r1,r2):=by first|(rw [hy160];with_reducible exact H)|(have H2_:=(Option.bind_some _ _).symm.trans H;rw [hy160];with_reducible exact H2_)|(have H2_:=(Option.bind_some _ _).symm.trans H;with_reducible exact H2_)|with_reducible exact H|(rw [hy160];exact H)|exact H
      have Ny160:=a_ hy160
      clear hy160
      simp only [Option.some.injEq,Prod.mk.injEq] at H
      obtain ⟨rfl,rfl⟩:=H
      go_enter Tryd.func91,Tryd.ntmps91
      try go_wp2_with (first|((with_reducible refine gD_ (N:=3) rfl ?_);refine bx_ 3 (#[.int .i64 a1_0,.int .i64 a1_1,.int .i64 a1_2,.int .i64 a1_3,.int .i64 a1_4,.int .i64 a1_5,.string a1_6]) 44 ?_;intro gb148 hg w17 hbox hb;have n0_:=a_ (bS_ (bel_) hb);have n1_:=a_ (hbox);have n2_:=a_ ((by rw [hg];exact (below_size (bel_)):w.heap.size≤gb148));have n3_:=a_ ((by rw [hg];exact (below_size (bel_)):w.heap.size≤gb148));clear HB;have HB:=n0_;have BK148:=n1_;have GW148:=n2_;have GE148:=n3_;clear n0_ n1_ n2_ n3_;clear hb hbox hg;obtain ⟨Z18_0,Z18_1,Z18_2,Z18_3,Z18_4,Z18_5,Z18_6,Y18_0,Y18_1,Y18_2,Y18_3,Y18_4,Y18_5,Y18_6⟩:=op7_ BK148.out)|((with_reducible refine gC_ (f:=90) rfl ?_);refine gl_ 10 Tryd.func90 #[.slice A0 l0.length c0,.int .i64 a1_0] ?_;(with_reducible refine (spec_l12Seq.calls k _ _ l0 a1_0 t149 _ ?side1 ?side2 A3.out).mono ?_);(case side1=>exact cp_ HR0.out);(case side2=>exact HC0.out);rintro e w' ⟨rfl,⟨nd,rfl⟩⟩;refine ⟨_,rfl,?_⟩)|((with_reducible refine gC_ (f:=126) rfl ?_);refine gl_ 14 Tryd.func126 #[.slice A0 l0.length c0,.agg #[.int .i64 a1_0,.int .i64 a1_1,.int .i64 a1_2,.int .i64 a1_3,.int .i64 a1_4,.int .i64 a1_5,.string a1_6]] ?_;(with_reducible refine (spec_l12Has.calls k _ _ l0 a1_0 a1_1 a1_2 a1_3 a1_4 a1_5 a1_6 false _ ?side1 ?side2 A4.out).mono ?_);(case side1=>repeat (first|exact (Kd.C_below HR0.out (bel_))|(with_reducible refine Kd.C_alloc ?_ _)|(with_reducible refine Kd.C_drewN ?_ _)|(with_reducible refine Kd.C_drew ?_)));(case side2=>exact HC0.out);rintro e w19 ⟨rfl,hb⟩;refine ⟨_,rfl,?_⟩;replace HB:=a_ (bS_ (bel_) hb);replace BK148:=a_ (bb_ BK148.out hb);(try clear hb);obtain ⟨Z20_0,Z20_1,Z20_2,Z20_3,Z20_4,Z20_5,Z20_6,Y20_0,Y20_1,Y20_2,Y20_3,Y20_4,Y20_5,Y20_6⟩:=op7_ BK148.out))
      have n0_:=a_ (bD_ BK148.out)
      have n1_:=a_ (below_drew1 HB.out)
      clear BK148
      clear HB
      have BK148:=n0_
      have HB:=n1_
      clear n0_ n1_
      refine start_ (n:=8) (S:=fun w'=>w'.cell? ⟨gb148,0,none⟩=some (.int .i64 a1_0)∧w'.cell? ⟨gb148,1,none⟩=some (.int .i64 a1_1)∧w'.cell? ⟨gb148,2,none⟩=some (.int .i64 a1_2)∧w'.cell? ⟨gb148,3,none⟩=some (.int .i64 a1_3)∧w'.cell? ⟨gb148,4,none⟩=some (.int .i64 a1_4)∧w'.cell? ⟨gb148,5,none⟩=some (.int .i64 a1_5)∧w'.cell? ⟨gb148,6,none⟩=some (.string a1_6)) (ds:=[]) #[false,false,false,false,false,false,false,false] (by kernel_rfl) rfl rfl ⟨(bC_ BK148.out 0).trans rfl,(bC_ BK148.out 1).trans rfl,(bC_ BK148.out 2).trans rfl,(bC_ BK148.out 3).trans rfl,(bC_ BK148.out 4).trans rfl,(bC_ BK148.out 5).trans rfl,(bC_ BK148.out 6).trans rfl⟩ (fun hHeld=>?_);refine with_tabW spec_l12Add.tab6 spec_l12Add.bits6 (fun HT_ HW_=>?_)
      generalize w19.drew=w21 at BK148 HB hHeld ⊢
      refine pa_ 1 29 ?_
      refine ta7_ 3 31 hHeld ?_
      refine join_ (σ:=Value×Value×Value) 3 #[true,true,true,true,true,false,false,false] (fun s_=>[(28,s_.1),(30,s_.2.1),(32,s_.2.2)]) (fun s_ w'=>(w'.cell? ⟨gb148,0,none⟩=some (.int .i64 a1_0)∧w'.cell? ⟨gb148,1,none⟩=some (.int .i64 a1_1)∧w'.cell? ⟨gb148,2,none⟩=some (.int .i64 a1_2)∧w'.cell? ⟨gb148,3,none⟩=some (.int .i64 a1_3)∧w'.cell? ⟨gb148,4,none⟩=some (.int .i64 a1_4)∧w'.cell? ⟨gb148,5,none⟩=some (.int .i64 a1_5)∧w'.cell? ⟨gb148,6,none⟩=some (.string a1_6))∧(Kd.R k44 44 w' w.heap.size (fun k_=>some k_≠(s_.2.2:Value).ownBlock∧k_≠gb148) s_.2.1 y154)∧(Kd.R k44 44 w' w.heap.size (fun k_=>some k_≠(s_.2.1:Value).ownBlock∧k_≠gb148) s_.2.2 y157)∧(w'.heap[gb148]?=some (.cells #[.int .i64 a1_0,.int .i64 a1_1,.int .i64 a1_2,.int .i64 a1_3,.int .i64 a1_4,.int .i64 a1_5,.string a1_6] 44 (0,0)))∧(Below w.heap.size w w')) ?_ ?_
      rotate_left
      ·intro hCont
       refine two_ (i:=0) (j:=4) (Ni:=some 28) (Nj:=some 32) #[true,true,false,true,false,false,false,false] #[false,true,false,true,true,false,false,false] rfl rfl rfl rfl (two_of HT_.out (by kernel_rfl)) (by decide) (by decide) (fun K hK=>?_) (fun K hK=>?_)
       ·skip
        refine Kd.R_lit_step k44 _ 44 ?hg (N:=28) ?hd (xs:=([]:List (S44))) (inner:=[]) (ok:=fun _=>True) (okp:=fun _=>True) ?hr ?hp (fun _ hk=>hk) trivial (Below.refl _ _) (Nat.le_refl _) (by simp) ?_;(case hd=>rfl);(case hg=>rfl);(case hr=>first|(go_simp;done)|(go_simp;rfl));(case hp=>exact (Reps.none _ _))
        intro v152 w22 ho23 hb hg_ hnew_
        clear hg_ hnew_
        (first|rw [←Ny151.out] at ho23|(simp only [Int.reduceToNat] at ho23;rw [←Ny151.out] at ho23))
        have n0_:=a_ (Kd.R_lower (Kd.R_newB ho23 (g:=gb148) (o:=.cells #[.int .i64 a1_0,.int .i64 a1_1,.int .i64 a1_2,.int .i64 a1_3,.int .i64 a1_4,.int .i64 a1_5,.string a1_6] 44 (0,0)) (bp_ BK148.out)) (below_size (bel_)))
        have n1_:=a_ (bb_ BK148.out hb)
        have n2_:=a_ (bS_ (bel_) hb)
        clear BK148
        clear HB
        have HO153:=n0_
        have BK148:=n1_
        have HB:=n2_
        clear n0_ n1_ n2_
        clear hb ho23
        refine hK.out _ _ ⟨(bC_ BK148.out 0).trans rfl,(bC_ BK148.out 1).trans rfl,(bC_ BK148.out 2).trans rfl,(bC_ BK148.out 3).trans rfl,(bC_ BK148.out 4).trans rfl,(bC_ BK148.out 5).trans rfl,(bC_ BK148.out 6).trans rfl⟩ (fun hHeld=>?_)
        clear hK K
        refine no_ 28 ?_
        refine two_ (i:=2) (j:=4) (Ni:=some 30) (Nj:=some 32) #[true,true,true,true,false,false,false,false] #[true,true,false,true,true,false,false,false] rfl rfl rfl rfl (two_of HT_.out (by kernel_rfl)) (by decide) (by decide) (fun K hK=>?_) (fun K hK=>?_)
        ·skip
         refine Kd.R_append_rows_step k44 (w0:=w) w.heap.size (by rfl) (.tmp 28) (.tmp 29) 23 44 (.agg #[(.int .i64 0),(.int .i64 0),(.int .i64 0),(.int .i64 0),(.int .i64 0),(.int .i64 0),(.string ⟨#[]⟩)]) 64 rfl Tryd.underlying23 info44 rfl (by decide) (by omega) v152 y151 l0 _ _ _ (fun k_=>k_≠gb148) (fun _=>False) rfl rfl ?aO ?aR (fun _ _ h=>h) (fun _ h=>h.elim) ?aF ?aB ?aS ?aL ?_
         (case aR=>exact cx_ (Kd.C_below HR0.out HB.out))
         (case aB=>exact (bel_))
         (case aF=>exact (fun k_ hk=>Kd.freshB (g:=gb148) (o:=.cells #[.int .i64 a1_0,.int .i64 a1_1,.int .i64 a1_2,.int .i64 a1_3,.int .i64 a1_4,.int .i64 a1_5,.string a1_6] 44 (0,0)) (bp_ BK148.out) k_ hk))
         (case aO=>exact (by (with_reducible repeat (first|apply Kd.R_alloc|apply Kd.R_drewN|apply Kd.R_drew));exact Kd.R_mono HO153.out (fun _ hk=>hk.2)))
         (case aS=>exact (below_size (bel_)))
         (case aL=>have:=LMc15.out;omega)
         intro v155 w24 ho hb hg hat
         rw [←Ny154.out] at ho
         have n0_:=a_ (blk_grown (g:=gb148) (o:=.cells #[.int .i64 a1_0,.int .i64 a1_1,.int .i64 a1_2,.int .i64 a1_3,.int .i64 a1_4,.int .i64 a1_5,.string a1_6] 44 (0,0)) (bp_ BK148.out) hg (Kd.R_away HO153.out (fun _ hk=>hk.2)))
         have n1_:=a_ (hb)
         have n2_:=a_ (ho)
         clear BK148
         clear HB
         clear HO153
         have BK148:=n0_
         have HB:=n1_
         have HO156:=n2_
         clear n0_ n1_ n2_
         clear ho hb hg hat
         refine hK.out _ _ ⟨(bC_ BK148.out 0).trans rfl,(bC_ BK148.out 1).trans rfl,(bC_ BK148.out 2).trans rfl,(bC_ BK148.out 3).trans rfl,(bC_ BK148.out 4).trans rfl,(bC_ BK148.out 5).trans rfl,(bC_ BK148.out 6).trans rfl⟩ (fun hHeld=>?_)
         clear hK K
         refine no_ 30 ?_
         refine on_ 4 32 (fun K hK=>?_)
         refine Kd.R_lit_step k44 _ 44 ?hg (N:=32) ?hd (xs:=([(⟨a1_0,a1_1,(⟨a1_2,a1_3,a1_4,a1_5,a1_6⟩:S42)⟩:S44)]:List (S44))) (inner:=[.int .i64 a1_0,.int .i64 a1_1,.int .i64 a1_2,.int .i64 a1_3,.int .i64 a1_4,.int .i64 a1_5,.string a1_6]) (ok:=fun _=>True) (okp:=fun _=>True) ?hr ?hp (fun _ hk=>hk) trivial (Below.refl _ _) (Nat.le_refl _) (by simp) ?_;(case hd=>rfl);(case hg=>rfl);(case hr=>first|(go_simp;done)|(go_simp;rfl));(case hp=>exact (Reps.c7 (show Kd.M k44 _ _ _ (⟨a1_0,a1_1,(⟨a1_2,a1_3,a1_4,a1_5,a1_6⟩:S42)⟩:S44) [.int .i64 a1_0,.int .i64 a1_1,.int .i64 a1_2,.int .i64 a1_3,.int .i64 a1_4,.int .i64 a1_5,.string a1_6] from (k44_mkM _ _ _ (⟨a1_0,a1_1,(⟨a1_2,a1_3,a1_4,a1_5,a1_6⟩:S42)⟩:S44) )) (Reps.none _ _)))
         intro v158 w25 ho26 hb hg_ hnew_
         clear hg_ hnew_
         (first|rw [←Ny157.out] at ho26|(simp only [Int.reduceToNat] at ho26;rw [←Ny157.out] at ho26))
         have n0_:=a_ (Kd.R_elder' (rp_ HO156.out) (Kd.R_base ho26) hb)
         have n1_:=a_ (Kd.R_lower (Kd.R_newB (Kd.R_new' ho26 (Kd.R_lt (rp_ HO156.out))) (g:=gb148) (o:=.cells #[.int .i64 a1_0,.int .i64 a1_1,.int .i64 a1_2,.int .i64 a1_3,.int .i64 a1_4,.int .i64 a1_5,.string a1_6] 44 (0,0)) (bp_ BK148.out)) (below_size (bel_)))
         have n2_:=a_ (bb_ BK148.out hb)
         have n3_:=a_ (bS_ (bel_) hb)
         clear HO156
         clear BK148
         clear HB
         have HO156:=n0_
         have HO159:=n1_
         have BK148:=n2_
         have HB:=n3_
         clear n0_ n1_ n2_ n3_
         clear hb ho26
         refine hK.out _ _ ⟨(bC_ BK148.out 0).trans rfl,(bC_ BK148.out 1).trans rfl,(bC_ BK148.out 2).trans rfl,(bC_ BK148.out 3).trans rfl,(bC_ BK148.out 4).trans rfl,(bC_ BK148.out 5).trans rfl,(bC_ BK148.out 6).trans rfl⟩ (fun hHeld=>?_)
         clear hK K
         refine no_ 32 ?_
         exact norm_ (by simp only [putAll,Act.put,List.setIfInBounds_toArray,List.set_cons_zero,List.set_cons_succ]) (hCont (v152,v155,v158) _ ⟨hHeld,(by (with_reducible repeat (first|apply Kd.R_alloc|apply Kd.R_drewN|apply Kd.R_drew));exact Kd.R_mono HO156.out (fun _ hk=>⟨hk.2,hk.1⟩)),(by (with_reducible repeat (first|apply Kd.R_alloc|apply Kd.R_drewN|apply Kd.R_drew));exact Kd.R_mono HO159.out (fun _ hk=>⟨hk.1.2,hk.2⟩)),(bp_ BK148.out),(bel_)⟩)
        ·skip
         refine Kd.R_lit_step k44 _ 44 ?hg (N:=32) ?hd (xs:=([(⟨a1_0,a1_1,(⟨a1_2,a1_3,a1_4,a1_5,a1_6⟩:S42)⟩:S44)]:List (S44))) (inner:=[.int .i64 a1_0,.int .i64 a1_1,.int .i64 a1_2,.int .i64 a1_3,.int .i64 a1_4,.int .i64 a1_5,.string a1_6]) (ok:=fun _=>True) (okp:=fun _=>True) ?hr ?hp (fun _ hk=>hk) trivial (Below.refl _ _) (Nat.le_refl _) (by simp) ?_;(case hd=>rfl);(case hg=>rfl);(case hr=>first|(go_simp;done)|(go_simp;rfl));(case hp=>exact (Reps.c7 (show Kd.M k44 _ _ _ (⟨a1_0,a1_1,(⟨a1_2,a1_3,a1_4,a1_5,a1_6⟩:S42)⟩:S44) [.int .i64 a1_0,.int .i64 a1_1,.int .i64 a1_2,.int .i64 a1_3,.int .i64 a1_4,.int .i64 a1_5,.string a1_6] from (k44_mkM _ _ _ (⟨a1_0,a1_1,(⟨a1_2,a1_3,a1_4,a1_5,a1_6⟩:S42)⟩:S44) )) (Reps.none _ _)))
         intro v158 w24 ho25 hb hg_ hnew_
         clear hg_ hnew_
         (first|rw [←Ny157.out] at ho25|(simp only [Int.reduceToNat] at ho25;rw [←Ny157.out] at ho25))
         have n0_:=a_ (Kd.R_elder' (rp_ HO153.out) (Kd.R_base ho25) hb)
         have n1_:=a_ (Kd.R_lower (Kd.R_newB (Kd.R_new' ho25 (Kd.R_lt (rp_ HO153.out))) (g:=gb148) (o:=.cells #[.int .i64 a1_0,.int .i64 a1_1,.int .i64 a1_2,.int .i64 a1_3,.int .i64 a1_4,.int .i64 a1_5,.string a1_6] 44 (0,0)) (bp_ BK148.out)) (below_size (bel_)))
         have n2_:=a_ (bb_ BK148.out hb)
         have n3_:=a_ (bS_ (bel_) hb)
         clear HO153
         clear BK148
         clear HB
         have HO153:=n0_
         have HO159:=n1_
         have BK148:=n2_
         have HB:=n3_
         clear n0_ n1_ n2_ n3_
         clear hb ho25
         refine hK.out _ _ ⟨(bC_ BK148.out 0).trans rfl,(bC_ BK148.out 1).trans rfl,(bC_ BK148.out 2).trans rfl,(bC_ BK148.out 3).trans rfl,(bC_ BK148.out 4).trans rfl,(bC_ BK148.out 5).trans rfl,(bC_ BK148.out 6).trans rfl⟩ (fun hHeld=>?_)
         clear hK K
         refine no_ 32 ?_
         refine on_ 2 30 (fun K hK=>?_)
         refine Kd.R_append_rows_step k44 (w0:=w) w.heap.size (by rfl) (.tmp 28) (.tmp 29) 23 44 (.agg #[(.int .i64 0),(.int .i64 0),(.int .i64 0),(.int .i64 0),(.int .i64 0),(.int .i64 0),(.string ⟨#[]⟩)]) 64 rfl Tryd.underlying23 info44 rfl (by decide) (by omega) v152 y151 l0 _ _ _ (fun k_=>some k_≠(v158:Value).ownBlock∧k_≠gb148) (fun _=>False) rfl rfl ?aO ?aR (fun _ _ h=>h) (fun _ h=>h.elim) ?aF ?aB ?aS ?aL ?_
         (case aR=>exact cx_ (Kd.C_below HR0.out HB.out))
         (case aB=>exact (bel_))
         (case aF=>exact (fun k_ hk=>⟨Kd.fresh' (Kd.R_lt (rp_ HO159.out)) k_ hk,Kd.freshB (g:=gb148) (o:=.cells #[.int .i64 a1_0,.int .i64 a1_1,.int .i64 a1_2,.int .i64 a1_3,.int .i64 a1_4,.int .i64 a1_5,.string a1_6] 44 (0,0)) (bp_ BK148.out) k_ hk⟩))
         (case aO=>exact (by (with_reducible repeat (first|apply Kd.R_alloc|apply Kd.R_drewN|apply Kd.R_drew));exact Kd.R_mono HO153.out (fun _ hk=>⟨hk.2,hk.1.2⟩)))
         (case aS=>exact (below_size (bel_)))
         (case aL=>have:=LMc15.out;omega)
         intro v155 w26 ho hb hg hat
         rw [←Ny154.out] at ho
         have n0_:=a_ (blk_grown (g:=gb148) (o:=.cells #[.int .i64 a1_0,.int .i64 a1_1,.int .i64 a1_2,.int .i64 a1_3,.int .i64 a1_4,.int .i64 a1_5,.string a1_6] 44 (0,0)) (bp_ BK148.out) hg (Kd.R_away HO153.out (fun _ hk=>hk.1.2)))
         have n1_:=a_ (Kd.R_after (ok:=(fun k_=>k_≠gb148)) (by (with_reducible repeat (first|apply Kd.R_alloc|apply Kd.R_drewN|apply Kd.R_drew));exact Kd.R_mono HO159.out (fun _ hk=>⟨hk.2,hk.1.2⟩)) hg hat)
         have n2_:=a_ (hb)
         have n3_:=a_ (ho)
         clear BK148
         clear HO159
         clear HB
         clear HO153
         have BK148:=n0_
         have HO159:=n1_
         have HB:=n2_
         have HO156:=n3_
         clear n0_ n1_ n2_ n3_
         clear ho hb hg hat
         refine hK.out _ _ ⟨(bC_ BK148.out 0).trans rfl,(bC_ BK148.out 1).trans rfl,(bC_ BK148.out 2).trans rfl,(bC_ BK148.out 3).trans rfl,(bC_ BK148.out 4).trans rfl,(bC_ BK148.out 5).trans rfl,(bC_ BK148.out 6).trans rfl⟩ (fun hHeld=>?_)
         clear hK K
         refine no_ 30 ?_
         exact norm_ (by simp only [putAll,Act.put,List.setIfInBounds_toArray,List.set_cons_zero,List.set_cons_succ]) (hCont (v152,v155,v158) _ ⟨hHeld,(rp_ HO156.out),(by (with_reducible repeat (first|apply Kd.R_alloc|apply Kd.R_drewN|apply Kd.R_drew));exact Kd.R_mono HO159.out (fun _ hk=>⟨hk.2,hk.1⟩)),(bp_ BK148.out),(bel_)⟩)
       ·skip
        refine Kd.R_lit_step k44 _ 44 ?hg (N:=32) ?hd (xs:=([(⟨a1_0,a1_1,(⟨a1_2,a1_3,a1_4,a1_5,a1_6⟩:S42)⟩:S44)]:List (S44))) (inner:=[.int .i64 a1_0,.int .i64 a1_1,.int .i64 a1_2,.int .i64 a1_3,.int .i64 a1_4,.int .i64 a1_5,.string a1_6]) (ok:=fun _=>True) (okp:=fun _=>True) ?hr ?hp (fun _ hk=>hk) trivial (Below.refl _ _) (Nat.le_refl _) (by simp) ?_;(case hd=>rfl);(case hg=>rfl);(case hr=>first|(go_simp;done)|(go_simp;rfl));(case hp=>exact (Reps.c7 (show Kd.M k44 _ _ _ (⟨a1_0,a1_1,(⟨a1_2,a1_3,a1_4,a1_5,a1_6⟩:S42)⟩:S44) [.int .i64 a1_0,.int .i64 a1_1,.int .i64 a1_2,.int .i64 a1_3,.int .i64 a1_4,.int .i64 a1_5,.string a1_6] from (k44_mkM _ _ _ (⟨a1_0,a1_1,(⟨a1_2,a1_3,a1_4,a1_5,a1_6⟩:S42)⟩:S44) )) (Reps.none _ _)))
        intro v158 w22 ho23 hb hg_ hnew_
        clear hg_ hnew_
        (first|rw [←Ny157.out] at ho23|(simp only [Int.reduceToNat] at ho23;rw [←Ny157.out] at ho23))
        have n0_:=a_ (Kd.R_lower (Kd.R_newB ho23 (g:=gb148) (o:=.cells #[.int .i64 a1_0,.int .i64 a1_1,.int .i64 a1_2,.int .i64 a1_3,.int .i64 a1_4,.int .i64 a1_5,.string a1_6] 44 (0,0)) (bp_ BK148.out)) (below_size (bel_)))
        have n1_:=a_ (bb_ BK148.out hb)
        have n2_:=a_ (bS_ (bel_) hb)
        clear BK148
        clear HB
        have HO159:=n0_
        have BK148:=n1_
        have HB:=n2_
        clear n0_ n1_ n2_
        clear hb ho23
        refine hK.out _ _ ⟨(bC_ BK148.out 0).trans rfl,(bC_ BK148.out 1).trans rfl,(bC_ BK148.out 2).trans rfl,(bC_ BK148.out 3).trans rfl,(bC_ BK148.out 4).trans rfl,(bC_ BK148.out 5).trans rfl,(bC_ BK148.out 6).trans rfl⟩ (fun hHeld=>?_)
        clear hK K
        refine no_ 32 ?_
        refine on_ 0 28 (fun K hK=>?_)
        refine Kd.R_lit_step k44 _ 44 ?hg (N:=28) ?hd (xs:=([]:List (S44))) (inner:=[]) (ok:=fun _=>True) (okp:=fun _=>True) ?hr ?hp (fun _ hk=>hk) trivial (Below.refl _ _) (Nat.le_refl _) (by simp) ?_;(case hd=>rfl);(case hg=>rfl);(case hr=>first|(go_simp;done)|(go_simp;rfl));(case hp=>exact (Reps.none _ _))
        intro v152 w24 ho25 hb hg_ hnew_
        clear hg_ hnew_
        (first|rw [←Ny151.out] at ho25|(simp only [Int.reduceToNat] at ho25;rw [←Ny151.out] at ho25))
        have n0_:=a_ (Kd.R_elder' (rp_ HO159.out) (Kd.R_base ho25) hb)
        have n1_:=a_ (Kd.R_lower (Kd.R_newB (Kd.R_new' ho25 (Kd.R_lt (rp_ HO159.out))) (g:=gb148) (o:=.cells #[.int .i64 a1_0,.int .i64 a1_1,.int .i64 a1_2,.int .i64 a1_3,.int .i64 a1_4,.int .i64 a1_5,.string a1_6] 44 (0,0)) (bp_ BK148.out)) (below_size (bel_)))
        have n2_:=a_ (bb_ BK148.out hb)
        have n3_:=a_ (bS_ (bel_) hb)
        clear HO159
        clear BK148
        clear HB
        have HO159:=n0_
        have HO153:=n1_
        have BK148:=n2_
        have HB:=n3_
        clear n0_ n1_ n2_ n3_
        clear hb ho25
        refine hK.out _ _ ⟨(bC_ BK148.out 0).trans rfl,(bC_ BK148.out 1).trans rfl,(bC_ BK148.out 2).trans rfl,(bC_ BK148.out 3).trans rfl,(bC_ BK148.out 4).trans rfl,(bC_ BK148.out 5).trans rfl,(bC_ BK148.out 6).trans rfl⟩ (fun hHeld=>?_)
        clear hK K
        refine no_ 28 ?_
        refine on_ 2 30 (fun K hK=>?_)
        refine Kd.R_append_rows_step k44 (w0:=w) w.heap.size (by rfl) (.tmp 28) (.tmp 29) 23 44 (.agg #[(.int .i64 0),(.int .i64 0),(.int .i64 0),(.int .i64 0),(.int .i64 0),(.int .i64 0),(.string ⟨#[]⟩)]) 64 rfl Tryd.underlying23 info44 rfl (by decide) (by omega) v152 y151 l0 _ _ _ (fun k_=>some k_≠(v158:Value).ownBlock∧k_≠gb148) (fun _=>False) rfl rfl ?aO ?aR (fun _ _ h=>h) (fun _ h=>h.elim) ?aF ?aB ?aS ?aL ?_
        (case aR=>exact cx_ (Kd.C_below HR0.out HB.out))
        (case aB=>exact (bel_))
        (case aF=>exact (fun k_ hk=>⟨Kd.fresh' (Kd.R_lt (rp_ HO159.out)) k_ hk,Kd.freshB (g:=gb148) (o:=.cells #[.int .i64 a1_0,.int .i64 a1_1,.int .i64 a1_2,.int .i64 a1_3,.int .i64 a1_4,.int .i64 a1_5,.string a1_6] 44 (0,0)) (bp_ BK148.out) k_ hk⟩))
        (case aO=>exact (by (with_reducible repeat (first|apply Kd.R_alloc|apply Kd.R_drewN|apply Kd.R_drew));exact Kd.R_mono HO153.out (fun _ hk=>⟨hk.1.2,hk.2⟩)))
        (case aS=>exact (below_size (bel_)))
        (case aL=>have:=LMc15.out;omega)
        intro v155 w26 ho hb hg hat
        rw [←Ny154.out] at ho
        have n0_:=a_ (blk_grown (g:=gb148) (o:=.cells #[.int .i64 a1_0,.int .i64 a1_1,.int .i64 a1_2,.int .i64 a1_3,.int .i64 a1_4,.int .i64 a1_5,.string a1_6] 44 (0,0)) (bp_ BK148.out) hg (Kd.R_away HO153.out (fun _ hk=>hk.2)))
        have n1_:=a_ (Kd.R_after (ok:=(fun k_=>k_≠gb148)) (by (with_reducible repeat (first|apply Kd.R_alloc|apply Kd.R_drewN|apply Kd.R_drew));exact Kd.R_mono HO159.out (fun _ hk=>⟨hk.1.2,hk.2⟩)) hg hat)
        have n2_:=a_ (hb)
        have n3_:=a_ (ho)
        clear BK148
        clear HO159
        clear HB
        clear HO153
        have BK148:=n0_
        have HO159:=n1_
        have HB:=n2_
        have HO156:=n3_
        clear n0_ n1_ n2_ n3_
        clear ho hb hg hat
        refine hK.out _ _ ⟨(bC_ BK148.out 0).trans rfl,(bC_ BK148.out 1).trans rfl,(bC_ BK148.out 2).trans rfl,(bC_ BK148.out 3).trans rfl,(bC_ BK148.out 4).trans rfl,(bC_ BK148.out 5).trans rfl,(bC_ BK148.out 6).trans rfl⟩ (fun hHeld=>?_)
        clear hK K
        refine no_ 30 ?_
        exact norm_ (by simp only [putAll,Act.put,List.setIfInBounds_toArray,List.set_cons_zero,List.set_cons_succ]) (hCont (v152,v155,v158) _ ⟨hHeld,(rp_ HO156.out),(by (with_reducible repeat (first|apply Kd.R_alloc|apply Kd.R_drewN|apply Kd.R_drew));exact Kd.R_mono HO159.out (fun _ hk=>⟨hk.2,hk.1⟩)),(bp_ BK148.out),(bel_)⟩)
      rintro ⟨v152,v155,v158⟩ w27 ⟨hS_,h0_,h1_,h2_,h3_⟩
      have n0_:Aside0 (Kd.R k44 44 w27 w.heap.size (fun k_=>some k_≠(v158:Value).ownBlock∧k_≠gb148) v155 y154):=⟨h0_⟩
      have n1_:Aside0 (Kd.R k44 44 w27 w.heap.size (fun k_=>some k_≠(v155:Value).ownBlock∧k_≠gb148) v158 y157):=⟨h1_⟩
      have n2_:Aside0 (w27.heap[gb148]?=some (.cells #[.int .i64 a1_0,.int .i64 a1_1,.int .i64 a1_2,.int .i64 a1_3,.int .i64 a1_4,.int .i64 a1_5,.string a1_6] 44 (0,0))):=⟨h2_⟩
      have n3_:Aside0 (Below w.heap.size w w27):=⟨h3_⟩
      clear BK148
      clear HB
      clear h0_ h1_ h2_ h3_
      have HO156:=n0_
      have HO159:=n1_
      have BK148:=n2_
      have HB:=n3_
      clear n0_ n1_ n2_ n3_
      have hHeld:w27.cell? ⟨gb148,0,none⟩=some (.int .i64 a1_0)∧w27.cell? ⟨gb148,1,none⟩=some (.int .i64 a1_1)∧w27.cell? ⟨gb148,2,none⟩=some (.int .i64 a1_2)∧w27.cell? ⟨gb148,3,none⟩=some (.int .i64 a1_3)∧w27.cell? ⟨gb148,4,none⟩=some (.int .i64 a1_4)∧w27.cell? ⟨gb148,5,none⟩=some (.int .i64 a1_5)∧w27.cell? ⟨gb148,6,none⟩=some (.string a1_6):=hS_
      obtain ⟨Ao29,co29,eo29⟩:=Kd.R_slice HO159.out
      (first|subst eo29|(injection eo29 with f1_ f2_ f3_;have f4_:=f1_.symm;have f5_:=f3_.symm;clear f1_ f2_ f3_;subst f4_;subst f5_))
      refine norm_ (a':=?_) ?_ ?_
      rotate_left
      ·simp only [putAll,Act.put,List.setIfInBounds_toArray,List.set_cons_zero,List.set_cons_succ]
       rfl
      refine on_ 5 33 (fun K hK=>?_)
      refine Kd.R_append_rows_step k44 (w0:=w) w.heap.size (by rfl) (.tmp 30) (.tmp 32) 23 44 (.agg #[(.int .i64 0),(.int .i64 0),(.int .i64 0),(.int .i64 0),(.int .i64 0),(.int .i64 0),(.string ⟨#[]⟩)]) 64 rfl Tryd.underlying23 info44 rfl (by decide) (by omega) v155 y154 y157 _ _ _ (fun k_=>some k_≠(.slice Ao29 y157.length co29:Value).ownBlock∧k_≠gb148) (fun _=>False) rfl rfl ?aO ?aR (fun _ _ h=>h) (fun _ h=>h.elim) ?aF ?aB ?aS ?aL ?_
      (case aR=>exact cx_ (Kd.R_reads' HO159.out).2.2)
      (case aB=>exact (bel_))
      (case aF=>exact (fun k_ hk=>⟨Kd.fresh' (Kd.R_lt (rp_ HO159.out)) k_ hk,Kd.freshB (g:=gb148) (o:=.cells #[.int .i64 a1_0,.int .i64 a1_1,.int .i64 a1_2,.int .i64 a1_3,.int .i64 a1_4,.int .i64 a1_5,.string a1_6] 44 (0,0)) (bp_ BK148.out) k_ hk⟩))
      (case aO=>exact (rp_ HO156.out))
      (case aS=>exact (below_size (bel_)))
      (case aL=>have:=LMc16.out;omega)
      intro v161 w28 ho hb hg hat
      rw [←Ny160.out] at ho
      have n0_:=a_ (blk_grown (g:=gb148) (o:=.cells #[.int .i64 a1_0,.int .i64 a1_1,.int .i64 a1_2,.int .i64 a1_3,.int .i64 a1_4,.int .i64 a1_5,.string a1_6] 44 (0,0)) (bp_ BK148.out) hg (Kd.R_away HO156.out (fun _ hk=>hk.2)))
      have n1_:=a_ (Kd.R_after (ok:=(fun k_=>k_≠gb148)) (by (with_reducible repeat (first|apply Kd.R_alloc|apply Kd.R_drewN|apply Kd.R_drew));exact Kd.R_mono HO159.out (fun _ hk=>⟨hk.2,hk.1⟩)) hg hat)
      have n2_:=a_ (hb)
      have n3_:=a_ (ho)
      clear BK148
      clear HO159
      clear HB
      clear HO156
      have BK148:=n0_
      have HO159:=n1_
      have HB:=n2_
      have HO162:=n3_
      clear n0_ n1_ n2_ n3_
      clear ho hb hg hat
      refine hK.out _ _ ⟨(bC_ BK148.out 0).trans rfl,(bC_ BK148.out 1).trans rfl,(bC_ BK148.out 2).trans rfl,(bC_ BK148.out 3).trans rfl,(bC_ BK148.out 4).trans rfl,(bC_ BK148.out 5).trans rfl,(bC_ BK148.out 6).trans rfl⟩ (fun hHeld=>?_)
      clear hK K
      refine no_ 33 ?_
      refine pa_ 6 4 ?_
      refine pa_ 7 5 ?_
      refine done_ (done_of HT_.out (by kernel_rfl)) ?_
      try go_wp2
      go_ret2
      exact ⟨_,fi_,Or.inl ⟨rfl,by (with_reducible repeat (first|apply Kd.R_alloc|apply Kd.R_drewN|apply Kd.R_drew));exact Kd.R_mono HO162.out (fun _ hk=>trivial)⟩,bel_⟩
     ·rw [if_neg c16] at H
      exact absurd H (by simp)
    ·rw [if_neg c15] at H
     exact absurd H (by simp)
  ·rw [if_neg c9] at H
   have c9b0:(a1_1==(wrap64 (t149+1)))=false:=bn_ c9
   have c9b1:(a1_1 != (wrap64 (t149+1)))=true:=bne_iff_ne.mpr c9
   simp only [Option.some.injEq,Prod.mk.injEq] at H
   obtain ⟨rfl,rfl⟩:=H
   go_enter Tryd.func91,Tryd.ntmps91
   go_wp2_with (first|((with_reducible refine gD_ (N:=3) rfl ?_);refine bx_ 3 (#[.int .i64 a1_0,.int .i64 a1_1,.int .i64 a1_2,.int .i64 a1_3,.int .i64 a1_4,.int .i64 a1_5,.string a1_6]) 44 ?_;intro gb148 hg w30 hbox hb;have n0_:=a_ (bS_ (bel_) hb);have n1_:=a_ (hbox);have n2_:=a_ ((by rw [hg];exact (below_size (bel_)):w.heap.size≤gb148));have n3_:=a_ ((by rw [hg];exact (below_size (bel_)):w.heap.size≤gb148));clear HB;have HB:=n0_;have BK148:=n1_;have GW148:=n2_;have GE148:=n3_;clear n0_ n1_ n2_ n3_;clear hb hbox hg;obtain ⟨Z31_0,Z31_1,Z31_2,Z31_3,Z31_4,Z31_5,Z31_6,Y31_0,Y31_1,Y31_2,Y31_3,Y31_4,Y31_5,Y31_6⟩:=op7_ BK148.out)|((with_reducible refine gC_ (f:=90) rfl ?_);refine gl_ 10 Tryd.func90 #[.slice A0 l0.length c0,.int .i64 a1_0] ?_;(with_reducible refine (spec_l12Seq.calls k _ _ l0 a1_0 t149 _ ?side1 ?side2 A3.out).mono ?_);(case side1=>exact cp_ HR0.out);(case side2=>exact HC0.out);rintro e w' ⟨rfl,⟨nd,rfl⟩⟩;refine ⟨_,rfl,?_⟩)|((with_reducible refine gC_ (f:=126) rfl ?_);refine gl_ 14 Tryd.func126 #[.slice A0 l0.length c0,.agg #[.int .i64 a1_0,.int .i64 a1_1,.int .i64 a1_2,.int .i64 a1_3,.int .i64 a1_4,.int .i64 a1_5,.string a1_6]] ?_;(with_reducible refine (spec_l12Has.calls k _ _ l0 a1_0 a1_1 a1_2 a1_3 a1_4 a1_5 a1_6 false _ ?side1 ?side2 A4.out).mono ?_);(case side1=>repeat (first|exact (Kd.C_below HR0.out (bel_))|(with_reducible refine Kd.C_alloc ?_ _)|(with_reducible refine Kd.C_drewN ?_ _)|(with_reducible refine Kd.C_drew ?_)));(case side2=>exact HC0.out);rintro e w32 ⟨rfl,hb⟩;refine ⟨_,rfl,?_⟩;replace HB:=a_ (bS_ (bel_) hb);replace BK148:=a_ (bb_ BK148.out hb);(try clear hb);obtain ⟨Z33_0,Z33_1,Z33_2,Z33_3,Z33_4,Z33_5,Z33_6,Y33_0,Y33_1,Y33_2,Y33_3,Y33_4,Y33_5,Y33_6⟩:=op7_ BK148.out))
   go_ret2
   exact ⟨_,fi_,Or.inr ⟨by decide,rfl,rfl⟩,bel_⟩
end Go.Proofs.YtdpklbomhdpimaaDoor.P
namespace Go.Proofs.YtdpklbomhdpimaaDoor.P
open Go.RowKit Go.Proofs.YtdpklbomhdpimaaDoorW.PrintWords Go.Proofs.YtdpklbomhdpimaaDoorW.PrintLast Go.Proofs.YtdpklbomhdpimaaDoorW.PrintMore
def spec_l13Hear.f (k:Nat) (l0_0:List S44) (a0_1:Int) (a0_2:Bool) (a1_0:Int) (a1_1:Int) (a1_2:Int) (a1_3:Int) (a1_4:Int) (a1_5:Int) (a1_6:ByteArray):Option (List S44×Int×Bool×Bool) :=
 (spec_l12Add.f k l0_0 a1_0 a1_1 a1_2 a1_3 a1_4 a1_5 a1_6).bind fun p=>if a0_2=true then (if p.2=1 then some (p.1,a0_1,true,true) else some (l0_0,a0_1,true,false)) else some (l0_0,a0_1,false,false)
theorem spec_l13Hear.mono (l0_0:List S44) (a0_1:Int) (a0_2:Bool) (a1_0:Int) (a1_1:Int) (a1_2:Int) (a1_3:Int) (a1_4:Int) (a1_5:Int) (a1_6:ByteArray) (k:Nat):LeO (spec_l13Hear.f k l0_0 a0_1 a0_2 a1_0 a1_1 a1_2 a1_3 a1_4 a1_5 a1_6) (spec_l13Hear.f (k+1) l0_0 a0_1 a0_2 a1_0 a1_1 a1_2 a1_3 a1_4 a1_5 a1_6):=by
 unfold spec_l13Hear.f
 exact LeO.bind (spec_l12Add.mono _ _ _ _ _ _ _ _ _) (fun _=>LeO.refl _)
def Out13 (B:Nat) (w':World) (A:Option Addr) (c:Nat) (l:List S44) (v:Value) (r:List S44) (ok:Bool):Prop:=(ok=true∧Kd.R k44 44 w' B (fun _=>True) v r)∨(ok=false∧v=.slice A l.length c∧r=l)
theorem Out13.own {B:Nat} {W W':World} {okp:Nat→Prop} {A:Option Addr} {c:Nat} {l:List S44} {v:Value} {r:List S44} {ok:Bool} (h:Out13 W.heap.size W' A c l v r ok) (hO:Kd.R k44 44 W B okp (.slice A l.length c) l) (hb:Below W.heap.size W W') (hB:B≤W.heap.size):Kd.R k44 44 W' B (fun _=>True) v r:=by
 rcases h with ⟨_,h⟩|⟨_,rfl,rfl⟩
 ·exact Kd.R_lower h hB
 ·exact Kd.R_mono (Kd.R_below hO hb) (fun _ _=>trivial)
theorem spec_l13Hear.calls (k:Nat) (A0_0:Option Addr) (c0_0:Nat) (l0_0:List S44) (a0_1:Int) (a0_2:Bool) (a1_0:Int) (a1_1:Int) (a1_2:Int) (a1_3:Int) (a1_4:Int) (a1_5:Int) (a1_6:ByteArray) (r1:List S44) (r2:Int) (r3:Bool) (r4:Bool) (w:World) (hr0_0:Kd.C k44 w A0_0 l0_0.length l0_0) (hc0_0:l0_0.length≤c0_0) (h:spec_l13Hear.f k l0_0 a0_1 a0_2 a1_0 a1_1 a1_2 a1_3 a1_4 a1_5 a1_6=some (r1,r2,r3,r4)) :
  Calls Tryd.prog 76 #[.agg #[.slice A0_0 l0_0.length c0_0,.int .i64 a0_1,.bool a0_2],.agg #[.int .i64 a1_0,.int .i64 a1_1,.int .i64 a1_2,.int .i64 a1_3,.int .i64 a1_4,.int .i64 a1_5,.string a1_6]] w fun e w'=>∃ v0_:Value,e=.returned (.tuple #[.agg #[v0_,.int .i64 r2,.bool r3],.bool r4])∧Out13 w.heap.size w' A0_0 c0_0 l0_0 v0_ r1 r4∧Below w.heap.size w w':=by
 have HR0:=a_ hr0_0
 have HC0:=a_ hc0_0
 clear hr0_0 hc0_0
 have hu1:=Tryd.underlying25
 have hu4:=Tryd.underlying44
 unfold spec_l13Hear.f at h
 obtain ⟨⟨p1,p2⟩,hp,h2⟩:=Option.bind_eq_some_iff.1 h
 clear h
 have HP:=a_ hp
 clear hp
 dsimp only at h2
 cases a0_2 with
 | false =>
  simp only [Bool.false_eq_true,if_false,Option.some.injEq,Prod.mk.injEq] at h2
  obtain ⟨rfl,rfl,rfl,rfl⟩:=h2
  go_enter Tryd.func76,Tryd.ntmps76
  go_wp2_with (first|((with_reducible refine gD_ (N:=2) rfl ?_);refine bx_ 2 (#[.slice A0_0 l0_0.length c0_0,.int .i64 a0_1,.bool false]) 25 ?_;intro gS hgS w1 hbox hb1;have HB1:=a_ hb1;have BS1:=a_ hbox;have GS:=a_ (show w.heap.size≤gS by rw [hgS];exact Nat.le_refl _);clear hbox hb1 hgS)|((with_reducible refine gD_ (N:=3) rfl ?_);refine bx_ 3 (#[.int .i64 a1_0,.int .i64 a1_1,.int .i64 a1_2,.int .i64 a1_3,.int .i64 a1_4,.int .i64 a1_5,.string a1_6]) 44 ?_;intro gE hgE w2 hbox hb2;have HB2:=a_ (bS_ HB1.out hb2);have BS2:=a_ (blk_below BS1.out hb2);have BE2:=a_ hbox;clear hbox hb2 hgE)|((with_reducible refine gD_ (N:=4) rfl ?_);refine bx_ 4 (#[.slice none 0 0,.int .i64 0,.bool false]) 25 ?_;intro gR hgR w3 hbox hb3;have HB3:=a_ (bS_ HB2.out hb3);have BS3:=a_ (blk_below BS2.out hb3);have BE3:=a_ (blk_below BE2.out hb3);have BR3:=a_ hbox;have GR:=a_ (show w.heap.size≤gR by rw [hgR];exact HB2.out.size);have NSR:=a_ (show gS≠gR by have:=blk_lt BS2.out;omega);have hs0:=(bC_ BS3.out 0).trans rfl;have hs1:=(bC_ BS3.out 1).trans rfl;have hs2:=(bC_ BS3.out 2).trans rfl;have he0:=(bC_ BE3.out 0).trans rfl;have he1:=(bC_ BE3.out 1).trans rfl;have he2:=(bC_ BE3.out 2).trans rfl;have he3:=(bC_ BE3.out 3).trans rfl;have he4:=(bC_ BE3.out 4).trans rfl;have he5:=(bC_ BE3.out 5).trans rfl;have he6:=(bC_ BE3.out 6).trans rfl;have hz0:=(bC_ BR3.out 0).trans rfl;have hz1:=(bC_ BR3.out 1).trans rfl;have hz2:=(bC_ BR3.out 2).trans rfl;have hzf0:=bF_ BR3.out 0;have hzf1:=bF_ BR3.out 1;have hzf2:=bF_ BR3.out 2;clear hbox hb3 hgR)|(go_at_call 91;go_loud (refine (spec_l12Add.calls k _ _ l0_0 a1_0 a1_1 a1_2 a1_3 a1_4 a1_5 a1_6 p1 p2 _ (Kd.C_below HR0.out HB3.out) HC0.out HP.out).mono ?_;rintro e w4 ⟨v4,rfl,ho4,hb4⟩;have HO4:=a_ ho4;have HB4:=a_ (bS_ HB3.out hb4);have BS4:=a_ (blk_below BS3.out hb4);have BR4:=a_ (blk_below BR3.out hb4);have NR4:=a_ (Nat.le_trans HB3.out.size hb4.size);clear hb4 ho4;have ht0:=(bC_ BS4.out 0).trans rfl;have ht1:=(bC_ BS4.out 1).trans rfl;have ht2:=(bC_ BS4.out 2).trans rfl;have htf0:=bF_ BS4.out 0;have htf1:=bF_ BS4.out 1;have htf2:=bF_ BS4.out 2;have hy0:=(bC_ BR4.out 0).trans rfl;have hy1:=(bC_ BR4.out 1).trans rfl;have hy2:=(bC_ BR4.out 2).trans rfl;have hyf0:=bF_ BR4.out 0;have hyf1:=bF_ BR4.out 1;have hyf2:=bF_ BR4.out 2)))
  (try simp only [Exit.inBlock,Exit.then])
  refine bodyPost_ret (results_ct rfl _ _ gR 25 #[.slice A0_0 l0_0.length c0_0,.int .i64 a0_1,.bool false] (0,0) _ rfl ((blk_set (blk_set (blk_set BR4.out 0 _) 1 _) 2 _).trans rfl) Tryd.underlying25 rfl (by kernel_rfl)) rfl ?_
  exact ⟨_,rfl,Or.inr ⟨rfl,rfl,rfl⟩,wS_ (wS_ (wS_ HB4.out GR.out) GR.out) GR.out⟩
 | true =>
  rw [if_pos rfl] at h2
  by_cases hn:p2=1
  ·rw [if_pos hn] at h2
   simp only [Option.some.injEq,Prod.mk.injEq] at h2
   obtain ⟨rfl,rfl,rfl,rfl⟩:=h2
   subst hn
   go_enter Tryd.func76,Tryd.ntmps76
   go_wp2_with (first|((with_reducible refine gD_ (N:=2) rfl ?_);refine bx_ 2 (#[.slice A0_0 l0_0.length c0_0,.int .i64 a0_1,.bool true]) 25 ?_;intro gS hgS w1 hbox hb1;have HB1:=a_ hb1;have BS1:=a_ hbox;have GS:=a_ (show w.heap.size≤gS by rw [hgS];exact Nat.le_refl _);clear hbox hb1 hgS)|((with_reducible refine gD_ (N:=3) rfl ?_);refine bx_ 3 (#[.int .i64 a1_0,.int .i64 a1_1,.int .i64 a1_2,.int .i64 a1_3,.int .i64 a1_4,.int .i64 a1_5,.string a1_6]) 44 ?_;intro gE hgE w2 hbox hb2;have HB2:=a_ (bS_ HB1.out hb2);have BS2:=a_ (blk_below BS1.out hb2);have BE2:=a_ hbox;clear hbox hb2 hgE)|((with_reducible refine gD_ (N:=4) rfl ?_);refine bx_ 4 (#[.slice none 0 0,.int .i64 0,.bool false]) 25 ?_;intro gR hgR w3 hbox hb3;have HB3:=a_ (bS_ HB2.out hb3);have BS3:=a_ (blk_below BS2.out hb3);have BE3:=a_ (blk_below BE2.out hb3);have BR3:=a_ hbox;have GR:=a_ (show w.heap.size≤gR by rw [hgR];exact HB2.out.size);have NSR:=a_ (show gS≠gR by have:=blk_lt BS2.out;omega);have hs0:=(bC_ BS3.out 0).trans rfl;have hs1:=(bC_ BS3.out 1).trans rfl;have hs2:=(bC_ BS3.out 2).trans rfl;have he0:=(bC_ BE3.out 0).trans rfl;have he1:=(bC_ BE3.out 1).trans rfl;have he2:=(bC_ BE3.out 2).trans rfl;have he3:=(bC_ BE3.out 3).trans rfl;have he4:=(bC_ BE3.out 4).trans rfl;have he5:=(bC_ BE3.out 5).trans rfl;have he6:=(bC_ BE3.out 6).trans rfl;have hz0:=(bC_ BR3.out 0).trans rfl;have hz1:=(bC_ BR3.out 1).trans rfl;have hz2:=(bC_ BR3.out 2).trans rfl;have hzf0:=bF_ BR3.out 0;have hzf1:=bF_ BR3.out 1;have hzf2:=bF_ BR3.out 2;clear hbox hb3 hgR)|(go_at_call 91;go_loud (refine (spec_l12Add.calls k _ _ l0_0 a1_0 a1_1 a1_2 a1_3 a1_4 a1_5 a1_6 p1 1 _ (Kd.C_below HR0.out HB3.out) HC0.out HP.out).mono ?_;rintro e w4 ⟨v4,rfl,ho4,hb4⟩;have HO4:=a_ ho4;have HB4:=a_ (bS_ HB3.out hb4);have BS4:=a_ (blk_below BS3.out hb4);have BR4:=a_ (blk_below BR3.out hb4);have NR4:=a_ (Nat.le_trans HB3.out.size hb4.size);have hR4:=(Or.resolve_right ho4 (fun q=>q.1 rfl)).2;obtain ⟨A5,c5,rfl⟩:=Kd.R_slice hR4;have HR5:=a_ (Kd.R_types (Kd.R_types hR4 BS4.out (by decide)) BR4.out (by decide));have nsr:=NSR.out;have nrs:=NSR.out.symm;clear hR4 hb4 ho4;have ht0:=(bC_ BS4.out 0).trans rfl;have ht1:=(bC_ BS4.out 1).trans rfl;have ht2:=(bC_ BS4.out 2).trans rfl;have htf0:=bF_ BS4.out 0;have htf1:=bF_ BS4.out 1;have htf2:=bF_ BS4.out 2;have hy0:=(bC_ BR4.out 0).trans rfl;have hy1:=(bC_ BR4.out 1).trans rfl;have hy2:=(bC_ BR4.out 2).trans rfl;have hyf0:=bF_ BR4.out 0;have hyf1:=bF_ BR4.out 1;have hyf2:=bF_ BR4.out 2)))
   (try simp only [Exit.inBlock,Exit.then])
   refine bodyPost_ret (results_ct rfl _ _ gR 25 #[.slice A5 p1.length c5,.int .i64 a0_1,.bool true] (0,0) _ rfl ((blk_set (blk_set (blk_set (blk_far BR4.out NSR.out.symm _) 0 _) 1 _) 2 _).trans rfl) Tryd.underlying25 rfl (by kernel_rfl)) rfl ?_
   refine ⟨_,rfl,Or.inl ⟨rfl,?_⟩,wS_ (wS_ (wS_ (wS_ HB4.out GS.out) GR.out) GR.out) GR.out⟩
   exact Kd.R_mono (Kd.R_lower (Kd.R_far (Kd.R_far (Kd.R_far (Kd.R_far HR5.out (p:=⟨gS,0,none⟩) (fun _ hk=>hk.1.2) _) (p:=⟨gR,0,none⟩) (fun _ hk=>hk.2) _) (p:=⟨gR,1,none⟩) (fun _ hk=>hk.2) _) (p:=⟨gR,2,none⟩) (fun _ hk=>hk.2) _) HB3.out.size) (fun _ _=>trivial)
  ·rw [if_neg hn] at h2
   simp only [Option.some.injEq,Prod.mk.injEq] at h2
   obtain ⟨rfl,rfl,rfl,rfl⟩:=h2
   have hn1:(p2 != 1)=true:=bne_iff_ne.mpr hn
   have hn2:(p2==1)=false:=bn_ hn
   clear hn
   go_enter Tryd.func76,Tryd.ntmps76
   go_wp2_with (first|((with_reducible refine gD_ (N:=2) rfl ?_);refine bx_ 2 (#[.slice A0_0 l0_0.length c0_0,.int .i64 a0_1,.bool true]) 25 ?_;intro gS hgS w1 hbox hb1;have HB1:=a_ hb1;have BS1:=a_ hbox;have GS:=a_ (show w.heap.size≤gS by rw [hgS];exact Nat.le_refl _);clear hbox hb1 hgS)|((with_reducible refine gD_ (N:=3) rfl ?_);refine bx_ 3 (#[.int .i64 a1_0,.int .i64 a1_1,.int .i64 a1_2,.int .i64 a1_3,.int .i64 a1_4,.int .i64 a1_5,.string a1_6]) 44 ?_;intro gE hgE w2 hbox hb2;have HB2:=a_ (bS_ HB1.out hb2);have BS2:=a_ (blk_below BS1.out hb2);have BE2:=a_ hbox;clear hbox hb2 hgE)|((with_reducible refine gD_ (N:=4) rfl ?_);refine bx_ 4 (#[.slice none 0 0,.int .i64 0,.bool false]) 25 ?_;intro gR hgR w3 hbox hb3;have HB3:=a_ (bS_ HB2.out hb3);have BS3:=a_ (blk_below BS2.out hb3);have BE3:=a_ (blk_below BE2.out hb3);have BR3:=a_ hbox;have GR:=a_ (show w.heap.size≤gR by rw [hgR];exact HB2.out.size);have NSR:=a_ (show gS≠gR by have:=blk_lt BS2.out;omega);have hs0:=(bC_ BS3.out 0).trans rfl;have hs1:=(bC_ BS3.out 1).trans rfl;have hs2:=(bC_ BS3.out 2).trans rfl;have he0:=(bC_ BE3.out 0).trans rfl;have he1:=(bC_ BE3.out 1).trans rfl;have he2:=(bC_ BE3.out 2).trans rfl;have he3:=(bC_ BE3.out 3).trans rfl;have he4:=(bC_ BE3.out 4).trans rfl;have he5:=(bC_ BE3.out 5).trans rfl;have he6:=(bC_ BE3.out 6).trans rfl;have hz0:=(bC_ BR3.out 0).trans rfl;have hz1:=(bC_ BR3.out 1).trans rfl;have hz2:=(bC_ BR3.out 2).trans rfl;have hzf0:=bF_ BR3.out 0;have hzf1:=bF_ BR3.out 1;have hzf2:=bF_ BR3.out 2;clear hbox hb3 hgR)|(go_at_call 91;go_loud (refine (spec_l12Add.calls k _ _ l0_0 a1_0 a1_1 a1_2 a1_3 a1_4 a1_5 a1_6 p1 p2 _ (Kd.C_below HR0.out HB3.out) HC0.out HP.out).mono ?_;rintro e w4 ⟨v4,rfl,ho4,hb4⟩;have HO4:=a_ ho4;have HB4:=a_ (bS_ HB3.out hb4);have BS4:=a_ (blk_below BS3.out hb4);have BR4:=a_ (blk_below BR3.out hb4);have NR4:=a_ (Nat.le_trans HB3.out.size hb4.size);clear hb4 ho4;have ht0:=(bC_ BS4.out 0).trans rfl;have ht1:=(bC_ BS4.out 1).trans rfl;have ht2:=(bC_ BS4.out 2).trans rfl;have htf0:=bF_ BS4.out 0;have htf1:=bF_ BS4.out 1;have htf2:=bF_ BS4.out 2;have hy0:=(bC_ BR4.out 0).trans rfl;have hy1:=(bC_ BR4.out 1).trans rfl;have hy2:=(bC_ BR4.out 2).trans rfl;have hyf0:=bF_ BR4.out 0;have hyf1:=bF_ BR4.out 1;have hyf2:=bF_ BR4.out 2)))
   (try simp only [Exit.inBlock,Exit.then])
   refine bodyPost_ret (results_ct rfl _ _ gR 25 #[.slice A0_0 l0_0.length c0_0,.int .i64 a0_1,.bool true] (0,0) _ rfl ((blk_set (blk_set (blk_set BR4.out 0 _) 1 _) 2 _).trans rfl) Tryd.underlying25 rfl (by kernel_rfl)) rfl ?_
   exact ⟨_,rfl,Or.inr ⟨rfl,rfl,rfl⟩,wS_ (wS_ (wS_ HB4.out GR.out) GR.out) GR.out⟩
end Go.Proofs.YtdpklbomhdpimaaDoor.P
namespace Go.Proofs.YtdpklbomhdpimaaDoor.P
open Go.RowKit Go.Proofs.YtdpklbomhdpimaaDoorW.PrintWords Go.Proofs.YtdpklbomhdpimaaDoorW.PrintLast
def spec_l13Copy.f (l0_0:List (S44)) (a0_1:Int) (a0_2:Bool):Option ((List (S44))×Int×Bool):=(some (([]:List (S44)):List (S44))).bind fun y488=>(if y488.length+l0_0.length < 2199023255552 then (some ((y488++l0_0),a0_1,a0_2)) else (none))
theorem spec_l13Copy.calls (A0_0:Option Addr) (c0_0:Nat) (l0_0:List (S44)) (a0_1:Int) (a0_2:Bool) (r1:List (S44)) (r2:Int) (r3:Bool) (w:World) (hr0_0:Kd.C k44 w A0_0 l0_0.length l0_0) (hc0_0:l0_0.length≤c0_0) (h:spec_l13Copy.f l0_0 a0_1 a0_2=some (r1,r2,r3)) :
  Calls Tryd.prog 77 #[.agg #[.slice A0_0 l0_0.length c0_0,.int .i64 a0_1,.bool a0_2]] w fun e w'=>∃ v0_:Value,e=.returned (.agg #[v0_,.int .i64 r2,.bool r3])∧Kd.R k44 44 w' w.heap.size (fun _=>True) v0_ r1∧Below w.heap.size w w':=by
 have hu25:=Tryd.underlying25
 have HR0_0:=a_ hr0_0
 have HC0_0:=a_ hc0_0
 clear hr0_0 hc0_0
 have HB:=a_ (Below.refl w.heap.size w)
 unfold spec_l13Copy.f at h
 have H:=h
 clear h
 obtain ⟨y488,hy488⟩:∃ y_:List (S44),y_=(([]:List (S44))):=⟨_,rfl⟩
 replace H:(if y488.length+l0_0.length < 2199023255552 then (some ((y488++l0_0),a0_1,a0_2)) else (none))=some (r1,r2,r3):=by first|(rw [hy488];with_reducible exact H)|(have H2_:=(Option.bind_some _ _).symm.trans H;rw [hy488];with_reducible exact H2_)|(have H2_:=(Option.bind_some _ _).symm.trans H;with_reducible exact H2_)|with_reducible exact H|(rw [hy488];exact H)|exact H
 have Ny488:=a_ hy488
 clear hy488
 by_cases c2:y488.length+l0_0.length < 2199023255552
 ·rw [if_pos c2] at H
  have LMc2:=a_ c2
  clear c2
  obtain ⟨y491,hy491⟩:∃ y_:List (S44),y_=(y488++l0_0):=⟨_,rfl⟩
  replace H:(some (y491,a0_1,a0_2))=some (r1,r2,r3):=by first|(rw [hy491];with_reducible exact H)|(have H2_:=(Option.bind_some _ _).symm.trans H;rw [hy491];with_reducible exact H2_)|(have H2_:=(Option.bind_some _ _).symm.trans H;with_reducible exact H2_)|with_reducible exact H|(rw [hy491];exact H)|exact H
  have Ny491:=a_ hy491
  clear hy491
  simp only [Option.some.injEq,Prod.mk.injEq] at H
  obtain ⟨rfl,rfl,rfl⟩:=H
  go_enter Tryd.func77,Tryd.ntmps77
  go_wp2_with (first|((with_reducible refine gD_ (N:=1) rfl ?_);refine bx_ 1 (#[.slice A0_0 l0_0.length c0_0,.int .i64 a0_1,.bool a0_2]) 25 ?_;intro gb486 hg w3 hbox hb;have n0_:=a_ (bS_ (bel_) hb);have n1_:=a_ (hbox);have n2_:=a_ ((by rw [hg];exact (below_size (bel_)):w.heap.size≤gb486));have n3_:=a_ ((by rw [hg];exact (below_size (bel_)):w.heap.size≤gb486));clear HB;have HB:=n0_;have BK486:=n1_;have GW486:=n2_;have GE486:=n3_;clear n0_ n1_ n2_ n3_;clear hb hbox hg)|((with_reducible refine gD_ (N:=2) rfl ?_);refine bx_ 2 (#[.slice none 0 0,.int .i64 0,.bool false]) 25 ?_;intro gb487 hg w4 hbox hb;have n0_:=a_ (bb_ BK486.out hb);have n1_:=a_ (bS_ (bel_) hb);have n2_:=a_ (hbox);have n3_:=a_ ((by rw [hg];exact (below_size (bel_)):w.heap.size≤gb487));have n4_:=a_ ((by rw [hg];exact (below_size (bel_)):w.heap.size≤gb487));have n5_:=a_ ((by rw [hg];exact Nat.ne_of_lt (blk_lt (g:=gb486) (o:=.cells #[.slice A0_0 l0_0.length c0_0,.int .i64 a0_1,.bool a0_2] 25 (0,0)) (bp_ BK486.out)):gb486≠gb487));have n6_:=a_ ((by rw [hg];exact Nat.ne_of_gt (blk_lt (g:=gb486) (o:=.cells #[.slice A0_0 l0_0.length c0_0,.int .i64 a0_1,.bool a0_2] 25 (0,0)) (bp_ BK486.out)):gb487≠gb486));clear BK486;clear HB;have BK486:=n0_;have HB:=n1_;have BK487:=n2_;have GW487:=n3_;have GE487:=n4_;have NB486_487:=n5_;have NB487_486:=n6_;clear n0_ n1_ n2_ n3_ n4_ n5_ n6_;clear hb hbox hg)|((with_reducible refine gD_ (N:=3) rfl ?_);refine Kd.R_lit k44 _ 44 ?hg (N:=3) ?hd (xs:=([]:List (S44))) (inner:=[]) (ok:=fun _=>True) (okp:=fun _=>True) ?hr ?hp (fun _ hk=>hk) trivial (Below.refl _ _) (Nat.le_refl _) (by simp) ?_;(case hd=>rfl);(case hg=>rfl);(case hr=>first|(go_simp;done)|(go_simp;rfl));(case hp=>exact (Reps.none _ _));intro v489 w5 ho6 hb hg_ hnew_;clear hg_ hnew_;(first|rw [←Ny488.out] at ho6|(simp only [Int.reduceToNat] at ho6;rw [←Ny488.out] at ho6));have HO490:=a_ (Kd.R_lower ho6 (below_size (bel_)));replace HB:=a_ (bS_ (bel_) hb);replace BK486:=a_ (bb_ BK486.out hb);replace BK487:=a_ (bb_ BK487.out hb);clear hb ho6;have hnb7:=NB486_487.out;have hnc7:=NB487_486.out;obtain ⟨Z8_0,Z8_1,Z8_2,Y8_0,Y8_1,Y8_2⟩:=op3_ BK486.out)|((with_reducible refine gate_builtin (b:=.append) (xs:=#[.tmp 3,.tmp 5]) rfl ?_);at_builtin;refine Kd.R_append_rows k44 (w0:=w) w.heap.size rfl (.tmp 3) (.tmp 5) 23 44 (.agg #[(.int .i64 0),(.int .i64 0),(.int .i64 0),(.int .i64 0),(.int .i64 0),(.int .i64 0),(.string ⟨#[]⟩)]) 64 rfl Tryd.underlying23 info44 rfl (by decide) (by omega) v489 y488 l0_0 _ _ _ (fun _=>True) (fun _=>False) rfl rfl ?aO ?aR (fun _ _ h=>h) (fun _ h=>h.elim) ?aF ?aB ?aS ?aL ?_;(case aR=>exact cx_ (Kd.C_below HR0_0.out HB.out));(case aB=>exact (bel_));(case aF=>exact (fun _ _=>trivial));(case aO=>exact (rp_ HO490.out));(case aS=>exact (below_size (bel_)));(case aL=>have:=LMc2.out;omega);intro v492 w9 ho hb hg hat;rw [←Ny491.out] at ho;replace BK486:=a_ (blk_grown (g:=gb486) (o:=.cells #[.slice A0_0 l0_0.length c0_0,.int .i64 a0_1,.bool a0_2] 25 (0,0)) (bp_ BK486.out) hg (Kd.R_ne HO490.out BK486.out (by decide)));replace BK487:=a_ (blk_grown (g:=gb487) (o:=.cells #[.slice none 0 0,.int .i64 0,.bool false] 25 (0,0)) (bp_ BK487.out) hg (Kd.R_ne HO490.out BK487.out (by decide)));replace HB:=a_ (hb);have HO493:=a_ (ho);clear HO490;clear ho hb hg hat;obtain ⟨Ao10,co10,eo10⟩:=Kd.R_slice HO493.out;subst eo10;obtain ⟨Z11_0,Z11_1,Z11_2,Y11_0,Y11_1,Y11_2⟩:=op3_ BK486.out;obtain ⟨Z12_0,Z12_1,Z12_2,Y12_0,Y12_1,Y12_2⟩:=op3_ BK487.out))
  refine bodyPost_ret (results_cell_row rfl _ _ gb487 25 #[.slice Ao10 y491.length co10,.int .i64 a0_1,.bool a0_2] (0,0) _ rfl (k3p1_ NB487_486.out BK487.out) Tryd.underlying25 rfl (by kernel_rfl)) rfl ?_
  exact ⟨_,fi_,by (with_reducible repeat (first|apply Kd.R_alloc|apply Kd.R_drewN|apply Kd.R_drew));exact Kd.R_mono (rf3_ (g:=gb487) (Kd.R_far (p:=⟨gb486,0,none⟩) (Kd.R_types (Kd.R_types HO493.out BK486.out (by decide)) BK487.out (by decide)) (fun _ hk=>hk.1.2) (.slice Ao10 y491.length co10)) (fun _ hk=>hk.2) (.slice Ao10 y491.length co10) (.int .i64 a0_1) (.bool a0_2)) (fun _ hk=>trivial),bel_⟩
 ·rw [if_neg c2] at H
  exact absurd H (by simp)

def spec_ServerHear.j0:Nat→Bool→List (S44)→Int→Bool→Int→Int→Int→Int→Int→Int→ByteArray→Option ((List (S44))×Int×Bool×Bool)
 | 0,_,_,_,_,_,_,_,_,_,_,_=>none
 | k+1,x13,x495000,x495001,x495002,x496000,x496001,x496002,x496003,x496004,x496005,x496006=>if x13=true then (some (([]:List (S44)),0,false,false)) else ((spec_l13Copy.f x495000 x495001 x495002).bind fun bt499=>((spec_l13Hear.f k bt499.1 bt499.2.1 bt499.2.2 x496000 x496001 x496002 x496003 x496004 x496005 x496006).bind fun bt504=>(some (bt504.1,bt504.2.1,bt504.2.2.1,bt504.2.2.2))))
def spec_ServerHear.f (k:Nat) (l0_0:List (S44)) (a0_1:Int) (a0_2:Bool) (a1_0:Int) (a1_1:Int) (a1_2:Int) (a1_3:Int) (a1_4:Int) (a1_5:Int) (a1_6:ByteArray):Option ((List (S44))×Int×Bool×Bool):=(spec_ServerOk.f k l0_0 a0_1 a0_2).bind fun t497=>(if t497=true then ((spec_EntryOk.f k a1_0 a1_1 a1_2 a1_3 a1_4 a1_5 a1_6).bind fun t498=>(spec_ServerHear.j0 k (!t498) l0_0 a0_1 a0_2 a1_0 a1_1 a1_2 a1_3 a1_4 a1_5 a1_6)) else (spec_ServerHear.j0 k true l0_0 a0_1 a0_2 a1_0 a1_1 a1_2 a1_3 a1_4 a1_5 a1_6))
theorem spec_ServerHear.mono_l:∀ k,(∀ y0 y1 y2 y3 y4 y5 y6 y7 y8 y9 y10,LeO (spec_ServerHear.j0 k y0 y1 y2 y3 y4 y5 y6 y7 y8 y9 y10) (spec_ServerHear.j0 (k+1) y0 y1 y2 y3 y4 y5 y6 y7 y8 y9 y10))
 | 0=>fun _ _ _ _ _ _ _ _ _ _ _ r h=>by simp [spec_ServerHear.j0] at h
 | k+1=>by
  have ih0:=spec_ServerHear.mono_l k
  ·intro y0 y1 y2 y3 y4 y5 y6 y7 y8 y9 y10
   unfold spec_ServerHear.j0
   repeat' first
   | (with_reducible exact ih0 _ _ _ _ _ _ _ _ _ _ _)
   | (with_reducible exact spec_EntryOk.mono _ _ _ _ _ _ _ _)
   | (with_reducible exact spec_ServerOk.mono _ _ _ _)
   | (with_reducible exact spec_l13Hear.mono _ _ _ _ _ _ _ _ _ _ _)
   | (with_reducible exact LeO.refl _)
   | (with_reducible exact LeO.none _)
   | (with_reducible refine LeO.ite ?_ ?_)
   | (with_reducible refine LeO.bind ?_ (fun _=>?_))
theorem spec_ServerHear.mono:∀ a0 a1 a2 a3 a4 a5 a6 a7 a8 a9 k,LeO (spec_ServerHear.f k a0 a1 a2 a3 a4 a5 a6 a7 a8 a9) (spec_ServerHear.f (k+1) a0 a1 a2 a3 a4 a5 a6 a7 a8 a9):=by
 intro a0 a1 a2 a3 a4 a5 a6 a7 a8 a9 k
 have ih0:=spec_ServerHear.mono_l k
 unfold spec_ServerHear.f
 repeat' first
   | (with_reducible exact ih0 _ _ _ _ _ _ _ _ _ _ _)
   | (with_reducible exact spec_EntryOk.mono _ _ _ _ _ _ _ _)
   | (with_reducible exact spec_ServerOk.mono _ _ _ _)
   | (with_reducible exact spec_l13Hear.mono _ _ _ _ _ _ _ _ _ _ _)
   | (with_reducible exact LeO.refl _)
   | (with_reducible exact LeO.none _)
   | (with_reducible refine LeO.ite ?_ ?_)
   | (with_reducible refine LeO.bind ?_ (fun _=>?_))
def spec_ServerHear.T3:Bool×List (List Nat×List Nat):=(true,[([],[]),([0],[0]),([],[]),([1,2,1],[1,2]),([3],[3]),([3],[3]),([4,3,0,1,2,3,4,5],[4]),([5,6,0,1,2,3,4,5,6],[5])])
def spec_ServerHear.B3:List Nat:=[0,1,0,7,15,15,63,127]
theorem spec_ServerHear.tab3:rtab .any (opsOf Tryd.f21 3)=spec_ServerHear.T3:=by kernel_rfl
theorem spec_ServerHear.bits3:waitsOk spec_ServerHear.T3.2 spec_ServerHear.B3=true:=by kernel_rfl
theorem spec_ServerHear.calls (k:Nat) (A0_0:Option Addr) (c0_0:Nat) (l0_0:List (S44)) (a0_1:Int) (a0_2:Bool) (a1_0:Int) (a1_1:Int) (a1_2:Int) (a1_3:Int) (a1_4:Int) (a1_5:Int) (a1_6:ByteArray) (r1:List (S44)) (r2:Int) (r3:Bool) (r4:Bool) (w:World) (hr0_0:Kd.C k44 w A0_0 l0_0.length l0_0) (hc0_0:l0_0.length≤c0_0) (h:spec_ServerHear.f k l0_0 a0_1 a0_2 a1_0 a1_1 a1_2 a1_3 a1_4 a1_5 a1_6=some (r1,r2,r3,r4)) :
  Calls Tryd.prog 21 #[.agg #[.slice A0_0 l0_0.length c0_0,.int .i64 a0_1,.bool a0_2],.agg #[.int .i64 a1_0,.int .i64 a1_1,.int .i64 a1_2,.int .i64 a1_3,.int .i64 a1_4,.int .i64 a1_5,.string a1_6]] w fun e w'=>∃ v0_:Value,e=.returned (.tuple #[.agg #[v0_,.int .i64 r2,.bool r3],.bool r4])∧Kd.R k44 44 w' w.heap.size (fun _=>True) v0_ r1∧Below w.heap.size w w':=by
 have hu25:=Tryd.underlying25
 have hu44:=Tryd.underlying44
 have HR0_0:=a_ hr0_0
 have HC0_0:=a_ hc0_0
 clear hr0_0 hc0_0
 have HB:=a_ (Below.refl w.heap.size w)
 unfold spec_ServerHear.f at h
 have H:=h
 clear h
 have HC3:=a_ H
 clear H
 go_enter Tryd.func21,Tryd.ntmps21
 go_upto_region 1 with (first|((with_reducible refine gD_ (N:=2) rfl ?_);refine bx_ 2 (#[.slice A0_0 l0_0.length c0_0,.int .i64 a0_1,.bool a0_2]) 25 ?_;intro gb494 hg w4 hbox hb;have n0_:=a_ (bS_ (bel_) hb);have n1_:=a_ (hbox);have n2_:=a_ ((by rw [hg];exact (below_size (bel_)):w.heap.size≤gb494));have n3_:=a_ ((by rw [hg];exact (below_size (bel_)):w.heap.size≤gb494));clear HB;have HB:=n0_;have BK494:=n1_;have GW494:=n2_;have GE494:=n3_;clear n0_ n1_ n2_ n3_;clear hb hbox hg)|((with_reducible refine gD_ (N:=3) rfl ?_);refine bx_ 3 (#[.int .i64 a1_0,.int .i64 a1_1,.int .i64 a1_2,.int .i64 a1_3,.int .i64 a1_4,.int .i64 a1_5,.string a1_6]) 44 ?_;intro gb495 hg w5 hbox hb;have n0_:=a_ (bb_ BK494.out hb);have n1_:=a_ (bS_ (bel_) hb);have n2_:=a_ (hbox);have n3_:=a_ ((by rw [hg];exact (below_size (bel_)):w.heap.size≤gb495));have n4_:=a_ ((by rw [hg];exact (below_size (bel_)):w.heap.size≤gb495));have n5_:=a_ ((by rw [hg];exact Nat.ne_of_lt (blk_lt (g:=gb494) (o:=.cells #[.slice A0_0 l0_0.length c0_0,.int .i64 a0_1,.bool a0_2] 25 (0,0)) (bp_ BK494.out)):gb494≠gb495));have n6_:=a_ ((by rw [hg];exact Nat.ne_of_gt (blk_lt (g:=gb494) (o:=.cells #[.slice A0_0 l0_0.length c0_0,.int .i64 a0_1,.bool a0_2] 25 (0,0)) (bp_ BK494.out)):gb495≠gb494));clear BK494;clear HB;have BK494:=n0_;have HB:=n1_;have BK495:=n2_;have GW495:=n3_;have GE495:=n4_;have NB494_495:=n5_;have NB495_494:=n6_;clear n0_ n1_ n2_ n3_ n4_ n5_ n6_;clear hb hbox hg)|((with_reducible refine gD_ (N:=4) rfl ?_);refine bx_ 4 (#[.slice none 0 0,.int .i64 0,.bool false]) 25 ?_;intro gb496 hg w6 hbox hb;have n0_:=a_ (bb_ BK494.out hb);have n1_:=a_ (bb_ BK495.out hb);have n2_:=a_ (bS_ (bel_) hb);have n3_:=a_ (hbox);have n4_:=a_ ((by rw [hg];exact (below_size (bel_)):w.heap.size≤gb496));have n5_:=a_ ((by rw [hg];exact (below_size (bel_)):w.heap.size≤gb496));have n6_:=a_ ((by rw [hg];exact Nat.ne_of_lt (blk_lt (g:=gb494) (o:=.cells #[.slice A0_0 l0_0.length c0_0,.int .i64 a0_1,.bool a0_2] 25 (0,0)) (bp_ BK494.out)):gb494≠gb496));have n7_:=a_ ((by rw [hg];exact Nat.ne_of_gt (blk_lt (g:=gb494) (o:=.cells #[.slice A0_0 l0_0.length c0_0,.int .i64 a0_1,.bool a0_2] 25 (0,0)) (bp_ BK494.out)):gb496≠gb494));have n8_:=a_ ((by rw [hg];exact Nat.ne_of_lt (blk_lt (g:=gb495) (o:=.cells #[.int .i64 a1_0,.int .i64 a1_1,.int .i64 a1_2,.int .i64 a1_3,.int .i64 a1_4,.int .i64 a1_5,.string a1_6] 44 (0,0)) (bp_ BK495.out)):gb495≠gb496));have n9_:=a_ ((by rw [hg];exact Nat.ne_of_gt (blk_lt (g:=gb495) (o:=.cells #[.int .i64 a1_0,.int .i64 a1_1,.int .i64 a1_2,.int .i64 a1_3,.int .i64 a1_4,.int .i64 a1_5,.string a1_6] 44 (0,0)) (bp_ BK495.out)):gb496≠gb495));clear BK494;clear BK495;clear HB;have BK494:=n0_;have BK495:=n1_;have HB:=n2_;have BK496:=n3_;have GW496:=n4_;have GE496:=n5_;have NB494_496:=n6_;have NB496_494:=n7_;have NB495_496:=n8_;have NB496_495:=n9_;clear n0_ n1_ n2_ n3_ n4_ n5_ n6_ n7_ n8_ n9_;clear hb hbox hg))
 (try simp only [Act.put,List.setIfInBounds_toArray,List.set_cons_zero,List.set_cons_succ])
 go_cut [13] (fun v13 wc=>∃ (kq:Nat) (x13_2:Bool),v13=.bool x13_2∧Aside0 (spec_ServerHear.j0 kq x13_2 l0_0 a0_1 a0_2 a1_0 a1_1 a1_2 a1_3 a1_4 a1_5 a1_6=some (r1,r2,r3,r4))∧Aside0 (kq≤k)∧Aside0 (wc.heap[gb494]?=some (.cells #[(.slice A0_0 l0_0.length c0_0),.int .i64 a0_1,.bool a0_2] 25 (0,0)))∧Aside0 (wc.heap[gb495]?=some (.cells #[.int .i64 a1_0,.int .i64 a1_1,.int .i64 a1_2,.int .i64 a1_3,.int .i64 a1_4,.int .i64 a1_5,.string a1_6] 44 (0,0)))∧Aside0 (wc.heap[gb496]?=some (.cells #[(.slice none 0 0),.int .i64 0,.bool false] 25 (0,0)))∧Aside0 (Below w.heap.size w wc))
 case first =>
  have H:=HC3.out
  clear HC3
  replace H:=bs_ H
  obtain ⟨t497,A70,H⟩:=H
  try dsimp only at H
  have A7:=a_ A70
  clear A70
  by_cases c8:t497=true
  ·subst c8
   have H1:((spec_EntryOk.f k a1_0 a1_1 a1_2 a1_3 a1_4 a1_5 a1_6).bind fun t498=>(spec_ServerHear.j0 k (!t498) l0_0 a0_1 a0_2 a1_0 a1_1 a1_2 a1_3 a1_4 a1_5 a1_6))=some (r1,r2,r3,r4):=by rw [if_pos rfl] at H;exact H
   clear H
   have H:=H1
   clear H1
   replace H:=bs_ H
   obtain ⟨t498,A90,H⟩:=H
   try dsimp only at H
   have A9:=a_ A90
   clear A90
   have H':=a_ H
   clear H
   have hnb10:=NB494_495.out
   have hnc10:=NB495_494.out
   have hnb11:=NB494_496.out
   have hnc11:=NB496_494.out
   obtain ⟨Z12_0,Z12_1,Z12_2,Y12_0,Y12_1,Y12_2⟩:=op3_ BK494.out
   go_wp2_with (first|((with_reducible refine gC_ (f:=17) rfl ?_);refine gl_ 7 Tryd.func17 #[.agg #[.slice A0_0 l0_0.length c0_0,.int .i64 a0_1,.bool a0_2]] ?_;(with_reducible refine (spec_ServerOk.calls k _ _ l0_0 a0_1 a0_2 true _ ?side1 ?side2 A7.out).mono ?_);(case side1=>exact cp_ HR0_0.out);(case side2=>exact HC0_0.out);rintro e w13 ⟨rfl,hb⟩;refine ⟨_,rfl,?_⟩;replace HB:=a_ (bS_ (bel_) hb);replace BK494:=a_ (bb_ BK494.out hb);replace BK495:=a_ (bb_ BK495.out hb);replace BK496:=a_ (bb_ BK496.out hb);(try clear hb);have hnb14:=NB495_496.out;have hnc14:=NB496_495.out;obtain ⟨Z15_0,Z15_1,Z15_2,Z15_3,Z15_4,Z15_5,Z15_6,Y15_0,Y15_1,Y15_2,Y15_3,Y15_4,Y15_5,Y15_6⟩:=op7_ BK495.out)|(go_at_call 30;(with_reducible refine (spec_EntryOk.calls k a1_0 a1_1 a1_2 a1_3 a1_4 a1_5 a1_6 t498 _ A9.out).mono ?_);rintro e w16 ⟨rfl,hb⟩;replace HB:=a_ (bS_ (bel_) hb);replace BK494:=a_ (bb_ BK494.out hb);replace BK495:=a_ (bb_ BK495.out hb);replace BK496:=a_ (bb_ BK496.out hb);(try clear hb)))
   go_meet
   case rel=>exact ⟨_,(!t498),(si_),H',⟨by first|omega|exact Nat.le_refl _⟩,⟨bp_ BK494.out⟩,⟨bp_ BK495.out⟩,⟨bp_ BK496.out⟩,⟨bel_⟩⟩
  ·replace c8:=Bool.eq_false_iff.mpr c8
   subst c8
   have H1:(spec_ServerHear.j0 k true l0_0 a0_1 a0_2 a1_0 a1_1 a1_2 a1_3 a1_4 a1_5 a1_6)=some (r1,r2,r3,r4):=by rw [if_neg (show ¬ (false=true) by decide)] at H;exact H
   clear H
   have H:=H1
   clear H1
   have H':=a_ H
   clear H
   have hnb17:=NB494_495.out
   have hnc17:=NB495_494.out
   have hnb18:=NB494_496.out
   have hnc18:=NB496_494.out
   obtain ⟨Z19_0,Z19_1,Z19_2,Y19_0,Y19_1,Y19_2⟩:=op3_ BK494.out
   go_wp2_with (first|((with_reducible refine gC_ (f:=17) rfl ?_);refine gl_ 7 Tryd.func17 #[.agg #[.slice A0_0 l0_0.length c0_0,.int .i64 a0_1,.bool a0_2]] ?_;(with_reducible refine (spec_ServerOk.calls k _ _ l0_0 a0_1 a0_2 false _ ?side1 ?side2 A7.out).mono ?_);(case side1=>exact cp_ HR0_0.out);(case side2=>exact HC0_0.out);rintro e w20 ⟨rfl,hb⟩;refine ⟨_,rfl,?_⟩;replace HB:=a_ (bS_ (bel_) hb);replace BK494:=a_ (bb_ BK494.out hb);replace BK495:=a_ (bb_ BK495.out hb);replace BK496:=a_ (bb_ BK496.out hb);(try clear hb)))
   go_meet
   case rel=>exact ⟨_,(true),(si_),H',⟨by first|omega|exact Nat.le_refl _⟩,⟨bp_ BK494.out⟩,⟨bp_ BK495.out⟩,⟨bp_ BK496.out⟩,⟨bel_⟩⟩
 case rest =>
  clear HC3
  try clear c1
  try clear c2
  try clear p2
  try clear c8
  try clear c10
  try clear c11
  try clear c14
  try clear c17
  try clear c18
  try clear Z12_0 Z12_1 Z12_2 Y12_0 Y12_1 Y12_2
  try clear Z15_0 Z15_1 Z15_2 Z15_3 Z15_4 Z15_5 Z15_6 Y15_0 Y15_1 Y15_2 Y15_3 Y15_4 Y15_5 Y15_6
  try clear Z19_0 Z19_1 Z19_2 Y19_0 Y19_1 Y19_2
  obtain ⟨kq,x13_2,rfl,HA,HJ2,BK494,BK495,BK496,HB⟩:=hcut
  cases kq with
  | zero=>exact absurd HA.out (by simp [spec_ServerHear.j0])
  | succ kj2 =>
   have H:=HA.out
   clear HA
   simp only [spec_ServerHear.j0] at H
   by_cases c21:x13_2=true
   ·subst c21
    have H1:(some (([]:List (S44)),0,false,false))=some (r1,r2,r3,r4):=by rw [if_pos rfl] at H;exact H
    clear H
    have H:=H1
    clear H1
    simp only [Option.some.injEq,Prod.mk.injEq] at H
    obtain ⟨rfl,rfl,rfl,rfl⟩:=H
    have hnb22:=NB496_494.out
    have hnc22:=NB494_496.out
    have hnb23:=NB496_495.out
    have hnc23:=NB495_496.out
    obtain ⟨Z24_0,Z24_1,Z24_2,Y24_0,Y24_1,Y24_2⟩:=op3_ (W:=wc) BK496.out
    go_wp2
    refine bodyPost_ret (results_ct rfl _ _ gb496 25 #[.slice none 0 0,.int .i64 0,.bool false] (0,0) _ rfl (k3p_ BK496.out) Tryd.underlying25 rfl (by kernel_rfl)) rfl ?_
    exact ⟨_,fi_,by first|exact Kd.R_nil _ _ _ _ _|exact Kd.N_nil _ _ _ _ _|exact Kd.V_nil _ _ _ _ _|exact Kd.Q_nil _ _ _ _ _|exact Kd.S_nil _ _ _ _ _,bel_⟩
   ·replace c21:=Bool.eq_false_iff.mpr c21
    subst c21
    have H1:((spec_l13Copy.f l0_0 a0_1 a0_2).bind fun bt499=>((spec_l13Hear.f kj2 bt499.1 bt499.2.1 bt499.2.2 a1_0 a1_1 a1_2 a1_3 a1_4 a1_5 a1_6).bind fun bt504=>(some (bt504.1,bt504.2.1,bt504.2.2.1,bt504.2.2.2))))=some (r1,r2,r3,r4):=by rw [if_neg (show ¬ (false=true) by decide)] at H;exact H
    clear H
    have H:=H1
    clear H1
    replace H:=bs_ H
    obtain ⟨⟨t499,t502,t503⟩,A250,H⟩:=H
    try dsimp only at H
    have A25:=a_ A250
    clear A250
    replace H:=bs_ H
    obtain ⟨⟨t504,t507,t508,t509⟩,A260,H⟩:=H
    try dsimp only at H
    have A26:=a_ A260
    clear A260
    simp only [Option.some.injEq,Prod.mk.injEq] at H
    obtain ⟨rfl,rfl,rfl,rfl⟩:=H
    try go_wp2
    have n0_:=a_ (bD_ BK494.out)
    have n1_:=a_ (bD_ BK495.out)
    have n2_:=a_ (bD_ BK496.out)
    have n3_:=a_ (below_drew1 HB.out)
    clear BK494
    clear BK495
    clear BK496
    clear HB
    have BK494:=n0_
    have BK495:=n1_
    have BK496:=n2_
    have HB:=n3_
    clear n0_ n1_ n2_ n3_
    refine start_ (n:=8) (S:=fun w'=>w'.cell? ⟨gb494,0,none⟩=some (.slice A0_0 l0_0.length c0_0)∧w'.cell? ⟨gb494,1,none⟩=some (.int .i64 a0_1)∧w'.cell? ⟨gb494,2,none⟩=some (.bool a0_2)∧w'.cell? ⟨gb495,0,none⟩=some (.int .i64 a1_0)∧w'.cell? ⟨gb495,1,none⟩=some (.int .i64 a1_1)∧w'.cell? ⟨gb495,2,none⟩=some (.int .i64 a1_2)∧w'.cell? ⟨gb495,3,none⟩=some (.int .i64 a1_3)∧w'.cell? ⟨gb495,4,none⟩=some (.int .i64 a1_4)∧w'.cell? ⟨gb495,5,none⟩=some (.int .i64 a1_5)∧w'.cell? ⟨gb495,6,none⟩=some (.string a1_6)) (ds:=[]) #[false,false,false,false,false,false,false,false] (by kernel_rfl) rfl rfl ⟨(bC_ BK494.out 0).trans rfl,(bC_ BK494.out 1).trans rfl,(bC_ BK494.out 2).trans rfl,(bC_ BK495.out 0).trans rfl,(bC_ BK495.out 1).trans rfl,(bC_ BK495.out 2).trans rfl,(bC_ BK495.out 3).trans rfl,(bC_ BK495.out 4).trans rfl,(bC_ BK495.out 5).trans rfl,(bC_ BK495.out 6).trans rfl⟩ (fun hHeld=>?_);refine with_tabW spec_ServerHear.tab3 spec_ServerHear.bits3 (fun HT_ HW_=>?_)
    generalize wc.drew=w27 at BK494 BK495 BK496 HB hHeld ⊢
    refine ta10_ 0 15 hHeld ?_
    refine ta10_ 2 17 hHeld ?_
    refine on_ 1 16 (fun K hK=>?_)
    refine goes_ Tryd.func77 (by kernel_rfl) rfl #[.agg #[.slice A0_0 l0_0.length c0_0,.int .i64 a0_1,.bool a0_2]] (by rfl) rfl rfl ar_ ?_
    with_reducible refine (spec_l13Copy.calls _ _ l0_0 a0_1 a0_2 t499 t502 t503 _ ?side1 ?side2 A25.out).mono ?_
    (case side1=>exact cp_ HR0_0.out)
    (case side2=>exact HC0_0.out)
    rintro e w28 ⟨v500,rfl,ho0,hb⟩
    refine ⟨_,rfl,?_⟩
    have n0_:=a_ (Kd.R_lower (Kd.R_newB ho0 (g:=gb495) (o:=.cells #[.int .i64 a1_0,.int .i64 a1_1,.int .i64 a1_2,.int .i64 a1_3,.int .i64 a1_4,.int .i64 a1_5,.string a1_6] 44 (0,0)) (bp_ BK495.out)) (below_size (bel_)))
    have n1_:=a_ (bb_ BK494.out hb)
    have n2_:=a_ (bb_ BK495.out hb)
    have n3_:=a_ (bb_ BK496.out hb)
    have n4_:=a_ (bS_ (bel_) hb)
    clear BK494
    clear BK495
    clear BK496
    clear HB
    have HO501:=n0_
    have BK494:=n1_
    have BK495:=n2_
    have BK496:=n3_
    have HB:=n4_
    clear n0_ n1_ n2_ n3_ n4_
    (try clear hb)
    (try clear hb2)
    (try clear hk)
    (try clear hi)
    (try clear ho0)
    obtain ⟨Ao29,co29,eo29⟩:=Kd.R_slice HO501.out
    (first|subst eo29|(injection eo29 with f1_ f2_ f3_;have f4_:=f1_.symm;have f5_:=f3_.symm;clear f1_ f2_ f3_;subst f4_;subst f5_))
    refine hK.out _ _ ⟨(bC_ BK494.out 0).trans rfl,(bC_ BK494.out 1).trans rfl,(bC_ BK494.out 2).trans rfl,(bC_ BK495.out 0).trans rfl,(bC_ BK495.out 1).trans rfl,(bC_ BK495.out 2).trans rfl,(bC_ BK495.out 3).trans rfl,(bC_ BK495.out 4).trans rfl,(bC_ BK495.out 5).trans rfl,(bC_ BK495.out 6).trans rfl⟩ (fun hHeld=>?_)
    clear hK K
    refine no_ 16 ?_
    refine on_ 3 18 (fun K hK=>?_)
    refine goes_ Tryd.func76 (by kernel_rfl) rfl #[.agg #[.slice Ao29 t499.length co29,.int .i64 t502,.bool t503],.agg #[.int .i64 a1_0,.int .i64 a1_1,.int .i64 a1_2,.int .i64 a1_3,.int .i64 a1_4,.int .i64 a1_5,.string a1_6]] (by rfl) rfl rfl ar_ ?_
    with_reducible refine (spec_l13Hear.calls kj2 _ _ t499 t502 t503 a1_0 a1_1 a1_2 a1_3 a1_4 a1_5 a1_6 t504 t507 t508 t509 _ ?side1 ?side2 A26.out).mono ?_
    (case side1=>exact cx_ (Kd.R_reads' HO501.out).2.2)
    (case side2=>exact (Kd.R_reads' HO501.out).2.1)
    rintro e w30 ⟨v505,rfl,ho0,hb⟩
    refine ⟨_,rfl,?_⟩
    have n0_:=a_ True.intro
    have n1_:=a_ (ho0.own (rp_ HO501.out) hb (below_size (bel_)))
    have n2_:=a_ (bb_ BK494.out hb)
    have n3_:=a_ (bb_ BK495.out hb)
    have n4_:=a_ (bb_ BK496.out hb)
    have n5_:=a_ (bS_ (bel_) hb)
    clear HO501
    clear BK494
    clear BK495
    clear BK496
    clear HB
    have HO501:=n0_
    have HO506:=n1_
    have BK494:=n2_
    have BK495:=n3_
    have BK496:=n4_
    have HB:=n5_
    clear n0_ n1_ n2_ n3_ n4_ n5_
    (try clear hb)
    (try clear hb2)
    (try clear hk)
    (try clear hi)
    (try clear ho0)
    obtain ⟨Ao31,co31,eo31⟩:=Kd.R_slice HO506.out
    (first|subst eo31|(injection eo31 with f1_ f2_ f3_;have f4_:=f1_.symm;have f5_:=f3_.symm;clear f1_ f2_ f3_;subst f4_;subst f5_))
    refine hK.out _ _ ⟨(bC_ BK494.out 0).trans rfl,(bC_ BK494.out 1).trans rfl,(bC_ BK494.out 2).trans rfl,(bC_ BK495.out 0).trans rfl,(bC_ BK495.out 1).trans rfl,(bC_ BK495.out 2).trans rfl,(bC_ BK495.out 3).trans rfl,(bC_ BK495.out 4).trans rfl,(bC_ BK495.out 5).trans rfl,(bC_ BK495.out 6).trans rfl⟩ (fun hHeld=>?_)
    clear hK K
    refine no_ 18 ?_
    refine pa_ 4 19 ?_
    refine pa_ 5 20 ?_
    refine one_ (i:=6) (N:=none) #[true,true,true,true,true,true,true,false] rfl rfl (one_of HT_.out (by kernel_rfl)) (by decide) (fun K hK=>?_)
    have hs32:w30.cell? ⟨gb496,0,none⟩=some (.slice none 0 0):=(bC_ BK496.out 0).trans rfl
    have hfs32:=bF_ BK496.out 0
    have hns32_0:=NB494_496.out
    have hns32_1:=NB495_496.out
    have hms32_0:=NB496_494.out
    have hms32_1:=NB496_495.out
    have hs33:w30.cell? ⟨gb496,1,none⟩=some (.int .i64 0):=(bC_ BK496.out 1).trans rfl
    have hfs33:=bF_ BK496.out 1
    have hns33_0:=NB494_496.out
    have hns33_1:=NB495_496.out
    have hms33_0:=NB496_494.out
    have hms33_1:=NB496_495.out
    have hs34:w30.cell? ⟨gb496,2,none⟩=some (.bool false):=(bC_ BK496.out 2).trans rfl
    have hfs34:=bF_ BK496.out 2
    have hns34_0:=NB494_496.out
    have hns34_1:=NB495_496.out
    have hms34_0:=NB496_494.out
    have hms34_1:=NB496_495.out
    refine skip_ (w1:=?_) (by rfl) rfl ?_ ?_
    rotate_left
    ·go_simp
     rfl
    refine hK.out _ _ ⟨(cf3_ (g:=gb496) NB494_496.out (hHeld.1)),(cf3_ (g:=gb496) NB494_496.out (hHeld.2.1)),(cf3_ (g:=gb496) NB494_496.out (hHeld.2.2.1)),(cf3_ (g:=gb496) NB495_496.out (hHeld.2.2.2.1)),(cf3_ (g:=gb496) NB495_496.out (hHeld.2.2.2.2.1)),(cf3_ (g:=gb496) NB495_496.out (hHeld.2.2.2.2.2.1)),(cf3_ (g:=gb496) NB495_496.out (hHeld.2.2.2.2.2.2.1)),(cf3_ (g:=gb496) NB495_496.out (hHeld.2.2.2.2.2.2.2.1)),(cf3_ (g:=gb496) NB495_496.out (hHeld.2.2.2.2.2.2.2.2.1)),(cf3_ (g:=gb496) NB495_496.out (hHeld.2.2.2.2.2.2.2.2.2))⟩ (fun hHeld=>?_)
    clear hK K
    refine pa_ 7 5 ?_
    refine done_ (done_of HT_.out (by kernel_rfl)) ?_
    try go_wp2
    refine bodyPost_ret (results_ct rfl _ _ gb496 25 #[.slice Ao31 t504.length co31,.int .i64 t507,.bool t508] (0,0) _ rfl (k3p_ BK496.out) Tryd.underlying25 rfl (by kernel_rfl)) rfl ?_
    exact ⟨_,fi_,by (with_reducible repeat (first|apply Kd.R_alloc|apply Kd.R_drewN|apply Kd.R_drew));exact Kd.R_mono (rf3_ (g:=gb496) (Kd.R_types HO506.out BK496.out (by decide)) (fun _ hk=>hk.2) (.slice Ao31 t504.length co31) (.int .i64 t507) (.bool t508)) (fun _ hk=>trivial),bel_⟩

theorem eqA69 (d:Nat) (w:World) (x0 y0:Int) (x1 y1:Int) (x2 y2:ByteArray) :
  (Op.equalIn (d+2) 69 (.agg #[.int .i64 x0,.int .i64 x1,.string x2]) (.agg #[.int .i64 y0,.int .i64 y1,.string y2])).run Tryd.prog w=.ok (x0==y0&&(x1==y1&&(x2.toList==y2.toList))) w:=by
 refine eqA_of Tryd.underlying69 (by kernel_rfl) ?_
 refine eqf_cons (by rfl) (by go_simp;rfl) (by go_simp;rfl) (by go_simp) ?_
 refine eqf_cons (by rfl) (by go_simp;rfl) (by go_simp;rfl) (by go_simp) ?_
 exact eqf_last (by rfl) (by go_simp;rfl) (by go_simp;rfl) (by go_simp)
mutual
def spec_DrawEntryOk.j0:Nat→Bool→List Int→Int→Int→Int→Int→Int→Int→Int→ByteArray→Option (Int×Int×Int×Int×Int×Int×ByteArray)
 | 0,_,_,_,_,_,_,_,_,_,_=>none
 | k+1,x24,x668000,x668001,x679000,x679001,x679002,x679003,x679004,x679005,x679006=>if x24=true then (spec_DrawEntryOk.j1 k x668000 x668001 (wrap64 (Int.tdiv x679003 10)) x679001 x679002 x679003 x679004 x679005 x679006) else (spec_DrawEntryOk.j1 k x668000 x668001 x679000 x679001 x679002 x679003 x679004 x679005 x679006)
def spec_DrawEntryOk.j1:Nat→List Int→Int→Int→Int→Int→Int→Int→Int→ByteArray→Option (Int×Int×Int×Int×Int×Int×ByteArray)
 | 0,_,_,_,_,_,_,_,_,_=>none
 | k+1,x668000,x668001,x679000,x679001,x679002,x679003,x679004,x679005,x679006=>(spec_l6Rd_pick.f k x668000 x668001 12).bind fun bt681=>(if bt681.1=0 then ((spec_l6Rd_pick.f k x668000 bt681.2 6).bind fun bt683=>(some (wrap64 (bt683.1 - 1),x679001,x679002,x679003,x679004,x679005,x679006))) else (if bt681.1=1 then ((some (([0,40,41]:List Int):List Int)).bind fun y685=>((spec_l6Rd_pick.f k x668000 bt681.2 3).bind fun bt688=>(if 0≤bt688.1 then (if bt688.1 < (y685.length:Int) then (some (x679000,rd y685 bt688.1,x679002,x679003,x679004,x679005,x679006)) else (none)) else (none)))) else (some (x679000,x679001,x679002,x679003,x679004,x679005,x679006))))
end
def spec_DrawEntryOk.f (k:Nat) (l0:List Int):Option (Int×Int×Int×Int×Int×Int×ByteArray):=(spec_l6Open.f l0).bind fun bt665=>((spec_l6Rd_pick.f k bt665.1 bt665.2 3).bind fun bt668=>((spec_l6Rd_pick.f k bt665.1 bt668.2 9).bind fun bt670=>((spec_l71Op.f k bt665.1 bt670.2).bind fun bt672=>(if bt672.1=1 then ((spec_l6Rd_pick.f k bt665.1 bt672.2.2.2.2.2 4).bind fun bt679=>(spec_DrawEntryOk.j0 k (decide (bt679.1 > 0)) bt665.1 bt679.2 (wrap64 (1+bt668.1)) (wrap64 (1+bt670.1)) bt672.1 bt672.2.1 bt672.2.2.1 bt672.2.2.2.1 bt672.2.2.2.2.1)) else (spec_DrawEntryOk.j0 k false bt665.1 bt672.2.2.2.2.2 (wrap64 (1+bt668.1)) (wrap64 (1+bt670.1)) bt672.1 bt672.2.1 bt672.2.2.1 bt672.2.2.2.1 bt672.2.2.2.2.1)))))
theorem spec_DrawEntryOk.mono_l:∀ k,(∀ y0 y1 y2 y3 y4 y5 y6 y7 y8 y9,LeO (spec_DrawEntryOk.j0 k y0 y1 y2 y3 y4 y5 y6 y7 y8 y9) (spec_DrawEntryOk.j0 (k+1) y0 y1 y2 y3 y4 y5 y6 y7 y8 y9))∧(∀ y0 y1 y2 y3 y4 y5 y6 y7 y8,LeO (spec_DrawEntryOk.j1 k y0 y1 y2 y3 y4 y5 y6 y7 y8) (spec_DrawEntryOk.j1 (k+1) y0 y1 y2 y3 y4 y5 y6 y7 y8))
 | 0=>⟨fun _ _ _ _ _ _ _ _ _ _ r h=>by simp [spec_DrawEntryOk.j0] at h,fun _ _ _ _ _ _ _ _ _ r h=>by simp [spec_DrawEntryOk.j1] at h⟩
 | k+1=>by
  obtain ⟨ih0,ih1⟩:=spec_DrawEntryOk.mono_l k
  refine ⟨?_,?_⟩
  all_goals intros
  all_goals first|unfold spec_DrawEntryOk.j0|unfold spec_DrawEntryOk.j1
  all_goals repeat' first
  | (with_reducible exact ih0 _ _ _ _ _ _ _ _ _ _)
  | (with_reducible exact ih1 _ _ _ _ _ _ _ _ _)
  | (with_reducible exact spec_l6Rd_pick.mono _ _ _ _)
  | (with_reducible exact spec_l71Op.mono _ _ _)
  | (with_reducible exact LeO.refl _)
  | (with_reducible exact LeO.none _)
  | (with_reducible refine LeO.ite ?_ ?_)
  | (with_reducible refine LeO.bind ?_ (fun _=>?_))
theorem spec_DrawEntryOk.mono:∀ a0 k,LeO (spec_DrawEntryOk.f k a0) (spec_DrawEntryOk.f (k+1) a0):=by
 intro a0 k
 obtain ⟨ih0,ih1⟩:=spec_DrawEntryOk.mono_l k
 unfold spec_DrawEntryOk.f
 repeat' first
   | (with_reducible exact ih0 _ _ _ _ _ _ _ _ _ _)
   | (with_reducible exact ih1 _ _ _ _ _ _ _ _ _)
   | (with_reducible exact spec_l6Rd_pick.mono _ _ _ _)
   | (with_reducible exact spec_l71Op.mono _ _ _)
   | (with_reducible exact LeO.refl _)
   | (with_reducible exact LeO.none _)
   | (with_reducible refine LeO.ite ?_ ?_)
   | (with_reducible refine LeO.bind ?_ (fun _=>?_))
theorem spec_DrawEntryOk.calls (k:Nat) (A0:Option Addr) (c0:Nat) (l0:List Int) (r1:Int) (r2:Int) (r3:Int) (r4:Int) (r5:Int) (r6:Int) (r7:ByteArray) (w:World) (hr0:Kd.C (Kd.int .u8) w A0 l0.length l0) (hc0:l0.length≤c0) (h:spec_DrawEntryOk.f k l0=some (r1,r2,r3,r4,r5,r6,r7)) :
  Calls Tryd.prog 89 #[.slice A0 l0.length c0] w fun e w'=>e=.returned (.agg #[.int .i64 r1,.int .i64 r2,.int .i64 r3,.int .i64 r4,.int .i64 r5,.int .i64 r6,.string r7])∧Below w.heap.size w w':=by
 have hu44:=Tryd.underlying44
 have HR0:=a_ hr0
 have HC0:=a_ hc0
 clear hr0 hc0
 have HB:=a_ (Below.refl w.heap.size w)
 unfold spec_DrawEntryOk.f at h
 have H:=h
 clear h
 replace H:=bs_ H
 obtain ⟨⟨t665,t666⟩,A20,H⟩:=H
 try dsimp only at H
 have A2:=a_ A20
 clear A20
 replace H:=bs_ H
 obtain ⟨⟨t668,t669⟩,A30,H⟩:=H
 try dsimp only at H
 have A3:=a_ A30
 clear A30
 replace H:=bs_ H
 obtain ⟨⟨t670,t671⟩,A40,H⟩:=H
 try dsimp only at H
 have A4:=a_ A40
 clear A40
 replace H:=bs_ H
 obtain ⟨⟨t672,t673,t674,t675,t676,t677⟩,A50,H⟩:=H
 try dsimp only at H
 have A5:=a_ A50
 clear A50
 have HC6:=a_ H
 clear H
 go_enter Tryd.func89,Tryd.ntmps89
 go_upto_region 3 with (first|((with_reducible refine gD_ (N:=2) rfl ?_);refine bx_ 2 (#[.int .i64 0,.int .i64 0,.int .i64 0,.int .i64 0,.int .i64 0,.int .i64 0,.string (⟨#[]⟩:ByteArray)]) 44 ?_;intro gb664 hg w7 hbox hb;have n0_:=a_ (bS_ (bel_) hb);have n1_:=a_ (hbox);have n2_:=a_ ((by rw [hg];exact (below_size (bel_)):w.heap.size≤gb664));have n3_:=a_ ((by rw [hg];exact (below_size (bel_)):w.heap.size≤gb664));clear HB;have HB:=n0_;have BK664:=n1_;have GW664:=n2_;have GE664:=n3_;clear n0_ n1_ n2_ n3_;clear hb hbox hg)|((with_reducible refine gC_ (f:=72) rfl ?_);refine gl_ 6 Tryd.func72 #[.slice A0 l0.length c0] ?_;(with_reducible refine (spec_l6Open.calls _ _ l0 t665 t666 w _ ?side1 ?side2 ?side3 A2.out).mono ?_);(case side1=>exact bel_);(case side2=>exact HR0.out);(case side3=>exact HC0.out);rintro e w8 ⟨g667,rfl,hi,hb,hb2⟩;refine ⟨_,rfl,?_⟩;replace HB:=a_ (hb);have HI667:=a_ (hi);have NB667_664:=a_ (IsS145.ne_blk hi (bb_ BK664.out hb2) (by decide));have NB664_667:=a_ (Ne.symm (IsS145.ne_blk hi (bb_ BK664.out hb2) (by decide)));replace BK664:=a_ (bb_ BK664.out hb2);(try clear hb hb2 hi))|((with_reducible refine gC_ (f:=74) rfl ?_);refine gl_ 8 Tryd.func74 #[.pointer (some ⟨g667,0,none⟩),.int .i64 3] ?_;(with_reducible refine (spec_l6Rd_pick.calls k g667 t665 t666 3 t668 t669 w _ ?side1 ?side2 A3.out).mono ?_);(case side1=>exact is_HI667);(case side2=>exact bel_);rintro e w9 ⟨rfl,hi,hb,hk⟩;refine ⟨_,rfl,?_⟩;replace BK664:=a_ (kb_ hk BK664.out NB664_667.out);replace HB:=a_ (hb);replace HI667:=a_ (hi);(try clear hb hk hi))|((with_reducible refine gC_ (f:=74) rfl ?_);refine gl_ 11 Tryd.func74 #[.pointer (some ⟨g667,0,none⟩),.int .i64 9] ?_;(with_reducible refine (spec_l6Rd_pick.calls k g667 t665 t669 9 t670 t671 w _ ?side1 ?side2 A4.out).mono ?_);(case side1=>exact is_HI667);(case side2=>exact bel_);rintro e w10 ⟨rfl,hi,hb,hk⟩;refine ⟨_,rfl,?_⟩;replace BK664:=a_ (kb_ hk BK664.out NB664_667.out);replace HB:=a_ (hb);replace HI667:=a_ (hi);(try clear hb hk hi))|((with_reducible refine gC_ (f:=96) rfl ?_);refine gl_ 14 Tryd.func96 #[.pointer (some ⟨g667,0,none⟩)] ?_;(with_reducible refine (spec_l71Op.calls k g667 t665 t671 t672 t673 t674 t675 t676 t677 w _ ?side1 ?side2 A5.out).mono ?_);(case side1=>exact is_HI667);(case side2=>exact bel_);rintro e w11 ⟨rfl,hi,hb,hk⟩;refine ⟨_,rfl,?_⟩;replace BK664:=a_ (kb_ hk BK664.out NB664_667.out);replace HB:=a_ (hb);replace HI667:=a_ (hi);(try clear hb hk hi))|((with_reducible refine gD_ (N:=4) rfl ?_);refine bx_ 4 (#[.int .i64 0,.int .i64 0,.int .i64 0,.int .i64 0,.int .i64 0,.int .i64 0,.string (⟨#[]⟩:ByteArray)]) 44 ?_;intro gb678 hg w12 hbox hb;have n0_:=a_ (bb_ BK664.out hb);have n1_:=a_ (IsS145.below (is_HI667) hb);have n2_:=a_ (bS_ (bel_) hb);have n3_:=a_ (hbox);have n4_:=a_ ((by rw [hg];exact (below_size (bel_)):w.heap.size≤gb678));have n5_:=a_ ((by rw [hg];exact (below_size (bel_)):w.heap.size≤gb678));have n6_:=a_ ((by rw [hg];exact Nat.ne_of_lt (blk_lt (g:=gb664) (o:=.cells #[.int .i64 0,.int .i64 0,.int .i64 0,.int .i64 0,.int .i64 0,.int .i64 0,.string (⟨#[]⟩:ByteArray)] 44 (0,0)) (bp_ BK664.out)):gb664≠gb678));have n7_:=a_ ((by rw [hg];exact Nat.ne_of_gt (blk_lt (g:=gb664) (o:=.cells #[.int .i64 0,.int .i64 0,.int .i64 0,.int .i64 0,.int .i64 0,.int .i64 0,.string (⟨#[]⟩:ByteArray)] 44 (0,0)) (bp_ BK664.out)):gb678≠gb664));have n8_:=a_ ((by rw [hg];exact Nat.ne_of_lt (IsS145.lt (show IsS145 w _ g667 t665 t677 from is_HI667)):g667≠gb678));have n9_:=a_ ((by rw [hg];exact Nat.ne_of_gt (IsS145.lt (show IsS145 w _ g667 t665 t677 from is_HI667)):gb678≠g667));clear BK664;clear HI667;clear HB;have BK664:=n0_;have HI667:=n1_;have HB:=n2_;have BK678:=n3_;have GW678:=n4_;have GE678:=n5_;have NB664_678:=n6_;have NB678_664:=n7_;have NB667_678:=n8_;have NB678_667:=n9_;clear n0_ n1_ n2_ n3_ n4_ n5_ n6_ n7_ n8_ n9_;clear hb hbox hg;have hnb13:=NB678_664.out;have hnc13:=NB664_678.out;have hnb14:=NB678_667.out;have hnc14:=NB667_678.out;obtain ⟨Z15_0,Z15_1,Z15_2,Z15_3,Z15_4,Z15_5,Z15_6,Y15_0,Y15_1,Y15_2,Y15_3,Y15_4,Y15_5,Y15_6⟩:=op7_ BK678.out))
 (try simp only [Act.put,List.setIfInBounds_toArray,List.set_cons_zero,List.set_cons_succ])
 go_cut [24] (fun v24 wc=>∃ (kq:Nat) (x24_5:Bool) (x668001_5:Int),v24=.bool x24_5∧Aside0 (spec_DrawEntryOk.j0 kq x24_5 t665 x668001_5 (wrap64 (1+t668)) (wrap64 (1+t670)) t672 t673 t674 t675 t676=some (r1,r2,r3,r4,r5,r6,r7))∧Aside0 (kq≤k)∧Aside0 (wc.heap[gb664]?=some (.cells #[.int .i64 0,.int .i64 0,.int .i64 0,.int .i64 0,.int .i64 0,.int .i64 0,.string (⟨#[]⟩:ByteArray)] 44 (0,0)))∧Aside0 (wc.heap[gb678]?=some (.cells #[.int .i64 (wrap64 (1+t668)),.int .i64 (wrap64 (1+t670)),.int .i64 t672,.int .i64 t673,.int .i64 t674,.int .i64 t675,.string t676] 44 (0,0)))∧Aside0 (IsS145 w wc g667 t665 x668001_5)∧Aside0 (Below w.heap.size w wc))
 case first =>
  have H:=HC6.out
  clear HC6
  by_cases c16:t672=1
  ·rw [if_pos c16] at H
   have c16b0:(t672==1)=true:=beq_iff_eq.mpr c16
   have c16b1:(t672 != 1)=false:=be_ c16
   clear c16
   (first|rw [c16b0]|(simp only [i64_w,i32_w];rw [c16b0])|skip)
   replace H:=bs_ H
   obtain ⟨⟨t679,t680⟩,A170,H⟩:=H
   try dsimp only at H
   have A17:=a_ A170
   clear A170
   have H':=a_ H
   clear H
   have hnb18:=NB678_664.out
   have hnc18:=NB664_678.out
   have hnb19:=NB678_667.out
   have hnc19:=NB667_678.out
   obtain ⟨Z20_0,Z20_1,Z20_2,Z20_3,Z20_4,Z20_5,Z20_6,Y20_0,Y20_1,Y20_2,Y20_3,Y20_4,Y20_5,Y20_6⟩:=op7_ BK678.out
   go_wp2_with (first|(go_at_call 74;(with_reducible refine (spec_l6Rd_pick.calls k g667 t665 t677 4 t679 t680 w _ ?side1 ?side2 A17.out).mono ?_);(case side1=>exact is_HI667);(case side2=>exact bel_);rintro e w21 ⟨rfl,hi,hb,hk⟩;have n0_:=a_ (KeepBut.blk hk (g':=gb664) (o:=.cells #[.int .i64 0,.int .i64 0,.int .i64 0,.int .i64 0,.int .i64 0,.int .i64 0,.string (⟨#[]⟩:ByteArray)] 44 (0,0)) (fp1_ NB664_678.out BK664.out) NB664_667.out (by simp));have n1_:=a_ (KeepBut.blk hk (g':=gb678) (o:=.cells #[.int .i64 (wrap64 (1+t668)),.int .i64 (wrap64 (1+t670)),.int .i64 t672,.int .i64 t673,.int .i64 t674,.int .i64 t675,.string t676] 44 (0,0)) (k7p_ BK678.out) NB678_667.out (by simp));have n2_:=a_ (hb);have n3_:=a_ (hi);clear BK664;clear BK678;clear HB;clear HI667;have BK664:=n0_;have BK678:=n1_;have HB:=n2_;have HI667:=n3_;clear n0_ n1_ n2_ n3_;(try clear hb hk hi)))
   go_meet
   case rel=>exact ⟨_,(decide (t679 > 0)),(t680),(si_),H',⟨by first|omega|exact Nat.le_refl _⟩,⟨bp_ BK664.out⟩,⟨bp_ BK678.out⟩,⟨is_HI667⟩,⟨bel_⟩⟩
  ·rw [if_neg c16] at H
   have c16b0:(t672==1)=false:=bn_ c16
   have c16b1:(t672 != 1)=true:=bne_iff_ne.mpr c16
   (first|rw [c16b0]|(simp only [i64_w,i32_w];rw [c16b0])|skip)
   have H':=a_ H
   clear H
   have hnb22:=NB678_664.out
   have hnc22:=NB664_678.out
   have hnb23:=NB678_667.out
   have hnc23:=NB667_678.out
   obtain ⟨Z24_0,Z24_1,Z24_2,Z24_3,Z24_4,Z24_5,Z24_6,Y24_0,Y24_1,Y24_2,Y24_3,Y24_4,Y24_5,Y24_6⟩:=op7_ BK678.out
   go_wp2
   go_meet
   case rel=>exact ⟨_,(false),(t677),(si_),H',⟨by first|omega|exact Nat.le_refl _⟩,⟨fp1_ NB664_678.out BK664.out⟩,⟨k7p_ BK678.out⟩,⟨is_HI667⟩,⟨bel_⟩⟩
 case rest =>
  clear HC6
  try clear c1
  try clear c2
  try clear p2
  try clear p6
  try clear c7
  try clear c8
  try clear c9
  try clear c13
  try clear c14
  try clear c16
  try clear c16b0
  try clear c16b1
  try clear c18
  try clear c19
  try clear c22
  try clear c23
  try clear Z15_0 Z15_1 Z15_2 Z15_3 Z15_4 Z15_5 Z15_6 Y15_0 Y15_1 Y15_2 Y15_3 Y15_4 Y15_5 Y15_6
  try clear Z20_0 Z20_1 Z20_2 Z20_3 Z20_4 Z20_5 Z20_6 Y20_0 Y20_1 Y20_2 Y20_3 Y20_4 Y20_5 Y20_6
  try clear Z24_0 Z24_1 Z24_2 Z24_3 Z24_4 Z24_5 Z24_6 Y24_0 Y24_1 Y24_2 Y24_3 Y24_4 Y24_5 Y24_6
  obtain ⟨kq,x24_5,x668001_5,rfl,HA,HJ5,BK664,BK678,HI667,HB⟩:=hcut
  cases kq with
  | zero=>exact absurd HA.out (by simp [spec_DrawEntryOk.j0])
  | succ kj5 =>
   have H:=HA.out
   clear HA
   simp only [spec_DrawEntryOk.j0] at H
   have HC25:=a_ H
   clear H
   go_upto_if 24 with (fail)
   go_cut [] (fun wc=>∃ (kq:Nat) (x679000_24:Int),Aside0 (spec_DrawEntryOk.j1 kq t665 x668001_5 x679000_24 (wrap64 (1+t670)) t672 t673 t674 t675 t676=some (r1,r2,r3,r4,r5,r6,r7))∧Aside0 (kq≤kj5)∧Aside0 (wc.heap[gb664]?=some (.cells #[.int .i64 0,.int .i64 0,.int .i64 0,.int .i64 0,.int .i64 0,.int .i64 0,.string (⟨#[]⟩:ByteArray)] 44 (0,0)))∧Aside0 (wc.heap[gb678]?=some (.cells #[.int .i64 x679000_24,.int .i64 (wrap64 (1+t670)),.int .i64 t672,.int .i64 t673,.int .i64 t674,.int .i64 t675,.string t676] 44 (0,0)))∧Aside0 (IsS145 w wc g667 t665 x668001_5)∧Aside0 (Below w.heap.size w wc))
   case first =>
    have H:=HC25.out
    clear HC25
    by_cases c26:x24_5=true
    ·subst c26
     have H1:(spec_DrawEntryOk.j1 kj5 t665 x668001_5 (wrap64 (Int.tdiv t673 10)) (wrap64 (1+t670)) t672 t673 t674 t675 t676)=some (r1,r2,r3,r4,r5,r6,r7):=by rw [if_pos rfl] at H;exact H
     clear H
     have H:=H1
     clear H1
     have H':=a_ H
     clear H
     have hnb27:=NB678_664.out
     have hnc27:=NB664_678.out
     have hnb28:=NB678_667.out
     have hnc28:=NB667_678.out
     obtain ⟨Z29_0,Z29_1,Z29_2,Z29_3,Z29_4,Z29_5,Z29_6,Y29_0,Y29_1,Y29_2,Y29_3,Y29_4,Y29_5,Y29_6⟩:=op7_ (W:=wc) BK678.out
     go_wp2
     go_meet
     case rel=>exact ⟨_,(wrap64 (Int.tdiv t673 10)),H',⟨by have:=HJ5.out;first|omega|exact Nat.le_refl _⟩,⟨fp1_ NB664_678.out BK664.out⟩,⟨by (with_reducible repeat (first|refine bN_ ?_ _|refine bD_ ?_|refine bA_ ?_ _));refine blk_put (cs:=#[.int .i64 (wrap64 (1+t668)),.int .i64 (wrap64 (1+t670)),.int .i64 t672,.int .i64 t673,.int .i64 t674,.int .i64 t675,.string t676]) ?_ 0 _ rfl;(with_reducible repeat (first|refine bN_ ?_ _|refine bD_ ?_|refine bA_ ?_ _));exact BK678.out⟩,⟨is_HI667⟩,⟨bel_⟩⟩
    ·replace c26:=Bool.eq_false_iff.mpr c26
     subst c26
     have H1:(spec_DrawEntryOk.j1 kj5 t665 x668001_5 (wrap64 (1+t668)) (wrap64 (1+t670)) t672 t673 t674 t675 t676)=some (r1,r2,r3,r4,r5,r6,r7):=by rw [if_neg (show ¬ (false=true) by decide)] at H;exact H
     clear H
     have H:=H1
     clear H1
     have H':=a_ H
     clear H
     go_wp2
     go_meet
     case rel=>exact ⟨_,((wrap64 (1+t668))),H',⟨by have:=HJ5.out;first|omega|exact Nat.le_refl _⟩,⟨bp_ BK664.out⟩,⟨bp_ BK678.out⟩,⟨is_HI667⟩,⟨bel_⟩⟩
   case rest =>
    clear HC25
    try clear c1
    try clear c2
    try clear p2
    try clear p6
    try clear c7
    try clear c8
    try clear c9
    try clear c13
    try clear c14
    try clear c16
    try clear c16b0
    try clear c16b1
    try clear c18
    try clear c19
    try clear c22
    try clear c23
    try clear c26
    try clear c27
    try clear c28
    try clear p2
    try clear p6
    try clear Z15_0 Z15_1 Z15_2 Z15_3 Z15_4 Z15_5 Z15_6 Y15_0 Y15_1 Y15_2 Y15_3 Y15_4 Y15_5 Y15_6
    try clear Z20_0 Z20_1 Z20_2 Z20_3 Z20_4 Z20_5 Z20_6 Y20_0 Y20_1 Y20_2 Y20_3 Y20_4 Y20_5 Y20_6
    try clear Z24_0 Z24_1 Z24_2 Z24_3 Z24_4 Z24_5 Z24_6 Y24_0 Y24_1 Y24_2 Y24_3 Y24_4 Y24_5 Y24_6
    try clear Z29_0 Z29_1 Z29_2 Z29_3 Z29_4 Z29_5 Z29_6 Y29_0 Y29_1 Y29_2 Y29_3 Y29_4 Y29_5 Y29_6
    obtain ⟨kq,x679000_24,HA,HJ24,BK664,BK678,HI667,HB⟩:=hcut
    cases kq with
    | zero=>exact absurd HA.out (by simp [spec_DrawEntryOk.j1])
    | succ kj24 =>
     have H:=HA.out
     clear HA
     simp only [spec_DrawEntryOk.j1] at H
     replace H:=bs_ H
     obtain ⟨⟨t681,t682⟩,A300,H⟩:=H
     try dsimp only at H
     have A30:=a_ A300
     clear A300
     by_cases c31:t681=0
     ·rw [if_pos c31] at H
      have c31b0:(t681==0)=true:=beq_iff_eq.mpr c31
      have c31b1:(t681 != 0)=false:=be_ c31
      clear c31
      replace H:=bs_ H
      obtain ⟨⟨t683,t684⟩,A320,H⟩:=H
      try dsimp only at H
      have A32:=a_ A320
      clear A320
      simp only [Option.some.injEq,Prod.mk.injEq] at H
      obtain ⟨rfl,rfl,rfl,rfl,rfl,rfl,rfl⟩:=H
      go_wp2_with (first|((with_reducible refine gC_ (f:=74) rfl ?_);refine gl_ 31 Tryd.func74 #[.pointer (some ⟨g667,0,none⟩),.int .i64 12] ?_;(with_reducible refine (spec_l6Rd_pick.calls kj24 g667 t665 x668001_5 12 t681 t682 w _ ?side1 ?side2 A30.out).mono ?_);(case side1=>exact is_HI667);(case side2=>exact bel_);rintro e w33 ⟨rfl,hi,hb,hk⟩;refine ⟨_,rfl,?_⟩;replace BK664:=a_ (kb_ hk BK664.out NB664_667.out);replace BK678:=a_ (kb_ hk BK678.out NB678_667.out);replace HB:=a_ (hb);replace HI667:=a_ (hi);(try clear hb hk hi))|((with_reducible refine gC_ (f:=74) rfl ?_);refine gl_ 35 Tryd.func74 #[.pointer (some ⟨g667,0,none⟩),.int .i64 6] ?_;(with_reducible refine (spec_l6Rd_pick.calls kj24 g667 t665 t682 6 t683 t684 w _ ?side1 ?side2 A32.out).mono ?_);(case side1=>exact is_HI667);(case side2=>exact bel_);rintro e w34 ⟨rfl,hi,hb,hk⟩;refine ⟨_,rfl,?_⟩;replace BK664:=a_ (kb_ hk BK664.out NB664_667.out);replace BK678:=a_ (kb_ hk BK678.out NB678_667.out);replace HB:=a_ (hb);replace HI667:=a_ (hi);(try clear hb hk hi);have hnb35:=NB678_664.out;have hnc35:=NB664_678.out;have hnb36:=NB678_667.out;have hnc36:=NB667_678.out;obtain ⟨Z37_0,Z37_1,Z37_2,Z37_3,Z37_4,Z37_5,Z37_6,Y37_0,Y37_1,Y37_2,Y37_3,Y37_4,Y37_5,Y37_6⟩:=op7_ BK678.out;have hnb38:=NB664_667.out;have hnc38:=NB667_664.out;obtain ⟨Z39_0,Z39_1,Z39_2,Z39_3,Z39_4,Z39_5,Z39_6,Y39_0,Y39_1,Y39_2,Y39_3,Y39_4,Y39_5,Y39_6⟩:=op7_ BK664.out))
      refine bodyPost_ret (results_cell_row rfl _ _ gb664 44 #[.int .i64 (wrap64 (t683 - 1)),.int .i64 (wrap64 (1+t670)),.int .i64 t672,.int .i64 t673,.int .i64 t674,.int .i64 t675,.string t676] (0,0) _ rfl (k7p1_ NB664_678.out BK664.out) Tryd.underlying44 rfl (by kernel_rfl)) rfl ?_
      exact ⟨fi_,bel_⟩
     ·rw [if_neg c31] at H
      have c31b0:(t681==0)=false:=bn_ c31
      have c31b1:(t681 != 0)=true:=bne_iff_ne.mpr c31
      by_cases c40:t681=1
      ·rw [if_pos c40] at H
       have c40b0:(t681==1)=true:=beq_iff_eq.mpr c40
       have c40b1:(t681 != 1)=false:=be_ c40
       clear c40
       obtain ⟨y685,hy685⟩:∃ y_:List Int,y_=(([0,40,41]:List Int)):=⟨_,rfl⟩
       replace H:((spec_l6Rd_pick.f kj24 t665 t682 3).bind fun bt688=>(if 0≤bt688.1 then (if bt688.1 < (y685.length:Int) then (some (x679000_24,rd y685 bt688.1,t672,t673,t674,t675,t676)) else (none)) else (none)))=some (r1,r2,r3,r4,r5,r6,r7):=by first|(rw [hy685];with_reducible exact H)|(have H2_:=(Option.bind_some _ _).symm.trans H;rw [hy685];with_reducible exact H2_)|(have H2_:=(Option.bind_some _ _).symm.trans H;with_reducible exact H2_)|with_reducible exact H|(rw [hy685];exact H)|exact H
       have Ny685:=a_ hy685
       clear hy685
       replace H:=bs_ H
       obtain ⟨⟨t688,t689⟩,A410,H⟩:=H
       try dsimp only at H
       have A41:=a_ A410
       clear A410
       by_cases c42:0≤t688
       ·rw [if_pos c42] at H
        have c42b0:decide (0≤t688)=true:=dt_ c42
        clear c42
        by_cases c43:t688 < (y685.length:Int)
        ·rw [if_pos c43] at H
         have c43b0:decide (t688 < (y685.length:Int))=true:=dt_ c43
         clear c43
         simp only [Option.some.injEq,Prod.mk.injEq] at H
         obtain ⟨rfl,rfl,rfl,rfl,rfl,rfl,rfl⟩:=H
         go_wp2_with (first|((with_reducible refine gC_ (f:=74) rfl ?_);refine gl_ 31 Tryd.func74 #[.pointer (some ⟨g667,0,none⟩),.int .i64 12] ?_;(with_reducible refine (spec_l6Rd_pick.calls kj24 g667 t665 x668001_5 12 t681 t682 w _ ?side1 ?side2 A30.out).mono ?_);(case side1=>exact is_HI667);(case side2=>exact bel_);rintro e w44 ⟨rfl,hi,hb,hk⟩;refine ⟨_,rfl,?_⟩;replace BK664:=a_ (kb_ hk BK664.out NB664_667.out);replace BK678:=a_ (kb_ hk BK678.out NB678_667.out);replace HB:=a_ (hb);replace HI667:=a_ (hi);(try clear hb hk hi))|((with_reducible refine gD_ (N:=40) rfl ?_);refine Kd.R_lit (Kd.int .i64) _ 3 ?hg (N:=40) ?hd (xs:=([0,40,41]:List Int)) (inner:=[.int .i64 0,.int .i64 40,.int .i64 41]) (ok:=fun _=>True) (okp:=fun _=>True) ?hr ?hp (fun _ hk=>hk) trivial (Below.refl _ _) (Nat.le_refl _) (by simp) ?_;(case hd=>rfl);(case hg=>rfl);(case hr=>first|(go_simp;done)|(go_simp;rfl));(case hp=>exact (Reps.one (show Kd.M (Kd.int .i64) _ _ _ 0 [.int .i64 0] from rfl) (Reps.one (show Kd.M (Kd.int .i64) _ _ _ 40 [.int .i64 40] from rfl) (Reps.one (show Kd.M (Kd.int .i64) _ _ _ 41 [.int .i64 41] from rfl) (Reps.none _ _)))));intro v686 w45 ho46 hb hg_ hnew_;clear hg_ hnew_;(first|rw [←Ny685.out] at ho46|(simp only [Int.reduceToNat] at ho46;rw [←Ny685.out] at ho46));have HO687:=a_ (Kd.R_lower ho46 (below_size (bel_)));replace HB:=a_ (bS_ (bel_) hb);replace BK664:=a_ (bb_ BK664.out hb);replace BK678:=a_ (bb_ BK678.out hb);replace HI667:=a_ (IsS145.below (is_HI667) hb);clear hb ho46)|((with_reducible refine gC_ (f:=74) rfl ?_);refine gl_ 42 Tryd.func74 #[.pointer (some ⟨g667,0,none⟩),.int .i64 3] ?_;(with_reducible refine (spec_l6Rd_pick.calls kj24 g667 t665 t682 3 t688 t689 w _ ?side1 ?side2 A41.out).mono ?_);(case side1=>exact is_HI667);(case side2=>exact bel_);rintro e w47 ⟨rfl,hi,hb,hk⟩;refine ⟨_,rfl,?_⟩;replace BK664:=a_ (kb_ hk BK664.out NB664_667.out);replace BK678:=a_ (kb_ hk BK678.out NB678_667.out);replace HO687:=a_ (Kd.R_mono (Kd.R_keep (IsS145.apart (show IsS145 w _ g667 t665 t682 from is_HI667) (rp_ HO687.out) (by decide)) hk (fun _ h=>h.2)) (fun _ h=>h.1));replace HB:=a_ (hb);replace HI667:=a_ (hi);(try clear hb hk hi);obtain ⟨Ao48,co48,eo48⟩:=Kd.R_slice HO687.out;subst eo48;have p690:0≤(t688:Int):=od_;have q690:t688 < (y685.length:Int):=od_;obtain ⟨ad690,e690,hx690_0⟩:=Kd.at_int (Kd.R_reads' HO687.out).2.2 t688 p690 q690;cases e690;replace p690:=eq_true p690;replace q690:=eq_true q690;have hnb49:=NB678_664.out;have hnc49:=NB664_678.out;have hnb50:=NB678_667.out;have hnc50:=NB667_678.out;obtain ⟨Z51_0,Z51_1,Z51_2,Z51_3,Z51_4,Z51_5,Z51_6,Y51_0,Y51_1,Y51_2,Y51_3,Y51_4,Y51_5,Y51_6⟩:=op7_ BK678.out;have hnb52:=NB664_667.out;have hnc52:=NB667_664.out;obtain ⟨Z53_0,Z53_1,Z53_2,Z53_3,Z53_4,Z53_5,Z53_6,Y53_0,Y53_1,Y53_2,Y53_3,Y53_4,Y53_5,Y53_6⟩:=op7_ BK664.out))
         refine bodyPost_ret (results_cell_row rfl _ _ gb664 44 #[.int .i64 x679000_24,.int .i64 (rd y685 t688),.int .i64 t672,.int .i64 t673,.int .i64 t674,.int .i64 t675,.string t676] (0,0) _ rfl (k7p1_ NB664_678.out BK664.out) Tryd.underlying44 rfl (by kernel_rfl)) rfl ?_
         exact ⟨fi_,bel_⟩
        ·rw [if_neg c43] at H
         exact absurd H (by simp)
       ·rw [if_neg c42] at H
        exact absurd H (by simp)
      ·rw [if_neg c40] at H
       have c40b0:(t681==1)=false:=bn_ c40
       have c40b1:(t681 != 1)=true:=bne_iff_ne.mpr c40
       simp only [Option.some.injEq,Prod.mk.injEq] at H
       obtain ⟨rfl,rfl,rfl,rfl,rfl,rfl,rfl⟩:=H
       go_wp2_with (first|((with_reducible refine gC_ (f:=74) rfl ?_);refine gl_ 31 Tryd.func74 #[.pointer (some ⟨g667,0,none⟩),.int .i64 12] ?_;(with_reducible refine (spec_l6Rd_pick.calls kj24 g667 t665 x668001_5 12 t681 t682 w _ ?side1 ?side2 A30.out).mono ?_);(case side1=>exact is_HI667);(case side2=>exact bel_);rintro e w54 ⟨rfl,hi,hb,hk⟩;refine ⟨_,rfl,?_⟩;replace BK664:=a_ (kb_ hk BK664.out NB664_667.out);replace BK678:=a_ (kb_ hk BK678.out NB678_667.out);replace HB:=a_ (hb);replace HI667:=a_ (hi);(try clear hb hk hi);have hnb55:=NB678_664.out;have hnc55:=NB664_678.out;have hnb56:=NB678_667.out;have hnc56:=NB667_678.out;obtain ⟨Z57_0,Z57_1,Z57_2,Z57_3,Z57_4,Z57_5,Z57_6,Y57_0,Y57_1,Y57_2,Y57_3,Y57_4,Y57_5,Y57_6⟩:=op7_ BK678.out;have hnb58:=NB664_667.out;have hnc58:=NB667_664.out;obtain ⟨Z59_0,Z59_1,Z59_2,Z59_3,Z59_4,Z59_5,Z59_6,Y59_0,Y59_1,Y59_2,Y59_3,Y59_4,Y59_5,Y59_6⟩:=op7_ BK664.out))
       refine bodyPost_ret (results_cell_row rfl _ _ gb664 44 #[.int .i64 x679000_24,.int .i64 (wrap64 (1+t670)),.int .i64 t672,.int .i64 t673,.int .i64 t674,.int .i64 t675,.string t676] (0,0) _ rfl (k7p_ BK664.out) Tryd.underlying44 rfl (by kernel_rfl)) rfl ?_
       exact ⟨fi_,bel_⟩

def spec_DrawLogAdd.j0:Nat→List Int→List (S44)→Bool→List Int→Int→Option ((List (S44))×Int×Int×Int×Int×Int×Int×ByteArray)
 | 0,_,_,_,_,_=>none
 | k+1,x0,x5,x18,x695000,x695001=>if x18=true then ((spec_l6Rd_pick.f k x695000 x695001 (x5.length:Int)).bind fun bt701=>(if 0≤bt701.1 then (if bt701.1 < (x5.length:Int) then (some (x5,(rd_T44 x5 bt701.1).f0,(rd_T44 x5 bt701.1).f1,(rd_T44 x5 bt701.1).f2.f0,(rd_T44 x5 bt701.1).f2.f1,(rd_T44 x5 bt701.1).f2.f2,(rd_T44 x5 bt701.1).f2.f3,(rd_T44 x5 bt701.1).f2.f4)) else (none)) else (none))) else ((spec_DrawEntryOk.f k x0).bind fun bt704=>((spec_l6Rd_pick.f k x695000 x695001 6).bind fun bt712=>(if bt712.1 > 0 then ((spec_l12Seq.f k x5 bt704.1).bind fun t714=>(some (x5,bt704.1,wrap64 (t714+1),bt704.2.2.1,bt704.2.2.2.1,bt704.2.2.2.2.1,bt704.2.2.2.2.2.1,bt704.2.2.2.2.2.2))) else (some (x5,bt704.1,bt704.2.1,bt704.2.2.1,bt704.2.2.2.1,bt704.2.2.2.2.1,bt704.2.2.2.2.2.1,bt704.2.2.2.2.2.2)))))
def spec_DrawLogAdd.f (k:Nat) (l0:List Int):Option ((List (S44))×Int×Int×Int×Int×Int×Int×ByteArray):=(spec_l6Open.f l0).bind fun bt692=>((spec_l72Log.f k bt692.1 bt692.2).bind fun bt695=>(if (bt695.1.length:Int) > 0 then ((spec_l6Rd_pick.f k bt692.1 bt695.2 4).bind fun bt699=>(spec_DrawLogAdd.j0 k l0 bt695.1 (bt699.1==0) bt692.1 bt699.2)) else (spec_DrawLogAdd.j0 k l0 bt695.1 false bt692.1 bt695.2)))
theorem spec_DrawLogAdd.mono_l:∀ k,(∀ y0 y1 y2 y3 y4,LeO (spec_DrawLogAdd.j0 k y0 y1 y2 y3 y4) (spec_DrawLogAdd.j0 (k+1) y0 y1 y2 y3 y4))
 | 0=>fun _ _ _ _ _ r h=>by simp [spec_DrawLogAdd.j0] at h
 | k+1=>by
  have ih0:=spec_DrawLogAdd.mono_l k
  ·intro y0 y1 y2 y3 y4
   unfold spec_DrawLogAdd.j0
   repeat' first
   | (with_reducible exact ih0 _ _ _ _ _)
   | (with_reducible exact spec_DrawEntryOk.mono _ _)
   | (with_reducible exact spec_l12Seq.mono _ _ _)
   | (with_reducible exact spec_l6Rd_pick.mono _ _ _ _)
   | (with_reducible exact spec_l72Log.mono _ _ _)
   | (with_reducible exact LeO.refl _)
   | (with_reducible exact LeO.none _)
   | (with_reducible refine LeO.ite ?_ ?_)
   | (with_reducible refine LeO.bind ?_ (fun _=>?_))
theorem spec_DrawLogAdd.mono:∀ a0 k,LeO (spec_DrawLogAdd.f k a0) (spec_DrawLogAdd.f (k+1) a0):=by
 intro a0 k
 have ih0:=spec_DrawLogAdd.mono_l k
 unfold spec_DrawLogAdd.f
 repeat' first
   | (with_reducible exact ih0 _ _ _ _ _)
   | (with_reducible exact spec_DrawEntryOk.mono _ _)
   | (with_reducible exact spec_l12Seq.mono _ _ _)
   | (with_reducible exact spec_l6Rd_pick.mono _ _ _ _)
   | (with_reducible exact spec_l72Log.mono _ _ _)
   | (with_reducible exact LeO.refl _)
   | (with_reducible exact LeO.none _)
   | (with_reducible refine LeO.ite ?_ ?_)
   | (with_reducible refine LeO.bind ?_ (fun _=>?_))
def spec_DrawLogAdd.T4:Bool×List (List Nat×List Nat):=(true,[([],[]),([],[]),([],[]),([],[]),([3],[3]),([2,4],[2,4]),([1,5],[1,5]),([6],[6]),([0,5,0],[0]),([7,8,0,1,2,3,4,5,6,7,8],[7])])
def spec_DrawLogAdd.B4:List Nat:=[0,0,0,0,8,28,62,126,61,511]
theorem spec_DrawLogAdd.tab4:rtab .any (opsOf Tryd.f36 4)=spec_DrawLogAdd.T4:=by kernel_rfl
theorem spec_DrawLogAdd.bits4:waitsOk spec_DrawLogAdd.T4.2 spec_DrawLogAdd.B4=true:=by kernel_rfl
end Go.Proofs.YtdpklbomhdpimaaDoor.P
