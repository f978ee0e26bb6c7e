/- Joined by a program (wip/shake.py): the declarations that 'YtdpklbomhdpimaaDoorCardFnHearAgain' reaches. -/
import Derived.Test.YtdpklbomhdpimaaDoorHb3
set_option linter.unusedVariables false
set_option linter.unusedSimpArgs false
set_option linter.unusedSectionVars false
set_option maxHeartbeats 8000000
set_option maxRecDepth 100000
namespace Go.Proofs.YtdpklbomhdpimaaDoor.P
open Go.RowKit Go.Proofs.YtdpklbomhdpimaaDoorW.PrintWords Go.Proofs.YtdpklbomhdpimaaDoorW.PrintLast
theorem impl_LogAdd.calls (k:Nat) (A0:Option Addr) (c0:Nat) (l0:List (S44)) (a1_0:Int) (a1_1:Int) (a1_2:Int) (a1_3:Int) (a1_4:Int) (a1_5:Int) (a1_6:ByteArray) (r1:List (S44)) (r2:Int) (w:World) (hr0:Kd.C k44 w A0 l0.length l0) (hc0:l0.length≤c0) (h:impl_LogAdd.f k l0 a1_0 a1_1 a1_2 a1_3 a1_4 a1_5 a1_6=some (r1,r2)) (hG:Glob w) :
  Calls Tryd.prog 31 #[.slice A0 l0.length c0,.agg #[.int .i64 a1_0,.int .i64 a1_1,.int .i64 a1_2,.int .i64 a1_3,.int .i64 a1_4,.int .i64 a1_5,.string a1_6]] w fun e w'=>∃ v0_:Value,e=.returned (.tuple #[v0_,.int .i64 r2])∧Kd.R k44 44 w' w.heap.size (fun _=>True) v0_ r1∧Below w.heap.size w w':=by
 have hu44:=Tryd.underlying44
 have HR0:=a_ hr0
 have HC0:=a_ hc0
 clear hr0 hc0
 have HB:=a_ (Below.refl w.heap.size w)
 have HG:=a_ hG
 clear hG
 unfold impl_LogAdd.f at h
 have H:=h
 clear h
 have HC3:=a_ H
 clear H
 go_enter Tryd.func31,Tryd.ntmps31
 go_upto_region 1 with (first|((with_reducible refine gD_ (N:=3) rfl ?_);refine bx_ 3 (#[.int .i64 a1_0,.int .i64 a1_1,.int .i64 a1_2,.int .i64 a1_3,.int .i64 a1_4,.int .i64 a1_5,.string a1_6]) 44 ?_;intro gb751 hg w4 hbox hb;have n0_:=a_ (bS_ (bel_) hb);have n1_:=a_ (hbox);have n2_:=a_ ((by rw [hg];exact (below_size (bel_)):w.heap.size≤gb751));have n3_:=a_ ((by rw [hg];exact (below_size (bel_)):w.heap.size≤gb751));clear HB;have HB:=n0_;have BK751:=n1_;have GW751:=n2_;have GE751:=n3_;clear n0_ n1_ n2_ n3_;clear hb hbox hg))
 (try simp only [Act.put,List.setIfInBounds_toArray,List.set_cons_zero,List.set_cons_succ])
 go_cut [14] (fun v14 wc=>∃ (kq:Nat) (x14_2:Bool),v14=.bool x14_2∧Aside0 (impl_LogAdd.j0 kq l0 x14_2 a1_0 a1_1 a1_2 a1_3 a1_4 a1_5 a1_6=some (r1,r2))∧Aside0 (kq≤k)∧Aside0 (wc.heap[gb751]?=some (.cells #[.int .i64 a1_0,.int .i64 a1_1,.int .i64 a1_2,.int .i64 a1_3,.int .i64 a1_4,.int .i64 a1_5,.string a1_6] 44 (0,0)))∧Aside0 (Below w.heap.size w wc))
 case first =>
  have H:=HC3.out
  clear HC3
  replace H:=bs_ H
  obtain ⟨t752,A50,H⟩:=H
  try dsimp only at H
  have A5:=a_ A50
  clear A50
  by_cases c6:t752=true
  ·subst c6
   have H1:((impl_EntryOk.f k a1_0 a1_1 a1_2 a1_3 a1_4 a1_5 a1_6).bind fun t753=>(impl_LogAdd.j0 k l0 (!t753) a1_0 a1_1 a1_2 a1_3 a1_4 a1_5 a1_6))=some (r1,r2):=by rw [if_pos rfl] at H;exact H
   clear H
   have H:=H1
   clear H1
   replace H:=bs_ H
   obtain ⟨t753,A70,H⟩:=H
   try dsimp only at H
   have A7:=a_ A70
   clear A70
   have H':=a_ H
   clear H
   go_wp2_with (first|((with_reducible refine gC_ (f:=42) rfl ?_);refine gl_ 8 Tryd.func42 #[.slice A0 l0.length c0] ?_;(with_reducible refine (impl_LogOk.calls k _ _ l0 true _ ?side1 ?side2 A5.out ?side3).mono ?_);(case side1=>exact cp_ HR0.out);(case side2=>exact HC0.out);(case side3=>exact Glob.below HG.out (bel_));rintro e w8 ⟨rfl,hb⟩;refine ⟨_,rfl,?_⟩;replace HB:=a_ (bS_ (bel_) hb);replace BK751:=a_ (bb_ BK751.out hb);(try clear hb);obtain ⟨Z9_0,Z9_1,Z9_2,Z9_3,Z9_4,Z9_5,Z9_6,Y9_0,Y9_1,Y9_2,Y9_3,Y9_4,Y9_5,Y9_6⟩:=op7_ BK751.out)|(go_at_call 78;(with_reducible refine (impl_EntryOk.calls k a1_0 a1_1 a1_2 a1_3 a1_4 a1_5 a1_6 t753 _ A7.out ?side1).mono ?_);(case side1=>exact Glob.below HG.out (bel_));rintro e w10 ⟨rfl,hb⟩;replace HB:=a_ (bS_ (bel_) hb);replace BK751:=a_ (bb_ BK751.out hb);(try clear hb)))
   go_meet
   case rel=>exact ⟨_,(!t753),(si_),H',⟨by first|omega|exact Nat.le_refl _⟩,⟨bp_ BK751.out⟩,⟨bel_⟩⟩
  ·replace c6:=Bool.eq_false_iff.mpr c6
   subst c6
   have H1:(impl_LogAdd.j0 k l0 true a1_0 a1_1 a1_2 a1_3 a1_4 a1_5 a1_6)=some (r1,r2):=by rw [if_neg (show ¬ (false=true) by decide)] at H;exact H
   clear H
   have H:=H1
   clear H1
   have H':=a_ H
   clear H
   go_wp2_with (first|((with_reducible refine gC_ (f:=42) rfl ?_);refine gl_ 8 Tryd.func42 #[.slice A0 l0.length c0] ?_;(with_reducible refine (impl_LogOk.calls k _ _ l0 false _ ?side1 ?side2 A5.out ?side3).mono ?_);(case side1=>exact cp_ HR0.out);(case side2=>exact HC0.out);(case side3=>exact Glob.below HG.out (bel_));rintro e w11 ⟨rfl,hb⟩;refine ⟨_,rfl,?_⟩;replace HB:=a_ (bS_ (bel_) hb);replace BK751:=a_ (bb_ BK751.out hb);(try clear hb)))
   go_meet
   case rel=>exact ⟨_,(true),(si_),H',⟨by first|omega|exact Nat.le_refl _⟩,⟨bp_ BK751.out⟩,⟨bel_⟩⟩
 case rest =>
  clear HC3
  try clear p2
  try clear c3
  try clear c4
  try clear c6
  try clear Z9_0 Z9_1 Z9_2 Z9_3 Z9_4 Z9_5 Z9_6 Y9_0 Y9_1 Y9_2 Y9_3 Y9_4 Y9_5 Y9_6
  obtain ⟨kq,x14_2,rfl,HA,HJ2,BK751,HB⟩:=hcut
  cases kq with
  | zero=>exact absurd HA.out (by simp [impl_LogAdd.j0])
  | succ kj2 =>
   have H:=HA.out
   clear HA
   simp only [impl_LogAdd.j0] at H
   by_cases c12:x14_2=true
   ·subst c12
    have H1:(some (([]:List (S44)),(-1)))=some (r1,r2):=by rw [if_pos rfl] at H;exact H
    clear H
    have H:=H1
    clear H1
    simp only [Option.some.injEq,Prod.mk.injEq] at H
    obtain ⟨rfl,rfl⟩:=H
    go_wp2
    go_ret2
    exact ⟨_,fi_,by first|exact Kd.R_nil _ _ _ _ _|exact Kd.N_nil _ _ _ _ _|exact Kd.V_nil _ _ _ _ _|exact Kd.Q_nil _ _ _ _ _|exact Kd.S_nil _ _ _ _ _,bel_⟩
   ·replace c12:=Bool.eq_false_iff.mpr c12
    subst c12
    have H1:((impl_Entry_85.f l0).bind fun t754=>((impl_Entry_86.f kj2 l0 a1_0 a1_1 a1_2 a1_3 a1_4 a1_5 a1_6).bind fun t757=>(if t757=true then (some (t754,0)) else ((impl_LogSeq.f kj2 l0 a1_0).bind fun t758=>(if a1_1=(wrap64 (t758+1)) then (if (l0.length:Int)≥40 then (some (t754,(-1))) else (if t754.length < 2199023255552 then (some ((t754++[(⟨a1_0,a1_1,(⟨a1_2,a1_3,a1_4,a1_5,a1_6⟩:S42)⟩:S44)]),1)) else (none))) else (some (t754,(-1))))))))=some (r1,r2):=by rw [if_neg (show ¬ (false=true) by decide)] at H;exact H
    clear H
    have H:=H1
    clear H1
    replace H:=bs_ H
    obtain ⟨t754,A130,H⟩:=H
    try dsimp only at H
    have A13:=a_ A130
    clear A130
    replace H:=bs_ H
    obtain ⟨t757,A140,H⟩:=H
    try dsimp only at H
    have A14:=a_ A140
    clear A140
    by_cases c15:t757=true
    ·subst c15
     have H1:(some (t754,0))=some (r1,r2):=by rw [if_pos rfl] at H;exact H
     clear H
     have H:=H1
     clear H1
     simp only [Option.some.injEq,Prod.mk.injEq] at H
     obtain ⟨rfl,rfl⟩:=H
     go_wp2_with (first|((with_reducible refine gC_ (f:=85) rfl ?_);refine gl_ 16 Tryd.func85 #[.slice A0 l0.length c0] ?_;(with_reducible refine (impl_Entry_85.calls _ _ l0 t754 _ ?side1 ?side2 A13.out).mono ?_);(case side1=>exact cp_ HR0.out);(case side2=>exact HC0.out);rintro e w16 ⟨v755,rfl,ho0,hb⟩;refine ⟨_,rfl,?_⟩;have HO756:=a_ (Kd.R_lower (Kd.R_newB ho0 (g:=gb751) (o:=.cells #[.int .i64 a1_0,.int .i64 a1_1,.int .i64 a1_2,.int .i64 a1_3,.int .i64 a1_4,.int .i64 a1_5,.string a1_6] 44 (0,0)) (bp_ BK751.out)) (below_size (bel_)));replace HB:=a_ (bS_ (bel_) hb);replace BK751:=a_ (bb_ BK751.out hb);(try clear hb ho0);obtain ⟨Z17_0,Z17_1,Z17_2,Z17_3,Z17_4,Z17_5,Z17_6,Y17_0,Y17_1,Y17_2,Y17_3,Y17_4,Y17_5,Y17_6⟩:=op7_ BK751.out)|((with_reducible refine gC_ (f:=86) rfl ?_);refine gl_ 19 Tryd.func86 #[.slice A0 l0.length c0,.agg #[.int .i64 a1_0,.int .i64 a1_1,.int .i64 a1_2,.int .i64 a1_3,.int .i64 a1_4,.int .i64 a1_5,.string a1_6]] ?_;(with_reducible refine (impl_Entry_86.calls kj2 _ _ l0 a1_0 a1_1 a1_2 a1_3 a1_4 a1_5 a1_6 true _ ?side1 ?side2 A14.out).mono ?_);(case side1=>exact cp_ HR0.out);(case side2=>exact HC0.out);rintro e w18 ⟨rfl,hb⟩;refine ⟨_,rfl,?_⟩;replace HO756:=a_ (Kd.R_below (rp_ HO756.out) hb);replace HB:=a_ (bS_ (bel_) hb);replace BK751:=a_ (bb_ BK751.out hb);(try clear hb)))
     go_ret2
     exact ⟨_,fi_,by (with_reducible repeat (first|apply Kd.R_alloc|apply Kd.R_drewN|apply Kd.R_drew));exact Kd.R_mono HO756.out (fun _ hk=>trivial),bel_⟩
    ·replace c15:=Bool.eq_false_iff.mpr c15
     subst c15
     have H1:((impl_LogSeq.f kj2 l0 a1_0).bind fun t758=>(if a1_1=(wrap64 (t758+1)) then (if (l0.length:Int)≥40 then (some (t754,(-1))) else (if t754.length < 2199023255552 then (some ((t754++[(⟨a1_0,a1_1,(⟨a1_2,a1_3,a1_4,a1_5,a1_6⟩:S42)⟩:S44)]),1)) else (none))) else (some (t754,(-1)))))=some (r1,r2):=by rw [if_neg (show ¬ (false=true) by decide)] at H;exact H
     clear H
     have H:=H1
     clear H1
     replace H:=bs_ H
     obtain ⟨t758,A190,H⟩:=H
     try dsimp only at H
     have A19:=a_ A190
     clear A190
     by_cases c20:a1_1=(wrap64 (t758+1))
     ·rw [if_pos c20] at H
      have c20b0:(a1_1==(wrap64 (t758+1)))=true:=beq_iff_eq.mpr c20
      have c20b1:(a1_1 != (wrap64 (t758+1)))=false:=be_ c20
      clear c20
      by_cases c21:(l0.length:Int)≥40
      ·rw [if_pos c21] at H
       have c21b0:decide (40≤(l0.length:Int))=true:=dt_ c21
       have c21b1:decide (40≤l0.length)=true:=dt_ (by omega)
       clear c21
       simp only [Option.some.injEq,Prod.mk.injEq] at H
       obtain ⟨rfl,rfl⟩:=H
       try go_wp2_with (first|((with_reducible refine gC_ (f:=85) rfl ?_);refine gl_ 16 Tryd.func85 #[.slice A0 l0.length c0] ?_;(with_reducible refine (impl_Entry_85.calls _ _ l0 t754 _ ?side1 ?side2 A13.out).mono ?_);(case side1=>exact cp_ HR0.out);(case side2=>exact HC0.out);rintro e w22 ⟨v755,rfl,ho0,hb⟩;refine ⟨_,rfl,?_⟩;have HO756:=a_ (Kd.R_lower (Kd.R_newB ho0 (g:=gb751) (o:=.cells #[.int .i64 a1_0,.int .i64 a1_1,.int .i64 a1_2,.int .i64 a1_3,.int .i64 a1_4,.int .i64 a1_5,.string a1_6] 44 (0,0)) (bp_ BK751.out)) (below_size (bel_)));replace HB:=a_ (bS_ (bel_) hb);replace BK751:=a_ (bb_ BK751.out hb);(try clear hb ho0);obtain ⟨Z23_0,Z23_1,Z23_2,Z23_3,Z23_4,Z23_5,Z23_6,Y23_0,Y23_1,Y23_2,Y23_3,Y23_4,Y23_5,Y23_6⟩:=op7_ BK751.out)|((with_reducible refine gC_ (f:=86) rfl ?_);refine gl_ 19 Tryd.func86 #[.slice A0 l0.length c0,.agg #[.int .i64 a1_0,.int .i64 a1_1,.int .i64 a1_2,.int .i64 a1_3,.int .i64 a1_4,.int .i64 a1_5,.string a1_6]] ?_;(with_reducible refine (impl_Entry_86.calls kj2 _ _ l0 a1_0 a1_1 a1_2 a1_3 a1_4 a1_5 a1_6 false _ ?side1 ?side2 A14.out).mono ?_);(case side1=>exact cp_ HR0.out);(case side2=>exact HC0.out);rintro e w24 ⟨rfl,hb⟩;refine ⟨_,rfl,?_⟩;replace HO756:=a_ (Kd.R_below (rp_ HO756.out) hb);replace HB:=a_ (bS_ (bel_) hb);replace BK751:=a_ (bb_ BK751.out hb);(try clear hb)))
       have n0_:=a_ (Kd.R_drew HO756.out)
       have n1_:=a_ (bD_ BK751.out)
       have n2_:=a_ (below_drew1 HB.out)
       clear HO756
       clear BK751
       clear HB
       have HO756:=n0_
       have BK751:=n1_
       have HB:=n2_
       clear n0_ n1_ n2_
       refine start_ (n:=13) (S:=fun w'=>w'.cell? ⟨gb751,0,none⟩=some (.int .i64 a1_0)∧w'.cell? ⟨gb751,1,none⟩=some (.int .i64 a1_1)∧w'.cell? ⟨gb751,2,none⟩=some (.int .i64 a1_2)∧w'.cell? ⟨gb751,3,none⟩=some (.int .i64 a1_3)∧w'.cell? ⟨gb751,4,none⟩=some (.int .i64 a1_4)∧w'.cell? ⟨gb751,5,none⟩=some (.int .i64 a1_5)∧w'.cell? ⟨gb751,6,none⟩=some (.string a1_6)) (ds:=[]) #[false,false,false,false,false,false,false,false,false,false,false,false,false] (by kernel_rfl) rfl rfl ⟨(bC_ BK751.out 0).trans rfl,(bC_ BK751.out 1).trans rfl,(bC_ BK751.out 2).trans rfl,(bC_ BK751.out 3).trans rfl,(bC_ BK751.out 4).trans rfl,(bC_ BK751.out 5).trans rfl,(bC_ BK751.out 6).trans rfl⟩ (fun hHeld=>?_);refine with_tabW impl_LogAdd.tab6 impl_LogAdd.bits6 (fun HT_ HW_=>?_)
       generalize w24.drew=w25 at HO756 BK751 HB hHeld ⊢
       refine pa_ 0 21 ?_
       refine pa_ 2 23 ?_
       refine pa_ 3 24 ?_
       refine ta7_ 1 22 hHeld ?_
       refine ta7_ 4 25 hHeld ?_
       refine on_ 5 26 (fun K hK=>?_)
       refine goes_ Tryd.func33 (by kernel_rfl) rfl #[.slice A0 l0.length c0,.int .i64 a1_0] (by rfl) rfl rfl ar_ ?_
       with_reducible refine (impl_LogSeq.calls kj2 _ _ l0 a1_0 t758 _ ?side1 ?side2 A19.out ?side3).mono ?_
       (case side1=>exact cp_ HR0.out)
       (case side2=>exact HC0.out)
       (case side3=>exact Glob.below HG.out (bel_))
       rintro e w26 ⟨rfl,hb⟩
       refine ⟨_,rfl,?_⟩
       have n0_:=a_ (Kd.R_below (rp_ HO756.out) hb)
       have n1_:=a_ (bb_ BK751.out hb)
       have n2_:=a_ (bS_ (bel_) hb)
       clear HO756
       clear BK751
       clear HB
       have HO756:=n0_
       have BK751:=n1_
       have HB:=n2_
       clear n0_ n1_ n2_
       (try clear hb)
       (try clear hb2)
       (try clear hk)
       (try clear hi)
       refine hK.out _ _ ⟨(bC_ BK751.out 0).trans rfl,(bC_ BK751.out 1).trans rfl,(bC_ BK751.out 2).trans rfl,(bC_ BK751.out 3).trans rfl,(bC_ BK751.out 4).trans rfl,(bC_ BK751.out 5).trans rfl,(bC_ BK751.out 6).trans rfl⟩ (fun hHeld=>?_)
       clear hK K
       refine no_ 26 ?_
       refine pa_ 6 27 ?_
       refine pa_ 7 28 ?_
       refine pa_ 8 29 ?_
       refine pa_ 9 30 ?_
       refine pa_ 10 31 ?_
       refine pa_ 11 32 ?_
       refine pa_ 12 33 ?_
       refine done_ (done_of HT_.out (by kernel_rfl)) ?_
       try go_wp2
       go_ret2
       exact ⟨_,fi_,by (with_reducible repeat (first|apply Kd.R_alloc|apply Kd.R_drewN|apply Kd.R_drew));exact Kd.R_mono HO756.out (fun _ hk=>trivial),bel_⟩
      ·rw [if_neg c21] at H
       have c21b0:decide (40≤(l0.length:Int))=false:=df_ c21
       have c21b1:decide (40≤l0.length)=false:=df_ (by omega)
       clear c21
       by_cases c27:t754.length < 2199023255552
       ·rw [if_pos c27] at H
        have LMc27:=a_ c27
        clear c27
        obtain ⟨y759,hy759⟩:∃ y_:List (S44),y_=(t754++[(⟨a1_0,a1_1,(⟨a1_2,a1_3,a1_4,a1_5,a1_6⟩:S42)⟩:S44)]):=⟨_,rfl⟩
        replace H:(some (y759,1))=some (r1,r2):=by first|(rw [hy759];with_reducible exact H)|(have H2_:=(Option.bind_some _ _).symm.trans H;rw [hy759];with_reducible exact H2_)|(have H2_:=(Option.bind_some _ _).symm.trans H;with_reducible exact H2_)|with_reducible exact H|(rw [hy759];exact H)|exact H
        have Ny759:=a_ hy759
        clear hy759
        simp only [Option.some.injEq,Prod.mk.injEq] at H
        obtain ⟨rfl,rfl⟩:=H
        try go_wp2_with (first|((with_reducible refine gC_ (f:=85) rfl ?_);refine gl_ 16 Tryd.func85 #[.slice A0 l0.length c0] ?_;(with_reducible refine (impl_Entry_85.calls _ _ l0 t754 _ ?side1 ?side2 A13.out).mono ?_);(case side1=>exact cp_ HR0.out);(case side2=>exact HC0.out);rintro e w28 ⟨v755,rfl,ho0,hb⟩;refine ⟨_,rfl,?_⟩;have HO756:=a_ (Kd.R_lower (Kd.R_newB ho0 (g:=gb751) (o:=.cells #[.int .i64 a1_0,.int .i64 a1_1,.int .i64 a1_2,.int .i64 a1_3,.int .i64 a1_4,.int .i64 a1_5,.string a1_6] 44 (0,0)) (bp_ BK751.out)) (below_size (bel_)));replace HB:=a_ (bS_ (bel_) hb);replace BK751:=a_ (bb_ BK751.out hb);(try clear hb ho0);obtain ⟨Z29_0,Z29_1,Z29_2,Z29_3,Z29_4,Z29_5,Z29_6,Y29_0,Y29_1,Y29_2,Y29_3,Y29_4,Y29_5,Y29_6⟩:=op7_ BK751.out)|((with_reducible refine gC_ (f:=86) rfl ?_);refine gl_ 19 Tryd.func86 #[.slice A0 l0.length c0,.agg #[.int .i64 a1_0,.int .i64 a1_1,.int .i64 a1_2,.int .i64 a1_3,.int .i64 a1_4,.int .i64 a1_5,.string a1_6]] ?_;(with_reducible refine (impl_Entry_86.calls kj2 _ _ l0 a1_0 a1_1 a1_2 a1_3 a1_4 a1_5 a1_6 false _ ?side1 ?side2 A14.out).mono ?_);(case side1=>exact cp_ HR0.out);(case side2=>exact HC0.out);rintro e w30 ⟨rfl,hb⟩;refine ⟨_,rfl,?_⟩;replace HO756:=a_ (Kd.R_below (rp_ HO756.out) hb);replace HB:=a_ (bS_ (bel_) hb);replace BK751:=a_ (bb_ BK751.out hb);(try clear hb)))
        have n0_:=a_ (Kd.R_drew HO756.out)
        have n1_:=a_ (bD_ BK751.out)
        have n2_:=a_ (below_drew1 HB.out)
        clear HO756
        clear BK751
        clear HB
        have HO756:=n0_
        have BK751:=n1_
        have HB:=n2_
        clear n0_ n1_ n2_
        refine start_ (n:=13) (S:=fun w'=>w'.cell? ⟨gb751,0,none⟩=some (.int .i64 a1_0)∧w'.cell? ⟨gb751,1,none⟩=some (.int .i64 a1_1)∧w'.cell? ⟨gb751,2,none⟩=some (.int .i64 a1_2)∧w'.cell? ⟨gb751,3,none⟩=some (.int .i64 a1_3)∧w'.cell? ⟨gb751,4,none⟩=some (.int .i64 a1_4)∧w'.cell? ⟨gb751,5,none⟩=some (.int .i64 a1_5)∧w'.cell? ⟨gb751,6,none⟩=some (.string a1_6)) (ds:=[]) #[false,false,false,false,false,false,false,false,false,false,false,false,false] (by kernel_rfl) rfl rfl ⟨(bC_ BK751.out 0).trans rfl,(bC_ BK751.out 1).trans rfl,(bC_ BK751.out 2).trans rfl,(bC_ BK751.out 3).trans rfl,(bC_ BK751.out 4).trans rfl,(bC_ BK751.out 5).trans rfl,(bC_ BK751.out 6).trans rfl⟩ (fun hHeld=>?_);refine with_tabW impl_LogAdd.tab6 impl_LogAdd.bits6 (fun HT_ HW_=>?_)
        generalize w30.drew=w31 at HO756 BK751 HB hHeld ⊢
        refine pa_ 0 21 ?_
        refine pa_ 2 23 ?_
        refine pa_ 3 24 ?_
        refine ta7_ 1 22 hHeld ?_
        refine ta7_ 4 25 hHeld ?_
        refine on_ 5 26 (fun K hK=>?_)
        refine goes_ Tryd.func33 (by kernel_rfl) rfl #[.slice A0 l0.length c0,.int .i64 a1_0] (by rfl) rfl rfl ar_ ?_
        with_reducible refine (impl_LogSeq.calls kj2 _ _ l0 a1_0 t758 _ ?side1 ?side2 A19.out ?side3).mono ?_
        (case side1=>exact cp_ HR0.out)
        (case side2=>exact HC0.out)
        (case side3=>exact Glob.below HG.out (bel_))
        rintro e w32 ⟨rfl,hb⟩
        refine ⟨_,rfl,?_⟩
        have n0_:=a_ (Kd.R_below (rp_ HO756.out) hb)
        have n1_:=a_ (bb_ BK751.out hb)
        have n2_:=a_ (bS_ (bel_) hb)
        clear HO756
        clear BK751
        clear HB
        have HO756:=n0_
        have BK751:=n1_
        have HB:=n2_
        clear n0_ n1_ n2_
        (try clear hb)
        (try clear hb2)
        (try clear hk)
        (try clear hi)
        refine hK.out _ _ ⟨(bC_ BK751.out 0).trans rfl,(bC_ BK751.out 1).trans rfl,(bC_ BK751.out 2).trans rfl,(bC_ BK751.out 3).trans rfl,(bC_ BK751.out 4).trans rfl,(bC_ BK751.out 5).trans rfl,(bC_ BK751.out 6).trans rfl⟩ (fun hHeld=>?_)
        clear hK K
        refine no_ 26 ?_
        refine pa_ 6 27 ?_
        refine pa_ 7 28 ?_
        refine pa_ 8 29 ?_
        refine pa_ 9 30 ?_
        refine pa_ 10 31 ?_
        refine pa_ 11 32 ?_
        refine pa_ 12 33 ?_
        refine done_ (done_of HT_.out (by kernel_rfl)) ?_
        obtain ⟨Z33_0,Z33_1,Z33_2,Z33_3,Z33_4,Z33_5,Z33_6,Y33_0,Y33_1,Y33_2,Y33_3,Y33_4,Y33_5,Y33_6⟩:=op7_ BK751.out
        try go_wp2_with (first|((with_reducible refine gate_builtin (b:=.append) (xs:=#[.tmp 35,.tmp 37]) rfl ?_);at_builtin;refine Kd.R_append k44 (w0:=w) w.heap.size rfl (.tmp 35) (.tmp 37) 23 44 (.agg #[(.int .i64 0),(.int .i64 0),(.int .i64 0),(.int .i64 0),(.int .i64 0),(.int .i64 0),(.string ⟨#[]⟩)]) 64 rfl Tryd.underlying23 info44 rfl (by decide) (by omega) v755 t754 (⟨a1_0,a1_1,(⟨a1_2,a1_3,a1_4,a1_5,a1_6⟩:S42)⟩:S44) [.int .i64 a1_0,.int .i64 a1_1,.int .i64 a1_2,.int .i64 a1_3,.int .i64 a1_4,.int .i64 a1_5,.string a1_6] (fun k_=>k_≠gb751) (fun _=>False) rfl rfl ?aP (fun _ hk=>hk.elim) ?aF ?aO ?aB ?aS ?aL ?_;(case aP=>exact k44_mkM _ _ _ (⟨a1_0,a1_1,(⟨a1_2,a1_3,a1_4,a1_5,a1_6⟩:S42)⟩:S44));(case aB=>exact (bel_));(case aF=>exact (fun k_ hk=>Kd.freshB (g:=gb751) (o:=.cells #[.int .i64 a1_0,.int .i64 a1_1,.int .i64 a1_2,.int .i64 a1_3,.int .i64 a1_4,.int .i64 a1_5,.string a1_6] 44 (0,0)) (bp_ BK751.out) k_ hk));(case aO=>exact (by (with_reducible repeat (first|apply Kd.R_alloc|apply Kd.R_drewN|apply Kd.R_drew));exact Kd.R_mono HO756.out (fun _ hk=>hk.2)));(case aS=>exact (below_size (bel_)));(case aL=>have:=LMc27.out;omega);intro v760 w34 ho hb hg hat;rw [←Ny759.out] at ho;replace BK751:=a_ (blk_grown (g:=gb751) (o:=.cells #[.int .i64 a1_0,.int .i64 a1_1,.int .i64 a1_2,.int .i64 a1_3,.int .i64 a1_4,.int .i64 a1_5,.string a1_6] 44 (0,0)) (bp_ BK751.out) hg (Kd.R_away HO756.out (fun _ hk=>hk.2)));replace HB:=a_ (hb);have HO761:=a_ (ho);clear HO756;clear ho hb hg hat))
        go_ret2
        exact ⟨_,fi_,by (with_reducible repeat (first|apply Kd.R_alloc|apply Kd.R_drewN|apply Kd.R_drew));exact Kd.R_mono HO761.out (fun _ hk=>trivial),bel_⟩
       ·rw [if_neg c27] at H
        exact absurd H (by simp)
     ·rw [if_neg c20] at H
      have c20b0:(a1_1==(wrap64 (t758+1)))=false:=bn_ c20
      have c20b1:(a1_1 != (wrap64 (t758+1)))=true:=bne_iff_ne.mpr c20
      simp only [Option.some.injEq,Prod.mk.injEq] at H
      obtain ⟨rfl,rfl⟩:=H
      try go_wp2_with (first|((with_reducible refine gC_ (f:=85) rfl ?_);refine gl_ 16 Tryd.func85 #[.slice A0 l0.length c0] ?_;(with_reducible refine (impl_Entry_85.calls _ _ l0 t754 _ ?side1 ?side2 A13.out).mono ?_);(case side1=>exact cp_ HR0.out);(case side2=>exact HC0.out);rintro e w35 ⟨v755,rfl,ho0,hb⟩;refine ⟨_,rfl,?_⟩;have HO756:=a_ (Kd.R_lower (Kd.R_newB ho0 (g:=gb751) (o:=.cells #[.int .i64 a1_0,.int .i64 a1_1,.int .i64 a1_2,.int .i64 a1_3,.int .i64 a1_4,.int .i64 a1_5,.string a1_6] 44 (0,0)) (bp_ BK751.out)) (below_size (bel_)));replace HB:=a_ (bS_ (bel_) hb);replace BK751:=a_ (bb_ BK751.out hb);(try clear hb ho0);obtain ⟨Z36_0,Z36_1,Z36_2,Z36_3,Z36_4,Z36_5,Z36_6,Y36_0,Y36_1,Y36_2,Y36_3,Y36_4,Y36_5,Y36_6⟩:=op7_ BK751.out)|((with_reducible refine gC_ (f:=86) rfl ?_);refine gl_ 19 Tryd.func86 #[.slice A0 l0.length c0,.agg #[.int .i64 a1_0,.int .i64 a1_1,.int .i64 a1_2,.int .i64 a1_3,.int .i64 a1_4,.int .i64 a1_5,.string a1_6]] ?_;(with_reducible refine (impl_Entry_86.calls kj2 _ _ l0 a1_0 a1_1 a1_2 a1_3 a1_4 a1_5 a1_6 false _ ?side1 ?side2 A14.out).mono ?_);(case side1=>exact cp_ HR0.out);(case side2=>exact HC0.out);rintro e w37 ⟨rfl,hb⟩;refine ⟨_,rfl,?_⟩;replace HO756:=a_ (Kd.R_below (rp_ HO756.out) hb);replace HB:=a_ (bS_ (bel_) hb);replace BK751:=a_ (bb_ BK751.out hb);(try clear hb)))
      have n0_:=a_ (Kd.R_drew HO756.out)
      have n1_:=a_ (bD_ BK751.out)
      have n2_:=a_ (below_drew1 HB.out)
      clear HO756
      clear BK751
      clear HB
      have HO756:=n0_
      have BK751:=n1_
      have HB:=n2_
      clear n0_ n1_ n2_
      refine start_ (n:=13) (S:=fun w'=>w'.cell? ⟨gb751,0,none⟩=some (.int .i64 a1_0)∧w'.cell? ⟨gb751,1,none⟩=some (.int .i64 a1_1)∧w'.cell? ⟨gb751,2,none⟩=some (.int .i64 a1_2)∧w'.cell? ⟨gb751,3,none⟩=some (.int .i64 a1_3)∧w'.cell? ⟨gb751,4,none⟩=some (.int .i64 a1_4)∧w'.cell? ⟨gb751,5,none⟩=some (.int .i64 a1_5)∧w'.cell? ⟨gb751,6,none⟩=some (.string a1_6)) (ds:=[]) #[false,false,false,false,false,false,false,false,false,false,false,false,false] (by kernel_rfl) rfl rfl ⟨(bC_ BK751.out 0).trans rfl,(bC_ BK751.out 1).trans rfl,(bC_ BK751.out 2).trans rfl,(bC_ BK751.out 3).trans rfl,(bC_ BK751.out 4).trans rfl,(bC_ BK751.out 5).trans rfl,(bC_ BK751.out 6).trans rfl⟩ (fun hHeld=>?_);refine with_tabW impl_LogAdd.tab6 impl_LogAdd.bits6 (fun HT_ HW_=>?_)
      generalize w37.drew=w38 at HO756 BK751 HB hHeld ⊢
      refine pa_ 0 21 ?_
      refine pa_ 2 23 ?_
      refine pa_ 3 24 ?_
      refine ta7_ 1 22 hHeld ?_
      refine ta7_ 4 25 hHeld ?_
      refine on_ 5 26 (fun K hK=>?_)
      refine goes_ Tryd.func33 (by kernel_rfl) rfl #[.slice A0 l0.length c0,.int .i64 a1_0] (by rfl) rfl rfl ar_ ?_
      with_reducible refine (impl_LogSeq.calls kj2 _ _ l0 a1_0 t758 _ ?side1 ?side2 A19.out ?side3).mono ?_
      (case side1=>exact cp_ HR0.out)
      (case side2=>exact HC0.out)
      (case side3=>exact Glob.below HG.out (bel_))
      rintro e w39 ⟨rfl,hb⟩
      refine ⟨_,rfl,?_⟩
      have n0_:=a_ (Kd.R_below (rp_ HO756.out) hb)
      have n1_:=a_ (bb_ BK751.out hb)
      have n2_:=a_ (bS_ (bel_) hb)
      clear HO756
      clear BK751
      clear HB
      have HO756:=n0_
      have BK751:=n1_
      have HB:=n2_
      clear n0_ n1_ n2_
      (try clear hb)
      (try clear hb2)
      (try clear hk)
      (try clear hi)
      refine hK.out _ _ ⟨(bC_ BK751.out 0).trans rfl,(bC_ BK751.out 1).trans rfl,(bC_ BK751.out 2).trans rfl,(bC_ BK751.out 3).trans rfl,(bC_ BK751.out 4).trans rfl,(bC_ BK751.out 5).trans rfl,(bC_ BK751.out 6).trans rfl⟩ (fun hHeld=>?_)
      clear hK K
      refine no_ 26 ?_
      refine pa_ 6 27 ?_
      refine pa_ 7 28 ?_
      refine pa_ 8 29 ?_
      refine po_ 9 30 ?_
      refine po_ 10 31 ?_
      refine po_ 11 32 ?_
      refine pa_ 12 33 ?_
      refine done_ (done_of HT_.out (by kernel_rfl)) ?_
      try go_wp2
      go_ret2
      exact ⟨_,fi_,by (with_reducible repeat (first|apply Kd.R_alloc|apply Kd.R_drewN|apply Kd.R_drew));exact Kd.R_mono HO756.out (fun _ hk=>trivial),bel_⟩

end Go.Proofs.YtdpklbomhdpimaaDoor.P
namespace Go.Proofs.YtdpklbomhdpimaaDoor.P
open Go.RowKit Go.Proofs.YtdpklbomhdpimaaDoorW.PrintWords Go.Proofs.YtdpklbomhdpimaaDoorW.PrintLast Go.Proofs.YtdpklbomhdpimaaDoorW.PrintMore
theorem Glob.keep {g:Nat} {w w':World} (h:Glob w) (k:Keep g w w') (hg:0 < g):Glob w':=by
 have h:=h.var
 unfold Glob Lib.TabIs World.var? at *
 simp only [gOwners,Option.bind_some] at h ⊢
 rw [k.1.block 0 hg]
 exact h
theorem take_any (k:Nat) (g:Nat) (A:Option Addr) (c:Nat) (l:List S44) (Q:Value) (s:Int) (u:Bool) (e:S44) (r1:List S44) (r2:Int) (w:World) (base:Nat) (hb:w.heap[g]?=some (.cells #[.slice A l.length c,Q,.int .i64 s,.bool u] 107 (0,0)))
  (hr:Kd.R k44 44 w base (fun k=>k≠g) (.slice A l.length c) l) (h:impl_LogAdd.f k l e.f0 e.f1 e.f2.f0 e.f2.f1 e.f2.f2 e.f2.f3 e.f2.f4=some (r1,r2)) (hG:Glob w) :
  Calls Tryd.prog 119 #[.pointer (some ⟨g,0,none⟩),.agg #[.int .i64 e.f0,.int .i64 e.f1,.int .i64 e.f2.f0,.int .i64 e.f2.f1,.int .i64 e.f2.f2,.int .i64 e.f2.f3,.string e.f2.f4]] w fun x w'=>x=.returned (.bool (decide (r2=1)))∧(∃ (A':Option Addr) (c':Nat),w'.heap[g]?=some (.cells #[.slice A' (if r2=1 then r1 else l).length c',Q,.int .i64 s,.bool u] 107 (0,0))∧Kd.R k44 44 w' (min base w.heap.size) (fun k=>k≠g) (.slice A' (if r2=1 then r1 else l).length c') (if r2=1 then r1 else l))∧Keep g w w':=by
 have HBK:=a_ hb
 have HR:=a_ hr
 have HGL:=a_ (blk_lt hb)
 have HA:=a_ h
 have HG:=a_ hG
 obtain ⟨_,hc0,hr0⟩:=Kd.R_reads' hr
 have HC:=a_ hc0
 have HR0:=a_ hr0
 clear hb hr h hG hc0 hr0
 have hu1:=Tryd.underlying103
 have hu2:=Tryd.underlying44
 by_cases h2:r2=1
 ·subst h2
  simp only [if_true,decide_true]
  go_enter Tryd.func119,Tryd.ntmps119
  go_wp2_with (first|((with_reducible refine gD_ (N:=3) rfl ?_);refine bx_ 3 (#[.int .i64 e.f0,.int .i64 e.f1,.int .i64 e.f2.f0,.int .i64 e.f2.f1,.int .i64 e.f2.f2,.int .i64 e.f2.f3,.string e.f2.f4]) 44 ?_;intro g1 hg1 w1 hbox1 hb1;have HB1:=a_ hb1;have BK1:=a_ hbox1;have HBK1:=a_ (blk_below HBK.out hb1);clear hb1 hbox1 hg1))
  have hx0:w1.cell? ⟨g1,0,none⟩=some (.int .i64 e.f0):=(bC_ BK1.out 0).trans rfl
  have hx1:w1.cell? ⟨g1,1,none⟩=some (.int .i64 e.f1):=(bC_ BK1.out 1).trans rfl
  have hx2:w1.cell? ⟨g1,2,none⟩=some (.int .i64 e.f2.f0):=(bC_ BK1.out 2).trans rfl
  have hx3:w1.cell? ⟨g1,3,none⟩=some (.int .i64 e.f2.f1):=(bC_ BK1.out 3).trans rfl
  have hx4:w1.cell? ⟨g1,4,none⟩=some (.int .i64 e.f2.f2):=(bC_ BK1.out 4).trans rfl
  have hx5:w1.cell? ⟨g1,5,none⟩=some (.int .i64 e.f2.f3):=(bC_ BK1.out 5).trans rfl
  have hx6:w1.cell? ⟨g1,6,none⟩=some (.string e.f2.f4):=(bC_ BK1.out 6).trans rfl
  have hy0:w1.cell? ⟨g,0,none⟩=some (.slice A l.length c):=(bC_ HBK1.out 0).trans rfl
  have HBd:=a_ (below_drew1 HB1.out)
  have HBKd:=a_ (bD_ HBK1.out)
  go_region_with (go_at_call 31;refine (impl_LogAdd.calls k _ _ l _ _ _ _ _ _ _ r1 _ _ (Kd.C_below HR0.out HBd.out) HC.out HA.out (HG.out.below HBd.out)).mono ?_;rintro x5 w5 ⟨v5,rfl,ho5,hb5⟩;obtain ⟨A5,c5,rfl⟩:=Kd.R_slice ho5;have HO5:=a_ ho5;have HB5:=a_ (bS_ HBd.out hb5);have HBK5:=a_ (blk_below HBKd.out hb5);have hz5:=bF_ HBK5.out 0;have hy5:=(bC_ HBK5.out 0).trans rfl;clear ho5 hb5)
  all_goals go_wp2
  all_goals go_ret
  all_goals exact ⟨rfl,⟨A5,c5,(blk_set HBK5.out 0 _).trans rfl,Kd.R_far (Kd.R_mono (Kd.R_lower (Kd.R_newB HO5.out HBKd.out) (Nat.le_trans (Nat.min_le_right _ _) HBd.out.size)) (fun k hk=>hk.2)) (p:=⟨g,0,none⟩) (fun _ h=>h) _⟩,(Keep.of_below HB5.out (Nat.le_of_lt HGL.out)).set 0 _⟩
 ·simp only [h2,if_false,decide_false]
  have hn2:(r2==1)=false:=by simpa using h2
  go_enter Tryd.func119,Tryd.ntmps119
  go_wp2_with (first|((with_reducible refine gD_ (N:=3) rfl ?_);refine bx_ 3 (#[.int .i64 e.f0,.int .i64 e.f1,.int .i64 e.f2.f0,.int .i64 e.f2.f1,.int .i64 e.f2.f2,.int .i64 e.f2.f3,.string e.f2.f4]) 44 ?_;intro g1 hg1 w1 hbox1 hb1;have HB1:=a_ hb1;have BK1:=a_ hbox1;have HBK1:=a_ (blk_below HBK.out hb1);clear hb1 hbox1 hg1))
  have hx0:w1.cell? ⟨g1,0,none⟩=some (.int .i64 e.f0):=(bC_ BK1.out 0).trans rfl
  have hx1:w1.cell? ⟨g1,1,none⟩=some (.int .i64 e.f1):=(bC_ BK1.out 1).trans rfl
  have hx2:w1.cell? ⟨g1,2,none⟩=some (.int .i64 e.f2.f0):=(bC_ BK1.out 2).trans rfl
  have hx3:w1.cell? ⟨g1,3,none⟩=some (.int .i64 e.f2.f1):=(bC_ BK1.out 3).trans rfl
  have hx4:w1.cell? ⟨g1,4,none⟩=some (.int .i64 e.f2.f2):=(bC_ BK1.out 4).trans rfl
  have hx5:w1.cell? ⟨g1,5,none⟩=some (.int .i64 e.f2.f3):=(bC_ BK1.out 5).trans rfl
  have hx6:w1.cell? ⟨g1,6,none⟩=some (.string e.f2.f4):=(bC_ BK1.out 6).trans rfl
  have hy0:w1.cell? ⟨g,0,none⟩=some (.slice A l.length c):=(bC_ HBK1.out 0).trans rfl
  have HBd:=a_ (below_drew1 HB1.out)
  have HBKd:=a_ (bD_ HBK1.out)
  go_region_with (go_at_call 31;refine (impl_LogAdd.calls k _ _ l _ _ _ _ _ _ _ r1 _ _ (Kd.C_below HR0.out HBd.out) HC.out HA.out (HG.out.below HBd.out)).mono ?_;rintro x5 w5 ⟨v5,rfl,ho5,hb5⟩;obtain ⟨A5,c5,rfl⟩:=Kd.R_slice ho5;have HO5:=a_ ho5;have HB5:=a_ (bS_ HBd.out hb5);have HBK5:=a_ (blk_below HBKd.out hb5);have hz5:=bF_ HBK5.out 0;have hy5:=(bC_ HBK5.out 0).trans rfl;clear ho5 hb5)
  all_goals go_wp2
  all_goals go_ret
  all_goals exact ⟨rfl,⟨A,c,HBK5.out,Kd.R_lower (Kd.R_below HR.out HB5.out) (Nat.min_le_left _ _)⟩,Keep.of_below HB5.out (Nat.le_of_lt HGL.out)⟩
def DrainFin (w:World) (g:Nat) (L:List S44) (s:Int) (u:Bool) (wr:World):Prop :=
 ∃ (A:Option Addr) (c:Nat) (A2:Option Addr) (c2:Nat),wr.heap[g]?=some (.cells #[.slice A L.length c,.slice A2 0 c2,.int .i64 s,.bool u] 107 (0,0))∧Kd.R k44 44 wr 0 (fun k=>k≠g) (.slice A L.length c) L∧Keep g w wr
def DrainRel (w:World) (g:Nat) (l L:List S44) (s:Int) (u:Bool) (e:S44) (n:Int) (t3 t4 t5:Value) (wr:World):Prop :=
 (t5=.bool true∧t3=.int .i64 0∧(∃ gE,t4=.pointer (some ⟨gE,0,none⟩)∧wr.heap[gE]?=some (.cells #[.int .i64 e.f0,.int .i64 e.f1,.int .i64 e.f2.f0,.int .i64 e.f2.f1,.int .i64 e.f2.f2,.int .i64 e.f2.f3,.string e.f2.f4] 44 (0,0))∧w.heap.size≤gE)∧DrainFin w g l s u wr)∨(t5=.bool false∧t3=.int .i64 n∧DrainFin w g L s u wr)
theorem Keep.drew {g:Nat} {w w1:World} (h:Keep g w w1):Keep g w w1.drew:=⟨⟨h.1.os,h.1.tape,h.1.output,h.1.size,h.1.block⟩,keep_drew h.2⟩
theorem take_yes (k:Nat) (g:Nat) (A:Option Addr) (c:Nat) (l:List S44) (Q:Value) (s:Int) (u:Bool) (e:S44) (r1:List S44) (r2:Int) (h2:r2=1) (w:World) (base:Nat) (hb:w.heap[g]?=some (.cells #[.slice A l.length c,Q,.int .i64 s,.bool u] 107 (0,0)))
  (hr:Kd.R k44 44 w base (fun k=>k≠g) (.slice A l.length c) l) (h:impl_LogAdd.f k l e.f0 e.f1 e.f2.f0 e.f2.f1 e.f2.f2 e.f2.f3 e.f2.f4=some (r1,r2)) (hG:Glob w) :
  Calls Tryd.prog 119 #[.pointer (some ⟨g,0,none⟩),.agg #[.int .i64 e.f0,.int .i64 e.f1,.int .i64 e.f2.f0,.int .i64 e.f2.f1,.int .i64 e.f2.f2,.int .i64 e.f2.f3,.string e.f2.f4]] w fun x w'=>x=.returned (.bool true)∧(∃ (A':Option Addr) (c':Nat),w'.heap[g]?=some (.cells #[.slice A' r1.length c',Q,.int .i64 s,.bool u] 107 (0,0))∧Kd.R k44 44 w' (min base w.heap.size) (fun k=>k≠g) (.slice A' r1.length c') r1)∧Keep g w w' :=
 (take_any k g A c l Q s u e r1 r2 w base hb hr h hG).mono (by rintro x w' ⟨a,⟨A',c',hb,hr⟩,hk⟩;simp only [if_pos h2] at hb hr;exact ⟨by rw [a,dt_ h2],⟨A',c',hb,hr⟩,hk⟩)
theorem take_no (k:Nat) (g:Nat) (A:Option Addr) (c:Nat) (l:List S44) (Q:Value) (s:Int) (u:Bool) (e:S44) (r1:List S44) (r2:Int) (h2:r2≠1) (w:World) (base:Nat) (hb:w.heap[g]?=some (.cells #[.slice A l.length c,Q,.int .i64 s,.bool u] 107 (0,0)))
  (hr:Kd.R k44 44 w base (fun k=>k≠g) (.slice A l.length c) l) (h:impl_LogAdd.f k l e.f0 e.f1 e.f2.f0 e.f2.f1 e.f2.f2 e.f2.f3 e.f2.f4=some (r1,r2)) (hG:Glob w) :
  Calls Tryd.prog 119 #[.pointer (some ⟨g,0,none⟩),.agg #[.int .i64 e.f0,.int .i64 e.f1,.int .i64 e.f2.f0,.int .i64 e.f2.f1,.int .i64 e.f2.f2,.int .i64 e.f2.f3,.string e.f2.f4]] w fun x w'=>x=.returned (.bool false)∧(∃ (A':Option Addr) (c':Nat),w'.heap[g]?=some (.cells #[.slice A' l.length c',Q,.int .i64 s,.bool u] 107 (0,0))∧Kd.R k44 44 w' (min base w.heap.size) (fun k=>k≠g) (.slice A' l.length c') l)∧Keep g w w' :=
 (take_any k g A c l Q s u e r1 r2 w base hb hr h hG).mono (by rintro x w' ⟨a,⟨A',c',hb,hr⟩,hk⟩;simp only [if_neg h2] at hb hr;exact ⟨by rw [a,df_ h2],⟨A',c',hb,hr⟩,hk⟩)
def boolN (v:Value):Nat:=match v with|.bool true=>1|_=>0
theorem drain_down (k:Nat) (g:Nat) (A:Option Addr) (c:Nat) (l:List S44) (A1:Option Addr) (c1:Nat) (s:Int) (e:S44)  (w:World) (base base1:Nat) (hb:w.heap[g]?=some (.cells #[.slice A l.length c,.slice A1 1 c1,.int .i64 s,.bool false] 107 (0,0)))
  (hr:Kd.R k44 44 w base (fun k=>k≠g) (.slice A l.length c) l) (hq:Kd.R k44 44 w base1 (fun k=>k≠g) (.slice A1 1 c1) [e])  :
  Calls Tryd.prog 81 #[.pointer (some ⟨g,0,none⟩)] w fun x w'=>x=.returned (.int .i64 0)∧DrainFin w g l s false w':=by
 have HBK:=a_ hb
 have HR:=a_ hr
 have HQ:=a_ hq
 skip
 have HGL:=a_ (blk_lt hb)
 clear hb hr hq
 have hu1:=Tryd.underlying107
 have hu2:=Tryd.underlying44
 go_enter Tryd.func81,Tryd.ntmps81
 go_wp2_with (first|(go_at_call 118;refine (pop_one g _ A1 c1 s false e _ HBK.out base1 HQ.out).mono ?_;rintro x w1 ⟨rfl,⟨A2,c2,hb1⟩,hk1⟩;have HBK1:=a_ hb1;have HK1:=a_ hk1;clear hb1 hk1)|((with_reducible refine gD_ (N:=4) rfl ?_);refine bx_ 4 (#[.int .i64 0,.int .i64 0,.int .i64 0,.int .i64 0,.int .i64 0,.int .i64 0,.string ⟨#[]⟩]) 44 ?_;intro g8 hg8 w8 hbox8 hb8;have HBK8:=a_ (blk_below HBK1.out hb8);have BK8:=a_ hbox8;have HK8:=a_ (HK1.out.trans (Keep.of_below hb8 (Nat.le_trans (Nat.le_of_lt HGL.out) HK1.out.1.size)));have GE8:=a_ (show w.heap.size≤g8 by rw [hg8];exact HK1.out.1.size);have NE8:=a_ (show g≠g8 by have:=HGL.out;have:=GE8.out;omega);have hz0:=(bC_ BK8.out 0).trans rfl;have hf0:=bF_ BK8.out 0;have hz1:=(bC_ BK8.out 1).trans rfl;have hf1:=bF_ BK8.out 1;have hz2:=(bC_ BK8.out 2).trans rfl;have hf2:=bF_ BK8.out 2;have hz3:=(bC_ BK8.out 3).trans rfl;have hf3:=bF_ BK8.out 3;have hz4:=(bC_ BK8.out 4).trans rfl;have hf4:=bF_ BK8.out 4;have hz5:=(bC_ BK8.out 5).trans rfl;have hf5:=bF_ BK8.out 5;have hz6:=(bC_ BK8.out 6).trans rfl;have hf6:=bF_ BK8.out 6;clear hbox8 hb8 hg8))
 go_loopw [3,4,5] (fun t3 t4 t5 wr=>DrainRel w g l l s false e 0 t3 t4 t5 wr) (fun _ _ t5 _=>boolN t5)
 case atStart=>exact .inl ⟨rfl,rfl,⟨g8,rfl,(blk_set (blk_set (blk_set (blk_set (blk_set (blk_set (blk_set (BK8.out) 0 _) 1 _) 2 _) 3 _) 4 _) 5 _) 6 _).trans rfl,GE8.out⟩,A,c,A2,c2,(blk_far (blk_far (blk_far (blk_far (blk_far (blk_far (blk_far (HBK8.out) NE8.out _) NE8.out _) NE8.out _) NE8.out _) NE8.out _) NE8.out _) NE8.out _).trans rfl,Kd.R_keep (Kd.R_lower HR.out (Nat.zero_le _)) (Keep.far (Keep.far (Keep.far (Keep.far (Keep.far (Keep.far (Keep.far (HK8.out) (p:=⟨g8,0,none⟩) (Nat.le_of_lt HGL.out) GE8.out _) (p:=⟨g8,1,none⟩) (Nat.le_of_lt HGL.out) GE8.out _) (p:=⟨g8,2,none⟩) (Nat.le_of_lt HGL.out) GE8.out _) (p:=⟨g8,3,none⟩) (Nat.le_of_lt HGL.out) GE8.out _) (p:=⟨g8,4,none⟩) (Nat.le_of_lt HGL.out) GE8.out _) (p:=⟨g8,5,none⟩) (Nat.le_of_lt HGL.out) GE8.out _) (p:=⟨g8,6,none⟩) (Nat.le_of_lt HGL.out) GE8.out _).2 (fun _ h=>h),Keep.far (Keep.far (Keep.far (Keep.far (Keep.far (Keep.far (Keep.far (HK8.out) (p:=⟨g8,0,none⟩) (Nat.le_of_lt HGL.out) GE8.out _) (p:=⟨g8,1,none⟩) (Nat.le_of_lt HGL.out) GE8.out _) (p:=⟨g8,2,none⟩) (Nat.le_of_lt HGL.out) GE8.out _) (p:=⟨g8,3,none⟩) (Nat.le_of_lt HGL.out) GE8.out _) (p:=⟨g8,4,none⟩) (Nat.le_of_lt HGL.out) GE8.out _) (p:=⟨g8,5,none⟩) (Nat.le_of_lt HGL.out) GE8.out _) (p:=⟨g8,6,none⟩) (Nat.le_of_lt HGL.out) GE8.out _⟩
 case round =>
  rcases hrel with ⟨rfl,rfl,⟨gE,rfl,hE,hgE⟩,A3,c3,A4,c4,hb3,hr3,hk3⟩|⟨rfl,rfl,hF⟩
  ·have HE:=a_ hE
   have HB3:=a_ hb3
   have HR3:=a_ hr3
   have HK3:=a_ hk3
   have GLR:=a_ (blk_lt hb3)
   have hup:wr.cell? ⟨g,3,none⟩=some (.bool false):=(bC_ hb3 3).trans rfl
   have he0:=(bC_ hE 0).trans rfl
   have he1:=(bC_ hE 1).trans rfl
   have he2:=(bC_ hE 2).trans rfl
   have he3:=(bC_ hE 3).trans rfl
   have he4:=(bC_ hE 4).trans rfl
   have he5:=(bC_ hE 5).trans rfl
   have he6:=(bC_ hE 6).trans rfl
   clear hE hb3 hr3 hk3
   go_wp2
   go_quiet (fail)
   go_wp2_with (first|((with_reducible refine gD_ (N:=4) rfl ?_);refine bx_ 4 (#[.int .i64 0,.int .i64 0,.int .i64 0,.int .i64 0,.int .i64 0,.int .i64 0,.string ⟨#[]⟩]) 44 ?_;intro g8 hg8 w8 hbox8 hb8;have HBK8:=a_ (blk_below (bN_ HB3.out _) hb8);have BK8:=a_ hbox8;have HK8:=a_ (((Keep.of_below (Below.refl wr.heap.size wr) (Nat.le_of_lt GLR.out)).drewN _).trans (Keep.of_below hb8 (Nat.le_of_lt GLR.out)));have GW8:=a_ (show wr.heap.size≤g8 from Nat.le_of_eq hg8.symm);have GE8:=a_ (show w.heap.size≤g8 by rw [hg8];exact HK3.out.1.size);have NE8:=a_ (show g≠g8 by have:=HGL.out;have:=GE8.out;omega);have hz0:=(bC_ BK8.out 0).trans rfl;have hf0:=bF_ BK8.out 0;have hz1:=(bC_ BK8.out 1).trans rfl;have hf1:=bF_ BK8.out 1;have hz2:=(bC_ BK8.out 2).trans rfl;have hf2:=bF_ BK8.out 2;have hz3:=(bC_ BK8.out 3).trans rfl;have hf3:=bF_ BK8.out 3;have hz4:=(bC_ BK8.out 4).trans rfl;have hf4:=bF_ BK8.out 4;have hz5:=(bC_ BK8.out 5).trans rfl;have hf5:=bF_ BK8.out 5;have hz6:=(bC_ BK8.out 6).trans rfl;have hf6:=bF_ BK8.out 6;clear hbox8 hb8 hg8)|(go_at_call 118;refine (pop_none g _ A4 c4 s false _ ((blk_far (blk_far (blk_far (blk_far (blk_far (blk_far (blk_far (HBK8.out) NE8.out _) NE8.out _) NE8.out _) NE8.out _) NE8.out _) NE8.out _) NE8.out _).trans rfl)).mono ?_;rintro x w9 ⟨rfl,hb9⟩;have HBK9:=a_ (blk_below (blk_far (blk_far (blk_far (blk_far (blk_far (blk_far (blk_far (HBK8.out) NE8.out _) NE8.out _) NE8.out _) NE8.out _) NE8.out _) NE8.out _) NE8.out _) hb9);have BK9:=a_ (blk_below (blk_set (blk_set (blk_set (blk_set (blk_set (blk_set (blk_set (BK8.out) 0 _) 1 _) 2 _) 3 _) 4 _) 5 _) 6 _) hb9);have HK9:=a_ ((Keep.far (Keep.far (Keep.far (Keep.far (Keep.far (Keep.far (Keep.far (HK8.out) (p:=⟨g8,0,none⟩) (Nat.le_of_lt GLR.out) GW8.out _) (p:=⟨g8,1,none⟩) (Nat.le_of_lt GLR.out) GW8.out _) (p:=⟨g8,2,none⟩) (Nat.le_of_lt GLR.out) GW8.out _) (p:=⟨g8,3,none⟩) (Nat.le_of_lt GLR.out) GW8.out _) (p:=⟨g8,4,none⟩) (Nat.le_of_lt GLR.out) GW8.out _) (p:=⟨g8,5,none⟩) (Nat.le_of_lt GLR.out) GW8.out _) (p:=⟨g8,6,none⟩) (Nat.le_of_lt GLR.out) GW8.out _).trans (Keep.of_below hb9 (Nat.le_trans (Nat.le_of_lt GLR.out) (Keep.far (Keep.far (Keep.far (Keep.far (Keep.far (Keep.far (Keep.far (HK8.out) (p:=⟨g8,0,none⟩) (Nat.le_of_lt GLR.out) GW8.out _) (p:=⟨g8,1,none⟩) (Nat.le_of_lt GLR.out) GW8.out _) (p:=⟨g8,2,none⟩) (Nat.le_of_lt GLR.out) GW8.out _) (p:=⟨g8,3,none⟩) (Nat.le_of_lt GLR.out) GW8.out _) (p:=⟨g8,4,none⟩) (Nat.le_of_lt GLR.out) GW8.out _) (p:=⟨g8,5,none⟩) (Nat.le_of_lt GLR.out) GW8.out _) (p:=⟨g8,6,none⟩) (Nat.le_of_lt GLR.out) GW8.out _).1.size)));have hv0:=(bC_ BK9.out 0).trans rfl;have hw0:=bF_ BK9.out 0;have hv1:=(bC_ BK9.out 1).trans rfl;have hw1:=bF_ BK9.out 1;have hv2:=(bC_ BK9.out 2).trans rfl;have hw2:=bF_ BK9.out 2;have hv3:=(bC_ BK9.out 3).trans rfl;have hw3:=bF_ BK9.out 3;have hv4:=(bC_ BK9.out 4).trans rfl;have hw4:=bF_ BK9.out 4;have hv5:=(bC_ BK9.out 5).trans rfl;have hw5:=bF_ BK9.out 5;have hv6:=(bC_ BK9.out 6).trans rfl;have hw6:=bF_ BK9.out 6;clear hb9))
   refine ⟨.inr ⟨rfl,rfl,A3,c3,A4,c4,(blk_far (blk_far (blk_far (blk_far (blk_far (blk_far (blk_far (HBK9.out) NE8.out _) NE8.out _) NE8.out _) NE8.out _) NE8.out _) NE8.out _) NE8.out _).trans rfl,Kd.R_keep HR3.out (Keep.far (Keep.far (Keep.far (Keep.far (Keep.far (Keep.far (Keep.far (HK9.out) (p:=⟨g8,0,none⟩) (Nat.le_of_lt GLR.out) GW8.out _) (p:=⟨g8,1,none⟩) (Nat.le_of_lt GLR.out) GW8.out _) (p:=⟨g8,2,none⟩) (Nat.le_of_lt GLR.out) GW8.out _) (p:=⟨g8,3,none⟩) (Nat.le_of_lt GLR.out) GW8.out _) (p:=⟨g8,4,none⟩) (Nat.le_of_lt GLR.out) GW8.out _) (p:=⟨g8,5,none⟩) (Nat.le_of_lt GLR.out) GW8.out _) (p:=⟨g8,6,none⟩) (Nat.le_of_lt GLR.out) GW8.out _).2 (fun _ h=>h),HK3.out.trans (Keep.far (Keep.far (Keep.far (Keep.far (Keep.far (Keep.far (Keep.far (HK9.out) (p:=⟨g8,0,none⟩) (Nat.le_of_lt GLR.out) GW8.out _) (p:=⟨g8,1,none⟩) (Nat.le_of_lt GLR.out) GW8.out _) (p:=⟨g8,2,none⟩) (Nat.le_of_lt GLR.out) GW8.out _) (p:=⟨g8,3,none⟩) (Nat.le_of_lt GLR.out) GW8.out _) (p:=⟨g8,4,none⟩) (Nat.le_of_lt GLR.out) GW8.out _) (p:=⟨g8,5,none⟩) (Nat.le_of_lt GLR.out) GW8.out _) (p:=⟨g8,6,none⟩) (Nat.le_of_lt GLR.out) GW8.out _)⟩,by simp [boolN]⟩
  ·go_wp2
   go_ret
   exact ⟨rfl,hF⟩
theorem drain_yes (k:Nat) (g:Nat) (A:Option Addr) (c:Nat) (l:List S44) (A1:Option Addr) (c1:Nat) (s:Int) (e:S44) (r1:List S44) (r2:Int) (h2:r2=1) (w:World) (base base1:Nat) (hb:w.heap[g]?=some (.cells #[.slice A l.length c,.slice A1 1 c1,.int .i64 s,.bool true] 107 (0,0)))
  (hr:Kd.R k44 44 w base (fun k=>k≠g) (.slice A l.length c) l) (hq:Kd.R k44 44 w base1 (fun k=>k≠g) (.slice A1 1 c1) [e]) (h:impl_LogAdd.f k l e.f0 e.f1 e.f2.f0 e.f2.f1 e.f2.f2 e.f2.f3 e.f2.f4=some (r1,r2)) (hG:Glob w) (h0:0 < g) :
  Calls Tryd.prog 81 #[.pointer (some ⟨g,0,none⟩)] w fun x w'=>x=.returned (.int .i64 1)∧DrainFin w g r1 s true w':=by
 have HBK:=a_ hb
 have HR:=a_ hr
 have HQ:=a_ hq
 have HA:=a_ h
 have HG:=a_ hG
 have H0:=a_ h0
 have H2:=a_ h2
 clear h hG h0 h2
 have HGL:=a_ (blk_lt hb)
 clear hb hr hq
 have hu1:=Tryd.underlying107
 have hu2:=Tryd.underlying44
 go_enter Tryd.func81,Tryd.ntmps81
 go_wp2_with (first|(go_at_call 118;refine (pop_one g _ A1 c1 s true e _ HBK.out base1 HQ.out).mono ?_;rintro x w1 ⟨rfl,⟨A2,c2,hb1⟩,hk1⟩;have HBK1:=a_ hb1;have HK1:=a_ hk1;clear hb1 hk1)|((with_reducible refine gD_ (N:=4) rfl ?_);refine bx_ 4 (#[.int .i64 0,.int .i64 0,.int .i64 0,.int .i64 0,.int .i64 0,.int .i64 0,.string ⟨#[]⟩]) 44 ?_;intro g8 hg8 w8 hbox8 hb8;have HBK8:=a_ (blk_below HBK1.out hb8);have BK8:=a_ hbox8;have HK8:=a_ (HK1.out.trans (Keep.of_below hb8 (Nat.le_trans (Nat.le_of_lt HGL.out) HK1.out.1.size)));have GE8:=a_ (show w.heap.size≤g8 by rw [hg8];exact HK1.out.1.size);have NE8:=a_ (show g≠g8 by have:=HGL.out;have:=GE8.out;omega);have hz0:=(bC_ BK8.out 0).trans rfl;have hf0:=bF_ BK8.out 0;have hz1:=(bC_ BK8.out 1).trans rfl;have hf1:=bF_ BK8.out 1;have hz2:=(bC_ BK8.out 2).trans rfl;have hf2:=bF_ BK8.out 2;have hz3:=(bC_ BK8.out 3).trans rfl;have hf3:=bF_ BK8.out 3;have hz4:=(bC_ BK8.out 4).trans rfl;have hf4:=bF_ BK8.out 4;have hz5:=(bC_ BK8.out 5).trans rfl;have hf5:=bF_ BK8.out 5;have hz6:=(bC_ BK8.out 6).trans rfl;have hf6:=bF_ BK8.out 6;clear hbox8 hb8 hg8))
 go_loopw [3,4,5] (fun t3 t4 t5 wr=>DrainRel w g l r1 s true e 1 t3 t4 t5 wr) (fun _ _ t5 _=>boolN t5)
 case atStart=>exact .inl ⟨rfl,rfl,⟨g8,rfl,(blk_set (blk_set (blk_set (blk_set (blk_set (blk_set (blk_set (BK8.out) 0 _) 1 _) 2 _) 3 _) 4 _) 5 _) 6 _).trans rfl,GE8.out⟩,A,c,A2,c2,(blk_far (blk_far (blk_far (blk_far (blk_far (blk_far (blk_far (HBK8.out) NE8.out _) NE8.out _) NE8.out _) NE8.out _) NE8.out _) NE8.out _) NE8.out _).trans rfl,Kd.R_keep (Kd.R_lower HR.out (Nat.zero_le _)) (Keep.far (Keep.far (Keep.far (Keep.far (Keep.far (Keep.far (Keep.far (HK8.out) (p:=⟨g8,0,none⟩) (Nat.le_of_lt HGL.out) GE8.out _) (p:=⟨g8,1,none⟩) (Nat.le_of_lt HGL.out) GE8.out _) (p:=⟨g8,2,none⟩) (Nat.le_of_lt HGL.out) GE8.out _) (p:=⟨g8,3,none⟩) (Nat.le_of_lt HGL.out) GE8.out _) (p:=⟨g8,4,none⟩) (Nat.le_of_lt HGL.out) GE8.out _) (p:=⟨g8,5,none⟩) (Nat.le_of_lt HGL.out) GE8.out _) (p:=⟨g8,6,none⟩) (Nat.le_of_lt HGL.out) GE8.out _).2 (fun _ h=>h),Keep.far (Keep.far (Keep.far (Keep.far (Keep.far (Keep.far (Keep.far (HK8.out) (p:=⟨g8,0,none⟩) (Nat.le_of_lt HGL.out) GE8.out _) (p:=⟨g8,1,none⟩) (Nat.le_of_lt HGL.out) GE8.out _) (p:=⟨g8,2,none⟩) (Nat.le_of_lt HGL.out) GE8.out _) (p:=⟨g8,3,none⟩) (Nat.le_of_lt HGL.out) GE8.out _) (p:=⟨g8,4,none⟩) (Nat.le_of_lt HGL.out) GE8.out _) (p:=⟨g8,5,none⟩) (Nat.le_of_lt HGL.out) GE8.out _) (p:=⟨g8,6,none⟩) (Nat.le_of_lt HGL.out) GE8.out _⟩
 case round =>
  rcases hrel with ⟨rfl,rfl,⟨gE,rfl,hE,hgE⟩,A3,c3,A4,c4,hb3,hr3,hk3⟩|⟨rfl,rfl,hF⟩
  ·have HE:=a_ hE
   have NEE:=a_ (show gE≠g by have:=HGL.out;omega)
   have HB3:=a_ hb3
   have HR3:=a_ hr3
   have HK3:=a_ hk3
   have hup:wr.cell? ⟨g,3,none⟩=some (.bool true):=(bC_ hb3 3).trans rfl
   have he0:=(bC_ hE 0).trans rfl
   have he1:=(bC_ hE 1).trans rfl
   have he2:=(bC_ hE 2).trans rfl
   have he3:=(bC_ hE 3).trans rfl
   have he4:=(bC_ hE 4).trans rfl
   have he5:=(bC_ hE 5).trans rfl
   have he6:=(bC_ hE 6).trans rfl
   clear hE hb3 hr3 hk3
   go_wp2
   go_region_with (go_at_call 119;refine (take_yes k g A3 c3 l _ s true e r1 r2 H2.out _ 0 (bD_ HB3.out) (Kd.R_drew HR3.out) HA.out (HG.out.keep HK3.out H0.out).drew).mono ?_;rintro x w5 ⟨rfl,⟨A5,c5,hb5,hr5⟩,hk5⟩;have HB5:=a_ hb5;have HR5:=a_ (Kd.R_lower hr5 (Nat.zero_le 0));have HK35:=a_ (HK3.out.drew.trans hk5);have HE5:=a_ (hk5.2.blk (bD_ HE.out) NEE.out (by simp));have GLR:=a_ (blk_lt hb5);clear hb5 hr5 hk5;have hq0:=(bC_ HE5.out 0).trans rfl;have hq1:=(bC_ HE5.out 1).trans rfl;have hq2:=(bC_ HE5.out 2).trans rfl;have hq3:=(bC_ HE5.out 3).trans rfl;have hq4:=(bC_ HE5.out 4).trans rfl;have hq5:=(bC_ HE5.out 5).trans rfl;have hq6:=(bC_ HE5.out 6).trans rfl)
   all_goals go_wp2_with (first|((with_reducible refine gD_ (N:=4) rfl ?_);refine bx_ 4 (#[.int .i64 0,.int .i64 0,.int .i64 0,.int .i64 0,.int .i64 0,.int .i64 0,.string ⟨#[]⟩]) 44 ?_;intro g8 hg8 w8 hbox8 hb8;have HBK8:=a_ (blk_below HB5.out hb8);have BK8:=a_ hbox8;have HK8:=a_ (Keep.of_below hb8 (Nat.le_of_lt GLR.out));have GW8:=a_ (Nat.le_of_eq hg8.symm);have GE8:=a_ (show w.heap.size≤g8 by rw [hg8];exact HK35.out.1.size);have NE8:=a_ (show g≠g8 by have:=HGL.out;have:=GE8.out;omega);have hz0:=(bC_ BK8.out 0).trans rfl;have hf0:=bF_ BK8.out 0;have hz1:=(bC_ BK8.out 1).trans rfl;have hf1:=bF_ BK8.out 1;have hz2:=(bC_ BK8.out 2).trans rfl;have hf2:=bF_ BK8.out 2;have hz3:=(bC_ BK8.out 3).trans rfl;have hf3:=bF_ BK8.out 3;have hz4:=(bC_ BK8.out 4).trans rfl;have hf4:=bF_ BK8.out 4;have hz5:=(bC_ BK8.out 5).trans rfl;have hf5:=bF_ BK8.out 5;have hz6:=(bC_ BK8.out 6).trans rfl;have hf6:=bF_ BK8.out 6;clear hbox8 hb8 hg8)|(go_at_call 118;refine (pop_none g _ A4 c4 s true _ ((blk_far (blk_far (blk_far (blk_far (blk_far (blk_far (blk_far (HBK8.out) NE8.out _) NE8.out _) NE8.out _) NE8.out _) NE8.out _) NE8.out _) NE8.out _).trans rfl)).mono ?_;rintro x w9 ⟨rfl,hb9⟩;have HBK9:=a_ (blk_below (blk_far (blk_far (blk_far (blk_far (blk_far (blk_far (blk_far (HBK8.out) NE8.out _) NE8.out _) NE8.out _) NE8.out _) NE8.out _) NE8.out _) NE8.out _) hb9);have BK9:=a_ (blk_below (blk_set (blk_set (blk_set (blk_set (blk_set (blk_set (blk_set (BK8.out) 0 _) 1 _) 2 _) 3 _) 4 _) 5 _) 6 _) hb9);have HK9:=a_ ((Keep.far (Keep.far (Keep.far (Keep.far (Keep.far (Keep.far (Keep.far (HK8.out) (p:=⟨g8,0,none⟩) (Nat.le_of_lt GLR.out) GW8.out _) (p:=⟨g8,1,none⟩) (Nat.le_of_lt GLR.out) GW8.out _) (p:=⟨g8,2,none⟩) (Nat.le_of_lt GLR.out) GW8.out _) (p:=⟨g8,3,none⟩) (Nat.le_of_lt GLR.out) GW8.out _) (p:=⟨g8,4,none⟩) (Nat.le_of_lt GLR.out) GW8.out _) (p:=⟨g8,5,none⟩) (Nat.le_of_lt GLR.out) GW8.out _) (p:=⟨g8,6,none⟩) (Nat.le_of_lt GLR.out) GW8.out _).trans (Keep.of_below hb9 (Nat.le_trans (Nat.le_of_lt GLR.out) (Keep.far (Keep.far (Keep.far (Keep.far (Keep.far (Keep.far (Keep.far (HK8.out) (p:=⟨g8,0,none⟩) (Nat.le_of_lt GLR.out) GW8.out _) (p:=⟨g8,1,none⟩) (Nat.le_of_lt GLR.out) GW8.out _) (p:=⟨g8,2,none⟩) (Nat.le_of_lt GLR.out) GW8.out _) (p:=⟨g8,3,none⟩) (Nat.le_of_lt GLR.out) GW8.out _) (p:=⟨g8,4,none⟩) (Nat.le_of_lt GLR.out) GW8.out _) (p:=⟨g8,5,none⟩) (Nat.le_of_lt GLR.out) GW8.out _) (p:=⟨g8,6,none⟩) (Nat.le_of_lt GLR.out) GW8.out _).1.size)));have hv0:=(bC_ BK9.out 0).trans rfl;have hw0:=bF_ BK9.out 0;have hv1:=(bC_ BK9.out 1).trans rfl;have hw1:=bF_ BK9.out 1;have hv2:=(bC_ BK9.out 2).trans rfl;have hw2:=bF_ BK9.out 2;have hv3:=(bC_ BK9.out 3).trans rfl;have hw3:=bF_ BK9.out 3;have hv4:=(bC_ BK9.out 4).trans rfl;have hw4:=bF_ BK9.out 4;have hv5:=(bC_ BK9.out 5).trans rfl;have hw5:=bF_ BK9.out 5;have hv6:=(bC_ BK9.out 6).trans rfl;have hw6:=bF_ BK9.out 6;clear hb9))
   all_goals refine ⟨.inr ⟨rfl,rfl,A5,c5,A4,c4,(blk_far (blk_far (blk_far (blk_far (blk_far (blk_far (blk_far (HBK9.out) NE8.out _) NE8.out _) NE8.out _) NE8.out _) NE8.out _) NE8.out _) NE8.out _).trans rfl,Kd.R_keep HR5.out (Keep.far (Keep.far (Keep.far (Keep.far (Keep.far (Keep.far (Keep.far (HK9.out) (p:=⟨g8,0,none⟩) (Nat.le_of_lt GLR.out) GW8.out _) (p:=⟨g8,1,none⟩) (Nat.le_of_lt GLR.out) GW8.out _) (p:=⟨g8,2,none⟩) (Nat.le_of_lt GLR.out) GW8.out _) (p:=⟨g8,3,none⟩) (Nat.le_of_lt GLR.out) GW8.out _) (p:=⟨g8,4,none⟩) (Nat.le_of_lt GLR.out) GW8.out _) (p:=⟨g8,5,none⟩) (Nat.le_of_lt GLR.out) GW8.out _) (p:=⟨g8,6,none⟩) (Nat.le_of_lt GLR.out) GW8.out _).2 (fun _ h=>h),HK35.out.trans (Keep.far (Keep.far (Keep.far (Keep.far (Keep.far (Keep.far (Keep.far (HK9.out) (p:=⟨g8,0,none⟩) (Nat.le_of_lt GLR.out) GW8.out _) (p:=⟨g8,1,none⟩) (Nat.le_of_lt GLR.out) GW8.out _) (p:=⟨g8,2,none⟩) (Nat.le_of_lt GLR.out) GW8.out _) (p:=⟨g8,3,none⟩) (Nat.le_of_lt GLR.out) GW8.out _) (p:=⟨g8,4,none⟩) (Nat.le_of_lt GLR.out) GW8.out _) (p:=⟨g8,5,none⟩) (Nat.le_of_lt GLR.out) GW8.out _) (p:=⟨g8,6,none⟩) (Nat.le_of_lt GLR.out) GW8.out _)⟩,by simp [boolN]⟩
  ·go_wp2
   go_ret
   exact ⟨rfl,hF⟩
theorem drain_no (k:Nat) (g:Nat) (A:Option Addr) (c:Nat) (l:List S44) (A1:Option Addr) (c1:Nat) (s:Int) (e:S44) (r1:List S44) (r2:Int) (h2:r2≠1) (w:World) (base base1:Nat) (hb:w.heap[g]?=some (.cells #[.slice A l.length c,.slice A1 1 c1,.int .i64 s,.bool true] 107 (0,0)))
  (hr:Kd.R k44 44 w base (fun k=>k≠g) (.slice A l.length c) l) (hq:Kd.R k44 44 w base1 (fun k=>k≠g) (.slice A1 1 c1) [e]) (h:impl_LogAdd.f k l e.f0 e.f1 e.f2.f0 e.f2.f1 e.f2.f2 e.f2.f3 e.f2.f4=some (r1,r2)) (hG:Glob w) (h0:0 < g) :
  Calls Tryd.prog 81 #[.pointer (some ⟨g,0,none⟩)] w fun x w'=>x=.returned (.int .i64 0)∧DrainFin w g l s true w':=by
 have HBK:=a_ hb
 have HR:=a_ hr
 have HQ:=a_ hq
 have HA:=a_ h
 have HG:=a_ hG
 have H0:=a_ h0
 have H2:=a_ h2
 clear h hG h0 h2
 have HGL:=a_ (blk_lt hb)
 clear hb hr hq
 have hu1:=Tryd.underlying107
 have hu2:=Tryd.underlying44
 go_enter Tryd.func81,Tryd.ntmps81
 go_wp2_with (first|(go_at_call 118;refine (pop_one g _ A1 c1 s true e _ HBK.out base1 HQ.out).mono ?_;rintro x w1 ⟨rfl,⟨A2,c2,hb1⟩,hk1⟩;have HBK1:=a_ hb1;have HK1:=a_ hk1;clear hb1 hk1)|((with_reducible refine gD_ (N:=4) rfl ?_);refine bx_ 4 (#[.int .i64 0,.int .i64 0,.int .i64 0,.int .i64 0,.int .i64 0,.int .i64 0,.string ⟨#[]⟩]) 44 ?_;intro g8 hg8 w8 hbox8 hb8;have HBK8:=a_ (blk_below HBK1.out hb8);have BK8:=a_ hbox8;have HK8:=a_ (HK1.out.trans (Keep.of_below hb8 (Nat.le_trans (Nat.le_of_lt HGL.out) HK1.out.1.size)));have GE8:=a_ (show w.heap.size≤g8 by rw [hg8];exact HK1.out.1.size);have NE8:=a_ (show g≠g8 by have:=HGL.out;have:=GE8.out;omega);have hz0:=(bC_ BK8.out 0).trans rfl;have hf0:=bF_ BK8.out 0;have hz1:=(bC_ BK8.out 1).trans rfl;have hf1:=bF_ BK8.out 1;have hz2:=(bC_ BK8.out 2).trans rfl;have hf2:=bF_ BK8.out 2;have hz3:=(bC_ BK8.out 3).trans rfl;have hf3:=bF_ BK8.out 3;have hz4:=(bC_ BK8.out 4).trans rfl;have hf4:=bF_ BK8.out 4;have hz5:=(bC_ BK8.out 5).trans rfl;have hf5:=bF_ BK8.out 5;have hz6:=(bC_ BK8.out 6).trans rfl;have hf6:=bF_ BK8.out 6;clear hbox8 hb8 hg8))
 go_loopw [3,4,5] (fun t3 t4 t5 wr=>DrainRel w g l l s true e 0 t3 t4 t5 wr) (fun _ _ t5 _=>boolN t5)
 case atStart=>exact .inl ⟨rfl,rfl,⟨g8,rfl,(blk_set (blk_set (blk_set (blk_set (blk_set (blk_set (blk_set (BK8.out) 0 _) 1 _) 2 _) 3 _) 4 _) 5 _) 6 _).trans rfl,GE8.out⟩,A,c,A2,c2,(blk_far (blk_far (blk_far (blk_far (blk_far (blk_far (blk_far (HBK8.out) NE8.out _) NE8.out _) NE8.out _) NE8.out _) NE8.out _) NE8.out _) NE8.out _).trans rfl,Kd.R_keep (Kd.R_lower HR.out (Nat.zero_le _)) (Keep.far (Keep.far (Keep.far (Keep.far (Keep.far (Keep.far (Keep.far (HK8.out) (p:=⟨g8,0,none⟩) (Nat.le_of_lt HGL.out) GE8.out _) (p:=⟨g8,1,none⟩) (Nat.le_of_lt HGL.out) GE8.out _) (p:=⟨g8,2,none⟩) (Nat.le_of_lt HGL.out) GE8.out _) (p:=⟨g8,3,none⟩) (Nat.le_of_lt HGL.out) GE8.out _) (p:=⟨g8,4,none⟩) (Nat.le_of_lt HGL.out) GE8.out _) (p:=⟨g8,5,none⟩) (Nat.le_of_lt HGL.out) GE8.out _) (p:=⟨g8,6,none⟩) (Nat.le_of_lt HGL.out) GE8.out _).2 (fun _ h=>h),Keep.far (Keep.far (Keep.far (Keep.far (Keep.far (Keep.far (Keep.far (HK8.out) (p:=⟨g8,0,none⟩) (Nat.le_of_lt HGL.out) GE8.out _) (p:=⟨g8,1,none⟩) (Nat.le_of_lt HGL.out) GE8.out _) (p:=⟨g8,2,none⟩) (Nat.le_of_lt HGL.out) GE8.out _) (p:=⟨g8,3,none⟩) (Nat.le_of_lt HGL.out) GE8.out _) (p:=⟨g8,4,none⟩) (Nat.le_of_lt HGL.out) GE8.out _) (p:=⟨g8,5,none⟩) (Nat.le_of_lt HGL.out) GE8.out _) (p:=⟨g8,6,none⟩) (Nat.le_of_lt HGL.out) GE8.out _⟩
 case round =>
  rcases hrel with ⟨rfl,rfl,⟨gE,rfl,hE,hgE⟩,A3,c3,A4,c4,hb3,hr3,hk3⟩|⟨rfl,rfl,hF⟩
  ·have HE:=a_ hE
   have NEE:=a_ (show gE≠g by have:=HGL.out;omega)
   have HB3:=a_ hb3
   have HR3:=a_ hr3
   have HK3:=a_ hk3
   have hup:wr.cell? ⟨g,3,none⟩=some (.bool true):=(bC_ hb3 3).trans rfl
   have he0:=(bC_ hE 0).trans rfl
   have he1:=(bC_ hE 1).trans rfl
   have he2:=(bC_ hE 2).trans rfl
   have he3:=(bC_ hE 3).trans rfl
   have he4:=(bC_ hE 4).trans rfl
   have he5:=(bC_ hE 5).trans rfl
   have he6:=(bC_ hE 6).trans rfl
   clear hE hb3 hr3 hk3
   go_wp2
   go_region_with (go_at_call 119;refine (take_no k g A3 c3 l _ s true e r1 r2 H2.out _ 0 (bD_ HB3.out) (Kd.R_drew HR3.out) HA.out (HG.out.keep HK3.out H0.out).drew).mono ?_;rintro x w5 ⟨rfl,⟨A5,c5,hb5,hr5⟩,hk5⟩;have HB5:=a_ hb5;have HR5:=a_ (Kd.R_lower hr5 (Nat.zero_le 0));have HK35:=a_ (HK3.out.drew.trans hk5);have HE5:=a_ (hk5.2.blk (bD_ HE.out) NEE.out (by simp));have GLR:=a_ (blk_lt hb5);clear hb5 hr5 hk5;have hq0:=(bC_ HE5.out 0).trans rfl;have hq1:=(bC_ HE5.out 1).trans rfl;have hq2:=(bC_ HE5.out 2).trans rfl;have hq3:=(bC_ HE5.out 3).trans rfl;have hq4:=(bC_ HE5.out 4).trans rfl;have hq5:=(bC_ HE5.out 5).trans rfl;have hq6:=(bC_ HE5.out 6).trans rfl)
   all_goals go_wp2_with (first|((with_reducible refine gD_ (N:=4) rfl ?_);refine bx_ 4 (#[.int .i64 0,.int .i64 0,.int .i64 0,.int .i64 0,.int .i64 0,.int .i64 0,.string ⟨#[]⟩]) 44 ?_;intro g8 hg8 w8 hbox8 hb8;have HBK8:=a_ (blk_below HB5.out hb8);have BK8:=a_ hbox8;have HK8:=a_ (Keep.of_below hb8 (Nat.le_of_lt GLR.out));have GW8:=a_ (Nat.le_of_eq hg8.symm);have GE8:=a_ (show w.heap.size≤g8 by rw [hg8];exact HK35.out.1.size);have NE8:=a_ (show g≠g8 by have:=HGL.out;have:=GE8.out;omega);have hz0:=(bC_ BK8.out 0).trans rfl;have hf0:=bF_ BK8.out 0;have hz1:=(bC_ BK8.out 1).trans rfl;have hf1:=bF_ BK8.out 1;have hz2:=(bC_ BK8.out 2).trans rfl;have hf2:=bF_ BK8.out 2;have hz3:=(bC_ BK8.out 3).trans rfl;have hf3:=bF_ BK8.out 3;have hz4:=(bC_ BK8.out 4).trans rfl;have hf4:=bF_ BK8.out 4;have hz5:=(bC_ BK8.out 5).trans rfl;have hf5:=bF_ BK8.out 5;have hz6:=(bC_ BK8.out 6).trans rfl;have hf6:=bF_ BK8.out 6;clear hbox8 hb8 hg8)|(go_at_call 118;refine (pop_none g _ A4 c4 s true _ ((blk_far (blk_far (blk_far (blk_far (blk_far (blk_far (blk_far (HBK8.out) NE8.out _) NE8.out _) NE8.out _) NE8.out _) NE8.out _) NE8.out _) NE8.out _).trans rfl)).mono ?_;rintro x w9 ⟨rfl,hb9⟩;have HBK9:=a_ (blk_below (blk_far (blk_far (blk_far (blk_far (blk_far (blk_far (blk_far (HBK8.out) NE8.out _) NE8.out _) NE8.out _) NE8.out _) NE8.out _) NE8.out _) NE8.out _) hb9);have BK9:=a_ (blk_below (blk_set (blk_set (blk_set (blk_set (blk_set (blk_set (blk_set (BK8.out) 0 _) 1 _) 2 _) 3 _) 4 _) 5 _) 6 _) hb9);have HK9:=a_ ((Keep.far (Keep.far (Keep.far (Keep.far (Keep.far (Keep.far (Keep.far (HK8.out) (p:=⟨g8,0,none⟩) (Nat.le_of_lt GLR.out) GW8.out _) (p:=⟨g8,1,none⟩) (Nat.le_of_lt GLR.out) GW8.out _) (p:=⟨g8,2,none⟩) (Nat.le_of_lt GLR.out) GW8.out _) (p:=⟨g8,3,none⟩) (Nat.le_of_lt GLR.out) GW8.out _) (p:=⟨g8,4,none⟩) (Nat.le_of_lt GLR.out) GW8.out _) (p:=⟨g8,5,none⟩) (Nat.le_of_lt GLR.out) GW8.out _) (p:=⟨g8,6,none⟩) (Nat.le_of_lt GLR.out) GW8.out _).trans (Keep.of_below hb9 (Nat.le_trans (Nat.le_of_lt GLR.out) (Keep.far (Keep.far (Keep.far (Keep.far (Keep.far (Keep.far (Keep.far (HK8.out) (p:=⟨g8,0,none⟩) (Nat.le_of_lt GLR.out) GW8.out _) (p:=⟨g8,1,none⟩) (Nat.le_of_lt GLR.out) GW8.out _) (p:=⟨g8,2,none⟩) (Nat.le_of_lt GLR.out) GW8.out _) (p:=⟨g8,3,none⟩) (Nat.le_of_lt GLR.out) GW8.out _) (p:=⟨g8,4,none⟩) (Nat.le_of_lt GLR.out) GW8.out _) (p:=⟨g8,5,none⟩) (Nat.le_of_lt GLR.out) GW8.out _) (p:=⟨g8,6,none⟩) (Nat.le_of_lt GLR.out) GW8.out _).1.size)));have hv0:=(bC_ BK9.out 0).trans rfl;have hw0:=bF_ BK9.out 0;have hv1:=(bC_ BK9.out 1).trans rfl;have hw1:=bF_ BK9.out 1;have hv2:=(bC_ BK9.out 2).trans rfl;have hw2:=bF_ BK9.out 2;have hv3:=(bC_ BK9.out 3).trans rfl;have hw3:=bF_ BK9.out 3;have hv4:=(bC_ BK9.out 4).trans rfl;have hw4:=bF_ BK9.out 4;have hv5:=(bC_ BK9.out 5).trans rfl;have hw5:=bF_ BK9.out 5;have hv6:=(bC_ BK9.out 6).trans rfl;have hw6:=bF_ BK9.out 6;clear hb9))
   all_goals refine ⟨.inr ⟨rfl,rfl,A5,c5,A4,c4,(blk_far (blk_far (blk_far (blk_far (blk_far (blk_far (blk_far (HBK9.out) NE8.out _) NE8.out _) NE8.out _) NE8.out _) NE8.out _) NE8.out _) NE8.out _).trans rfl,Kd.R_keep HR5.out (Keep.far (Keep.far (Keep.far (Keep.far (Keep.far (Keep.far (Keep.far (HK9.out) (p:=⟨g8,0,none⟩) (Nat.le_of_lt GLR.out) GW8.out _) (p:=⟨g8,1,none⟩) (Nat.le_of_lt GLR.out) GW8.out _) (p:=⟨g8,2,none⟩) (Nat.le_of_lt GLR.out) GW8.out _) (p:=⟨g8,3,none⟩) (Nat.le_of_lt GLR.out) GW8.out _) (p:=⟨g8,4,none⟩) (Nat.le_of_lt GLR.out) GW8.out _) (p:=⟨g8,5,none⟩) (Nat.le_of_lt GLR.out) GW8.out _) (p:=⟨g8,6,none⟩) (Nat.le_of_lt GLR.out) GW8.out _).2 (fun _ h=>h),HK35.out.trans (Keep.far (Keep.far (Keep.far (Keep.far (Keep.far (Keep.far (Keep.far (HK9.out) (p:=⟨g8,0,none⟩) (Nat.le_of_lt GLR.out) GW8.out _) (p:=⟨g8,1,none⟩) (Nat.le_of_lt GLR.out) GW8.out _) (p:=⟨g8,2,none⟩) (Nat.le_of_lt GLR.out) GW8.out _) (p:=⟨g8,3,none⟩) (Nat.le_of_lt GLR.out) GW8.out _) (p:=⟨g8,4,none⟩) (Nat.le_of_lt GLR.out) GW8.out _) (p:=⟨g8,5,none⟩) (Nat.le_of_lt GLR.out) GW8.out _) (p:=⟨g8,6,none⟩) (Nat.le_of_lt GLR.out) GW8.out _)⟩,by simp [boolN]⟩
  ·go_wp2
   go_ret
   exact ⟨rfl,hF⟩
theorem Keep.belowW {g:Nat} {w0 w w1:World} (h:Keep g w w1) (hb:Below w0.heap.size w0 w) (hg:w0.heap.size≤g):Below w0.heap.size w0 w1 :=
 ⟨h.1.os.trans hb.os,h.1.tape.trans hb.tape,h.1.output.trans hb.output,Nat.le_trans hb.size h.1.size,fun k hk=>(h.1.block k (by omega)).trans (hb.block k hk)⟩
def impl_ServerHear.f (k:Nat) (l0_0:List S44) (a0_1:Int) (a0_2:Bool) (a1_0:Int) (a1_1:Int) (a1_2:Int) (a1_3:Int) (a1_4:Int) (a1_5:Int) (a1_6:ByteArray):Option (List S44×Int×Bool×Bool) :=
 (impl_ServerOk.f k l0_0 a0_1 a0_2).bind fun t=>if t=true then ((impl_EntryOk.f k a1_0 a1_1 a1_2 a1_3 a1_4 a1_5 a1_6).bind fun t2=>if t2=true then
  (if l0_0.length < 2199023255552 then (if a0_2=true then ((impl_LogAdd.f k l0_0 a1_0 a1_1 a1_2 a1_3 a1_4 a1_5 a1_6).bind fun p=>if p.2=1 then (if p.1.length < 2199023255552 then some (p.1,a0_1,true,true) else none) else some (l0_0,a0_1,true,false)) else some (l0_0,a0_1,false,false)) else none)
  else some ([],0,false,false)) else some ([],0,false,false)
theorem impl_ServerHear.mono (l0_0:List S44) (a0_1:Int) (a0_2:Bool) (a1_0:Int) (a1_1:Int) (a1_2:Int) (a1_3:Int) (a1_4:Int) (a1_5:Int) (a1_6:ByteArray) (k:Nat):LeO (impl_ServerHear.f k l0_0 a0_1 a0_2 a1_0 a1_1 a1_2 a1_3 a1_4 a1_5 a1_6) (impl_ServerHear.f (k+1) l0_0 a0_1 a0_2 a1_0 a1_1 a1_2 a1_3 a1_4 a1_5 a1_6):=by
 unfold impl_ServerHear.f
 refine LeO.bind (impl_ServerOk.mono _ _ _ _) (fun t=>?_)
 split
 ·refine LeO.bind (impl_EntryOk.mono _ _ _ _ _ _ _ _) (fun t2=>?_)
  split
  ·split
   ·split
    ·exact LeO.bind (impl_LogAdd.mono _ _ _ _ _ _ _ _ _) (fun _=>LeO.refl _)
    ·exact LeO.refl _
   ·exact LeO.refl _
  ·exact LeO.refl _
 ·exact LeO.refl _
theorem impl_ServerHear.calls (k:Nat) (A0_0:Option Addr) (c0_0:Nat) (l0_0:List S44) (a0_1:Int) (a0_2:Bool) (a1_0:Int) (a1_1:Int) (a1_2:Int) (a1_3:Int) (a1_4:Int) (a1_5:Int) (a1_6:ByteArray) (r1:List S44) (r2:Int) (r3:Bool) (r4:Bool) (w:World) (hr0_0:Kd.C k44 w A0_0 l0_0.length l0_0) (hc0_0:l0_0.length≤c0_0) (h:impl_ServerHear.f k l0_0 a0_1 a0_2 a1_0 a1_1 a1_2 a1_3 a1_4 a1_5 a1_6=some (r1,r2,r3,r4)) (hG:Glob w) :
  Calls Tryd.prog 24 #[.agg #[.slice A0_0 l0_0.length c0_0,.int .i64 a0_1,.bool a0_2],.agg #[.int .i64 a1_0,.int .i64 a1_1,.int .i64 a1_2,.int .i64 a1_3,.int .i64 a1_4,.int .i64 a1_5,.string a1_6]] w fun e w'=>∃ v0_:Value,e=.returned (.tuple #[.agg #[v0_,.int .i64 r2,.bool r3],.bool r4])∧Kd.R k44 44 w' w.heap.size (fun _=>True) v0_ r1∧Below w.heap.size w w':=by
 have HR0:=a_ hr0_0
 have HC0:=a_ hc0_0
 have HG:=a_ hG
 have H0:=a_ hG.lt
 clear hr0_0 hc0_0 hG
 have hu1:=Tryd.underlying25
 have hu2:=Tryd.underlying107
 have hu3:=Tryd.underlying103
 have hu4:=Tryd.underlying44
 unfold impl_ServerHear.f at h
 obtain ⟨t,ht,h⟩:=Option.bind_eq_some_iff.1 h
 have HT:=a_ ht
 clear ht
 cases t with
 | false =>
  simp only [Bool.false_eq_true,if_false,Option.some.injEq,Prod.mk.injEq] at h
  obtain ⟨rfl,rfl,rfl,rfl⟩:=h
  go_enter Tryd.func24,Tryd.ntmps24
  go_wp2_with (first|((with_reducible refine gD_ (N:=2) rfl ?_);refine bx_ 2 (#[.slice A0_0 l0_0.length c0_0,.int .i64 a0_1,.bool a0_2]) 25 ?_;intro gS hgS w1 hbox hb1;have HB1:=a_ hb1;have BS1:=a_ hbox;clear hbox hb1 hgS)|((with_reducible refine gD_ (N:=3) rfl ?_);refine bx_ 3 (#[.int .i64 a1_0,.int .i64 a1_1,.int .i64 a1_2,.int .i64 a1_3,.int .i64 a1_4,.int .i64 a1_5,.string a1_6]) 44 ?_;intro gE hgE w2 hbox hb2;have HB2:=a_ (bS_ HB1.out hb2);have BS2:=a_ (blk_below BS1.out hb2);have BE2:=a_ hbox;clear hbox hb2 hgE)|((with_reducible refine gD_ (N:=4) rfl ?_);refine bx_ 4 (#[.slice none 0 0,.int .i64 0,.bool false]) 25 ?_;intro gR hgR w3 hbox hb3;have HB3:=a_ (bS_ HB2.out hb3);have BS3:=a_ (blk_below BS2.out hb3);have BE3:=a_ (blk_below BE2.out hb3);have BR3:=a_ hbox;have GR:=a_ (show w.heap.size≤gR by rw [hgR];exact HB2.out.size);have hs0:=(bC_ BS3.out 0).trans rfl;have hs1:=(bC_ BS3.out 1).trans rfl;have hs2:=(bC_ BS3.out 2).trans rfl;have he0:=(bC_ BE3.out 0).trans rfl;have he1:=(bC_ BE3.out 1).trans rfl;have he2:=(bC_ BE3.out 2).trans rfl;have he3:=(bC_ BE3.out 3).trans rfl;have he4:=(bC_ BE3.out 4).trans rfl;have he5:=(bC_ BE3.out 5).trans rfl;have he6:=(bC_ BE3.out 6).trans rfl;have hz0:=(bC_ BR3.out 0).trans rfl;have hz1:=(bC_ BR3.out 1).trans rfl;have hz2:=(bC_ BR3.out 2).trans rfl;have hzf0:=bF_ BR3.out 0;have hzf1:=bF_ BR3.out 1;have hzf2:=bF_ BR3.out 2;clear hbox hb3 hgR)|(go_at_call 16;go_loud (refine (impl_ServerOk.calls k _ _ l0_0 a0_1 a0_2 false _ (Kd.C_below HR0.out HB3.out) HC0.out HT.out (HG.out.below HB3.out)).mono ?_;rintro e w4 ⟨rfl,hb4⟩;have HB4:=a_ (bS_ HB3.out hb4);have BS4:=a_ (blk_below BS3.out hb4);have BE4:=a_ (blk_below BE3.out hb4);have BR4:=a_ (blk_below BR3.out hb4);clear hb4;have hsp0:=(bC_ BS4.out 0).trans rfl;have hsp1:=(bC_ BS4.out 1).trans rfl;have hsp2:=(bC_ BS4.out 2).trans rfl;have hep0:=(bC_ BE4.out 0).trans rfl;have hep1:=(bC_ BE4.out 1).trans rfl;have hep2:=(bC_ BE4.out 2).trans rfl;have hep3:=(bC_ BE4.out 3).trans rfl;have hep4:=(bC_ BE4.out 4).trans rfl;have hep5:=(bC_ BE4.out 5).trans rfl;have hep6:=(bC_ BE4.out 6).trans rfl;have hzp0:=(bC_ BR4.out 0).trans rfl;have hzp1:=(bC_ BR4.out 1).trans rfl;have hzp2:=(bC_ BR4.out 2).trans rfl;have hzpf0:=bF_ BR4.out 0;have hzpf1:=bF_ BR4.out 1;have hzpf2:=bF_ BR4.out 2)))
  (try simp only [Exit.inBlock,Exit.then])
  refine bodyPost_ret (results_ct rfl _ _ gR 25 #[.slice none 0 0,.int .i64 0,.bool false] (0,0) _ rfl ((blk_set (blk_set (blk_set BR4.out 0 _) 1 _) 2 _).trans rfl) Tryd.underlying25 rfl (by kernel_rfl)) rfl ?_
  exact ⟨_,rfl,Kd.R_nil _ _ _ _ _,wS_ (wS_ (wS_ HB4.out GR.out) GR.out) GR.out⟩
 | true =>
  rw [if_pos rfl] at h
  obtain ⟨t2,ht2,h⟩:=Option.bind_eq_some_iff.1 h
  have HT2:=a_ ht2
  clear ht2
  cases t2 with
  | false =>
   simp only [Bool.false_eq_true,if_false,Option.some.injEq,Prod.mk.injEq] at h
   obtain ⟨rfl,rfl,rfl,rfl⟩:=h
   go_enter Tryd.func24,Tryd.ntmps24
   go_wp2_with (first|((with_reducible refine gD_ (N:=2) rfl ?_);refine bx_ 2 (#[.slice A0_0 l0_0.length c0_0,.int .i64 a0_1,.bool a0_2]) 25 ?_;intro gS hgS w1 hbox hb1;have HB1:=a_ hb1;have BS1:=a_ hbox;clear hbox hb1 hgS)|((with_reducible refine gD_ (N:=3) rfl ?_);refine bx_ 3 (#[.int .i64 a1_0,.int .i64 a1_1,.int .i64 a1_2,.int .i64 a1_3,.int .i64 a1_4,.int .i64 a1_5,.string a1_6]) 44 ?_;intro gE hgE w2 hbox hb2;have HB2:=a_ (bS_ HB1.out hb2);have BS2:=a_ (blk_below BS1.out hb2);have BE2:=a_ hbox;clear hbox hb2 hgE)|((with_reducible refine gD_ (N:=4) rfl ?_);refine bx_ 4 (#[.slice none 0 0,.int .i64 0,.bool false]) 25 ?_;intro gR hgR w3 hbox hb3;have HB3:=a_ (bS_ HB2.out hb3);have BS3:=a_ (blk_below BS2.out hb3);have BE3:=a_ (blk_below BE2.out hb3);have BR3:=a_ hbox;have GR:=a_ (show w.heap.size≤gR by rw [hgR];exact HB2.out.size);have hs0:=(bC_ BS3.out 0).trans rfl;have hs1:=(bC_ BS3.out 1).trans rfl;have hs2:=(bC_ BS3.out 2).trans rfl;have he0:=(bC_ BE3.out 0).trans rfl;have he1:=(bC_ BE3.out 1).trans rfl;have he2:=(bC_ BE3.out 2).trans rfl;have he3:=(bC_ BE3.out 3).trans rfl;have he4:=(bC_ BE3.out 4).trans rfl;have he5:=(bC_ BE3.out 5).trans rfl;have he6:=(bC_ BE3.out 6).trans rfl;have hz0:=(bC_ BR3.out 0).trans rfl;have hz1:=(bC_ BR3.out 1).trans rfl;have hz2:=(bC_ BR3.out 2).trans rfl;have hzf0:=bF_ BR3.out 0;have hzf1:=bF_ BR3.out 1;have hzf2:=bF_ BR3.out 2;clear hbox hb3 hgR)|(go_at_call 16;go_loud (refine (impl_ServerOk.calls k _ _ l0_0 a0_1 a0_2 true _ (Kd.C_below HR0.out HB3.out) HC0.out HT.out (HG.out.below HB3.out)).mono ?_;rintro e w4 ⟨rfl,hb4⟩;have HB4:=a_ (bS_ HB3.out hb4);have BS4:=a_ (blk_below BS3.out hb4);have BE4:=a_ (blk_below BE3.out hb4);have BR4:=a_ (blk_below BR3.out hb4);clear hb4;have hsp0:=(bC_ BS4.out 0).trans rfl;have hsp1:=(bC_ BS4.out 1).trans rfl;have hsp2:=(bC_ BS4.out 2).trans rfl;have hep0:=(bC_ BE4.out 0).trans rfl;have hep1:=(bC_ BE4.out 1).trans rfl;have hep2:=(bC_ BE4.out 2).trans rfl;have hep3:=(bC_ BE4.out 3).trans rfl;have hep4:=(bC_ BE4.out 4).trans rfl;have hep5:=(bC_ BE4.out 5).trans rfl;have hep6:=(bC_ BE4.out 6).trans rfl;have hzp0:=(bC_ BR4.out 0).trans rfl;have hzp1:=(bC_ BR4.out 1).trans rfl;have hzp2:=(bC_ BR4.out 2).trans rfl;have hzpf0:=bF_ BR4.out 0;have hzpf1:=bF_ BR4.out 1;have hzpf2:=bF_ BR4.out 2))|(go_at_call 78;go_loud (refine (impl_EntryOk.calls k _ _ _ _ _ _ _ false _ HT2.out (HG.out.below HB4.out)).mono ?_;rintro e w5 ⟨rfl,hb5⟩;have HB5:=a_ (bS_ HB4.out hb5);have BS5:=a_ (blk_below BS4.out hb5);have BE5:=a_ (blk_below BE4.out hb5);have BR5:=a_ (blk_below BR4.out hb5);clear hb5;have hsq0:=(bC_ BS5.out 0).trans rfl;have hsq1:=(bC_ BS5.out 1).trans rfl;have hsq2:=(bC_ BS5.out 2).trans rfl;have heq0:=(bC_ BE5.out 0).trans rfl;have heq1:=(bC_ BE5.out 1).trans rfl;have heq2:=(bC_ BE5.out 2).trans rfl;have heq3:=(bC_ BE5.out 3).trans rfl;have heq4:=(bC_ BE5.out 4).trans rfl;have heq5:=(bC_ BE5.out 5).trans rfl;have heq6:=(bC_ BE5.out 6).trans rfl;have hzq0:=(bC_ BR5.out 0).trans rfl;have hzq1:=(bC_ BR5.out 1).trans rfl;have hzq2:=(bC_ BR5.out 2).trans rfl;have hzqf0:=bF_ BR5.out 0;have hzqf1:=bF_ BR5.out 1;have hzqf2:=bF_ BR5.out 2)))
   (try simp only [Exit.inBlock,Exit.then])
   refine bodyPost_ret (results_ct rfl _ _ gR 25 #[.slice none 0 0,.int .i64 0,.bool false] (0,0) _ rfl ((blk_set (blk_set (blk_set BR5.out 0 _) 1 _) 2 _).trans rfl) Tryd.underlying25 rfl (by kernel_rfl)) rfl ?_
   exact ⟨_,rfl,Kd.R_nil _ _ _ _ _,wS_ (wS_ (wS_ HB5.out GR.out) GR.out) GR.out⟩
  | true =>
   rw [if_pos rfl] at h
   obtain ⟨e1,he1⟩:∃ e1:S44,e1=⟨a1_0,a1_1,⟨a1_2,a1_3,a1_4,a1_5,a1_6⟩⟩:=⟨_,rfl⟩
   obtain rfl:e1.f0=a1_0:=by rw [he1]
   obtain rfl:e1.f1=a1_1:=by rw [he1]
   obtain rfl:e1.f2.f0=a1_2:=by rw [he1]
   obtain rfl:e1.f2.f1=a1_3:=by rw [he1]
   obtain rfl:e1.f2.f2=a1_4:=by rw [he1]
   obtain rfl:e1.f2.f3=a1_5:=by rw [he1]
   obtain rfl:e1.f2.f4=a1_6:=by rw [he1]
   clear he1
   by_cases hl:l0_0.length < 2199023255552
   ·rw [if_pos hl] at h
    have LM:=a_ hl
    clear hl
    cases a0_2 with
    | false =>
     simp only [Bool.false_eq_true,if_false,Option.some.injEq,Prod.mk.injEq] at h
     obtain ⟨rfl,rfl,rfl,rfl⟩:=h
     go_enter Tryd.func24,Tryd.ntmps24
     go_wp2_with (first|((with_reducible refine gD_ (N:=2) rfl ?_);refine bx_ 2 (#[.slice A0_0 l0_0.length c0_0,.int .i64 a0_1,.bool false]) 25 ?_;intro gS hgS w1 hbox hb1;have HB1:=a_ hb1;have BS1:=a_ hbox;clear hbox hb1 hgS)|((with_reducible refine gD_ (N:=3) rfl ?_);refine bx_ 3 (#[.int .i64 e1.f0,.int .i64 e1.f1,.int .i64 e1.f2.f0,.int .i64 e1.f2.f1,.int .i64 e1.f2.f2,.int .i64 e1.f2.f3,.string e1.f2.f4]) 44 ?_;intro gE hgE w2 hbox hb2;have HB2:=a_ (bS_ HB1.out hb2);have BS2:=a_ (blk_below BS1.out hb2);have BE2:=a_ hbox;clear hbox hb2 hgE)|((with_reducible refine gD_ (N:=4) rfl ?_);refine bx_ 4 (#[.slice none 0 0,.int .i64 0,.bool false]) 25 ?_;intro gR hgR w3 hbox hb3;have HB3:=a_ (bS_ HB2.out hb3);have BS3:=a_ (blk_below BS2.out hb3);have BE3:=a_ (blk_below BE2.out hb3);have BR3:=a_ hbox;have GR:=a_ (show w.heap.size≤gR by rw [hgR];exact HB2.out.size);have hs0:=(bC_ BS3.out 0).trans rfl;have hs1:=(bC_ BS3.out 1).trans rfl;have hs2:=(bC_ BS3.out 2).trans rfl;have he0:=(bC_ BE3.out 0).trans rfl;have he1:=(bC_ BE3.out 1).trans rfl;have he2:=(bC_ BE3.out 2).trans rfl;have he3:=(bC_ BE3.out 3).trans rfl;have he4:=(bC_ BE3.out 4).trans rfl;have he5:=(bC_ BE3.out 5).trans rfl;have he6:=(bC_ BE3.out 6).trans rfl;have hz0:=(bC_ BR3.out 0).trans rfl;have hz1:=(bC_ BR3.out 1).trans rfl;have hz2:=(bC_ BR3.out 2).trans rfl;have hzf0:=bF_ BR3.out 0;have hzf1:=bF_ BR3.out 1;have hzf2:=bF_ BR3.out 2;clear hbox hb3 hgR)|(go_at_call 16;go_loud (refine (impl_ServerOk.calls k _ _ l0_0 a0_1 false true _ (Kd.C_below HR0.out HB3.out) HC0.out HT.out (HG.out.below HB3.out)).mono ?_;rintro e w4 ⟨rfl,hb4⟩;have HB4:=a_ (bS_ HB3.out hb4);have BS4:=a_ (blk_below BS3.out hb4);have BE4:=a_ (blk_below BE3.out hb4);have BR4:=a_ (blk_below BR3.out hb4);clear hb4;have hsp0:=(bC_ BS4.out 0).trans rfl;have hsp1:=(bC_ BS4.out 1).trans rfl;have hsp2:=(bC_ BS4.out 2).trans rfl;have hep0:=(bC_ BE4.out 0).trans rfl;have hep1:=(bC_ BE4.out 1).trans rfl;have hep2:=(bC_ BE4.out 2).trans rfl;have hep3:=(bC_ BE4.out 3).trans rfl;have hep4:=(bC_ BE4.out 4).trans rfl;have hep5:=(bC_ BE4.out 5).trans rfl;have hep6:=(bC_ BE4.out 6).trans rfl;have hzp0:=(bC_ BR4.out 0).trans rfl;have hzp1:=(bC_ BR4.out 1).trans rfl;have hzp2:=(bC_ BR4.out 2).trans rfl;have hzpf0:=bF_ BR4.out 0;have hzpf1:=bF_ BR4.out 1;have hzpf2:=bF_ BR4.out 2))|(go_at_call 78;go_loud (refine (impl_EntryOk.calls k _ _ _ _ _ _ _ true _ HT2.out (HG.out.below HB4.out)).mono ?_;rintro e w5 ⟨rfl,hb5⟩;have HB5:=a_ (bS_ HB4.out hb5);have BS5:=a_ (blk_below BS4.out hb5);have BE5:=a_ (blk_below BE4.out hb5);have BR5:=a_ (blk_below BR4.out hb5);clear hb5;have hsq0:=(bC_ BS5.out 0).trans rfl;have hsq1:=(bC_ BS5.out 1).trans rfl;have hsq2:=(bC_ BS5.out 2).trans rfl;have heq0:=(bC_ BE5.out 0).trans rfl;have heq1:=(bC_ BE5.out 1).trans rfl;have heq2:=(bC_ BE5.out 2).trans rfl;have heq3:=(bC_ BE5.out 3).trans rfl;have heq4:=(bC_ BE5.out 4).trans rfl;have heq5:=(bC_ BE5.out 5).trans rfl;have heq6:=(bC_ BE5.out 6).trans rfl;have hzq0:=(bC_ BR5.out 0).trans rfl;have hzq1:=(bC_ BR5.out 1).trans rfl;have hzq2:=(bC_ BR5.out 2).trans rfl;have hzqf0:=bF_ BR5.out 0;have hzqf1:=bF_ BR5.out 1;have hzqf2:=bF_ BR5.out 2))|(go_at_call 79;refine (impl_machineOf.calls _ _ l0_0 a0_1 false _ (Kd.C_below HR0.out HB5.out) HC0.out LM.out).mono ?_;rintro e w6 ⟨g,rfl,⟨A6,c6,hk6,hr6,hge6⟩,hb6⟩;have HM6:=a_ hk6;have HR6:=a_ hr6;have GE6:=a_ (Nat.le_trans HB5.out.size hge6);have NER:=a_ (show gR≠g by have:=blk_lt BR5.out;omega);have HB6:=a_ (bS_ HB5.out hb6);have BE6:=a_ (blk_below BE5.out hb6);have BR6:=a_ (blk_below BR5.out hb6);have NEE:=a_ (show gE≠g by have:=blk_lt BE5.out;omega);clear hk6 hr6 hge6 hb6;have het0:=(bC_ BE6.out 0).trans rfl;have het1:=(bC_ BE6.out 1).trans rfl;have het2:=(bC_ BE6.out 2).trans rfl;have het3:=(bC_ BE6.out 3).trans rfl;have het4:=(bC_ BE6.out 4).trans rfl;have het5:=(bC_ BE6.out 5).trans rfl;have het6:=(bC_ BE6.out 6).trans rfl))
     go_region_with (go_at_call 80;refine (push_any g _ a0_1 false e1 _ (bD_ HM6.out)).mono ?_;rintro x w7 ⟨⟨v7,rfl⟩,A7,c7,hb7,hr7,hk7⟩;have HM7:=a_ hb7;have HQ7:=a_ hr7;have HK7:=a_ hk7;have HR7:=a_ (Kd.R_keep (Kd.R_drew HR6.out) hk7.2 (fun _ h=>h));have BR7:=a_ (hk7.2.blk (bD_ BR6.out) NER.out (by simp));have HB7:=a_ (hk7.belowW (below_drew1 HB6.out) GE6.out);clear hb7 hr7 hk7)
     all_goals go_wp2_with (first|(go_at_call 81;go_loud (refine (drain_down k g A6 c6 l0_0 A7 c7 a0_1 e1  _ _ _ HM7.out HR7.out HQ7.out).mono ?_;rintro x w8 ⟨rfl,A8,c8,A9,c9,hb8,hr8,hk8⟩;have HM8:=a_ hb8;have HR8:=a_ hr8;have BR8:=a_ (hk8.2.blk BR7.out NER.out (by simp));have HB8:=a_ (hk8.belowW HB7.out GE6.out);clear hb8 hr8 hk8))|(go_at_call 82;go_loud (refine (impl_mserver.callsC g A8 c8 l0_0 _ a0_1 false _ HM8.out (Kd.R_reads' HR8.out).2.2 (Kd.R_reads' HR8.out).2.1 LM.out).mono ?_;rintro x w9 ⟨v9,rfl,ho9,hb9⟩;obtain ⟨A10,c10,rfl⟩:=Kd.R_slice ho9;have HO9:=a_ (Kd.R_newB ho9 BR8.out);have HB9:=a_ (bS_ HB8.out hb9);have BR9:=a_ (blk_below BR8.out hb9);clear ho9 hb9;have hw0:=(bC_ BR9.out 0).trans rfl;have hw1:=(bC_ BR9.out 1).trans rfl;have hw2:=(bC_ BR9.out 2).trans rfl;have hwf0:=bF_ BR9.out 0;have hwf1:=bF_ BR9.out 1;have hwf2:=bF_ BR9.out 2)))
     all_goals (try simp only [Exit.inBlock,Exit.then])
     all_goals refine bodyPost_ret (results_ct rfl _ _ gR 25 #[.slice A10 l0_0.length c10,.int .i64 a0_1,.bool false] (0,0) _ rfl ((blk_set (blk_set (blk_set BR9.out 0 _) 1 _) 2 _).trans rfl) Tryd.underlying25 rfl (by kernel_rfl)) rfl ?_
     all_goals refine ⟨_,rfl,?_,wS_ (wS_ (wS_ HB9.out GR.out) GR.out) GR.out⟩
     all_goals exact Kd.R_mono (Kd.R_far (Kd.R_far (Kd.R_far (Kd.R_lower HO9.out HB8.out.size) (p:=⟨gR,0,none⟩) (fun _ hk=>hk.2) _) (p:=⟨gR,1,none⟩) (fun _ hk=>hk.2) _) (p:=⟨gR,2,none⟩) (fun _ hk=>hk.2) _) (fun _ _=>trivial)
    | true =>
     rw [if_pos rfl] at h
     obtain ⟨⟨p1,p2⟩,hp,h⟩:=Option.bind_eq_some_iff.1 h
     have HA:=a_ hp
     clear hp
     dsimp only at h
     by_cases h2:p2=1
     ·rw [if_pos h2] at h
      have H2:=a_ h2
      clear h2
      by_cases hl2:p1.length < 2199023255552
      ·rw [if_pos hl2] at h
       have LM2:=a_ hl2
       clear hl2
       simp only [Option.some.injEq,Prod.mk.injEq] at h
       obtain ⟨rfl,rfl,rfl,rfl⟩:=h
       go_enter Tryd.func24,Tryd.ntmps24
       go_wp2_with (first|((with_reducible refine gD_ (N:=2) rfl ?_);refine bx_ 2 (#[.slice A0_0 l0_0.length c0_0,.int .i64 a0_1,.bool true]) 25 ?_;intro gS hgS w1 hbox hb1;have HB1:=a_ hb1;have BS1:=a_ hbox;clear hbox hb1 hgS)|((with_reducible refine gD_ (N:=3) rfl ?_);refine bx_ 3 (#[.int .i64 e1.f0,.int .i64 e1.f1,.int .i64 e1.f2.f0,.int .i64 e1.f2.f1,.int .i64 e1.f2.f2,.int .i64 e1.f2.f3,.string e1.f2.f4]) 44 ?_;intro gE hgE w2 hbox hb2;have HB2:=a_ (bS_ HB1.out hb2);have BS2:=a_ (blk_below BS1.out hb2);have BE2:=a_ hbox;clear hbox hb2 hgE)|((with_reducible refine gD_ (N:=4) rfl ?_);refine bx_ 4 (#[.slice none 0 0,.int .i64 0,.bool false]) 25 ?_;intro gR hgR w3 hbox hb3;have HB3:=a_ (bS_ HB2.out hb3);have BS3:=a_ (blk_below BS2.out hb3);have BE3:=a_ (blk_below BE2.out hb3);have BR3:=a_ hbox;have GR:=a_ (show w.heap.size≤gR by rw [hgR];exact HB2.out.size);have hs0:=(bC_ BS3.out 0).trans rfl;have hs1:=(bC_ BS3.out 1).trans rfl;have hs2:=(bC_ BS3.out 2).trans rfl;have he0:=(bC_ BE3.out 0).trans rfl;have he1:=(bC_ BE3.out 1).trans rfl;have he2:=(bC_ BE3.out 2).trans rfl;have he3:=(bC_ BE3.out 3).trans rfl;have he4:=(bC_ BE3.out 4).trans rfl;have he5:=(bC_ BE3.out 5).trans rfl;have he6:=(bC_ BE3.out 6).trans rfl;have hz0:=(bC_ BR3.out 0).trans rfl;have hz1:=(bC_ BR3.out 1).trans rfl;have hz2:=(bC_ BR3.out 2).trans rfl;have hzf0:=bF_ BR3.out 0;have hzf1:=bF_ BR3.out 1;have hzf2:=bF_ BR3.out 2;clear hbox hb3 hgR)|(go_at_call 16;go_loud (refine (impl_ServerOk.calls k _ _ l0_0 a0_1 true true _ (Kd.C_below HR0.out HB3.out) HC0.out HT.out (HG.out.below HB3.out)).mono ?_;rintro e w4 ⟨rfl,hb4⟩;have HB4:=a_ (bS_ HB3.out hb4);have BS4:=a_ (blk_below BS3.out hb4);have BE4:=a_ (blk_below BE3.out hb4);have BR4:=a_ (blk_below BR3.out hb4);clear hb4;have hsp0:=(bC_ BS4.out 0).trans rfl;have hsp1:=(bC_ BS4.out 1).trans rfl;have hsp2:=(bC_ BS4.out 2).trans rfl;have hep0:=(bC_ BE4.out 0).trans rfl;have hep1:=(bC_ BE4.out 1).trans rfl;have hep2:=(bC_ BE4.out 2).trans rfl;have hep3:=(bC_ BE4.out 3).trans rfl;have hep4:=(bC_ BE4.out 4).trans rfl;have hep5:=(bC_ BE4.out 5).trans rfl;have hep6:=(bC_ BE4.out 6).trans rfl;have hzp0:=(bC_ BR4.out 0).trans rfl;have hzp1:=(bC_ BR4.out 1).trans rfl;have hzp2:=(bC_ BR4.out 2).trans rfl;have hzpf0:=bF_ BR4.out 0;have hzpf1:=bF_ BR4.out 1;have hzpf2:=bF_ BR4.out 2))|(go_at_call 78;go_loud (refine (impl_EntryOk.calls k _ _ _ _ _ _ _ true _ HT2.out (HG.out.below HB4.out)).mono ?_;rintro e w5 ⟨rfl,hb5⟩;have HB5:=a_ (bS_ HB4.out hb5);have BS5:=a_ (blk_below BS4.out hb5);have BE5:=a_ (blk_below BE4.out hb5);have BR5:=a_ (blk_below BR4.out hb5);clear hb5;have hsq0:=(bC_ BS5.out 0).trans rfl;have hsq1:=(bC_ BS5.out 1).trans rfl;have hsq2:=(bC_ BS5.out 2).trans rfl;have heq0:=(bC_ BE5.out 0).trans rfl;have heq1:=(bC_ BE5.out 1).trans rfl;have heq2:=(bC_ BE5.out 2).trans rfl;have heq3:=(bC_ BE5.out 3).trans rfl;have heq4:=(bC_ BE5.out 4).trans rfl;have heq5:=(bC_ BE5.out 5).trans rfl;have heq6:=(bC_ BE5.out 6).trans rfl;have hzq0:=(bC_ BR5.out 0).trans rfl;have hzq1:=(bC_ BR5.out 1).trans rfl;have hzq2:=(bC_ BR5.out 2).trans rfl;have hzqf0:=bF_ BR5.out 0;have hzqf1:=bF_ BR5.out 1;have hzqf2:=bF_ BR5.out 2))|(go_at_call 79;refine (impl_machineOf.calls _ _ l0_0 a0_1 true _ (Kd.C_below HR0.out HB5.out) HC0.out LM.out).mono ?_;rintro e w6 ⟨g,rfl,⟨A6,c6,hk6,hr6,hge6⟩,hb6⟩;have HM6:=a_ hk6;have HR6:=a_ hr6;have GE6:=a_ (Nat.le_trans HB5.out.size hge6);have NER:=a_ (show gR≠g by have:=blk_lt BR5.out;omega);have HB6:=a_ (bS_ HB5.out hb6);have BE6:=a_ (blk_below BE5.out hb6);have BR6:=a_ (blk_below BR5.out hb6);have NEE:=a_ (show gE≠g by have:=blk_lt BE5.out;omega);clear hk6 hr6 hge6 hb6;have het0:=(bC_ BE6.out 0).trans rfl;have het1:=(bC_ BE6.out 1).trans rfl;have het2:=(bC_ BE6.out 2).trans rfl;have het3:=(bC_ BE6.out 3).trans rfl;have het4:=(bC_ BE6.out 4).trans rfl;have het5:=(bC_ BE6.out 5).trans rfl;have het6:=(bC_ BE6.out 6).trans rfl))
       go_region_with (go_at_call 80;refine (push_any g _ a0_1 true e1 _ (bD_ HM6.out)).mono ?_;rintro x w7 ⟨⟨v7,rfl⟩,A7,c7,hb7,hr7,hk7⟩;have HM7:=a_ hb7;have HQ7:=a_ hr7;have HK7:=a_ hk7;have HR7:=a_ (Kd.R_keep (Kd.R_drew HR6.out) hk7.2 (fun _ h=>h));have BR7:=a_ (hk7.2.blk (bD_ BR6.out) NER.out (by simp));have HB7:=a_ (hk7.belowW (below_drew1 HB6.out) GE6.out);clear hb7 hr7 hk7)
       all_goals go_wp2_with (first|(go_at_call 81;go_loud (refine (drain_yes k g A6 c6 l0_0 A7 c7 a0_1 e1 p1 p2 H2.out _ _ _ HM7.out HR7.out HQ7.out HA.out (((HG.out.below HB6.out).drew).keep HK7.out (Nat.lt_of_lt_of_le H0.out GE6.out)) (Nat.lt_of_lt_of_le H0.out GE6.out)).mono ?_;rintro x w8 ⟨rfl,A8,c8,A9,c9,hb8,hr8,hk8⟩;have HM8:=a_ hb8;have HR8:=a_ hr8;have BR8:=a_ (hk8.2.blk BR7.out NER.out (by simp));have HB8:=a_ (hk8.belowW HB7.out GE6.out);clear hb8 hr8 hk8))|(go_at_call 82;go_loud (refine (impl_mserver.callsC g A8 c8 p1 _ a0_1 true _ HM8.out (Kd.R_reads' HR8.out).2.2 (Kd.R_reads' HR8.out).2.1 LM2.out).mono ?_;rintro x w9 ⟨v9,rfl,ho9,hb9⟩;obtain ⟨A10,c10,rfl⟩:=Kd.R_slice ho9;have HO9:=a_ (Kd.R_newB ho9 BR8.out);have HB9:=a_ (bS_ HB8.out hb9);have BR9:=a_ (blk_below BR8.out hb9);clear ho9 hb9;have hw0:=(bC_ BR9.out 0).trans rfl;have hw1:=(bC_ BR9.out 1).trans rfl;have hw2:=(bC_ BR9.out 2).trans rfl;have hwf0:=bF_ BR9.out 0;have hwf1:=bF_ BR9.out 1;have hwf2:=bF_ BR9.out 2)))
       all_goals (try simp only [Exit.inBlock,Exit.then])
       all_goals refine bodyPost_ret (results_ct rfl _ _ gR 25 #[.slice A10 p1.length c10,.int .i64 a0_1,.bool true] (0,0) _ rfl ((blk_set (blk_set (blk_set BR9.out 0 _) 1 _) 2 _).trans rfl) Tryd.underlying25 rfl (by kernel_rfl)) rfl ?_
       all_goals refine ⟨_,rfl,?_,wS_ (wS_ (wS_ HB9.out GR.out) GR.out) GR.out⟩
       all_goals exact Kd.R_mono (Kd.R_far (Kd.R_far (Kd.R_far (Kd.R_lower HO9.out HB8.out.size) (p:=⟨gR,0,none⟩) (fun _ hk=>hk.2) _) (p:=⟨gR,1,none⟩) (fun _ hk=>hk.2) _) (p:=⟨gR,2,none⟩) (fun _ hk=>hk.2) _) (fun _ _=>trivial)
      ·rw [if_neg hl2] at h
       cases h
     ·rw [if_neg h2] at h
      have H2:=a_ h2
      clear h2
      simp only [Option.some.injEq,Prod.mk.injEq] at h
      obtain ⟨rfl,rfl,rfl,rfl⟩:=h
      go_enter Tryd.func24,Tryd.ntmps24
      go_wp2_with (first|((with_reducible refine gD_ (N:=2) rfl ?_);refine bx_ 2 (#[.slice A0_0 l0_0.length c0_0,.int .i64 a0_1,.bool true]) 25 ?_;intro gS hgS w1 hbox hb1;have HB1:=a_ hb1;have BS1:=a_ hbox;clear hbox hb1 hgS)|((with_reducible refine gD_ (N:=3) rfl ?_);refine bx_ 3 (#[.int .i64 e1.f0,.int .i64 e1.f1,.int .i64 e1.f2.f0,.int .i64 e1.f2.f1,.int .i64 e1.f2.f2,.int .i64 e1.f2.f3,.string e1.f2.f4]) 44 ?_;intro gE hgE w2 hbox hb2;have HB2:=a_ (bS_ HB1.out hb2);have BS2:=a_ (blk_below BS1.out hb2);have BE2:=a_ hbox;clear hbox hb2 hgE)|((with_reducible refine gD_ (N:=4) rfl ?_);refine bx_ 4 (#[.slice none 0 0,.int .i64 0,.bool false]) 25 ?_;intro gR hgR w3 hbox hb3;have HB3:=a_ (bS_ HB2.out hb3);have BS3:=a_ (blk_below BS2.out hb3);have BE3:=a_ (blk_below BE2.out hb3);have BR3:=a_ hbox;have GR:=a_ (show w.heap.size≤gR by rw [hgR];exact HB2.out.size);have hs0:=(bC_ BS3.out 0).trans rfl;have hs1:=(bC_ BS3.out 1).trans rfl;have hs2:=(bC_ BS3.out 2).trans rfl;have he0:=(bC_ BE3.out 0).trans rfl;have he1:=(bC_ BE3.out 1).trans rfl;have he2:=(bC_ BE3.out 2).trans rfl;have he3:=(bC_ BE3.out 3).trans rfl;have he4:=(bC_ BE3.out 4).trans rfl;have he5:=(bC_ BE3.out 5).trans rfl;have he6:=(bC_ BE3.out 6).trans rfl;have hz0:=(bC_ BR3.out 0).trans rfl;have hz1:=(bC_ BR3.out 1).trans rfl;have hz2:=(bC_ BR3.out 2).trans rfl;have hzf0:=bF_ BR3.out 0;have hzf1:=bF_ BR3.out 1;have hzf2:=bF_ BR3.out 2;clear hbox hb3 hgR)|(go_at_call 16;go_loud (refine (impl_ServerOk.calls k _ _ l0_0 a0_1 true true _ (Kd.C_below HR0.out HB3.out) HC0.out HT.out (HG.out.below HB3.out)).mono ?_;rintro e w4 ⟨rfl,hb4⟩;have HB4:=a_ (bS_ HB3.out hb4);have BS4:=a_ (blk_below BS3.out hb4);have BE4:=a_ (blk_below BE3.out hb4);have BR4:=a_ (blk_below BR3.out hb4);clear hb4;have hsp0:=(bC_ BS4.out 0).trans rfl;have hsp1:=(bC_ BS4.out 1).trans rfl;have hsp2:=(bC_ BS4.out 2).trans rfl;have hep0:=(bC_ BE4.out 0).trans rfl;have hep1:=(bC_ BE4.out 1).trans rfl;have hep2:=(bC_ BE4.out 2).trans rfl;have hep3:=(bC_ BE4.out 3).trans rfl;have hep4:=(bC_ BE4.out 4).trans rfl;have hep5:=(bC_ BE4.out 5).trans rfl;have hep6:=(bC_ BE4.out 6).trans rfl;have hzp0:=(bC_ BR4.out 0).trans rfl;have hzp1:=(bC_ BR4.out 1).trans rfl;have hzp2:=(bC_ BR4.out 2).trans rfl;have hzpf0:=bF_ BR4.out 0;have hzpf1:=bF_ BR4.out 1;have hzpf2:=bF_ BR4.out 2))|(go_at_call 78;go_loud (refine (impl_EntryOk.calls k _ _ _ _ _ _ _ true _ HT2.out (HG.out.below HB4.out)).mono ?_;rintro e w5 ⟨rfl,hb5⟩;have HB5:=a_ (bS_ HB4.out hb5);have BS5:=a_ (blk_below BS4.out hb5);have BE5:=a_ (blk_below BE4.out hb5);have BR5:=a_ (blk_below BR4.out hb5);clear hb5;have hsq0:=(bC_ BS5.out 0).trans rfl;have hsq1:=(bC_ BS5.out 1).trans rfl;have hsq2:=(bC_ BS5.out 2).trans rfl;have heq0:=(bC_ BE5.out 0).trans rfl;have heq1:=(bC_ BE5.out 1).trans rfl;have heq2:=(bC_ BE5.out 2).trans rfl;have heq3:=(bC_ BE5.out 3).trans rfl;have heq4:=(bC_ BE5.out 4).trans rfl;have heq5:=(bC_ BE5.out 5).trans rfl;have heq6:=(bC_ BE5.out 6).trans rfl;have hzq0:=(bC_ BR5.out 0).trans rfl;have hzq1:=(bC_ BR5.out 1).trans rfl;have hzq2:=(bC_ BR5.out 2).trans rfl;have hzqf0:=bF_ BR5.out 0;have hzqf1:=bF_ BR5.out 1;have hzqf2:=bF_ BR5.out 2))|(go_at_call 79;refine (impl_machineOf.calls _ _ l0_0 a0_1 true _ (Kd.C_below HR0.out HB5.out) HC0.out LM.out).mono ?_;rintro e w6 ⟨g,rfl,⟨A6,c6,hk6,hr6,hge6⟩,hb6⟩;have HM6:=a_ hk6;have HR6:=a_ hr6;have GE6:=a_ (Nat.le_trans HB5.out.size hge6);have NER:=a_ (show gR≠g by have:=blk_lt BR5.out;omega);have HB6:=a_ (bS_ HB5.out hb6);have BE6:=a_ (blk_below BE5.out hb6);have BR6:=a_ (blk_below BR5.out hb6);have NEE:=a_ (show gE≠g by have:=blk_lt BE5.out;omega);clear hk6 hr6 hge6 hb6;have het0:=(bC_ BE6.out 0).trans rfl;have het1:=(bC_ BE6.out 1).trans rfl;have het2:=(bC_ BE6.out 2).trans rfl;have het3:=(bC_ BE6.out 3).trans rfl;have het4:=(bC_ BE6.out 4).trans rfl;have het5:=(bC_ BE6.out 5).trans rfl;have het6:=(bC_ BE6.out 6).trans rfl))
      go_region_with (go_at_call 80;refine (push_any g _ a0_1 true e1 _ (bD_ HM6.out)).mono ?_;rintro x w7 ⟨⟨v7,rfl⟩,A7,c7,hb7,hr7,hk7⟩;have HM7:=a_ hb7;have HQ7:=a_ hr7;have HK7:=a_ hk7;have HR7:=a_ (Kd.R_keep (Kd.R_drew HR6.out) hk7.2 (fun _ h=>h));have BR7:=a_ (hk7.2.blk (bD_ BR6.out) NER.out (by simp));have HB7:=a_ (hk7.belowW (below_drew1 HB6.out) GE6.out);clear hb7 hr7 hk7)
      all_goals go_wp2_with (first|(go_at_call 81;go_loud (refine (drain_no k g A6 c6 l0_0 A7 c7 a0_1 e1 p1 p2 H2.out _ _ _ HM7.out HR7.out HQ7.out HA.out (((HG.out.below HB6.out).drew).keep HK7.out (Nat.lt_of_lt_of_le H0.out GE6.out)) (Nat.lt_of_lt_of_le H0.out GE6.out)).mono ?_;rintro x w8 ⟨rfl,A8,c8,A9,c9,hb8,hr8,hk8⟩;have HM8:=a_ hb8;have HR8:=a_ hr8;have BR8:=a_ (hk8.2.blk BR7.out NER.out (by simp));have HB8:=a_ (hk8.belowW HB7.out GE6.out);clear hb8 hr8 hk8))|(go_at_call 82;go_loud (refine (impl_mserver.callsC g A8 c8 l0_0 _ a0_1 true _ HM8.out (Kd.R_reads' HR8.out).2.2 (Kd.R_reads' HR8.out).2.1 LM.out).mono ?_;rintro x w9 ⟨v9,rfl,ho9,hb9⟩;obtain ⟨A10,c10,rfl⟩:=Kd.R_slice ho9;have HO9:=a_ (Kd.R_newB ho9 BR8.out);have HB9:=a_ (bS_ HB8.out hb9);have BR9:=a_ (blk_below BR8.out hb9);clear ho9 hb9;have hw0:=(bC_ BR9.out 0).trans rfl;have hw1:=(bC_ BR9.out 1).trans rfl;have hw2:=(bC_ BR9.out 2).trans rfl;have hwf0:=bF_ BR9.out 0;have hwf1:=bF_ BR9.out 1;have hwf2:=bF_ BR9.out 2)))
      all_goals (try simp only [Exit.inBlock,Exit.then])
      all_goals refine bodyPost_ret (results_ct rfl _ _ gR 25 #[.slice A10 l0_0.length c10,.int .i64 a0_1,.bool true] (0,0) _ rfl ((blk_set (blk_set (blk_set BR9.out 0 _) 1 _) 2 _).trans rfl) Tryd.underlying25 rfl (by kernel_rfl)) rfl ?_
      all_goals refine ⟨_,rfl,?_,wS_ (wS_ (wS_ HB9.out GR.out) GR.out) GR.out⟩
      all_goals exact Kd.R_mono (Kd.R_far (Kd.R_far (Kd.R_far (Kd.R_lower HO9.out HB8.out.size) (p:=⟨gR,0,none⟩) (fun _ hk=>hk.2) _) (p:=⟨gR,1,none⟩) (fun _ hk=>hk.2) _) (p:=⟨gR,2,none⟩) (fun _ hk=>hk.2) _) (fun _ _=>trivial)
   ·rw [if_neg hl] at h
    cases h
end Go.Proofs.YtdpklbomhdpimaaDoor.P
namespace Go.Proofs.YtdpklbomhdpimaaDoor.P
open Go.RowKit Go.Proofs.YtdpklbomhdpimaaDoorW.PrintWords Go.Proofs.YtdpklbomhdpimaaDoorW.PrintLast
def spec_LogOk.l0:Nat→List (S44)→Int→Option (Bool)
 | 0,_,_=>none
 | k+1,x0,x3=>if x3 < (x0.length:Int) then (if 0≤x3 then ((spec_EntryOk.f k ((rd_T44 x0 x3).f0) ((rd_T44 x0 x3).f1) ((rd_T44 x0 x3).f2.f0) ((rd_T44 x0 x3).f2.f1) ((rd_T44 x0 x3).f2.f2) ((rd_T44 x0 x3).f2.f3) ((rd_T44 x0 x3).f2.f4)).bind fun t426=>(if t426=true then (if x3≤(x0.length:Int) then ((spec_l12Seq.f k (x0.take (x3:Int).toNat) ((rd_T44 x0 x3).f0)).bind fun t433=>(if ((rd_T44 x0 x3).f1)=(wrap64 (t433+1)) then (spec_LogOk.l0 k x0 (wrap64 (x3+1))) else (some false))) else (none)) else (some false))) else (none)) else (some (decide ((x0.length:Int)≤40)))
def spec_LogOk.f (k:Nat) (l0:List (S44)):Option (Bool):=spec_LogOk.l0 k l0 0
theorem spec_LogOk.mono_l:∀ k,(∀ y0 y1,LeO (spec_LogOk.l0 k y0 y1) (spec_LogOk.l0 (k+1) y0 y1))
 | 0=>fun _ _ r h=>by simp [spec_LogOk.l0] at h
 | k+1=>by
  have ih0:=spec_LogOk.mono_l k
  ·intro y0 y1
   unfold spec_LogOk.l0
   repeat' first
   | (with_reducible exact ih0 _ _)
   | (with_reducible exact spec_EntryOk.mono _ _ _ _ _ _ _ _)
   | (with_reducible exact spec_l12Seq.mono _ _ _)
   | (with_reducible exact LeO.refl _)
   | (with_reducible exact LeO.none _)
   | (with_reducible refine LeO.ite ?_ ?_)
   | (with_reducible refine LeO.bind ?_ (fun _=>?_))
theorem spec_LogOk.mono:∀ a0 k,LeO (spec_LogOk.f k a0) (spec_LogOk.f (k+1) a0):=by
 intro a0 k
 have ih0:=spec_LogOk.mono_l k
 unfold spec_LogOk.f
 repeat' first
   | (with_reducible exact ih0 _ _)
   | (with_reducible exact spec_EntryOk.mono _ _ _ _ _ _ _ _)
   | (with_reducible exact spec_l12Seq.mono _ _ _)
   | (with_reducible exact LeO.refl _)
   | (with_reducible exact LeO.none _)
   | (with_reducible refine LeO.ite ?_ ?_)
   | (with_reducible refine LeO.bind ?_ (fun _=>?_))
def spec_LogOk.T4:Bool×List (List Nat×List Nat):=(true,[([],[]),([],[]),([0,1],[0,1]),([2],[2]),([3],[3]),([4],[4]),([5,4],[5]),([6],[6]),([6],[6]),([7,8,6],[6,7,8]),([9,6],[6,9]),([10,6],[6,10]),([6],[6]),([6],[6]),([12,13,6],[6,12,13]),([6],[6]),([6],[6]),([15,16,6],[6,15,16]),([17,6],[6,17]),([18,6],[6,18]),([14,19,6,6],[6,14,19]),([20,6],[6,20]),([11,21,6],[6,11,21]),([6,22],[6,22])])
def spec_LogOk.B4:List Nat:=[0,0,3,7,15,31,63,127,127,511,1023,2047,127,127,12415,127,127,98431,229503,491647,1044607,2093183,4194303,8388607]
theorem spec_LogOk.tab4:rtab .any (opsOf Tryd.f43 4)=spec_LogOk.T4:=by kernel_rfl
theorem spec_LogOk.bits4:waitsOk spec_LogOk.T4.2 spec_LogOk.B4=true:=by kernel_rfl
theorem spec_LogOk.calls (k:Nat) (A0:Option Addr) (c0:Nat) (l0:List (S44)) (r:Bool) (w:World) (hr0:Kd.C k44 w A0 l0.length l0) (hc0:l0.length≤c0) (h:spec_LogOk.f k l0=some r) :
  Calls Tryd.prog 43 #[.slice A0 l0.length c0] w fun e w'=>e=.returned (.bool r)∧Below w.heap.size w w':=by
 have hu44:=Tryd.underlying44
 have HR0:=a_ hr0
 have HC0:=a_ hc0
 clear hr0 hc0
 have HB:=a_ (Below.refl w.heap.size w)
 unfold spec_LogOk.f at h
 have H:=h
 clear h
 have H':=a_ H
 clear H
 go_enter Tryd.func43,Tryd.ntmps43
 go_wp2
 go_loopg [3] k (fun kq v3 w'=>∃ (x3_1:Int),v3=.int .i64 x3_1∧Aside0 (spec_LogOk.l0 kq l0 x3_1=some r)∧Aside0 (kq≤k)∧Aside0 (Below w.heap.size w w'))
 case atStart=>exact ⟨(0),(si_),H',⟨Nat.le_refl _⟩,⟨bel_⟩⟩
 case round =>
  clear H'
  obtain ⟨x3_1,rfl,HA,HK1,HB⟩:=hrel
  cases gk with
  | zero=>exact absurd HA.out (by simp [spec_LogOk.l0])
  | succ k1 =>
   have H:=HA.out
   clear HA
   simp only [spec_LogOk.l0] at H
   by_cases c2:x3_1 < (l0.length:Int)
   ·rw [if_pos c2] at H
    have c2b0:decide (x3_1 < (l0.length:Int))=true:=dt_ c2
    clear c2
    by_cases c3:0≤x3_1
    ·rw [if_pos c3] at H
     have c3b0:decide (0≤x3_1)=true:=dt_ c3
     clear c3
     replace H:=bs_ H
     obtain ⟨t426,A40,H⟩:=H
     try dsimp only at H
     have A4:=a_ A40
     clear A40
     by_cases c5:t426=true
     ·subst c5
      have H1:(if x3_1≤(l0.length:Int) then ((spec_l12Seq.f k1 (l0.take (x3_1:Int).toNat) ((rd_T44 l0 x3_1).f0)).bind fun t433=>(if ((rd_T44 l0 x3_1).f1)=(wrap64 (t433+1)) then (spec_LogOk.l0 k1 l0 (wrap64 (x3_1+1))) else (some false))) else (none))=some r:=by rw [if_pos rfl] at H;exact H
      clear H
      have H:=H1
      clear H1
      have c6b0:=eq_true (od_:0≤x3_1)
      by_cases c7:x3_1≤(l0.length:Int)
      ·rw [if_pos c7] at H
       have c7b0:=eq_true c7
       have c7b1:decide (x3_1≤(l0.length:Int))=true:=dt_ c7
       clear c7
       obtain ⟨y428,hy428⟩:∃ y_:List (S44),y_=(l0.take (x3_1:Int).toNat):=⟨_,rfl⟩
       replace H:((spec_l12Seq.f k1 y428 ((rd_T44 l0 x3_1).f0)).bind fun t433=>(if ((rd_T44 l0 x3_1).f1)=(wrap64 (t433+1)) then (spec_LogOk.l0 k1 l0 (wrap64 (x3_1+1))) else (some false)))=some r:=by first|(rw [hy428];with_reducible exact H)|(have H2_:=(Option.bind_some _ _).symm.trans H;rw [hy428];with_reducible exact H2_)|(have H2_:=(Option.bind_some _ _).symm.trans H;with_reducible exact H2_)|with_reducible exact H|(rw [hy428];exact H)|exact H
       have Ny428:=a_ hy428
       clear hy428
       replace H:=bs_ H
       obtain ⟨t433,A80,H⟩:=H
       try dsimp only at H
       have A8:=a_ A80
       clear A80
       by_cases c9:((rd_T44 l0 x3_1).f1)=(wrap64 (t433+1))
       ·rw [if_pos c9] at H
        have c9b0:(((rd_T44 l0 x3_1).f1)==(wrap64 (t433+1)))=true:=beq_iff_eq.mpr c9
        have c9b1:(((rd_T44 l0 x3_1).f1) != (wrap64 (t433+1)))=false:=be_ c9
        clear c9
        have H':=a_ H
        clear H
        try go_wp2
        have n0_:=a_ (below_drew1 HB.out)
        clear HB
        have HB:=n0_
        clear n0_
        have p425:0≤(x3_1:Int):=od_
        have q425:x3_1 < (l0.length:Int):=od_
        obtain ⟨ad425,e425,hx425_0,hx425_1,hx425_2,hx425_3,hx425_4,hx425_5,hx425_6⟩:=at_T44 HR0.out x3_1 p425 q425
        have hw425_6:=hx425_6
        have hw425_5:=hx425_5
        have hw425_4:=hx425_4
        have hw425_3:=hx425_3
        have hw425_2:=hx425_2
        have hw425_1:=hx425_1
        have hw425_0:=hx425_0
        cases e425
        replace hx425_0:=(cb_ HB.out hx425_0 :)
        replace hx425_1:=(cb_ HB.out hx425_1 :)
        replace hx425_2:=(cb_ HB.out hx425_2 :)
        replace hx425_3:=(cb_ HB.out hx425_3 :)
        replace hx425_4:=(cb_ HB.out hx425_4 :)
        replace hx425_5:=(cb_ HB.out hx425_5 :)
        replace hx425_6:=(cb_ HB.out hx425_6 :)
        replace p425:=eq_true p425
        replace q425:=eq_true q425
        have p427:0≤(x3_1:Int):=od_
        have q427:x3_1 < (l0.length:Int):=od_
        obtain ⟨ad427,e427,hx427_0,hx427_1,hx427_2,hx427_3,hx427_4,hx427_5,hx427_6⟩:=at_T44 HR0.out x3_1 p427 q427
        have hw427_6:=hx427_6
        have hw427_5:=hx427_5
        have hw427_4:=hx427_4
        have hw427_3:=hx427_3
        have hw427_2:=hx427_2
        have hw427_1:=hx427_1
        have hw427_0:=hx427_0
        obtain rfl:ad425=ad427:=(by injection e427)
        replace hx427_0:=(cb_ HB.out hx427_0 :)
        replace hx427_1:=(cb_ HB.out hx427_1 :)
        replace hx427_2:=(cb_ HB.out hx427_2 :)
        replace hx427_3:=(cb_ HB.out hx427_3 :)
        replace hx427_4:=(cb_ HB.out hx427_4 :)
        replace hx427_5:=(cb_ HB.out hx427_5 :)
        replace hx427_6:=(cb_ HB.out hx427_6 :)
        replace p427:=eq_true p427
        replace q427:=eq_true q427
        have p432:0≤(x3_1:Int):=od_
        have q432:x3_1 < (l0.length:Int):=od_
        obtain ⟨ad432,e432,hx432_0,hx432_1,hx432_2,hx432_3,hx432_4,hx432_5,hx432_6⟩:=at_T44 HR0.out x3_1 p432 q432
        have hw432_6:=hx432_6
        have hw432_5:=hx432_5
        have hw432_4:=hx432_4
        have hw432_3:=hx432_3
        have hw432_2:=hx432_2
        have hw432_1:=hx432_1
        have hw432_0:=hx432_0
        obtain rfl:ad425=ad432:=(by injection e432)
        replace hx432_0:=(cb_ HB.out hx432_0 :)
        replace hx432_1:=(cb_ HB.out hx432_1 :)
        replace hx432_2:=(cb_ HB.out hx432_2 :)
        replace hx432_3:=(cb_ HB.out hx432_3 :)
        replace hx432_4:=(cb_ HB.out hx432_4 :)
        replace hx432_5:=(cb_ HB.out hx432_5 :)
        replace hx432_6:=(cb_ HB.out hx432_6 :)
        replace p432:=eq_true p432
        replace q432:=eq_true q432
        refine start_ (n:=24) (S:=fun w'=>w'.cell? (ad425.add ((x3_1).toNat * 7))=some (.int .i64 ((rd_T44 l0 x3_1).f0))∧w'.cell? ⟨(ad425.add ((x3_1).toNat * 7)).block,(ad425.add ((x3_1).toNat * 7)).off+1,none⟩=some (.int .i64 ((rd_T44 l0 x3_1).f1))∧w'.cell? ⟨(ad425.add ((x3_1).toNat * 7)).block,(ad425.add ((x3_1).toNat * 7)).off+2,none⟩=some (.int .i64 ((rd_T44 l0 x3_1).f2.f0))∧w'.cell? ⟨(ad425.add ((x3_1).toNat * 7)).block,(ad425.add ((x3_1).toNat * 7)).off+3,none⟩=some (.int .i64 ((rd_T44 l0 x3_1).f2.f1))∧w'.cell? ⟨(ad425.add ((x3_1).toNat * 7)).block,(ad425.add ((x3_1).toNat * 7)).off+4,none⟩=some (.int .i64 ((rd_T44 l0 x3_1).f2.f2))∧w'.cell? ⟨(ad425.add ((x3_1).toNat * 7)).block,(ad425.add ((x3_1).toNat * 7)).off+5,none⟩=some (.int .i64 ((rd_T44 l0 x3_1).f2.f3))∧w'.cell? ⟨(ad425.add ((x3_1).toNat * 7)).block,(ad425.add ((x3_1).toNat * 7)).off+6,none⟩=some (.string ((rd_T44 l0 x3_1).f2.f4))∧w'.cell? (ad425.add ((x3_1).toNat * 7))=some (.int .i64 ((rd_T44 l0 x3_1).f0))∧w'.cell? ⟨(ad425.add ((x3_1).toNat * 7)).block,(ad425.add ((x3_1).toNat * 7)).off+1,none⟩=some (.int .i64 ((rd_T44 l0 x3_1).f1))∧w'.cell? ⟨(ad425.add ((x3_1).toNat * 7)).block,(ad425.add ((x3_1).toNat * 7)).off+2,none⟩=some (.int .i64 ((rd_T44 l0 x3_1).f2.f0))∧w'.cell? ⟨(ad425.add ((x3_1).toNat * 7)).block,(ad425.add ((x3_1).toNat * 7)).off+3,none⟩=some (.int .i64 ((rd_T44 l0 x3_1).f2.f1))∧w'.cell? ⟨(ad425.add ((x3_1).toNat * 7)).block,(ad425.add ((x3_1).toNat * 7)).off+4,none⟩=some (.int .i64 ((rd_T44 l0 x3_1).f2.f2))∧w'.cell? ⟨(ad425.add ((x3_1).toNat * 7)).block,(ad425.add ((x3_1).toNat * 7)).off+5,none⟩=some (.int .i64 ((rd_T44 l0 x3_1).f2.f3))∧w'.cell? ⟨(ad425.add ((x3_1).toNat * 7)).block,(ad425.add ((x3_1).toNat * 7)).off+6,none⟩=some (.string ((rd_T44 l0 x3_1).f2.f4))∧w'.cell? (ad425.add ((x3_1).toNat * 7))=some (.int .i64 ((rd_T44 l0 x3_1).f0))∧w'.cell? ⟨(ad425.add ((x3_1).toNat * 7)).block,(ad425.add ((x3_1).toNat * 7)).off+1,none⟩=some (.int .i64 ((rd_T44 l0 x3_1).f1))∧w'.cell? ⟨(ad425.add ((x3_1).toNat * 7)).block,(ad425.add ((x3_1).toNat * 7)).off+2,none⟩=some (.int .i64 ((rd_T44 l0 x3_1).f2.f0))∧w'.cell? ⟨(ad425.add ((x3_1).toNat * 7)).block,(ad425.add ((x3_1).toNat * 7)).off+3,none⟩=some (.int .i64 ((rd_T44 l0 x3_1).f2.f1))∧w'.cell? ⟨(ad425.add ((x3_1).toNat * 7)).block,(ad425.add ((x3_1).toNat * 7)).off+4,none⟩=some (.int .i64 ((rd_T44 l0 x3_1).f2.f2))∧w'.cell? ⟨(ad425.add ((x3_1).toNat * 7)).block,(ad425.add ((x3_1).toNat * 7)).off+5,none⟩=some (.int .i64 ((rd_T44 l0 x3_1).f2.f3))∧w'.cell? ⟨(ad425.add ((x3_1).toNat * 7)).block,(ad425.add ((x3_1).toNat * 7)).off+6,none⟩=some (.string ((rd_T44 l0 x3_1).f2.f4))) (ds:=[]) #[false,false,false,false,false,false,false,false,false,false,false,false,false,false,false,false,false,false,false,false,false,false,false,false] (by kernel_rfl) rfl rfl ⟨((cb_ HB.out hw425_0 :)),((cb_ HB.out hw425_1 :)),((cb_ HB.out hw425_2 :)),((cb_ HB.out hw425_3 :)),((cb_ HB.out hw425_4 :)),((cb_ HB.out hw425_5 :)),((cb_ HB.out hw425_6 :)),((cb_ HB.out hw427_0 :)),((cb_ HB.out hw427_1 :)),((cb_ HB.out hw427_2 :)),((cb_ HB.out hw427_3 :)),((cb_ HB.out hw427_4 :)),((cb_ HB.out hw427_5 :)),((cb_ HB.out hw427_6 :)),((cb_ HB.out hw432_0 :)),((cb_ HB.out hw432_1 :)),((cb_ HB.out hw432_2 :)),((cb_ HB.out hw432_3 :)),((cb_ HB.out hw432_4 :)),((cb_ HB.out hw432_5 :)),((cb_ HB.out hw432_6 :))⟩ (fun hHeld=>?_);refine with_tabW spec_LogOk.tab4 spec_LogOk.bits4 (fun HT_ HW_=>?_)
        generalize wr.drew=w10 at HB hx425_0 hx425_1 hx425_2 hx425_3 hx425_4 hx425_5 hx425_6 hx427_0 hx427_1 hx427_2 hx427_3 hx427_4 hx427_5 hx427_6 hx432_0 hx432_1 hx432_2 hx432_3 hx432_4 hx432_5 hx432_6 hHeld ⊢
        refine pa_ 0 10 ?_
        refine pa_ 1 11 ?_
        refine pa_ 2 12 ?_
        refine ta21_ 3 13 hHeld ?_
        refine on_ 4 14 (fun K hK=>?_)
        refine goes_ Tryd.func30 (by kernel_rfl) rfl #[.agg #[.int .i64 ((rd_T44 l0 x3_1).f0),.int .i64 ((rd_T44 l0 x3_1).f1),.int .i64 ((rd_T44 l0 x3_1).f2.f0),.int .i64 ((rd_T44 l0 x3_1).f2.f1),.int .i64 ((rd_T44 l0 x3_1).f2.f2),.int .i64 ((rd_T44 l0 x3_1).f2.f3),.string ((rd_T44 l0 x3_1).f2.f4)]] (by rfl) rfl rfl ar_ ?_
        with_reducible refine (spec_EntryOk.calls k1 ((rd_T44 l0 x3_1).f0) ((rd_T44 l0 x3_1).f1) ((rd_T44 l0 x3_1).f2.f0) ((rd_T44 l0 x3_1).f2.f1) ((rd_T44 l0 x3_1).f2.f2) ((rd_T44 l0 x3_1).f2.f3) ((rd_T44 l0 x3_1).f2.f4) true _ A4.out).mono ?_
        rintro e w11 ⟨rfl,hb⟩
        refine ⟨_,rfl,?_⟩
        have n0_:=a_ (bS_ (bel_) hb)
        clear HB
        have HB:=n0_
        clear n0_
        (try clear hb)
        (try clear hb2)
        (try clear hk)
        (try clear hi)
        have q12:(x3_1:Int)≤((l0.length:Int):Int):=od_
        obtain ⟨i012,hi012,_,hsz12,_⟩:=info_parts info44
        have hroom12:l0.length≤c0:=HC0.out
        have hC12:Kd.C k44 _ (some ad425) l0.length l0:=HR0.out
        have hcut12:=cut_to (P:=Tryd.prog) 23 44 .i64 Tryd.underlying23 hi012 (some ad425) l0.length c0 x3_1 (od_) q12 hroom12
        have hr12:=Kd.C_take (m:=(x3_1:Int).toNat) hC12 (by omega)
        have hy12:y428.length=(x3_1:Int).toNat:=(by rw [Ny428.out,List.length_take];omega)
        rw [←Ny428.out] at hr12
        rw [←hy12] at hcut12
        have HR431:=a_ hr12
        have HC431:=a_ (show y428.length≤c0 from by omega)
        clear hr12 hC12 hroom12 hi012 hsz12
        have KY12:=a_ hy12
        clear hy12
        replace q12:=eq_true q12
        refine hK.out _ _ ⟨((cb_ HB.out hw425_0 :)),((cb_ HB.out hw425_1 :)),((cb_ HB.out hw425_2 :)),((cb_ HB.out hw425_3 :)),((cb_ HB.out hw425_4 :)),((cb_ HB.out hw425_5 :)),((cb_ HB.out hw425_6 :)),((cb_ HB.out hw427_0 :)),((cb_ HB.out hw427_1 :)),((cb_ HB.out hw427_2 :)),((cb_ HB.out hw427_3 :)),((cb_ HB.out hw427_4 :)),((cb_ HB.out hw427_5 :)),((cb_ HB.out hw427_6 :)),((cb_ HB.out hw432_0 :)),((cb_ HB.out hw432_1 :)),((cb_ HB.out hw432_2 :)),((cb_ HB.out hw432_3 :)),((cb_ HB.out hw432_4 :)),((cb_ HB.out hw432_5 :)),((cb_ HB.out hw432_6 :))⟩ (fun hHeld=>?_)
        clear hK K
        refine no_ 14 ?_
        refine pa_ 5 15 ?_
        refine pa_ 6 16 ?_
        refine pa_ 7 17 ?_
        refine pa_ 8 18 ?_
        refine pa_ 9 19 ?_
        refine pa_ 10 20 ?_
        refine pa_ 12 22 ?_
        refine pa_ 13 23 ?_
        refine pa_ 14 24 ?_
        refine pa_ 15 25 ?_
        refine pa_ 16 26 ?_
        refine pa_ 17 27 ?_
        refine pa_ 18 28 ?_
        refine ta21_ 11 21 hHeld ?_
        refine ta21_ 19 29 hHeld ?_
        refine on_ 20 30 (fun K hK=>?_)
        refine goes_ Tryd.func90 (by kernel_rfl) rfl #[.slice (some ad425) y428.length c0,.int .i64 ((rd_T44 l0 x3_1).f0)] (by rfl) rfl rfl ar_ ?_
        with_reducible refine (spec_l12Seq.calls k1 _ _ y428 ((rd_T44 l0 x3_1).f0) t433 _ ?side1 ?side2 A8.out).mono ?_
        (case side1=>exact cp_ HR431.out)
        (case side2=>exact HC431.out)
        rintro e w' ⟨rfl,⟨nd,rfl⟩⟩
        refine ⟨_,rfl,?_⟩
        refine hK.out _ _ ⟨((cb_ HB.out hw425_0 :)),((cb_ HB.out hw425_1 :)),((cb_ HB.out hw425_2 :)),((cb_ HB.out hw425_3 :)),((cb_ HB.out hw425_4 :)),((cb_ HB.out hw425_5 :)),((cb_ HB.out hw425_6 :)),((cb_ HB.out hw427_0 :)),((cb_ HB.out hw427_1 :)),((cb_ HB.out hw427_2 :)),((cb_ HB.out hw427_3 :)),((cb_ HB.out hw427_4 :)),((cb_ HB.out hw427_5 :)),((cb_ HB.out hw427_6 :)),((cb_ HB.out hw432_0 :)),((cb_ HB.out hw432_1 :)),((cb_ HB.out hw432_2 :)),((cb_ HB.out hw432_3 :)),((cb_ HB.out hw432_4 :)),((cb_ HB.out hw432_5 :)),((cb_ HB.out hw432_6 :))⟩ (fun hHeld=>?_)
        clear hK K
        refine no_ 30 ?_
        refine pa_ 21 31 ?_
        refine pa_ 22 32 ?_
        refine pa_ 23 33 ?_
        refine done_ (done_of HT_.out (by kernel_rfl)) ?_
        try go_wp2
        go_roundg k1
        case measure=>have:=HK1.out;omega
        case rel=>exact ⟨(wrap64 (x3_1+1)),(si_),H',⟨by have:=HK1.out;omega⟩,⟨bel_⟩⟩
       ·rw [if_neg c9] at H
        have c9b0:(((rd_T44 l0 x3_1).f1)==(wrap64 (t433+1)))=false:=bn_ c9
        have c9b1:(((rd_T44 l0 x3_1).f1) != (wrap64 (t433+1)))=true:=bne_iff_ne.mpr c9
        obtain rfl:=sj_ H
        try go_wp2
        have n0_:=a_ (below_drew1 HB.out)
        clear HB
        have HB:=n0_
        clear n0_
        have p425:0≤(x3_1:Int):=od_
        have q425:x3_1 < (l0.length:Int):=od_
        obtain ⟨ad425,e425,hx425_0,hx425_1,hx425_2,hx425_3,hx425_4,hx425_5,hx425_6⟩:=at_T44 HR0.out x3_1 p425 q425
        have hw425_6:=hx425_6
        have hw425_5:=hx425_5
        have hw425_4:=hx425_4
        have hw425_3:=hx425_3
        have hw425_2:=hx425_2
        have hw425_1:=hx425_1
        have hw425_0:=hx425_0
        cases e425
        replace hx425_0:=(cb_ HB.out hx425_0 :)
        replace hx425_1:=(cb_ HB.out hx425_1 :)
        replace hx425_2:=(cb_ HB.out hx425_2 :)
        replace hx425_3:=(cb_ HB.out hx425_3 :)
        replace hx425_4:=(cb_ HB.out hx425_4 :)
        replace hx425_5:=(cb_ HB.out hx425_5 :)
        replace hx425_6:=(cb_ HB.out hx425_6 :)
        replace p425:=eq_true p425
        replace q425:=eq_true q425
        have p427:0≤(x3_1:Int):=od_
        have q427:x3_1 < (l0.length:Int):=od_
        obtain ⟨ad427,e427,hx427_0,hx427_1,hx427_2,hx427_3,hx427_4,hx427_5,hx427_6⟩:=at_T44 HR0.out x3_1 p427 q427
        have hw427_6:=hx427_6
        have hw427_5:=hx427_5
        have hw427_4:=hx427_4
        have hw427_3:=hx427_3
        have hw427_2:=hx427_2
        have hw427_1:=hx427_1
        have hw427_0:=hx427_0
        obtain rfl:ad425=ad427:=(by injection e427)
        replace hx427_0:=(cb_ HB.out hx427_0 :)
        replace hx427_1:=(cb_ HB.out hx427_1 :)
        replace hx427_2:=(cb_ HB.out hx427_2 :)
        replace hx427_3:=(cb_ HB.out hx427_3 :)
        replace hx427_4:=(cb_ HB.out hx427_4 :)
        replace hx427_5:=(cb_ HB.out hx427_5 :)
        replace hx427_6:=(cb_ HB.out hx427_6 :)
        replace p427:=eq_true p427
        replace q427:=eq_true q427
        have p432:0≤(x3_1:Int):=od_
        have q432:x3_1 < (l0.length:Int):=od_
        obtain ⟨ad432,e432,hx432_0,hx432_1,hx432_2,hx432_3,hx432_4,hx432_5,hx432_6⟩:=at_T44 HR0.out x3_1 p432 q432
        have hw432_6:=hx432_6
        have hw432_5:=hx432_5
        have hw432_4:=hx432_4
        have hw432_3:=hx432_3
        have hw432_2:=hx432_2
        have hw432_1:=hx432_1
        have hw432_0:=hx432_0
        obtain rfl:ad425=ad432:=(by injection e432)
        replace hx432_0:=(cb_ HB.out hx432_0 :)
        replace hx432_1:=(cb_ HB.out hx432_1 :)
        replace hx432_2:=(cb_ HB.out hx432_2 :)
        replace hx432_3:=(cb_ HB.out hx432_3 :)
        replace hx432_4:=(cb_ HB.out hx432_4 :)
        replace hx432_5:=(cb_ HB.out hx432_5 :)
        replace hx432_6:=(cb_ HB.out hx432_6 :)
        replace p432:=eq_true p432
        replace q432:=eq_true q432
        refine start_ (n:=24) (S:=fun w'=>w'.cell? (ad425.add ((x3_1).toNat * 7))=some (.int .i64 ((rd_T44 l0 x3_1).f0))∧w'.cell? ⟨(ad425.add ((x3_1).toNat * 7)).block,(ad425.add ((x3_1).toNat * 7)).off+1,none⟩=some (.int .i64 ((rd_T44 l0 x3_1).f1))∧w'.cell? ⟨(ad425.add ((x3_1).toNat * 7)).block,(ad425.add ((x3_1).toNat * 7)).off+2,none⟩=some (.int .i64 ((rd_T44 l0 x3_1).f2.f0))∧w'.cell? ⟨(ad425.add ((x3_1).toNat * 7)).block,(ad425.add ((x3_1).toNat * 7)).off+3,none⟩=some (.int .i64 ((rd_T44 l0 x3_1).f2.f1))∧w'.cell? ⟨(ad425.add ((x3_1).toNat * 7)).block,(ad425.add ((x3_1).toNat * 7)).off+4,none⟩=some (.int .i64 ((rd_T44 l0 x3_1).f2.f2))∧w'.cell? ⟨(ad425.add ((x3_1).toNat * 7)).block,(ad425.add ((x3_1).toNat * 7)).off+5,none⟩=some (.int .i64 ((rd_T44 l0 x3_1).f2.f3))∧w'.cell? ⟨(ad425.add ((x3_1).toNat * 7)).block,(ad425.add ((x3_1).toNat * 7)).off+6,none⟩=some (.string ((rd_T44 l0 x3_1).f2.f4))∧w'.cell? (ad425.add ((x3_1).toNat * 7))=some (.int .i64 ((rd_T44 l0 x3_1).f0))∧w'.cell? ⟨(ad425.add ((x3_1).toNat * 7)).block,(ad425.add ((x3_1).toNat * 7)).off+1,none⟩=some (.int .i64 ((rd_T44 l0 x3_1).f1))∧w'.cell? ⟨(ad425.add ((x3_1).toNat * 7)).block,(ad425.add ((x3_1).toNat * 7)).off+2,none⟩=some (.int .i64 ((rd_T44 l0 x3_1).f2.f0))∧w'.cell? ⟨(ad425.add ((x3_1).toNat * 7)).block,(ad425.add ((x3_1).toNat * 7)).off+3,none⟩=some (.int .i64 ((rd_T44 l0 x3_1).f2.f1))∧w'.cell? ⟨(ad425.add ((x3_1).toNat * 7)).block,(ad425.add ((x3_1).toNat * 7)).off+4,none⟩=some (.int .i64 ((rd_T44 l0 x3_1).f2.f2))∧w'.cell? ⟨(ad425.add ((x3_1).toNat * 7)).block,(ad425.add ((x3_1).toNat * 7)).off+5,none⟩=some (.int .i64 ((rd_T44 l0 x3_1).f2.f3))∧w'.cell? ⟨(ad425.add ((x3_1).toNat * 7)).block,(ad425.add ((x3_1).toNat * 7)).off+6,none⟩=some (.string ((rd_T44 l0 x3_1).f2.f4))∧w'.cell? (ad425.add ((x3_1).toNat * 7))=some (.int .i64 ((rd_T44 l0 x3_1).f0))∧w'.cell? ⟨(ad425.add ((x3_1).toNat * 7)).block,(ad425.add ((x3_1).toNat * 7)).off+1,none⟩=some (.int .i64 ((rd_T44 l0 x3_1).f1))∧w'.cell? ⟨(ad425.add ((x3_1).toNat * 7)).block,(ad425.add ((x3_1).toNat * 7)).off+2,none⟩=some (.int .i64 ((rd_T44 l0 x3_1).f2.f0))∧w'.cell? ⟨(ad425.add ((x3_1).toNat * 7)).block,(ad425.add ((x3_1).toNat * 7)).off+3,none⟩=some (.int .i64 ((rd_T44 l0 x3_1).f2.f1))∧w'.cell? ⟨(ad425.add ((x3_1).toNat * 7)).block,(ad425.add ((x3_1).toNat * 7)).off+4,none⟩=some (.int .i64 ((rd_T44 l0 x3_1).f2.f2))∧w'.cell? ⟨(ad425.add ((x3_1).toNat * 7)).block,(ad425.add ((x3_1).toNat * 7)).off+5,none⟩=some (.int .i64 ((rd_T44 l0 x3_1).f2.f3))∧w'.cell? ⟨(ad425.add ((x3_1).toNat * 7)).block,(ad425.add ((x3_1).toNat * 7)).off+6,none⟩=some (.string ((rd_T44 l0 x3_1).f2.f4))) (ds:=[]) #[false,false,false,false,false,false,false,false,false,false,false,false,false,false,false,false,false,false,false,false,false,false,false,false] (by kernel_rfl) rfl rfl ⟨((cb_ HB.out hw425_0 :)),((cb_ HB.out hw425_1 :)),((cb_ HB.out hw425_2 :)),((cb_ HB.out hw425_3 :)),((cb_ HB.out hw425_4 :)),((cb_ HB.out hw425_5 :)),((cb_ HB.out hw425_6 :)),((cb_ HB.out hw427_0 :)),((cb_ HB.out hw427_1 :)),((cb_ HB.out hw427_2 :)),((cb_ HB.out hw427_3 :)),((cb_ HB.out hw427_4 :)),((cb_ HB.out hw427_5 :)),((cb_ HB.out hw427_6 :)),((cb_ HB.out hw432_0 :)),((cb_ HB.out hw432_1 :)),((cb_ HB.out hw432_2 :)),((cb_ HB.out hw432_3 :)),((cb_ HB.out hw432_4 :)),((cb_ HB.out hw432_5 :)),((cb_ HB.out hw432_6 :))⟩ (fun hHeld=>?_);refine with_tabW spec_LogOk.tab4 spec_LogOk.bits4 (fun HT_ HW_=>?_)
        generalize wr.drew=w13 at HB hx425_0 hx425_1 hx425_2 hx425_3 hx425_4 hx425_5 hx425_6 hx427_0 hx427_1 hx427_2 hx427_3 hx427_4 hx427_5 hx427_6 hx432_0 hx432_1 hx432_2 hx432_3 hx432_4 hx432_5 hx432_6 hHeld ⊢
        refine pa_ 0 10 ?_
        refine pa_ 1 11 ?_
        refine pa_ 2 12 ?_
        refine ta21_ 3 13 hHeld ?_
        refine on_ 4 14 (fun K hK=>?_)
        refine goes_ Tryd.func30 (by kernel_rfl) rfl #[.agg #[.int .i64 ((rd_T44 l0 x3_1).f0),.int .i64 ((rd_T44 l0 x3_1).f1),.int .i64 ((rd_T44 l0 x3_1).f2.f0),.int .i64 ((rd_T44 l0 x3_1).f2.f1),.int .i64 ((rd_T44 l0 x3_1).f2.f2),.int .i64 ((rd_T44 l0 x3_1).f2.f3),.string ((rd_T44 l0 x3_1).f2.f4)]] (by rfl) rfl rfl ar_ ?_
        with_reducible refine (spec_EntryOk.calls k1 ((rd_T44 l0 x3_1).f0) ((rd_T44 l0 x3_1).f1) ((rd_T44 l0 x3_1).f2.f0) ((rd_T44 l0 x3_1).f2.f1) ((rd_T44 l0 x3_1).f2.f2) ((rd_T44 l0 x3_1).f2.f3) ((rd_T44 l0 x3_1).f2.f4) true _ A4.out).mono ?_
        rintro e w14 ⟨rfl,hb⟩
        refine ⟨_,rfl,?_⟩
        have n0_:=a_ (bS_ (bel_) hb)
        clear HB
        have HB:=n0_
        clear n0_
        (try clear hb)
        (try clear hb2)
        (try clear hk)
        (try clear hi)
        have q15:(x3_1:Int)≤((l0.length:Int):Int):=od_
        obtain ⟨i015,hi015,_,hsz15,_⟩:=info_parts info44
        have hroom15:l0.length≤c0:=HC0.out
        have hC15:Kd.C k44 _ (some ad425) l0.length l0:=HR0.out
        have hcut15:=cut_to (P:=Tryd.prog) 23 44 .i64 Tryd.underlying23 hi015 (some ad425) l0.length c0 x3_1 (od_) q15 hroom15
        have hr15:=Kd.C_take (m:=(x3_1:Int).toNat) hC15 (by omega)
        have hy15:y428.length=(x3_1:Int).toNat:=(by rw [Ny428.out,List.length_take];omega)
        rw [←Ny428.out] at hr15
        rw [←hy15] at hcut15
        have HR431:=a_ hr15
        have HC431:=a_ (show y428.length≤c0 from by omega)
        clear hr15 hC15 hroom15 hi015 hsz15
        have KY15:=a_ hy15
        clear hy15
        replace q15:=eq_true q15
        refine hK.out _ _ ⟨((cb_ HB.out hw425_0 :)),((cb_ HB.out hw425_1 :)),((cb_ HB.out hw425_2 :)),((cb_ HB.out hw425_3 :)),((cb_ HB.out hw425_4 :)),((cb_ HB.out hw425_5 :)),((cb_ HB.out hw425_6 :)),((cb_ HB.out hw427_0 :)),((cb_ HB.out hw427_1 :)),((cb_ HB.out hw427_2 :)),((cb_ HB.out hw427_3 :)),((cb_ HB.out hw427_4 :)),((cb_ HB.out hw427_5 :)),((cb_ HB.out hw427_6 :)),((cb_ HB.out hw432_0 :)),((cb_ HB.out hw432_1 :)),((cb_ HB.out hw432_2 :)),((cb_ HB.out hw432_3 :)),((cb_ HB.out hw432_4 :)),((cb_ HB.out hw432_5 :)),((cb_ HB.out hw432_6 :))⟩ (fun hHeld=>?_)
        clear hK K
        refine no_ 14 ?_
        refine pa_ 5 15 ?_
        refine pa_ 6 16 ?_
        refine pa_ 7 17 ?_
        refine pa_ 8 18 ?_
        refine pa_ 9 19 ?_
        refine pa_ 10 20 ?_
        refine pa_ 12 22 ?_
        refine pa_ 13 23 ?_
        refine pa_ 14 24 ?_
        refine pa_ 15 25 ?_
        refine pa_ 16 26 ?_
        refine pa_ 17 27 ?_
        refine pa_ 18 28 ?_
        refine ta21_ 11 21 hHeld ?_
        refine ta21_ 19 29 hHeld ?_
        refine on_ 20 30 (fun K hK=>?_)
        refine goes_ Tryd.func90 (by kernel_rfl) rfl #[.slice (some ad425) y428.length c0,.int .i64 ((rd_T44 l0 x3_1).f0)] (by rfl) rfl rfl ar_ ?_
        with_reducible refine (spec_l12Seq.calls k1 _ _ y428 ((rd_T44 l0 x3_1).f0) t433 _ ?side1 ?side2 A8.out).mono ?_
        (case side1=>exact cp_ HR431.out)
        (case side2=>exact HC431.out)
        rintro e w' ⟨rfl,⟨nd,rfl⟩⟩
        refine ⟨_,rfl,?_⟩
        refine hK.out _ _ ⟨((cb_ HB.out hw425_0 :)),((cb_ HB.out hw425_1 :)),((cb_ HB.out hw425_2 :)),((cb_ HB.out hw425_3 :)),((cb_ HB.out hw425_4 :)),((cb_ HB.out hw425_5 :)),((cb_ HB.out hw425_6 :)),((cb_ HB.out hw427_0 :)),((cb_ HB.out hw427_1 :)),((cb_ HB.out hw427_2 :)),((cb_ HB.out hw427_3 :)),((cb_ HB.out hw427_4 :)),((cb_ HB.out hw427_5 :)),((cb_ HB.out hw427_6 :)),((cb_ HB.out hw432_0 :)),((cb_ HB.out hw432_1 :)),((cb_ HB.out hw432_2 :)),((cb_ HB.out hw432_3 :)),((cb_ HB.out hw432_4 :)),((cb_ HB.out hw432_5 :)),((cb_ HB.out hw432_6 :))⟩ (fun hHeld=>?_)
        clear hK K
        refine no_ 30 ?_
        refine pa_ 21 31 ?_
        refine pa_ 22 32 ?_
        refine pa_ 23 33 ?_
        refine done_ (done_of HT_.out (by kernel_rfl)) ?_
        try go_wp2
        go_ret
        exact ⟨fi_,bel_⟩
      ·rw [if_neg c7] at H
       exact absurd H (by simp)
     ·replace c5:=Bool.eq_false_iff.mpr c5
      subst c5
      have H1:(some false)=some r:=by rw [if_neg (show ¬ (false=true) by decide)] at H;exact H
      clear H
      have H:=H1
      clear H1
      obtain rfl:=sj_ H
      try go_wp2
      have n0_:=a_ (below_drew1 HB.out)
      clear HB
      have HB:=n0_
      clear n0_
      have p425:0≤(x3_1:Int):=od_
      have q425:x3_1 < (l0.length:Int):=od_
      obtain ⟨ad425,e425,hx425_0,hx425_1,hx425_2,hx425_3,hx425_4,hx425_5,hx425_6⟩:=at_T44 HR0.out x3_1 p425 q425
      have hw425_6:=hx425_6
      have hw425_5:=hx425_5
      have hw425_4:=hx425_4
      have hw425_3:=hx425_3
      have hw425_2:=hx425_2
      have hw425_1:=hx425_1
      have hw425_0:=hx425_0
      cases e425
      replace hx425_0:=(cb_ HB.out hx425_0 :)
      replace hx425_1:=(cb_ HB.out hx425_1 :)
      replace hx425_2:=(cb_ HB.out hx425_2 :)
      replace hx425_3:=(cb_ HB.out hx425_3 :)
      replace hx425_4:=(cb_ HB.out hx425_4 :)
      replace hx425_5:=(cb_ HB.out hx425_5 :)
      replace hx425_6:=(cb_ HB.out hx425_6 :)
      replace p425:=eq_true p425
      replace q425:=eq_true q425
      refine start_ (n:=24) (S:=fun w'=>w'.cell? (ad425.add ((x3_1).toNat * 7))=some (.int .i64 ((rd_T44 l0 x3_1).f0))∧w'.cell? ⟨(ad425.add ((x3_1).toNat * 7)).block,(ad425.add ((x3_1).toNat * 7)).off+1,none⟩=some (.int .i64 ((rd_T44 l0 x3_1).f1))∧w'.cell? ⟨(ad425.add ((x3_1).toNat * 7)).block,(ad425.add ((x3_1).toNat * 7)).off+2,none⟩=some (.int .i64 ((rd_T44 l0 x3_1).f2.f0))∧w'.cell? ⟨(ad425.add ((x3_1).toNat * 7)).block,(ad425.add ((x3_1).toNat * 7)).off+3,none⟩=some (.int .i64 ((rd_T44 l0 x3_1).f2.f1))∧w'.cell? ⟨(ad425.add ((x3_1).toNat * 7)).block,(ad425.add ((x3_1).toNat * 7)).off+4,none⟩=some (.int .i64 ((rd_T44 l0 x3_1).f2.f2))∧w'.cell? ⟨(ad425.add ((x3_1).toNat * 7)).block,(ad425.add ((x3_1).toNat * 7)).off+5,none⟩=some (.int .i64 ((rd_T44 l0 x3_1).f2.f3))∧w'.cell? ⟨(ad425.add ((x3_1).toNat * 7)).block,(ad425.add ((x3_1).toNat * 7)).off+6,none⟩=some (.string ((rd_T44 l0 x3_1).f2.f4))) (ds:=[]) #[false,false,false,false,false,false,false,false,false,false,false,false,false,false,false,false,false,false,false,false,false,false,false,false] (by kernel_rfl) rfl rfl ⟨((cb_ HB.out hw425_0 :)),((cb_ HB.out hw425_1 :)),((cb_ HB.out hw425_2 :)),((cb_ HB.out hw425_3 :)),((cb_ HB.out hw425_4 :)),((cb_ HB.out hw425_5 :)),((cb_ HB.out hw425_6 :))⟩ (fun hHeld=>?_);refine with_tabW spec_LogOk.tab4 spec_LogOk.bits4 (fun HT_ HW_=>?_)
      generalize wr.drew=w16 at HB hx425_0 hx425_1 hx425_2 hx425_3 hx425_4 hx425_5 hx425_6 hHeld ⊢
      refine pa_ 0 10 ?_
      refine pa_ 1 11 ?_
      refine pa_ 2 12 ?_
      refine ta7_ 3 13 hHeld ?_
      refine on_ 4 14 (fun K hK=>?_)
      refine goes_ Tryd.func30 (by kernel_rfl) rfl #[.agg #[.int .i64 ((rd_T44 l0 x3_1).f0),.int .i64 ((rd_T44 l0 x3_1).f1),.int .i64 ((rd_T44 l0 x3_1).f2.f0),.int .i64 ((rd_T44 l0 x3_1).f2.f1),.int .i64 ((rd_T44 l0 x3_1).f2.f2),.int .i64 ((rd_T44 l0 x3_1).f2.f3),.string ((rd_T44 l0 x3_1).f2.f4)]] (by rfl) rfl rfl ar_ ?_
      with_reducible refine (spec_EntryOk.calls k1 ((rd_T44 l0 x3_1).f0) ((rd_T44 l0 x3_1).f1) ((rd_T44 l0 x3_1).f2.f0) ((rd_T44 l0 x3_1).f2.f1) ((rd_T44 l0 x3_1).f2.f2) ((rd_T44 l0 x3_1).f2.f3) ((rd_T44 l0 x3_1).f2.f4) false _ A4.out).mono ?_
      rintro e w17 ⟨rfl,hb⟩
      refine ⟨_,rfl,?_⟩
      have n0_:=a_ (bS_ (bel_) hb)
      clear HB
      have HB:=n0_
      clear n0_
      (try clear hb)
      (try clear hb2)
      (try clear hk)
      (try clear hi)
      refine hK.out _ _ ⟨((cb_ HB.out hw425_0 :)),((cb_ HB.out hw425_1 :)),((cb_ HB.out hw425_2 :)),((cb_ HB.out hw425_3 :)),((cb_ HB.out hw425_4 :)),((cb_ HB.out hw425_5 :)),((cb_ HB.out hw425_6 :))⟩ (fun hHeld=>?_)
      clear hK K
      refine no_ 14 ?_
      refine pa_ 5 15 ?_
      refine pa_ 6 16 ?_
      refine po_ 7 17 ?_
      refine po_ 8 18 ?_
      refine po_ 9 19 ?_
      refine po_ 10 20 ?_
      refine po_ 11 21 ?_
      refine po_ 12 22 ?_
      refine po_ 13 23 ?_
      refine po_ 14 24 ?_
      refine po_ 15 25 ?_
      refine po_ 16 26 ?_
      refine po_ 17 27 ?_
      refine po_ 18 28 ?_
      refine po_ 19 29 ?_
      refine po_ 20 30 ?_
      refine po_ 21 31 ?_
      refine po_ 22 32 ?_
      refine pa_ 23 33 ?_
      refine done_ (done_of HT_.out (by kernel_rfl)) ?_
      try go_wp2
      go_ret
      exact ⟨fi_,bel_⟩
    ·rw [if_neg c3] at H
     exact absurd H (by simp)
   ·rw [if_neg c2] at H
    have c2b0:decide (x3_1 < (l0.length:Int))=false:=df_ c2
    clear c2
    obtain rfl:=sj_ H
    go_wp2
    go_ret
    exact ⟨fi_,bel_⟩

attribute [local go_sem high] eqA44
def spec_ServerOk.f (k:Nat) (l0_0:List (S44)) (a0_1:Int) (a0_2:Bool):Option (Bool):=(spec_LogOk.f k l0_0).bind fun t435=>(if t435=true then ((spec_l6In.f a0_1 0 (l0_0.length:Int)).bind fun t436=>(some t436)) else (some false))
theorem spec_ServerOk.mono:∀ a0 a1 a2 k,LeO (spec_ServerOk.f k a0 a1 a2) (spec_ServerOk.f (k+1) a0 a1 a2):=by
 intro a0 a1 a2 k
 unfold spec_ServerOk.f
 repeat' first
   | (with_reducible exact spec_LogOk.mono _ _)
   | (with_reducible exact LeO.refl _)
   | (with_reducible exact LeO.none _)
   | (with_reducible refine LeO.ite ?_ ?_)
   | (with_reducible refine LeO.bind ?_ (fun _=>?_))
theorem spec_ServerOk.calls (k:Nat) (A0_0:Option Addr) (c0_0:Nat) (l0_0:List (S44)) (a0_1:Int) (a0_2:Bool) (r:Bool) (w:World) (hr0_0:Kd.C k44 w A0_0 l0_0.length l0_0) (hc0_0:l0_0.length≤c0_0) (h:spec_ServerOk.f k l0_0 a0_1 a0_2=some r) :
  Calls Tryd.prog 17 #[.agg #[.slice A0_0 l0_0.length c0_0,.int .i64 a0_1,.bool a0_2]] w fun e w'=>e=.returned (.bool r)∧Below w.heap.size w w':=by
 have hu25:=Tryd.underlying25
 have HR0_0:=a_ hr0_0
 have HC0_0:=a_ hc0_0
 clear hr0_0 hc0_0
 have HB:=a_ (Below.refl w.heap.size w)
 unfold spec_ServerOk.f at h
 have H:=h
 clear h
 replace H:=bs_ H
 obtain ⟨t435,A20,H⟩:=H
 try dsimp only at H
 have A2:=a_ A20
 clear A20
 by_cases c3:t435=true
 ·subst c3
  have H1:((spec_l6In.f a0_1 0 (l0_0.length:Int)).bind fun t436=>(some t436))=some r:=by rw [if_pos rfl] at H;exact H
  clear H
  have H:=H1
  clear H1
  replace H:=bs_ H
  obtain ⟨t436,A40,H⟩:=H
  try dsimp only at H
  have A4:=a_ A40
  clear A40
  obtain rfl:=sj_ H
  go_enter Tryd.func17,Tryd.ntmps17
  go_wp2_with (first|((with_reducible refine gD_ (N:=1) rfl ?_);refine bx_ 1 (#[.slice A0_0 l0_0.length c0_0,.int .i64 a0_1,.bool a0_2]) 25 ?_;intro gb434 hg w5 hbox hb;have n0_:=a_ (bS_ (bel_) hb);have n1_:=a_ (hbox);have n2_:=a_ ((by rw [hg];exact (below_size (bel_)):w.heap.size≤gb434));have n3_:=a_ ((by rw [hg];exact (below_size (bel_)):w.heap.size≤gb434));clear HB;have HB:=n0_;have BK434:=n1_;have GW434:=n2_;have GE434:=n3_;clear n0_ n1_ n2_ n3_;clear hb hbox hg;obtain ⟨Z6_0,Z6_1,Z6_2,Y6_0,Y6_1,Y6_2⟩:=op3_ BK434.out)|((with_reducible refine gC_ (f:=43) rfl ?_);refine gl_ 5 Tryd.func43 #[.slice A0_0 l0_0.length c0_0] ?_;(with_reducible refine (spec_LogOk.calls k _ _ l0_0 true _ ?side1 ?side2 A2.out).mono ?_);(case side1=>exact cp_ HR0_0.out);(case side2=>exact HC0_0.out);rintro e w7 ⟨rfl,hb⟩;refine ⟨_,rfl,?_⟩;replace HB:=a_ (bS_ (bel_) hb);replace BK434:=a_ (bb_ BK434.out hb);(try clear hb);obtain ⟨Z8_0,Z8_1,Z8_2,Y8_0,Y8_1,Y8_2⟩:=op3_ BK434.out)|(go_at_call 75;(with_reducible refine (spec_l6In.calls a0_1 0 (l0_0.length:Int) t436 _ A4.out).mono ?_);rintro e w' ⟨rfl,⟨nd,rfl⟩⟩))
  go_ret
  exact ⟨fi_,bel_⟩
 ·replace c3:=Bool.eq_false_iff.mpr c3
  subst c3
  have H1:(some false)=some r:=by rw [if_neg (show ¬ (false=true) by decide)] at H;exact H
  clear H
  have H:=H1
  clear H1
  obtain rfl:=sj_ H
  go_enter Tryd.func17,Tryd.ntmps17
  go_wp2_with (first|((with_reducible refine gD_ (N:=1) rfl ?_);refine bx_ 1 (#[.slice A0_0 l0_0.length c0_0,.int .i64 a0_1,.bool a0_2]) 25 ?_;intro gb434 hg w9 hbox hb;have n0_:=a_ (bS_ (bel_) hb);have n1_:=a_ (hbox);have n2_:=a_ ((by rw [hg];exact (below_size (bel_)):w.heap.size≤gb434));have n3_:=a_ ((by rw [hg];exact (below_size (bel_)):w.heap.size≤gb434));clear HB;have HB:=n0_;have BK434:=n1_;have GW434:=n2_;have GE434:=n3_;clear n0_ n1_ n2_ n3_;clear hb hbox hg;obtain ⟨Z10_0,Z10_1,Z10_2,Y10_0,Y10_1,Y10_2⟩:=op3_ BK434.out)|((with_reducible refine gC_ (f:=43) rfl ?_);refine gl_ 5 Tryd.func43 #[.slice A0_0 l0_0.length c0_0] ?_;(with_reducible refine (spec_LogOk.calls k _ _ l0_0 false _ ?side1 ?side2 A2.out).mono ?_);(case side1=>exact cp_ HR0_0.out);(case side2=>exact HC0_0.out);rintro e w11 ⟨rfl,hb⟩;refine ⟨_,rfl,?_⟩;replace HB:=a_ (bS_ (bel_) hb);replace BK434:=a_ (bb_ BK434.out hb);(try clear hb)))
  go_ret
  exact ⟨fi_,bel_⟩

def spec_l12Has.l0:Nat→List (S44)→Int→Int→Int→Int→Int→Int→Int→ByteArray→Option (Bool)
 | 0,_,_,_,_,_,_,_,_,_=>none
 | k+1,x0,x5,x470000,x470001,x470002,x470003,x470004,x470005,x470006=>if x5 < (x0.length:Int) then (if 0≤x5 then (if (((rd_T44 x0 x5).f0)==x470000&&(((rd_T44 x0 x5).f1)==x470001&&((((rd_T44 x0 x5).f2.f0)==x470002&&(((rd_T44 x0 x5).f2.f1)==x470003&&(((rd_T44 x0 x5).f2.f2)==x470004&&(((rd_T44 x0 x5).f2.f3)==x470005&&((((rd_T44 x0 x5).f2.f4).toList)==x470006.toList))))))))=true then (some true) else (spec_l12Has.l0 k x0 (wrap64 (x5+1)) x470000 x470001 x470002 x470003 x470004 x470005 x470006)) else (none)) else (some false)
def spec_l12Has.f (k:Nat) (l0:List (S44)) (a1_0:Int) (a1_1:Int) (a1_2:Int) (a1_3:Int) (a1_4:Int) (a1_5:Int) (a1_6:ByteArray):Option (Bool):=spec_l12Has.l0 k l0 0 a1_0 a1_1 a1_2 a1_3 a1_4 a1_5 a1_6
theorem spec_l12Has.mono_l:∀ k,(∀ y0 y1 y2 y3 y4 y5 y6 y7 y8,LeO (spec_l12Has.l0 k y0 y1 y2 y3 y4 y5 y6 y7 y8) (spec_l12Has.l0 (k+1) y0 y1 y2 y3 y4 y5 y6 y7 y8))
 | 0=>fun _ _ _ _ _ _ _ _ _ r h=>by simp [spec_l12Has.l0] at h
 | k+1=>by
  have ih0:=spec_l12Has.mono_l k
  ·intro y0 y1 y2 y3 y4 y5 y6 y7 y8
   unfold spec_l12Has.l0
   repeat' first
   | (with_reducible exact ih0 _ _ _ _ _ _ _ _ _)
   | (with_reducible exact LeO.refl _)
   | (with_reducible exact LeO.none _)
   | (with_reducible refine LeO.ite ?_ ?_)
   | (with_reducible refine LeO.bind ?_ (fun _=>?_))
theorem spec_l12Has.mono:∀ a0 a1 a2 a3 a4 a5 a6 a7 k,LeO (spec_l12Has.f k a0 a1 a2 a3 a4 a5 a6 a7) (spec_l12Has.f (k+1) a0 a1 a2 a3 a4 a5 a6 a7):=by
 intro a0 a1 a2 a3 a4 a5 a6 a7 k
 have ih0:=spec_l12Has.mono_l k
 unfold spec_l12Has.f
 repeat' first
   | (with_reducible exact ih0 _ _ _ _ _ _ _ _ _)
   | (with_reducible exact LeO.refl _)
   | (with_reducible exact LeO.none _)
   | (with_reducible refine LeO.ite ?_ ?_)
   | (with_reducible refine LeO.bind ?_ (fun _=>?_))
theorem spec_l12Has.calls (k:Nat) (A0:Option Addr) (c0:Nat) (l0:List (S44)) (a1_0:Int) (a1_1:Int) (a1_2:Int) (a1_3:Int) (a1_4:Int) (a1_5:Int) (a1_6:ByteArray) (r:Bool) (w:World) (hr0:Kd.C k44 w A0 l0.length l0) (hc0:l0.length≤c0) (h:spec_l12Has.f k l0 a1_0 a1_1 a1_2 a1_3 a1_4 a1_5 a1_6=some r) :
  Calls Tryd.prog 126 #[.slice A0 l0.length c0,.agg #[.int .i64 a1_0,.int .i64 a1_1,.int .i64 a1_2,.int .i64 a1_3,.int .i64 a1_4,.int .i64 a1_5,.string a1_6]] w fun e w'=>e=.returned (.bool r)∧Below w.heap.size w w':=by
 have hu44:=Tryd.underlying44
 have HR0:=a_ hr0
 have HC0:=a_ hc0
 clear hr0 hc0
 have HB:=a_ (Below.refl w.heap.size w)
 unfold spec_l12Has.f at h
 have H:=h
 clear h
 have H':=a_ H
 clear H
 go_enter Tryd.func126,Tryd.ntmps126
 go_wp2_with (first|((with_reducible refine gD_ (N:=3) rfl ?_);refine bx_ 3 (#[.int .i64 a1_0,.int .i64 a1_1,.int .i64 a1_2,.int .i64 a1_3,.int .i64 a1_4,.int .i64 a1_5,.string a1_6]) 44 ?_;intro gb469 hg w3 hbox hb;have n0_:=a_ (bS_ (bel_) hb);have n1_:=a_ (hbox);have n2_:=a_ ((by rw [hg];exact (below_size (bel_)):w.heap.size≤gb469));have n3_:=a_ ((by rw [hg];exact (below_size (bel_)):w.heap.size≤gb469));clear HB;have HB:=n0_;have BK469:=n1_;have GW469:=n2_;have GE469:=n3_;clear n0_ n1_ n2_ n3_;clear hb hbox hg))
 repeat (go_quiet (first|((with_reducible refine gD_ (N:=3) rfl ?_);refine bx_ 3 (#[.int .i64 a1_0,.int .i64 a1_1,.int .i64 a1_2,.int .i64 a1_3,.int .i64 a1_4,.int .i64 a1_5,.string a1_6]) 44 ?_;intro gb469 hg w3 hbox hb;have n0_:=a_ (bS_ (bel_) hb);have n1_:=a_ (hbox);have n2_:=a_ ((by rw [hg];exact (below_size (bel_)):w.heap.size≤gb469));have n3_:=a_ ((by rw [hg];exact (below_size (bel_)):w.heap.size≤gb469));clear HB;have HB:=n0_;have BK469:=n1_;have GW469:=n2_;have GE469:=n3_;clear n0_ n1_ n2_ n3_;clear hb hbox hg));try go_wp2_with (first|((with_reducible refine gD_ (N:=3) rfl ?_);refine bx_ 3 (#[.int .i64 a1_0,.int .i64 a1_1,.int .i64 a1_2,.int .i64 a1_3,.int .i64 a1_4,.int .i64 a1_5,.string a1_6]) 44 ?_;intro gb469 hg w3 hbox hb;have n0_:=a_ (bS_ (bel_) hb);have n1_:=a_ (hbox);have n2_:=a_ ((by rw [hg];exact (below_size (bel_)):w.heap.size≤gb469));have n3_:=a_ ((by rw [hg];exact (below_size (bel_)):w.heap.size≤gb469));clear HB;have HB:=n0_;have BK469:=n1_;have GW469:=n2_;have GE469:=n3_;clear n0_ n1_ n2_ n3_;clear hb hbox hg)))
 go_loopg [5] k (fun kq v5 w'=>∃ (x5_1:Int),v5=.int .i64 x5_1∧Aside0 (spec_l12Has.l0 kq l0 x5_1 a1_0 a1_1 a1_2 a1_3 a1_4 a1_5 a1_6=some r)∧Aside0 (kq≤k)∧Aside0 (w'.heap[gb469]?=some (.cells #[.int .i64 a1_0,.int .i64 a1_1,.int .i64 a1_2,.int .i64 a1_3,.int .i64 a1_4,.int .i64 a1_5,.string a1_6] 44 (0,0)))∧Aside0 (Below w.heap.size w w'))
 case atStart=>exact ⟨(0),(si_),H',⟨Nat.le_refl _⟩,⟨bp_ BK469.out⟩,⟨bel_⟩⟩
 case round =>
  clear H'
  try clear c1
  try clear p2
  obtain ⟨x5_1,rfl,HA,HK1,BK469,HB⟩:=hrel
  cases gk with
  | zero=>exact absurd HA.out (by simp [spec_l12Has.l0])
  | succ k1 =>
   have H:=HA.out
   clear HA
   simp only [spec_l12Has.l0] at H
   by_cases c4:x5_1 < (l0.length:Int)
   ·rw [if_pos c4] at H
    have c4b0:decide (x5_1 < (l0.length:Int))=true:=dt_ c4
    clear c4
    by_cases c5:0≤x5_1
    ·rw [if_pos c5] at H
     have c5b0:decide (0≤x5_1)=true:=dt_ c5
     clear c5
     by_cases c6:(((rd_T44 l0 x5_1).f0)==a1_0&&(((rd_T44 l0 x5_1).f1)==a1_1&&((((rd_T44 l0 x5_1).f2.f0)==a1_2&&(((rd_T44 l0 x5_1).f2.f1)==a1_3&&(((rd_T44 l0 x5_1).f2.f2)==a1_4&&(((rd_T44 l0 x5_1).f2.f3)==a1_5&&((((rd_T44 l0 x5_1).f2.f4).toList)==a1_6.toList))))))))=true
     ·rw [if_pos c6] at H
      have c6b0:(((rd_T44 l0 x5_1).f0)==a1_0&&(((rd_T44 l0 x5_1).f1)==a1_1&&((((rd_T44 l0 x5_1).f2.f0)==a1_2&&(((rd_T44 l0 x5_1).f2.f1)==a1_3&&(((rd_T44 l0 x5_1).f2.f2)==a1_4&&(((rd_T44 l0 x5_1).f2.f3)==a1_5&&((((rd_T44 l0 x5_1).f2.f4).toList)==a1_6.toList))))))))=true:=c6
      (try (have c6b1:decide (((rd_T44 l0 x5_1).f0)=a1_0&&(((rd_T44 l0 x5_1).f1)==a1_1&&((((rd_T44 l0 x5_1).f2.f0)==a1_2&&(((rd_T44 l0 x5_1).f2.f1)==a1_3&&(((rd_T44 l0 x5_1).f2.f2)==a1_4&&(((rd_T44 l0 x5_1).f2.f3)==a1_5&&((((rd_T44 l0 x5_1).f2.f4).toList)==a1_6.toList))))))))=true:=by simpa using c6))
      (try (have c6b2:(((rd_T44 l0 x5_1).f0)==a1_0&&(((rd_T44 l0 x5_1).f1)==a1_1&&((((rd_T44 l0 x5_1).f2.f0)==a1_2&&(((rd_T44 l0 x5_1).f2.f1)==a1_3&&(((rd_T44 l0 x5_1).f2.f2)==a1_4&&(((rd_T44 l0 x5_1).f2.f3)==a1_5&&((((rd_T44 l0 x5_1).f2.f4).toList)==a1_6.toList))))))))=true:=by simpa using c6))
      clear c6
      obtain rfl:=sj_ H
      have p470:0≤(x5_1:Int):=od_
      have q470:x5_1 < (l0.length:Int):=od_
      obtain ⟨ad470,e470,hx470_0,hx470_1,hx470_2,hx470_3,hx470_4,hx470_5,hx470_6⟩:=at_T44 HR0.out x5_1 p470 q470
      cases e470
      replace hx470_0:=(cb_ HB.out hx470_0 :)
      replace hx470_1:=(cb_ HB.out hx470_1 :)
      replace hx470_2:=(cb_ HB.out hx470_2 :)
      replace hx470_3:=(cb_ HB.out hx470_3 :)
      replace hx470_4:=(cb_ HB.out hx470_4 :)
      replace hx470_5:=(cb_ HB.out hx470_5 :)
      replace hx470_6:=(cb_ HB.out hx470_6 :)
      replace p470:=eq_true p470
      replace q470:=eq_true q470
      obtain ⟨Z7_0,Z7_1,Z7_2,Z7_3,Z7_4,Z7_5,Z7_6,Y7_0,Y7_1,Y7_2,Y7_3,Y7_4,Y7_5,Y7_6⟩:=op7_ (W:=wr) BK469.out
      go_wp2
      repeat (go_quiet (fail);try go_wp2)
      go_ret
      exact ⟨fi_,bel_⟩
     ·rw [if_neg c6] at H
      have c6b0:(((rd_T44 l0 x5_1).f0)==a1_0&&(((rd_T44 l0 x5_1).f1)==a1_1&&((((rd_T44 l0 x5_1).f2.f0)==a1_2&&(((rd_T44 l0 x5_1).f2.f1)==a1_3&&(((rd_T44 l0 x5_1).f2.f2)==a1_4&&(((rd_T44 l0 x5_1).f2.f3)==a1_5&&((((rd_T44 l0 x5_1).f2.f4).toList)==a1_6.toList))))))))=false:=by simpa using c6
      (try (have c6b1:decide (((rd_T44 l0 x5_1).f0)=a1_0&&(((rd_T44 l0 x5_1).f1)==a1_1&&((((rd_T44 l0 x5_1).f2.f0)==a1_2&&(((rd_T44 l0 x5_1).f2.f1)==a1_3&&(((rd_T44 l0 x5_1).f2.f2)==a1_4&&(((rd_T44 l0 x5_1).f2.f3)==a1_5&&((((rd_T44 l0 x5_1).f2.f4).toList)==a1_6.toList))))))))=false:=by simpa using c6))
      (try (have c6b2:(((rd_T44 l0 x5_1).f0)==a1_0&&(((rd_T44 l0 x5_1).f1)==a1_1&&((((rd_T44 l0 x5_1).f2.f0)==a1_2&&(((rd_T44 l0 x5_1).f2.f1)==a1_3&&(((rd_T44 l0 x5_1).f2.f2)==a1_4&&(((rd_T44 l0 x5_1).f2.f3)==a1_5&&((((rd_T44 l0 x5_1).f2.f4).toList)==a1_6.toList))))))))=false:=by simpa using c6))
      (try (have c6b3:¬ (((rd_T44 l0 x5_1).f0)=a1_0&&(((rd_T44 l0 x5_1).f1)==a1_1&&((((rd_T44 l0 x5_1).f2.f0)==a1_2&&(((rd_T44 l0 x5_1).f2.f1)==a1_3&&(((rd_T44 l0 x5_1).f2.f2)==a1_4&&(((rd_T44 l0 x5_1).f2.f3)==a1_5&&((((rd_T44 l0 x5_1).f2.f4).toList)==a1_6.toList)))))))):=by simpa using c6))
      clear c6
      have H':=a_ H
      clear H
      have p470:0≤(x5_1:Int):=od_
      have q470:x5_1 < (l0.length:Int):=od_
      obtain ⟨ad470,e470,hx470_0,hx470_1,hx470_2,hx470_3,hx470_4,hx470_5,hx470_6⟩:=at_T44 HR0.out x5_1 p470 q470
      cases e470
      replace hx470_0:=(cb_ HB.out hx470_0 :)
      replace hx470_1:=(cb_ HB.out hx470_1 :)
      replace hx470_2:=(cb_ HB.out hx470_2 :)
      replace hx470_3:=(cb_ HB.out hx470_3 :)
      replace hx470_4:=(cb_ HB.out hx470_4 :)
      replace hx470_5:=(cb_ HB.out hx470_5 :)
      replace hx470_6:=(cb_ HB.out hx470_6 :)
      replace p470:=eq_true p470
      replace q470:=eq_true q470
      obtain ⟨Z8_0,Z8_1,Z8_2,Z8_3,Z8_4,Z8_5,Z8_6,Y8_0,Y8_1,Y8_2,Y8_3,Y8_4,Y8_5,Y8_6⟩:=op7_ (W:=wr) BK469.out
      go_wp2
      repeat (go_quiet (fail);try go_wp2)
      go_roundg k1
      case measure=>have:=HK1.out;omega
      case rel=>exact ⟨(wrap64 (x5_1+1)),(si_),H',⟨by have:=HK1.out;omega⟩,⟨bp_ BK469.out⟩,⟨bel_⟩⟩
    ·rw [if_neg c5] at H
     exact absurd H (by simp)
   ·rw [if_neg c4] at H
    have c4b0:decide (x5_1 < (l0.length:Int))=false:=df_ c4
    clear c4
    obtain rfl:=sj_ H
    go_wp2
    repeat (go_quiet (fail);try go_wp2)
    go_ret
    exact ⟨fi_,bel_⟩

def spec_l12Add.f (k:Nat) (l0:List (S44)) (a1_0:Int) (a1_1:Int) (a1_2:Int) (a1_3:Int) (a1_4:Int) (a1_5:Int) (a1_6:ByteArray):Option ((List (S44))×Int):=(spec_l12Seq.f k l0 a1_0).bind fun t149=>((spec_l12Has.f k l0 a1_0 a1_1 a1_2 a1_3 a1_4 a1_5 a1_6).bind fun t150=>(if t150=true then (some (l0,0)) else (if a1_1=(wrap64 (t149+1)) then (if (l0.length:Int)≥40 then (some (l0,(-1))) else ((some (([]:List (S44)):List (S44))).bind fun y151=>(if y151.length+l0.length < 2199023255552 then ((some (y151++l0:List (S44))).bind fun y154=>((some (([(⟨a1_0,a1_1,(⟨a1_2,a1_3,a1_4,a1_5,a1_6⟩:S42)⟩:S44)]:List (S44)):List (S44))).bind fun y157=>(if y154.length+y157.length < 2199023255552 then (some ((y154++y157),1)) else (none)))) else (none)))) else (some (l0,(-1))))))
theorem spec_l12Add.mono:∀ a0 a1 a2 a3 a4 a5 a6 a7 k,LeO (spec_l12Add.f k a0 a1 a2 a3 a4 a5 a6 a7) (spec_l12Add.f (k+1) a0 a1 a2 a3 a4 a5 a6 a7):=by
 intro a0 a1 a2 a3 a4 a5 a6 a7 k
 unfold spec_l12Add.f
 repeat' first
   | (with_reducible exact spec_l12Has.mono _ _ _ _ _ _ _ _ _)
   | (with_reducible exact spec_l12Seq.mono _ _ _)
   | (with_reducible exact LeO.refl _)
   | (with_reducible exact LeO.none _)
   | (with_reducible refine LeO.ite ?_ ?_)
   | (with_reducible refine LeO.bind ?_ (fun _=>?_))
def spec_l12Add.T6:Bool×List (List Nat×List Nat):=(true,[([],[]),([],[]),([0,1],[0,1]),([],[]),([3],[3]),([2,4,2],[2,4]),([5,5,0,1,2,3,4,5],[5]),([6,0,1,2,3,4,5,6],[])])
def spec_l12Add.B6:List Nat:=[0,0,3,0,8,31,63,127]
theorem spec_l12Add.tab6:rtab .any (opsOf Tryd.f91 6)=spec_l12Add.T6:=by kernel_rfl
theorem spec_l12Add.bits6:waitsOk spec_l12Add.T6.2 spec_l12Add.B6=true:=by kernel_rfl
def Out12 (B:Nat) (w':World) (A:Option Addr) (c:Nat) (l:List (S44)) (v:Value) (r:List (S44)) (n:Int):Prop:=(n=1∧Kd.R k44 44 w' B (fun _=>True) v r)∨(n≠1∧v=.slice A l.length c∧r=l)
end Go.Proofs.YtdpklbomhdpimaaDoor.P
