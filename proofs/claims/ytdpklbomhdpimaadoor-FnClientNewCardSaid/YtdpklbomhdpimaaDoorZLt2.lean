/- Joined by a program (wip/shake.py): the declarations that 'YtdpklbomhdpimaaDoorCardFnClientNew' reaches. -/
import Derived.Test.YtdpklbomhdpimaaDoorZLt1
set_option linter.unusedVariables false
set_option linter.unusedSimpArgs false
set_option linter.unusedSectionVars false
set_option maxHeartbeats 8000000
set_option maxRecDepth 100000
namespace Go.Proofs.YtdpklbomhdpimaaDoor.P
open Go.RowKit Go.Proofs.YtdpklbomhdpimaaDoorW.PrintWords Go.Proofs.YtdpklbomhdpimaaDoorW.PrintLast
theorem laws_lpClient.calls (k:Nat) (a0_0:Int) (a0_1:Int) (A0_2:Option Addr) (c0_2:Nat) (l0_2:List (S69)) (A0_3:Option Addr) (c0_3:Nat) (l0_3:List (S44)) (a0_4:Int) (a0_5:Int) (a1_0:Int) (a1_1:Int) (A1_2:Option Addr) (c1_2:Nat) (l1_2:List (S69)) (A1_3:Option Addr) (c1_3:Nat) (l1_3:List (S44)) (a1_4:Int) (a1_5:Int) (r:Bool) (w:World) (hr0_2:Kd.C k69 w A0_2 l0_2.length l0_2) (hc0_2:l0_2.length≤c0_2) (hr0_3:Kd.C k44 w A0_3 l0_3.length l0_3) (hc0_3:l0_3.length≤c0_3) (hr1_2:Kd.C k69 w A1_2 l1_2.length l1_2) (hc1_2:l1_2.length≤c1_2) (hr1_3:Kd.C k44 w A1_3 l1_3.length l1_3) (hc1_3:l1_3.length≤c1_3) (h:laws_lpClient.f k a0_0 a0_1 l0_2 l0_3 a0_4 a0_5 a1_0 a1_1 l1_2 l1_3 a1_4 a1_5=some r) :
  Calls Tryd.prog 59 #[.agg #[.int .i64 a0_0,.int .i64 a0_1,.slice A0_2 l0_2.length c0_2,.slice A0_3 l0_3.length c0_3,.int .i64 a0_4,.int .i64 a0_5],.agg #[.int .i64 a1_0,.int .i64 a1_1,.slice A1_2 l1_2.length c1_2,.slice A1_3 l1_3.length c1_3,.int .i64 a1_4,.int .i64 a1_5]] w fun e w'=>e=.returned (.bool r)∧Below w.heap.size w w':=by
 have hu77:=Tryd.underlying77
 have HR0_2:=a_ hr0_2
 have HC0_2:=a_ hc0_2
 clear hr0_2 hc0_2
 have HR0_3:=a_ hr0_3
 have HC0_3:=a_ hc0_3
 clear hr0_3 hc0_3
 have HR1_2:=a_ hr1_2
 have HC1_2:=a_ hc1_2
 clear hr1_2 hc1_2
 have HR1_3:=a_ hr1_3
 have HC1_3:=a_ hc1_3
 clear hr1_3 hc1_3
 have HB:=a_ (Below.refl w.heap.size w)
 unfold laws_lpClient.f at h
 have H:=h
 clear h
 by_cases c3:a0_0=a1_0
 ·rw [if_pos c3] at H
  have c3b0:(a0_0==a1_0)=true:=beq_iff_eq.mpr c3
  have c3b1:(a0_0 != a1_0)=false:=be_ c3
  clear c3
  by_cases c4:a0_1=a1_1
  ·rw [if_pos c4] at H
   have c4b0:(a0_1==a1_1)=true:=beq_iff_eq.mpr c4
   have c4b1:(a0_1 != a1_1)=false:=be_ c4
   clear c4
   replace H:=bs_ H
   obtain ⟨t1134,A50,H⟩:=H
   try dsimp only at H
   have A5:=a_ A50
   clear A50
   by_cases c6:t1134=true
   ·subst c6
    have H1:((laws_lpLog.f k l0_3 l1_3).bind fun t1135=>(if t1135=true then (if a0_4=a1_4 then (some (a0_5==a1_5)) else (some false)) else (some false)))=some r:=by rw [if_pos rfl] at H;exact H
    clear H
    have H:=H1
    clear H1
    replace H:=bs_ H
    obtain ⟨t1135,A70,H⟩:=H
    try dsimp only at H
    have A7:=a_ A70
    clear A70
    by_cases c8:t1135=true
    ·subst c8
     have H1:(if a0_4=a1_4 then (some (a0_5==a1_5)) else (some false))=some r:=by rw [if_pos rfl] at H;exact H
     clear H
     have H:=H1
     clear H1
     by_cases c9:a0_4=a1_4
     ·rw [if_pos c9] at H
      have c9b0:(a0_4==a1_4)=true:=beq_iff_eq.mpr c9
      have c9b1:(a0_4 != a1_4)=false:=be_ c9
      clear c9
      obtain rfl:=sj_ H
      go_enter Tryd.func59,Tryd.ntmps59
      go_wp2_with (first|((with_reducible refine gD_ (N:=2) rfl ?_);refine bx_ 2 (#[.int .i64 a0_0,.int .i64 a0_1,.slice A0_2 l0_2.length c0_2,.slice A0_3 l0_3.length c0_3,.int .i64 a0_4,.int .i64 a0_5]) 77 ?_;intro gb1132 hg w10 hbox hb;have n0_:=a_ (bS_ (bel_) hb);have n1_:=a_ (hbox);have n2_:=a_ ((by rw [hg];exact (below_size (bel_)):w.heap.size≤gb1132));have n3_:=a_ ((by rw [hg];exact (below_size (bel_)):w.heap.size≤gb1132));clear HB;have HB:=n0_;have BK1132:=n1_;have GW1132:=n2_;have GE1132:=n3_;clear n0_ n1_ n2_ n3_;clear hb hbox hg)|((with_reducible refine gD_ (N:=3) rfl ?_);refine bx_ 3 (#[.int .i64 a1_0,.int .i64 a1_1,.slice A1_2 l1_2.length c1_2,.slice A1_3 l1_3.length c1_3,.int .i64 a1_4,.int .i64 a1_5]) 77 ?_;intro gb1133 hg w11 hbox hb;have n0_:=a_ (bb_ BK1132.out hb);have n1_:=a_ (bS_ (bel_) hb);have n2_:=a_ (hbox);have n3_:=a_ ((by rw [hg];exact (below_size (bel_)):w.heap.size≤gb1133));have n4_:=a_ ((by rw [hg];exact (below_size (bel_)):w.heap.size≤gb1133));have n5_:=a_ ((by rw [hg];exact Nat.ne_of_lt (blk_lt (g:=gb1132) (o:=.cells #[.int .i64 a0_0,.int .i64 a0_1,.slice A0_2 l0_2.length c0_2,.slice A0_3 l0_3.length c0_3,.int .i64 a0_4,.int .i64 a0_5] 77 (0,0)) (bp_ BK1132.out)):gb1132≠gb1133));have n6_:=a_ ((by rw [hg];exact Nat.ne_of_gt (blk_lt (g:=gb1132) (o:=.cells #[.int .i64 a0_0,.int .i64 a0_1,.slice A0_2 l0_2.length c0_2,.slice A0_3 l0_3.length c0_3,.int .i64 a0_4,.int .i64 a0_5] 77 (0,0)) (bp_ BK1132.out)):gb1133≠gb1132));clear BK1132;clear HB;have BK1132:=n0_;have HB:=n1_;have BK1133:=n2_;have GW1133:=n3_;have GE1133:=n4_;have NB1132_1133:=n5_;have NB1133_1132:=n6_;clear n0_ n1_ n2_ n3_ n4_ n5_ n6_;clear hb hbox hg;have hnb12:=NB1132_1133.out;have hnc12:=NB1133_1132.out;have Z13_0:=cz_ BK1132.out 0 (.int .i64 a0_0);have Z13_1:=cz_ BK1132.out 1 (.int .i64 a0_1);have Z13_2:=cz_ BK1132.out 2 (.slice A0_2 l0_2.length c0_2);have Z13_3:=cz_ BK1132.out 3 (.slice A0_3 l0_3.length c0_3);have Z13_4:=cz_ BK1132.out 4 (.int .i64 a0_4);have Z13_5:=cz_ BK1132.out 5 (.int .i64 a0_5);have Y13_0:=bF_ BK1132.out 0;have Y13_1:=bF_ BK1132.out 1;have Y13_2:=bF_ BK1132.out 2;have Y13_3:=bF_ BK1132.out 3;have Y13_4:=bF_ BK1132.out 4;have Y13_5:=bF_ BK1132.out 5;have Z14_0:=cz_ BK1133.out 0 (.int .i64 a1_0);have Z14_1:=cz_ BK1133.out 1 (.int .i64 a1_1);have Z14_2:=cz_ BK1133.out 2 (.slice A1_2 l1_2.length c1_2);have Z14_3:=cz_ BK1133.out 3 (.slice A1_3 l1_3.length c1_3);have Z14_4:=cz_ BK1133.out 4 (.int .i64 a1_4);have Z14_5:=cz_ BK1133.out 5 (.int .i64 a1_5);have Y14_0:=bF_ BK1133.out 0;have Y14_1:=bF_ BK1133.out 1;have Y14_2:=bF_ BK1133.out 2;have Y14_3:=bF_ BK1133.out 3;have Y14_4:=bF_ BK1133.out 4;have Y14_5:=bF_ BK1133.out 5)|(go_at_call 38;(with_reducible refine (laws_lpRows.calls k _ _ l0_2 _ _ l1_2 true _ ?side1 ?side2 ?side3 ?side4 A5.out).mono ?_);(case side1=>exact cp_ HR0_2.out);(case side2=>exact HC0_2.out);(case side3=>exact cx_ (Kd.C_below HR1_2.out HB.out));(case side4=>exact HC1_2.out);rintro e w' ⟨rfl,⟨nd,rfl⟩⟩)|(go_at_call 32;(with_reducible refine (laws_lpLog.calls k _ _ l0_3 _ _ l1_3 true _ ?side1 ?side2 ?side3 ?side4 A7.out).mono ?_);(case side1=>repeat (first|exact (Kd.C_below HR0_3.out (bel_))|(with_reducible refine Kd.C_alloc ?_ _)|(with_reducible refine Kd.C_drewN ?_ _)|(with_reducible refine Kd.C_drew ?_)));(case side2=>exact HC0_3.out);(case side3=>repeat (first|exact (Kd.C_below HR1_3.out (bel_))|(with_reducible refine Kd.C_alloc ?_ _)|(with_reducible refine Kd.C_drewN ?_ _)|(with_reducible refine Kd.C_drew ?_)));(case side4=>exact HC1_3.out);rintro e w' ⟨rfl,⟨nd,rfl⟩⟩))
      go_ret
      exact ⟨fi_,bel_⟩
     ·rw [if_neg c9] at H
      have c9b0:(a0_4==a1_4)=false:=bn_ c9
      have c9b1:(a0_4 != a1_4)=true:=bne_iff_ne.mpr c9
      obtain rfl:=sj_ H
      go_enter Tryd.func59,Tryd.ntmps59
      go_wp2_with (first|((with_reducible refine gD_ (N:=2) rfl ?_);refine bx_ 2 (#[.int .i64 a0_0,.int .i64 a0_1,.slice A0_2 l0_2.length c0_2,.slice A0_3 l0_3.length c0_3,.int .i64 a0_4,.int .i64 a0_5]) 77 ?_;intro gb1132 hg w15 hbox hb;have n0_:=a_ (bS_ (bel_) hb);have n1_:=a_ (hbox);have n2_:=a_ ((by rw [hg];exact (below_size (bel_)):w.heap.size≤gb1132));have n3_:=a_ ((by rw [hg];exact (below_size (bel_)):w.heap.size≤gb1132));clear HB;have HB:=n0_;have BK1132:=n1_;have GW1132:=n2_;have GE1132:=n3_;clear n0_ n1_ n2_ n3_;clear hb hbox hg)|((with_reducible refine gD_ (N:=3) rfl ?_);refine bx_ 3 (#[.int .i64 a1_0,.int .i64 a1_1,.slice A1_2 l1_2.length c1_2,.slice A1_3 l1_3.length c1_3,.int .i64 a1_4,.int .i64 a1_5]) 77 ?_;intro gb1133 hg w16 hbox hb;have n0_:=a_ (bb_ BK1132.out hb);have n1_:=a_ (bS_ (bel_) hb);have n2_:=a_ (hbox);have n3_:=a_ ((by rw [hg];exact (below_size (bel_)):w.heap.size≤gb1133));have n4_:=a_ ((by rw [hg];exact (below_size (bel_)):w.heap.size≤gb1133));have n5_:=a_ ((by rw [hg];exact Nat.ne_of_lt (blk_lt (g:=gb1132) (o:=.cells #[.int .i64 a0_0,.int .i64 a0_1,.slice A0_2 l0_2.length c0_2,.slice A0_3 l0_3.length c0_3,.int .i64 a0_4,.int .i64 a0_5] 77 (0,0)) (bp_ BK1132.out)):gb1132≠gb1133));have n6_:=a_ ((by rw [hg];exact Nat.ne_of_gt (blk_lt (g:=gb1132) (o:=.cells #[.int .i64 a0_0,.int .i64 a0_1,.slice A0_2 l0_2.length c0_2,.slice A0_3 l0_3.length c0_3,.int .i64 a0_4,.int .i64 a0_5] 77 (0,0)) (bp_ BK1132.out)):gb1133≠gb1132));clear BK1132;clear HB;have BK1132:=n0_;have HB:=n1_;have BK1133:=n2_;have GW1133:=n3_;have GE1133:=n4_;have NB1132_1133:=n5_;have NB1133_1132:=n6_;clear n0_ n1_ n2_ n3_ n4_ n5_ n6_;clear hb hbox hg;have hnb17:=NB1132_1133.out;have hnc17:=NB1133_1132.out;have Z18_0:=cz_ BK1132.out 0 (.int .i64 a0_0);have Z18_1:=cz_ BK1132.out 1 (.int .i64 a0_1);have Z18_2:=cz_ BK1132.out 2 (.slice A0_2 l0_2.length c0_2);have Z18_3:=cz_ BK1132.out 3 (.slice A0_3 l0_3.length c0_3);have Z18_4:=cz_ BK1132.out 4 (.int .i64 a0_4);have Z18_5:=cz_ BK1132.out 5 (.int .i64 a0_5);have Y18_0:=bF_ BK1132.out 0;have Y18_1:=bF_ BK1132.out 1;have Y18_2:=bF_ BK1132.out 2;have Y18_3:=bF_ BK1132.out 3;have Y18_4:=bF_ BK1132.out 4;have Y18_5:=bF_ BK1132.out 5;have Z19_0:=cz_ BK1133.out 0 (.int .i64 a1_0);have Z19_1:=cz_ BK1133.out 1 (.int .i64 a1_1);have Z19_2:=cz_ BK1133.out 2 (.slice A1_2 l1_2.length c1_2);have Z19_3:=cz_ BK1133.out 3 (.slice A1_3 l1_3.length c1_3);have Z19_4:=cz_ BK1133.out 4 (.int .i64 a1_4);have Z19_5:=cz_ BK1133.out 5 (.int .i64 a1_5);have Y19_0:=bF_ BK1133.out 0;have Y19_1:=bF_ BK1133.out 1;have Y19_2:=bF_ BK1133.out 2;have Y19_3:=bF_ BK1133.out 3;have Y19_4:=bF_ BK1133.out 4;have Y19_5:=bF_ BK1133.out 5)|(go_at_call 38;(with_reducible refine (laws_lpRows.calls k _ _ l0_2 _ _ l1_2 true _ ?side1 ?side2 ?side3 ?side4 A5.out).mono ?_);(case side1=>exact cp_ HR0_2.out);(case side2=>exact HC0_2.out);(case side3=>exact cx_ (Kd.C_below HR1_2.out HB.out));(case side4=>exact HC1_2.out);rintro e w' ⟨rfl,⟨nd,rfl⟩⟩)|(go_at_call 32;(with_reducible refine (laws_lpLog.calls k _ _ l0_3 _ _ l1_3 true _ ?side1 ?side2 ?side3 ?side4 A7.out).mono ?_);(case side1=>repeat (first|exact (Kd.C_below HR0_3.out (bel_))|(with_reducible refine Kd.C_alloc ?_ _)|(with_reducible refine Kd.C_drewN ?_ _)|(with_reducible refine Kd.C_drew ?_)));(case side2=>exact HC0_3.out);(case side3=>repeat (first|exact (Kd.C_below HR1_3.out (bel_))|(with_reducible refine Kd.C_alloc ?_ _)|(with_reducible refine Kd.C_drewN ?_ _)|(with_reducible refine Kd.C_drew ?_)));(case side4=>exact HC1_3.out);rintro e w' ⟨rfl,⟨nd,rfl⟩⟩))
      go_ret
      exact ⟨fi_,bel_⟩
    ·replace c8:=Bool.eq_false_iff.mpr c8
     subst c8
     have H1:(some false)=some r:=by rw [if_neg (show ¬ (false=true) by decide)] at H;exact H
     clear H
     have H:=H1
     clear H1
     obtain rfl:=sj_ H
     go_enter Tryd.func59,Tryd.ntmps59
     go_wp2_with (first|((with_reducible refine gD_ (N:=2) rfl ?_);refine bx_ 2 (#[.int .i64 a0_0,.int .i64 a0_1,.slice A0_2 l0_2.length c0_2,.slice A0_3 l0_3.length c0_3,.int .i64 a0_4,.int .i64 a0_5]) 77 ?_;intro gb1132 hg w20 hbox hb;have n0_:=a_ (bS_ (bel_) hb);have n1_:=a_ (hbox);have n2_:=a_ ((by rw [hg];exact (below_size (bel_)):w.heap.size≤gb1132));have n3_:=a_ ((by rw [hg];exact (below_size (bel_)):w.heap.size≤gb1132));clear HB;have HB:=n0_;have BK1132:=n1_;have GW1132:=n2_;have GE1132:=n3_;clear n0_ n1_ n2_ n3_;clear hb hbox hg)|((with_reducible refine gD_ (N:=3) rfl ?_);refine bx_ 3 (#[.int .i64 a1_0,.int .i64 a1_1,.slice A1_2 l1_2.length c1_2,.slice A1_3 l1_3.length c1_3,.int .i64 a1_4,.int .i64 a1_5]) 77 ?_;intro gb1133 hg w21 hbox hb;have n0_:=a_ (bb_ BK1132.out hb);have n1_:=a_ (bS_ (bel_) hb);have n2_:=a_ (hbox);have n3_:=a_ ((by rw [hg];exact (below_size (bel_)):w.heap.size≤gb1133));have n4_:=a_ ((by rw [hg];exact (below_size (bel_)):w.heap.size≤gb1133));have n5_:=a_ ((by rw [hg];exact Nat.ne_of_lt (blk_lt (g:=gb1132) (o:=.cells #[.int .i64 a0_0,.int .i64 a0_1,.slice A0_2 l0_2.length c0_2,.slice A0_3 l0_3.length c0_3,.int .i64 a0_4,.int .i64 a0_5] 77 (0,0)) (bp_ BK1132.out)):gb1132≠gb1133));have n6_:=a_ ((by rw [hg];exact Nat.ne_of_gt (blk_lt (g:=gb1132) (o:=.cells #[.int .i64 a0_0,.int .i64 a0_1,.slice A0_2 l0_2.length c0_2,.slice A0_3 l0_3.length c0_3,.int .i64 a0_4,.int .i64 a0_5] 77 (0,0)) (bp_ BK1132.out)):gb1133≠gb1132));clear BK1132;clear HB;have BK1132:=n0_;have HB:=n1_;have BK1133:=n2_;have GW1133:=n3_;have GE1133:=n4_;have NB1132_1133:=n5_;have NB1133_1132:=n6_;clear n0_ n1_ n2_ n3_ n4_ n5_ n6_;clear hb hbox hg;have hnb22:=NB1132_1133.out;have hnc22:=NB1133_1132.out;have Z23_0:=cz_ BK1132.out 0 (.int .i64 a0_0);have Z23_1:=cz_ BK1132.out 1 (.int .i64 a0_1);have Z23_2:=cz_ BK1132.out 2 (.slice A0_2 l0_2.length c0_2);have Z23_3:=cz_ BK1132.out 3 (.slice A0_3 l0_3.length c0_3);have Z23_4:=cz_ BK1132.out 4 (.int .i64 a0_4);have Z23_5:=cz_ BK1132.out 5 (.int .i64 a0_5);have Y23_0:=bF_ BK1132.out 0;have Y23_1:=bF_ BK1132.out 1;have Y23_2:=bF_ BK1132.out 2;have Y23_3:=bF_ BK1132.out 3;have Y23_4:=bF_ BK1132.out 4;have Y23_5:=bF_ BK1132.out 5;have Z24_0:=cz_ BK1133.out 0 (.int .i64 a1_0);have Z24_1:=cz_ BK1133.out 1 (.int .i64 a1_1);have Z24_2:=cz_ BK1133.out 2 (.slice A1_2 l1_2.length c1_2);have Z24_3:=cz_ BK1133.out 3 (.slice A1_3 l1_3.length c1_3);have Z24_4:=cz_ BK1133.out 4 (.int .i64 a1_4);have Z24_5:=cz_ BK1133.out 5 (.int .i64 a1_5);have Y24_0:=bF_ BK1133.out 0;have Y24_1:=bF_ BK1133.out 1;have Y24_2:=bF_ BK1133.out 2;have Y24_3:=bF_ BK1133.out 3;have Y24_4:=bF_ BK1133.out 4;have Y24_5:=bF_ BK1133.out 5)|(go_at_call 38;(with_reducible refine (laws_lpRows.calls k _ _ l0_2 _ _ l1_2 true _ ?side1 ?side2 ?side3 ?side4 A5.out).mono ?_);(case side1=>exact cp_ HR0_2.out);(case side2=>exact HC0_2.out);(case side3=>exact cx_ (Kd.C_below HR1_2.out HB.out));(case side4=>exact HC1_2.out);rintro e w' ⟨rfl,⟨nd,rfl⟩⟩)|(go_at_call 32;(with_reducible refine (laws_lpLog.calls k _ _ l0_3 _ _ l1_3 false _ ?side1 ?side2 ?side3 ?side4 A7.out).mono ?_);(case side1=>repeat (first|exact (Kd.C_below HR0_3.out (bel_))|(with_reducible refine Kd.C_alloc ?_ _)|(with_reducible refine Kd.C_drewN ?_ _)|(with_reducible refine Kd.C_drew ?_)));(case side2=>exact HC0_3.out);(case side3=>repeat (first|exact (Kd.C_below HR1_3.out (bel_))|(with_reducible refine Kd.C_alloc ?_ _)|(with_reducible refine Kd.C_drewN ?_ _)|(with_reducible refine Kd.C_drew ?_)));(case side4=>exact HC1_3.out);rintro e w' ⟨rfl,⟨nd,rfl⟩⟩))
     go_ret
     exact ⟨fi_,bel_⟩
   ·replace c6:=Bool.eq_false_iff.mpr c6
    subst c6
    have H1:(some false)=some r:=by rw [if_neg (show ¬ (false=true) by decide)] at H;exact H
    clear H
    have H:=H1
    clear H1
    obtain rfl:=sj_ H
    go_enter Tryd.func59,Tryd.ntmps59
    go_wp2_with (first|((with_reducible refine gD_ (N:=2) rfl ?_);refine bx_ 2 (#[.int .i64 a0_0,.int .i64 a0_1,.slice A0_2 l0_2.length c0_2,.slice A0_3 l0_3.length c0_3,.int .i64 a0_4,.int .i64 a0_5]) 77 ?_;intro gb1132 hg w25 hbox hb;have n0_:=a_ (bS_ (bel_) hb);have n1_:=a_ (hbox);have n2_:=a_ ((by rw [hg];exact (below_size (bel_)):w.heap.size≤gb1132));have n3_:=a_ ((by rw [hg];exact (below_size (bel_)):w.heap.size≤gb1132));clear HB;have HB:=n0_;have BK1132:=n1_;have GW1132:=n2_;have GE1132:=n3_;clear n0_ n1_ n2_ n3_;clear hb hbox hg)|((with_reducible refine gD_ (N:=3) rfl ?_);refine bx_ 3 (#[.int .i64 a1_0,.int .i64 a1_1,.slice A1_2 l1_2.length c1_2,.slice A1_3 l1_3.length c1_3,.int .i64 a1_4,.int .i64 a1_5]) 77 ?_;intro gb1133 hg w26 hbox hb;have n0_:=a_ (bb_ BK1132.out hb);have n1_:=a_ (bS_ (bel_) hb);have n2_:=a_ (hbox);have n3_:=a_ ((by rw [hg];exact (below_size (bel_)):w.heap.size≤gb1133));have n4_:=a_ ((by rw [hg];exact (below_size (bel_)):w.heap.size≤gb1133));have n5_:=a_ ((by rw [hg];exact Nat.ne_of_lt (blk_lt (g:=gb1132) (o:=.cells #[.int .i64 a0_0,.int .i64 a0_1,.slice A0_2 l0_2.length c0_2,.slice A0_3 l0_3.length c0_3,.int .i64 a0_4,.int .i64 a0_5] 77 (0,0)) (bp_ BK1132.out)):gb1132≠gb1133));have n6_:=a_ ((by rw [hg];exact Nat.ne_of_gt (blk_lt (g:=gb1132) (o:=.cells #[.int .i64 a0_0,.int .i64 a0_1,.slice A0_2 l0_2.length c0_2,.slice A0_3 l0_3.length c0_3,.int .i64 a0_4,.int .i64 a0_5] 77 (0,0)) (bp_ BK1132.out)):gb1133≠gb1132));clear BK1132;clear HB;have BK1132:=n0_;have HB:=n1_;have BK1133:=n2_;have GW1133:=n3_;have GE1133:=n4_;have NB1132_1133:=n5_;have NB1133_1132:=n6_;clear n0_ n1_ n2_ n3_ n4_ n5_ n6_;clear hb hbox hg;have hnb27:=NB1132_1133.out;have hnc27:=NB1133_1132.out;have Z28_0:=cz_ BK1132.out 0 (.int .i64 a0_0);have Z28_1:=cz_ BK1132.out 1 (.int .i64 a0_1);have Z28_2:=cz_ BK1132.out 2 (.slice A0_2 l0_2.length c0_2);have Z28_3:=cz_ BK1132.out 3 (.slice A0_3 l0_3.length c0_3);have Z28_4:=cz_ BK1132.out 4 (.int .i64 a0_4);have Z28_5:=cz_ BK1132.out 5 (.int .i64 a0_5);have Y28_0:=bF_ BK1132.out 0;have Y28_1:=bF_ BK1132.out 1;have Y28_2:=bF_ BK1132.out 2;have Y28_3:=bF_ BK1132.out 3;have Y28_4:=bF_ BK1132.out 4;have Y28_5:=bF_ BK1132.out 5;have Z29_0:=cz_ BK1133.out 0 (.int .i64 a1_0);have Z29_1:=cz_ BK1133.out 1 (.int .i64 a1_1);have Z29_2:=cz_ BK1133.out 2 (.slice A1_2 l1_2.length c1_2);have Z29_3:=cz_ BK1133.out 3 (.slice A1_3 l1_3.length c1_3);have Z29_4:=cz_ BK1133.out 4 (.int .i64 a1_4);have Z29_5:=cz_ BK1133.out 5 (.int .i64 a1_5);have Y29_0:=bF_ BK1133.out 0;have Y29_1:=bF_ BK1133.out 1;have Y29_2:=bF_ BK1133.out 2;have Y29_3:=bF_ BK1133.out 3;have Y29_4:=bF_ BK1133.out 4;have Y29_5:=bF_ BK1133.out 5)|(go_at_call 38;(with_reducible refine (laws_lpRows.calls k _ _ l0_2 _ _ l1_2 false _ ?side1 ?side2 ?side3 ?side4 A5.out).mono ?_);(case side1=>exact cp_ HR0_2.out);(case side2=>exact HC0_2.out);(case side3=>exact cx_ (Kd.C_below HR1_2.out HB.out));(case side4=>exact HC1_2.out);rintro e w' ⟨rfl,⟨nd,rfl⟩⟩))
    go_ret
    exact ⟨fi_,bel_⟩
  ·rw [if_neg c4] at H
   have c4b0:(a0_1==a1_1)=false:=bn_ c4
   have c4b1:(a0_1 != a1_1)=true:=bne_iff_ne.mpr c4
   obtain rfl:=sj_ H
   go_enter Tryd.func59,Tryd.ntmps59
   go_wp2_with (first|((with_reducible refine gD_ (N:=2) rfl ?_);refine bx_ 2 (#[.int .i64 a0_0,.int .i64 a0_1,.slice A0_2 l0_2.length c0_2,.slice A0_3 l0_3.length c0_3,.int .i64 a0_4,.int .i64 a0_5]) 77 ?_;intro gb1132 hg w30 hbox hb;have n0_:=a_ (bS_ (bel_) hb);have n1_:=a_ (hbox);have n2_:=a_ ((by rw [hg];exact (below_size (bel_)):w.heap.size≤gb1132));have n3_:=a_ ((by rw [hg];exact (below_size (bel_)):w.heap.size≤gb1132));clear HB;have HB:=n0_;have BK1132:=n1_;have GW1132:=n2_;have GE1132:=n3_;clear n0_ n1_ n2_ n3_;clear hb hbox hg)|((with_reducible refine gD_ (N:=3) rfl ?_);refine bx_ 3 (#[.int .i64 a1_0,.int .i64 a1_1,.slice A1_2 l1_2.length c1_2,.slice A1_3 l1_3.length c1_3,.int .i64 a1_4,.int .i64 a1_5]) 77 ?_;intro gb1133 hg w31 hbox hb;have n0_:=a_ (bb_ BK1132.out hb);have n1_:=a_ (bS_ (bel_) hb);have n2_:=a_ (hbox);have n3_:=a_ ((by rw [hg];exact (below_size (bel_)):w.heap.size≤gb1133));have n4_:=a_ ((by rw [hg];exact (below_size (bel_)):w.heap.size≤gb1133));have n5_:=a_ ((by rw [hg];exact Nat.ne_of_lt (blk_lt (g:=gb1132) (o:=.cells #[.int .i64 a0_0,.int .i64 a0_1,.slice A0_2 l0_2.length c0_2,.slice A0_3 l0_3.length c0_3,.int .i64 a0_4,.int .i64 a0_5] 77 (0,0)) (bp_ BK1132.out)):gb1132≠gb1133));have n6_:=a_ ((by rw [hg];exact Nat.ne_of_gt (blk_lt (g:=gb1132) (o:=.cells #[.int .i64 a0_0,.int .i64 a0_1,.slice A0_2 l0_2.length c0_2,.slice A0_3 l0_3.length c0_3,.int .i64 a0_4,.int .i64 a0_5] 77 (0,0)) (bp_ BK1132.out)):gb1133≠gb1132));clear BK1132;clear HB;have BK1132:=n0_;have HB:=n1_;have BK1133:=n2_;have GW1133:=n3_;have GE1133:=n4_;have NB1132_1133:=n5_;have NB1133_1132:=n6_;clear n0_ n1_ n2_ n3_ n4_ n5_ n6_;clear hb hbox hg;have hnb32:=NB1132_1133.out;have hnc32:=NB1133_1132.out;have Z33_0:=cz_ BK1132.out 0 (.int .i64 a0_0);have Z33_1:=cz_ BK1132.out 1 (.int .i64 a0_1);have Z33_2:=cz_ BK1132.out 2 (.slice A0_2 l0_2.length c0_2);have Z33_3:=cz_ BK1132.out 3 (.slice A0_3 l0_3.length c0_3);have Z33_4:=cz_ BK1132.out 4 (.int .i64 a0_4);have Z33_5:=cz_ BK1132.out 5 (.int .i64 a0_5);have Y33_0:=bF_ BK1132.out 0;have Y33_1:=bF_ BK1132.out 1;have Y33_2:=bF_ BK1132.out 2;have Y33_3:=bF_ BK1132.out 3;have Y33_4:=bF_ BK1132.out 4;have Y33_5:=bF_ BK1132.out 5;have Z34_0:=cz_ BK1133.out 0 (.int .i64 a1_0);have Z34_1:=cz_ BK1133.out 1 (.int .i64 a1_1);have Z34_2:=cz_ BK1133.out 2 (.slice A1_2 l1_2.length c1_2);have Z34_3:=cz_ BK1133.out 3 (.slice A1_3 l1_3.length c1_3);have Z34_4:=cz_ BK1133.out 4 (.int .i64 a1_4);have Z34_5:=cz_ BK1133.out 5 (.int .i64 a1_5);have Y34_0:=bF_ BK1133.out 0;have Y34_1:=bF_ BK1133.out 1;have Y34_2:=bF_ BK1133.out 2;have Y34_3:=bF_ BK1133.out 3;have Y34_4:=bF_ BK1133.out 4;have Y34_5:=bF_ BK1133.out 5))
   go_ret
   exact ⟨fi_,bel_⟩
 ·rw [if_neg c3] at H
  have c3b0:(a0_0==a1_0)=false:=bn_ c3
  have c3b1:(a0_0 != a1_0)=true:=bne_iff_ne.mpr c3
  obtain rfl:=sj_ H
  go_enter Tryd.func59,Tryd.ntmps59
  go_wp2_with (first|((with_reducible refine gD_ (N:=2) rfl ?_);refine bx_ 2 (#[.int .i64 a0_0,.int .i64 a0_1,.slice A0_2 l0_2.length c0_2,.slice A0_3 l0_3.length c0_3,.int .i64 a0_4,.int .i64 a0_5]) 77 ?_;intro gb1132 hg w35 hbox hb;have n0_:=a_ (bS_ (bel_) hb);have n1_:=a_ (hbox);have n2_:=a_ ((by rw [hg];exact (below_size (bel_)):w.heap.size≤gb1132));have n3_:=a_ ((by rw [hg];exact (below_size (bel_)):w.heap.size≤gb1132));clear HB;have HB:=n0_;have BK1132:=n1_;have GW1132:=n2_;have GE1132:=n3_;clear n0_ n1_ n2_ n3_;clear hb hbox hg)|((with_reducible refine gD_ (N:=3) rfl ?_);refine bx_ 3 (#[.int .i64 a1_0,.int .i64 a1_1,.slice A1_2 l1_2.length c1_2,.slice A1_3 l1_3.length c1_3,.int .i64 a1_4,.int .i64 a1_5]) 77 ?_;intro gb1133 hg w36 hbox hb;have n0_:=a_ (bb_ BK1132.out hb);have n1_:=a_ (bS_ (bel_) hb);have n2_:=a_ (hbox);have n3_:=a_ ((by rw [hg];exact (below_size (bel_)):w.heap.size≤gb1133));have n4_:=a_ ((by rw [hg];exact (below_size (bel_)):w.heap.size≤gb1133));have n5_:=a_ ((by rw [hg];exact Nat.ne_of_lt (blk_lt (g:=gb1132) (o:=.cells #[.int .i64 a0_0,.int .i64 a0_1,.slice A0_2 l0_2.length c0_2,.slice A0_3 l0_3.length c0_3,.int .i64 a0_4,.int .i64 a0_5] 77 (0,0)) (bp_ BK1132.out)):gb1132≠gb1133));have n6_:=a_ ((by rw [hg];exact Nat.ne_of_gt (blk_lt (g:=gb1132) (o:=.cells #[.int .i64 a0_0,.int .i64 a0_1,.slice A0_2 l0_2.length c0_2,.slice A0_3 l0_3.length c0_3,.int .i64 a0_4,.int .i64 a0_5] 77 (0,0)) (bp_ BK1132.out)):gb1133≠gb1132));clear BK1132;clear HB;have BK1132:=n0_;have HB:=n1_;have BK1133:=n2_;have GW1133:=n3_;have GE1133:=n4_;have NB1132_1133:=n5_;have NB1133_1132:=n6_;clear n0_ n1_ n2_ n3_ n4_ n5_ n6_;clear hb hbox hg;have hnb37:=NB1132_1133.out;have hnc37:=NB1133_1132.out;have Z38_0:=cz_ BK1132.out 0 (.int .i64 a0_0);have Z38_1:=cz_ BK1132.out 1 (.int .i64 a0_1);have Z38_2:=cz_ BK1132.out 2 (.slice A0_2 l0_2.length c0_2);have Z38_3:=cz_ BK1132.out 3 (.slice A0_3 l0_3.length c0_3);have Z38_4:=cz_ BK1132.out 4 (.int .i64 a0_4);have Z38_5:=cz_ BK1132.out 5 (.int .i64 a0_5);have Y38_0:=bF_ BK1132.out 0;have Y38_1:=bF_ BK1132.out 1;have Y38_2:=bF_ BK1132.out 2;have Y38_3:=bF_ BK1132.out 3;have Y38_4:=bF_ BK1132.out 4;have Y38_5:=bF_ BK1132.out 5;have Z39_0:=cz_ BK1133.out 0 (.int .i64 a1_0);have Z39_1:=cz_ BK1133.out 1 (.int .i64 a1_1);have Z39_2:=cz_ BK1133.out 2 (.slice A1_2 l1_2.length c1_2);have Z39_3:=cz_ BK1133.out 3 (.slice A1_3 l1_3.length c1_3);have Z39_4:=cz_ BK1133.out 4 (.int .i64 a1_4);have Z39_5:=cz_ BK1133.out 5 (.int .i64 a1_5);have Y39_0:=bF_ BK1133.out 0;have Y39_1:=bF_ BK1133.out 1;have Y39_2:=bF_ BK1133.out 2;have Y39_3:=bF_ BK1133.out 3;have Y39_4:=bF_ BK1133.out 4;have Y39_5:=bF_ BK1133.out 5))
  go_ret
  exact ⟨fi_,bel_⟩

mutual
def impl_ClientOk.j0:Nat→Bool→Int→Int→List (S69)→List (S44)→Int→Int→Option (Bool)
 | 0,_,_,_,_,_,_,_=>none
 | k+1,x24,x1137000,x1137001,x1137002,x1137003,x1137004,x1137005=>if x24=true then (some false) else (if x1137004 < 0 then (impl_ClientOk.j1 k true x1137000 x1137001 x1137002 x1137003 x1137004 x1137005) else (if x1137004 > x1137001 then (impl_ClientOk.j1 k true x1137000 x1137001 x1137002 x1137003 x1137004 x1137005) else (if (x1137003.length:Int) > (wrap64 (40 - x1137004)) then (impl_ClientOk.j1 k true x1137000 x1137001 x1137002 x1137003 x1137004 x1137005) else (if x1137005 < 0 then (impl_ClientOk.j1 k true x1137000 x1137001 x1137002 x1137003 x1137004 x1137005) else (impl_ClientOk.j1 k (decide (x1137005 > 6)) x1137000 x1137001 x1137002 x1137003 x1137004 x1137005)))))
def impl_ClientOk.j1:Nat→Bool→Int→Int→List (S69)→List (S44)→Int→Int→Option (Bool)
 | 0,_,_,_,_,_,_,_=>none
 | k+1,x53,x1137000,x1137001,x1137002,x1137003,x1137004,x1137005=>if x53=true then (some false) else (impl_ClientOk.l0 k x1137003 (x1137003.length:Int) 0 x1137000 x1137001 x1137002 x1137003 x1137004 x1137005)
def impl_ClientOk.l0:Nat→List (S44)→Int→Int→Int→Int→List (S69)→List (S44)→Int→Int→Option (Bool)
 | 0,_,_,_,_,_,_,_,_,_=>none
 | k+1,x55,x56,x57,x1137000,x1137001,x1137002,x1137003,x1137004,x1137005=>if x57 < x56 then (if 0≤x57 then (if x57 < (x55.length:Int) then ((impl_EntryOk.f k ((rd_T44 x55 x57).f0) ((rd_T44 x55 x57).f1) ((rd_T44 x55 x57).f2.f0) ((rd_T44 x55 x57).f2.f1) ((rd_T44 x55 x57).f2.f2) ((rd_T44 x55 x57).f2.f3) ((rd_T44 x55 x57).f2.f4)).bind fun t1141=>(if t1141=true then (if ((rd_T44 x55 x57).f0)=x1137000 then (impl_ClientOk.j3 k x55 x56 x57 (((rd_T44 x55 x57).f1) != (wrap64 ((wrap64 (x1137004+x57))+1))) x1137000 x1137001 x1137002 x1137003 x1137004 x1137005 ((rd_T44 x55 x57).f0) ((rd_T44 x55 x57).f1) ((rd_T44 x55 x57).f2.f0) ((rd_T44 x55 x57).f2.f1) ((rd_T44 x55 x57).f2.f2) ((rd_T44 x55 x57).f2.f3) ((rd_T44 x55 x57).f2.f4)) else (impl_ClientOk.j3 k x55 x56 x57 true x1137000 x1137001 x1137002 x1137003 x1137004 x1137005 ((rd_T44 x55 x57).f0) ((rd_T44 x55 x57).f1) ((rd_T44 x55 x57).f2.f0) ((rd_T44 x55 x57).f2.f1) ((rd_T44 x55 x57).f2.f2) ((rd_T44 x55 x57).f2.f3) ((rd_T44 x55 x57).f2.f4))) else (impl_ClientOk.j3 k x55 x56 x57 true x1137000 x1137001 x1137002 x1137003 x1137004 x1137005 ((rd_T44 x55 x57).f0) ((rd_T44 x55 x57).f1) ((rd_T44 x55 x57).f2.f0) ((rd_T44 x55 x57).f2.f1) ((rd_T44 x55 x57).f2.f2) ((rd_T44 x55 x57).f2.f3) ((rd_T44 x55 x57).f2.f4)))) else (none)) else (none)) else (some true)
def impl_ClientOk.j3:Nat→List (S44)→Int→Int→Bool→Int→Int→List (S69)→List (S44)→Int→Int→Int→Int→Int→Int→Int→Int→ByteArray→Option (Bool)
 | 0,_,_,_,_,_,_,_,_,_,_,_,_,_,_,_,_,_=>none
 | k+1,x55,x56,x57,x81,x1137000,x1137001,x1137002,x1137003,x1137004,x1137005,x1141000,x1141001,x1141002,x1141003,x1141004,x1141005,x1141006=>if x81=true then (some false) else (if x1141002=1 then (if x1141003 > (wrap64 ((wrap64 (10 * x1137000))+x1137005)) then (some false) else (impl_ClientOk.l0 k x55 x56 (wrap64 (x57+1)) x1137000 x1137001 x1137002 x1137003 x1137004 x1137005)) else (impl_ClientOk.l0 k x55 x56 (wrap64 (x57+1)) x1137000 x1137001 x1137002 x1137003 x1137004 x1137005))
end
def impl_ClientOk.f (k:Nat) (a0_0:Int) (a0_1:Int) (l0_2:List (S69)) (l0_3:List (S44)) (a0_4:Int) (a0_5:Int):Option (Bool):=(impl_whoOk.f a0_0).bind fun t1137=>(if t1137=true then (if a0_1 < 0 then (impl_ClientOk.j0 k true a0_0 a0_1 l0_2 l0_3 a0_4 a0_5) else (if a0_1 > 40 then (impl_ClientOk.j0 k true a0_0 a0_1 l0_2 l0_3 a0_4 a0_5) else ((impl_TreeOk.f k l0_2).bind fun t1138=>(impl_ClientOk.j0 k (!t1138) a0_0 a0_1 l0_2 l0_3 a0_4 a0_5)))) else (impl_ClientOk.j0 k true a0_0 a0_1 l0_2 l0_3 a0_4 a0_5))
theorem impl_ClientOk.mono_l:∀ k,(∀ y0 y1 y2 y3 y4 y5 y6,LeO (impl_ClientOk.j0 k y0 y1 y2 y3 y4 y5 y6) (impl_ClientOk.j0 (k+1) y0 y1 y2 y3 y4 y5 y6))∧(∀ y0 y1 y2 y3 y4 y5 y6,LeO (impl_ClientOk.j1 k y0 y1 y2 y3 y4 y5 y6) (impl_ClientOk.j1 (k+1) y0 y1 y2 y3 y4 y5 y6))∧(∀ y0 y1 y2 y3 y4 y5 y6 y7 y8,LeO (impl_ClientOk.l0 k y0 y1 y2 y3 y4 y5 y6 y7 y8) (impl_ClientOk.l0 (k+1) y0 y1 y2 y3 y4 y5 y6 y7 y8))∧(∀ y0 y1 y2 y3 y4 y5 y6 y7 y8 y9 y10 y11 y12 y13 y14 y15 y16,LeO (impl_ClientOk.j3 k y0 y1 y2 y3 y4 y5 y6 y7 y8 y9 y10 y11 y12 y13 y14 y15 y16) (impl_ClientOk.j3 (k+1) y0 y1 y2 y3 y4 y5 y6 y7 y8 y9 y10 y11 y12 y13 y14 y15 y16))
 | 0=>⟨fun _ _ _ _ _ _ _ r h=>by simp [impl_ClientOk.j0] at h,fun _ _ _ _ _ _ _ r h=>by simp [impl_ClientOk.j1] at h,fun _ _ _ _ _ _ _ _ _ r h=>by simp [impl_ClientOk.l0] at h,fun _ _ _ _ _ _ _ _ _ _ _ _ _ _ _ _ _ r h=>by simp [impl_ClientOk.j3] at h⟩
 | k+1=>by
  obtain ⟨ih0,ih1,ih2,ih3⟩:=impl_ClientOk.mono_l k
  refine ⟨?_,?_,?_,?_⟩
  all_goals intros
  all_goals first|unfold impl_ClientOk.j0|unfold impl_ClientOk.j1|unfold impl_ClientOk.l0|unfold impl_ClientOk.j3
  all_goals repeat' first
  | (with_reducible exact ih0 _ _ _ _ _ _ _)
  | (with_reducible exact ih1 _ _ _ _ _ _ _)
  | (with_reducible exact ih2 _ _ _ _ _ _ _ _ _)
  | (with_reducible exact ih3 _ _ _ _ _ _ _ _ _ _ _ _ _ _ _ _ _)
  | (with_reducible exact impl_EntryOk.mono _ _ _ _ _ _ _ _)
  | (with_reducible exact impl_TreeOk.mono _ _)
  | (with_reducible exact LeO.refl _)
  | (with_reducible exact LeO.none _)
  | (with_reducible refine LeO.ite ?_ ?_)
  | (with_reducible refine LeO.bind ?_ (fun _=>?_))
  | exact ih0 _ _ _ _ _ _ _
  | exact ih1 _ _ _ _ _ _ _
  | exact ih2 _ _ _ _ _ _ _ _ _
  | exact ih3 _ _ _ _ _ _ _ _ _ _ _ _ _ _ _ _ _
  | exact impl_EntryOk.mono _ _ _ _ _ _ _ _
  | exact impl_TreeOk.mono _ _
  | exact LeO.none _
  | refine LeO.ite ?_ ?_
  | refine LeO.bind ?_ (fun _=>?_)
theorem impl_ClientOk.mono:∀ a0 a1 a2 a3 a4 a5 k,LeO (impl_ClientOk.f k a0 a1 a2 a3 a4 a5) (impl_ClientOk.f (k+1) a0 a1 a2 a3 a4 a5):=by
 intro a0 a1 a2 a3 a4 a5 k
 obtain ⟨ih0,ih1,ih2,ih3⟩:=impl_ClientOk.mono_l k
 unfold impl_ClientOk.f
 repeat' first
   | (with_reducible exact ih0 _ _ _ _ _ _ _)
   | (with_reducible exact ih1 _ _ _ _ _ _ _)
   | (with_reducible exact ih2 _ _ _ _ _ _ _ _ _)
   | (with_reducible exact ih3 _ _ _ _ _ _ _ _ _ _ _ _ _ _ _ _ _)
   | (with_reducible exact impl_EntryOk.mono _ _ _ _ _ _ _ _)
   | (with_reducible exact impl_TreeOk.mono _ _)
   | (with_reducible exact LeO.refl _)
   | (with_reducible exact LeO.none _)
   | (with_reducible refine LeO.ite ?_ ?_)
   | (with_reducible refine LeO.bind ?_ (fun _=>?_))
   | exact ih0 _ _ _ _ _ _ _
   | exact ih1 _ _ _ _ _ _ _
   | exact ih2 _ _ _ _ _ _ _ _ _
   | exact ih3 _ _ _ _ _ _ _ _ _ _ _ _ _ _ _ _ _
   | exact impl_EntryOk.mono _ _ _ _ _ _ _ _
   | exact impl_TreeOk.mono _ _
   | exact LeO.none _
   | refine LeO.ite ?_ ?_
   | refine LeO.bind ?_ (fun _=>?_)
theorem impl_ClientOk.calls (k:Nat) (a0_0:Int) (a0_1:Int) (A0_2:Option Addr) (c0_2:Nat) (l0_2:List (S69)) (A0_3:Option Addr) (c0_3:Nat) (l0_3:List (S44)) (a0_4:Int) (a0_5:Int) (r:Bool) (w:World) (hr0_2:Kd.C k69 w A0_2 l0_2.length l0_2) (hc0_2:l0_2.length≤c0_2) (hr0_3:Kd.C k44 w A0_3 l0_3.length l0_3) (hc0_3:l0_3.length≤c0_3) (h:impl_ClientOk.f k a0_0 a0_1 l0_2 l0_3 a0_4 a0_5=some r) (hG:Glob w) :
  Calls Tryd.prog 60 #[.agg #[.int .i64 a0_0,.int .i64 a0_1,.slice A0_2 l0_2.length c0_2,.slice A0_3 l0_3.length c0_3,.int .i64 a0_4,.int .i64 a0_5]] w fun e w'=>e=.returned (.bool r)∧Below w.heap.size w w':=by
 have hu77:=Tryd.underlying77
 have hu44:=Tryd.underlying44
 have HR0_2:=a_ hr0_2
 have HC0_2:=a_ hc0_2
 clear hr0_2 hc0_2
 have HR0_3:=a_ hr0_3
 have HC0_3:=a_ hc0_3
 clear hr0_3 hc0_3
 have HB:=a_ (Below.refl w.heap.size w)
 have HG:=a_ hG
 clear hG
 unfold impl_ClientOk.f at h
 have H:=h
 clear h
 have HC2:=a_ H
 clear H
 go_enter Tryd.func60,Tryd.ntmps60
 go_upto_region 1 with (first|((with_reducible refine gD_ (N:=1) rfl ?_);refine bx_ 1 (#[.int .i64 a0_0,.int .i64 a0_1,.slice A0_2 l0_2.length c0_2,.slice A0_3 l0_3.length c0_3,.int .i64 a0_4,.int .i64 a0_5]) 77 ?_;intro gb1136 hg w3 hbox hb;have n0_:=a_ (bS_ (bel_) hb);have n1_:=a_ (hbox);have n2_:=a_ ((by rw [hg];exact (below_size (bel_)):w.heap.size≤gb1136));have n3_:=a_ ((by rw [hg];exact (below_size (bel_)):w.heap.size≤gb1136));clear HB;have HB:=n0_;have BK1136:=n1_;have GW1136:=n2_;have GE1136:=n3_;clear n0_ n1_ n2_ n3_;clear hb hbox hg))
 (try simp only [Act.put,List.setIfInBounds_toArray,List.set_cons_zero,List.set_cons_succ])
 go_cut [24] (fun v24 wc=>∃ (kq:Nat) (x24_1:Bool),v24=.bool x24_1∧Aside0 (impl_ClientOk.j0 kq x24_1 a0_0 a0_1 l0_2 l0_3 a0_4 a0_5=some r)∧Aside0 (kq≤k)∧Aside0 (wc.heap[gb1136]?=some (.cells #[.int .i64 a0_0,.int .i64 a0_1,(.slice A0_2 l0_2.length c0_2),(.slice A0_3 l0_3.length c0_3),.int .i64 a0_4,.int .i64 a0_5] 77 (0,0)))∧Aside0 (Below w.heap.size w wc))
 case first =>
  have H:=HC2.out
  clear HC2
  replace H:=bs_ H
  obtain ⟨t1137,A40,H⟩:=H
  try dsimp only at H
  have A4:=a_ A40
  clear A40
  by_cases c5:t1137=true
  ·subst c5
   have H1:(if a0_1 < 0 then (impl_ClientOk.j0 k true a0_0 a0_1 l0_2 l0_3 a0_4 a0_5) else (if a0_1 > 40 then (impl_ClientOk.j0 k true a0_0 a0_1 l0_2 l0_3 a0_4 a0_5) else ((impl_TreeOk.f k l0_2).bind fun t1138=>(impl_ClientOk.j0 k (!t1138) a0_0 a0_1 l0_2 l0_3 a0_4 a0_5))))=some r:=by rw [if_pos rfl] at H;exact H
   clear H
   have H:=H1
   clear H1
   by_cases c6:a0_1 < 0
   ·rw [if_pos c6] at H
    have c6b0:decide (a0_1 < 0)=true:=dt_ c6
    clear c6
    (first|rw [c6b0]|(simp only [i64_w,i32_w];rw [c6b0])|skip)
    have H':=a_ H
    clear H
    have Z7_0:=cz_ BK1136.out 0 (.int .i64 a0_0)
    have Z7_1:=cz_ BK1136.out 1 (.int .i64 a0_1)
    have Z7_2:=cz_ BK1136.out 2 (.slice A0_2 l0_2.length c0_2)
    have Z7_3:=cz_ BK1136.out 3 (.slice A0_3 l0_3.length c0_3)
    have Z7_4:=cz_ BK1136.out 4 (.int .i64 a0_4)
    have Z7_5:=cz_ BK1136.out 5 (.int .i64 a0_5)
    have Y7_0:=bF_ BK1136.out 0
    have Y7_1:=bF_ BK1136.out 1
    have Y7_2:=bF_ BK1136.out 2
    have Y7_3:=bF_ BK1136.out 3
    have Y7_4:=bF_ BK1136.out 4
    have Y7_5:=bF_ BK1136.out 5
    go_wp2_with (first|((with_reducible refine gC_ (f:=104) rfl ?_);refine gl_ 7 Tryd.func104 #[.int .i64 a0_0] ?_;(with_reducible refine (impl_whoOk.calls a0_0 true _ A4.out).mono ?_);rintro e w' ⟨rfl,⟨nd,rfl⟩⟩;refine ⟨_,rfl,?_⟩))
    go_meet
    case rel=>exact ⟨_,(true),(si_),H',⟨by first|omega|exact Nat.le_refl _⟩,⟨by (with_reducible repeat (first|refine bN_ ?_ _|refine bD_ ?_|refine bA_ ?_ _));exact BK1136.out⟩,⟨bel_⟩⟩
   ·rw [if_neg c6] at H
    have c6b0:decide (a0_1 < 0)=false:=df_ c6
    clear c6
    (first|rw [c6b0]|(simp only [i64_w,i32_w];rw [c6b0])|skip)
    by_cases c8:a0_1 > 40
    ·rw [if_pos c8] at H
     have c8b0:decide (40 < a0_1)=true:=dt_ c8
     clear c8
     have H':=a_ H
     clear H
     have Z9_0:=cz_ BK1136.out 0 (.int .i64 a0_0)
     have Z9_1:=cz_ BK1136.out 1 (.int .i64 a0_1)
     have Z9_2:=cz_ BK1136.out 2 (.slice A0_2 l0_2.length c0_2)
     have Z9_3:=cz_ BK1136.out 3 (.slice A0_3 l0_3.length c0_3)
     have Z9_4:=cz_ BK1136.out 4 (.int .i64 a0_4)
     have Z9_5:=cz_ BK1136.out 5 (.int .i64 a0_5)
     have Y9_0:=bF_ BK1136.out 0
     have Y9_1:=bF_ BK1136.out 1
     have Y9_2:=bF_ BK1136.out 2
     have Y9_3:=bF_ BK1136.out 3
     have Y9_4:=bF_ BK1136.out 4
     have Y9_5:=bF_ BK1136.out 5
     go_wp2_with (first|((with_reducible refine gC_ (f:=104) rfl ?_);refine gl_ 7 Tryd.func104 #[.int .i64 a0_0] ?_;(with_reducible refine (impl_whoOk.calls a0_0 true _ A4.out).mono ?_);rintro e w' ⟨rfl,⟨nd,rfl⟩⟩;refine ⟨_,rfl,?_⟩))
     go_meet
     case rel=>exact ⟨_,(true),(si_),H',⟨by first|omega|exact Nat.le_refl _⟩,⟨by (with_reducible repeat (first|refine bN_ ?_ _|refine bD_ ?_|refine bA_ ?_ _));exact BK1136.out⟩,⟨bel_⟩⟩
    ·rw [if_neg c8] at H
     have c8b0:decide (40 < a0_1)=false:=df_ c8
     clear c8
     replace H:=bs_ H
     obtain ⟨t1138,A100,H⟩:=H
     try dsimp only at H
     have A10:=a_ A100
     clear A100
     have H':=a_ H
     clear H
     have Z11_0:=cz_ BK1136.out 0 (.int .i64 a0_0)
     have Z11_1:=cz_ BK1136.out 1 (.int .i64 a0_1)
     have Z11_2:=cz_ BK1136.out 2 (.slice A0_2 l0_2.length c0_2)
     have Z11_3:=cz_ BK1136.out 3 (.slice A0_3 l0_3.length c0_3)
     have Z11_4:=cz_ BK1136.out 4 (.int .i64 a0_4)
     have Z11_5:=cz_ BK1136.out 5 (.int .i64 a0_5)
     have Y11_0:=bF_ BK1136.out 0
     have Y11_1:=bF_ BK1136.out 1
     have Y11_2:=bF_ BK1136.out 2
     have Y11_3:=bF_ BK1136.out 3
     have Y11_4:=bF_ BK1136.out 4
     have Y11_5:=bF_ BK1136.out 5
     go_wp2_with (first|((with_reducible refine gC_ (f:=104) rfl ?_);refine gl_ 7 Tryd.func104 #[.int .i64 a0_0] ?_;(with_reducible refine (impl_whoOk.calls a0_0 true _ A4.out).mono ?_);rintro e w' ⟨rfl,⟨nd,rfl⟩⟩;refine ⟨_,rfl,?_⟩)|(go_at_call 45;(with_reducible refine (impl_TreeOk.calls k _ _ l0_2 t1138 _ ?side1 ?side2 A10.out ?side3).mono ?_);(case side1=>repeat (first|exact (Kd.C_below HR0_2.out (bel_))|(with_reducible refine Kd.C_alloc ?_ _)|(with_reducible refine Kd.C_drewN ?_ _)|(with_reducible refine Kd.C_drew ?_)));(case side2=>exact HC0_2.out);(case side3=>exact Glob.below HG.out (bel_));rintro e w12 ⟨rfl,hb⟩;replace HB:=a_ (bS_ (bel_) hb);replace BK1136:=a_ (bb_ BK1136.out hb);(try clear hb)))
     go_meet
     case rel=>exact ⟨_,(!t1138),(si_),H',⟨by first|omega|exact Nat.le_refl _⟩,⟨by (with_reducible repeat (first|refine bN_ ?_ _|refine bD_ ?_|refine bA_ ?_ _));exact BK1136.out⟩,⟨bel_⟩⟩
  ·replace c5:=Bool.eq_false_iff.mpr c5
   subst c5
   have H1:(impl_ClientOk.j0 k true a0_0 a0_1 l0_2 l0_3 a0_4 a0_5)=some r:=by rw [if_neg (show ¬ (false=true) by decide)] at H;exact H
   clear H
   have H:=H1
   clear H1
   have H':=a_ H
   clear H
   have Z13_0:=cz_ BK1136.out 0 (.int .i64 a0_0)
   have Z13_1:=cz_ BK1136.out 1 (.int .i64 a0_1)
   have Z13_2:=cz_ BK1136.out 2 (.slice A0_2 l0_2.length c0_2)
   have Z13_3:=cz_ BK1136.out 3 (.slice A0_3 l0_3.length c0_3)
   have Z13_4:=cz_ BK1136.out 4 (.int .i64 a0_4)
   have Z13_5:=cz_ BK1136.out 5 (.int .i64 a0_5)
   have Y13_0:=bF_ BK1136.out 0
   have Y13_1:=bF_ BK1136.out 1
   have Y13_2:=bF_ BK1136.out 2
   have Y13_3:=bF_ BK1136.out 3
   have Y13_4:=bF_ BK1136.out 4
   have Y13_5:=bF_ BK1136.out 5
   go_wp2_with (first|((with_reducible refine gC_ (f:=104) rfl ?_);refine gl_ 7 Tryd.func104 #[.int .i64 a0_0] ?_;(with_reducible refine (impl_whoOk.calls a0_0 false _ A4.out).mono ?_);rintro e w' ⟨rfl,⟨nd,rfl⟩⟩;refine ⟨_,rfl,?_⟩))
   go_meet
   case rel=>exact ⟨_,(true),(si_),H',⟨by first|omega|exact Nat.le_refl _⟩,⟨by (with_reducible repeat (first|refine bN_ ?_ _|refine bD_ ?_|refine bA_ ?_ _));exact BK1136.out⟩,⟨bel_⟩⟩
 case rest =>
  clear HC2
  try clear c1
  try clear p2
  try clear c5
  try clear c6
  try clear c6b0
  try clear c8
  try clear c8b0
  try clear c10
  try clear Z11_0
  try clear Z11_1
  try clear Z11_2
  try clear Z11_3
  try clear Z11_4
  try clear Z11_5
  try clear Z13_0
  try clear Z13_1
  try clear Z13_2
  try clear Z13_3
  try clear Z13_4
  try clear Z13_5
  try clear Z7_0
  try clear Z7_1
  try clear Z7_2
  try clear Z7_3
  try clear Z7_4
  try clear Z7_5
  try clear Z9_0
  try clear Z9_1
  try clear Z9_2
  try clear Z9_3
  try clear Z9_4
  try clear Z9_5
  try clear Y11_0
  try clear Y11_1
  try clear Y11_2
  try clear Y11_3
  try clear Y11_4
  try clear Y11_5
  try clear Y13_0
  try clear Y13_1
  try clear Y13_2
  try clear Y13_3
  try clear Y13_4
  try clear Y13_5
  try clear Y7_0
  try clear Y7_1
  try clear Y7_2
  try clear Y7_3
  try clear Y7_4
  try clear Y7_5
  try clear Y9_0
  try clear Y9_1
  try clear Y9_2
  try clear Y9_3
  try clear Y9_4
  try clear Y9_5
  obtain ⟨kq,x24_1,rfl,HA,HJ1,BK1136,HB⟩:=hcut
  cases kq with
  | zero=>exact absurd HA.out (by simp [impl_ClientOk.j0])
  | succ kj1 =>
   have H:=HA.out
   clear HA
   simp only [impl_ClientOk.j0] at H
   by_cases c14:x24_1=true
   ·subst c14
    have H1:(some false)=some r:=by rw [if_pos rfl] at H;exact H
    clear H
    have H:=H1
    clear H1
    obtain rfl:=sj_ H
    go_wp2
    go_ret
    exact ⟨fi_,bel_⟩
   ·replace c14:=Bool.eq_false_iff.mpr c14
    subst c14
    have H1:(if a0_4 < 0 then (impl_ClientOk.j1 kj1 true a0_0 a0_1 l0_2 l0_3 a0_4 a0_5) else (if a0_4 > a0_1 then (impl_ClientOk.j1 kj1 true a0_0 a0_1 l0_2 l0_3 a0_4 a0_5) else (if (l0_3.length:Int) > (wrap64 (40 - a0_4)) then (impl_ClientOk.j1 kj1 true a0_0 a0_1 l0_2 l0_3 a0_4 a0_5) else (if a0_5 < 0 then (impl_ClientOk.j1 kj1 true a0_0 a0_1 l0_2 l0_3 a0_4 a0_5) else (impl_ClientOk.j1 kj1 (decide (a0_5 > 6)) a0_0 a0_1 l0_2 l0_3 a0_4 a0_5)))))=some r:=by rw [if_neg (show ¬ (false=true) by decide)] at H;exact H
    clear H
    have H:=H1
    clear H1
    have HC15:=a_ H
    clear H
    go_upto_region 3 with (fail)
    go_cut [53] (fun v53 wc=>∃ (kq:Nat) (x53_14:Bool),v53=.bool x53_14∧Aside0 (impl_ClientOk.j1 kq x53_14 a0_0 a0_1 l0_2 l0_3 a0_4 a0_5=some r)∧Aside0 (kq≤kj1)∧Aside0 (wc.heap[gb1136]?=some (.cells #[.int .i64 a0_0,.int .i64 a0_1,(.slice A0_2 l0_2.length c0_2),(.slice A0_3 l0_3.length c0_3),.int .i64 a0_4,.int .i64 a0_5] 77 (0,0)))∧Aside0 (Below w.heap.size w wc))
    case first =>
     have H:=HC15.out
     clear HC15
     by_cases c16:a0_4 < 0
     ·rw [if_pos c16] at H
      have c16b0:decide (a0_4 < 0)=true:=dt_ c16
      clear c16
      (first|rw [c16b0]|(simp only [i64_w,i32_w];rw [c16b0])|skip)
      have H':=a_ H
      clear H
      have Z17_0:wc.cell? ⟨gb1136,0,none⟩=some (.int .i64 a0_0):=(bC_ BK1136.out 0).trans rfl
      have Z17_1:wc.cell? ⟨gb1136,1,none⟩=some (.int .i64 a0_1):=(bC_ BK1136.out 1).trans rfl
      have Z17_2:wc.cell? ⟨gb1136,2,none⟩=some (.slice A0_2 l0_2.length c0_2):=(bC_ BK1136.out 2).trans rfl
      have Z17_3:wc.cell? ⟨gb1136,3,none⟩=some (.slice A0_3 l0_3.length c0_3):=(bC_ BK1136.out 3).trans rfl
      have Z17_4:wc.cell? ⟨gb1136,4,none⟩=some (.int .i64 a0_4):=(bC_ BK1136.out 4).trans rfl
      have Z17_5:wc.cell? ⟨gb1136,5,none⟩=some (.int .i64 a0_5):=(bC_ BK1136.out 5).trans rfl
      have Y17_0:=bF_ BK1136.out 0
      have Y17_1:=bF_ BK1136.out 1
      have Y17_2:=bF_ BK1136.out 2
      have Y17_3:=bF_ BK1136.out 3
      have Y17_4:=bF_ BK1136.out 4
      have Y17_5:=bF_ BK1136.out 5
      go_wp2
      go_meet
      case rel=>exact ⟨_,(true),(si_),H',⟨by have:=HJ1.out;first|omega|exact Nat.le_refl _⟩,⟨by (with_reducible repeat (first|refine bN_ ?_ _|refine bD_ ?_|refine bA_ ?_ _));exact BK1136.out⟩,⟨bel_⟩⟩
     ·rw [if_neg c16] at H
      have c16b0:decide (a0_4 < 0)=false:=df_ c16
      clear c16
      (first|rw [c16b0]|(simp only [i64_w,i32_w];rw [c16b0])|skip)
      by_cases c18:a0_4 > a0_1
      ·rw [if_pos c18] at H
       have c18b0:decide (a0_1 < a0_4)=true:=dt_ c18
       clear c18
       have H':=a_ H
       clear H
       have Z19_0:wc.cell? ⟨gb1136,0,none⟩=some (.int .i64 a0_0):=(bC_ BK1136.out 0).trans rfl
       have Z19_1:wc.cell? ⟨gb1136,1,none⟩=some (.int .i64 a0_1):=(bC_ BK1136.out 1).trans rfl
       have Z19_2:wc.cell? ⟨gb1136,2,none⟩=some (.slice A0_2 l0_2.length c0_2):=(bC_ BK1136.out 2).trans rfl
       have Z19_3:wc.cell? ⟨gb1136,3,none⟩=some (.slice A0_3 l0_3.length c0_3):=(bC_ BK1136.out 3).trans rfl
       have Z19_4:wc.cell? ⟨gb1136,4,none⟩=some (.int .i64 a0_4):=(bC_ BK1136.out 4).trans rfl
       have Z19_5:wc.cell? ⟨gb1136,5,none⟩=some (.int .i64 a0_5):=(bC_ BK1136.out 5).trans rfl
       have Y19_0:=bF_ BK1136.out 0
       have Y19_1:=bF_ BK1136.out 1
       have Y19_2:=bF_ BK1136.out 2
       have Y19_3:=bF_ BK1136.out 3
       have Y19_4:=bF_ BK1136.out 4
       have Y19_5:=bF_ BK1136.out 5
       go_wp2
       go_meet
       case rel=>exact ⟨_,(true),(si_),H',⟨by have:=HJ1.out;first|omega|exact Nat.le_refl _⟩,⟨by (with_reducible repeat (first|refine bN_ ?_ _|refine bD_ ?_|refine bA_ ?_ _));exact BK1136.out⟩,⟨bel_⟩⟩
      ·rw [if_neg c18] at H
       have c18b0:decide (a0_1 < a0_4)=false:=df_ c18
       clear c18
       by_cases c20:(l0_3.length:Int) > (wrap64 (40 - a0_4))
       ·rw [if_pos c20] at H
        have c20b0:decide ((wrap64 (40 - a0_4)) < (l0_3.length:Int))=true:=dt_ c20
        clear c20
        have H':=a_ H
        clear H
        have Z21_0:wc.cell? ⟨gb1136,0,none⟩=some (.int .i64 a0_0):=(bC_ BK1136.out 0).trans rfl
        have Z21_1:wc.cell? ⟨gb1136,1,none⟩=some (.int .i64 a0_1):=(bC_ BK1136.out 1).trans rfl
        have Z21_2:wc.cell? ⟨gb1136,2,none⟩=some (.slice A0_2 l0_2.length c0_2):=(bC_ BK1136.out 2).trans rfl
        have Z21_3:wc.cell? ⟨gb1136,3,none⟩=some (.slice A0_3 l0_3.length c0_3):=(bC_ BK1136.out 3).trans rfl
        have Z21_4:wc.cell? ⟨gb1136,4,none⟩=some (.int .i64 a0_4):=(bC_ BK1136.out 4).trans rfl
        have Z21_5:wc.cell? ⟨gb1136,5,none⟩=some (.int .i64 a0_5):=(bC_ BK1136.out 5).trans rfl
        have Y21_0:=bF_ BK1136.out 0
        have Y21_1:=bF_ BK1136.out 1
        have Y21_2:=bF_ BK1136.out 2
        have Y21_3:=bF_ BK1136.out 3
        have Y21_4:=bF_ BK1136.out 4
        have Y21_5:=bF_ BK1136.out 5
        go_wp2
        go_meet
        case rel=>exact ⟨_,(true),(si_),H',⟨by have:=HJ1.out;first|omega|exact Nat.le_refl _⟩,⟨by (with_reducible repeat (first|refine bN_ ?_ _|refine bD_ ?_|refine bA_ ?_ _));exact BK1136.out⟩,⟨bel_⟩⟩
       ·rw [if_neg c20] at H
        have c20b0:decide ((wrap64 (40 - a0_4)) < (l0_3.length:Int))=false:=df_ c20
        clear c20
        by_cases c22:a0_5 < 0
        ·rw [if_pos c22] at H
         have c22b0:decide (a0_5 < 0)=true:=dt_ c22
         clear c22
         have H':=a_ H
         clear H
         have Z23_0:wc.cell? ⟨gb1136,0,none⟩=some (.int .i64 a0_0):=(bC_ BK1136.out 0).trans rfl
         have Z23_1:wc.cell? ⟨gb1136,1,none⟩=some (.int .i64 a0_1):=(bC_ BK1136.out 1).trans rfl
         have Z23_2:wc.cell? ⟨gb1136,2,none⟩=some (.slice A0_2 l0_2.length c0_2):=(bC_ BK1136.out 2).trans rfl
         have Z23_3:wc.cell? ⟨gb1136,3,none⟩=some (.slice A0_3 l0_3.length c0_3):=(bC_ BK1136.out 3).trans rfl
         have Z23_4:wc.cell? ⟨gb1136,4,none⟩=some (.int .i64 a0_4):=(bC_ BK1136.out 4).trans rfl
         have Z23_5:wc.cell? ⟨gb1136,5,none⟩=some (.int .i64 a0_5):=(bC_ BK1136.out 5).trans rfl
         have Y23_0:=bF_ BK1136.out 0
         have Y23_1:=bF_ BK1136.out 1
         have Y23_2:=bF_ BK1136.out 2
         have Y23_3:=bF_ BK1136.out 3
         have Y23_4:=bF_ BK1136.out 4
         have Y23_5:=bF_ BK1136.out 5
         go_wp2
         go_meet
         case rel=>exact ⟨_,(true),(si_),H',⟨by have:=HJ1.out;first|omega|exact Nat.le_refl _⟩,⟨by (with_reducible repeat (first|refine bN_ ?_ _|refine bD_ ?_|refine bA_ ?_ _));exact BK1136.out⟩,⟨bel_⟩⟩
        ·rw [if_neg c22] at H
         have c22b0:decide (a0_5 < 0)=false:=df_ c22
         clear c22
         have H':=a_ H
         clear H
         have Z24_0:wc.cell? ⟨gb1136,0,none⟩=some (.int .i64 a0_0):=(bC_ BK1136.out 0).trans rfl
         have Z24_1:wc.cell? ⟨gb1136,1,none⟩=some (.int .i64 a0_1):=(bC_ BK1136.out 1).trans rfl
         have Z24_2:wc.cell? ⟨gb1136,2,none⟩=some (.slice A0_2 l0_2.length c0_2):=(bC_ BK1136.out 2).trans rfl
         have Z24_3:wc.cell? ⟨gb1136,3,none⟩=some (.slice A0_3 l0_3.length c0_3):=(bC_ BK1136.out 3).trans rfl
         have Z24_4:wc.cell? ⟨gb1136,4,none⟩=some (.int .i64 a0_4):=(bC_ BK1136.out 4).trans rfl
         have Z24_5:wc.cell? ⟨gb1136,5,none⟩=some (.int .i64 a0_5):=(bC_ BK1136.out 5).trans rfl
         have Y24_0:=bF_ BK1136.out 0
         have Y24_1:=bF_ BK1136.out 1
         have Y24_2:=bF_ BK1136.out 2
         have Y24_3:=bF_ BK1136.out 3
         have Y24_4:=bF_ BK1136.out 4
         have Y24_5:=bF_ BK1136.out 5
         go_wp2
         go_meet
         case rel=>exact ⟨_,(decide (a0_5 > 6)),(si_),H',⟨by have:=HJ1.out;first|omega|exact Nat.le_refl _⟩,⟨by (with_reducible repeat (first|refine bN_ ?_ _|refine bD_ ?_|refine bA_ ?_ _));exact BK1136.out⟩,⟨bel_⟩⟩
    case rest =>
     clear HC15
     try clear c1
     try clear c2
     try clear p2
     try clear c5
     try clear c6
     try clear c6b0
     try clear p6
     try clear c8
     try clear c8b0
     try clear c10
     try clear c14
     try clear c16
     try clear c16b0
     try clear c18
     try clear c18b0
     try clear c20
     try clear c20b0
     try clear c22
     try clear c22b0
     try clear Z11_0
     try clear Z11_1
     try clear Z11_2
     try clear Z11_3
     try clear Z11_4
     try clear Z11_5
     try clear Z13_0
     try clear Z13_1
     try clear Z13_2
     try clear Z13_3
     try clear Z13_4
     try clear Z13_5
     try clear Z17_0
     try clear Z17_1
     try clear Z17_2
     try clear Z17_3
     try clear Z17_4
     try clear Z17_5
     try clear Z19_0
     try clear Z19_1
     try clear Z19_2
     try clear Z19_3
     try clear Z19_4
     try clear Z19_5
     try clear Z21_0
     try clear Z21_1
     try clear Z21_2
     try clear Z21_3
     try clear Z21_4
     try clear Z21_5
     try clear Z23_0
     try clear Z23_1
     try clear Z23_2
     try clear Z23_3
     try clear Z23_4
     try clear Z23_5
     try clear Z24_0
     try clear Z24_1
     try clear Z24_2
     try clear Z24_3
     try clear Z24_4
     try clear Z24_5
     try clear Z7_0
     try clear Z7_1
     try clear Z7_2
     try clear Z7_3
     try clear Z7_4
     try clear Z7_5
     try clear Z9_0
     try clear Z9_1
     try clear Z9_2
     try clear Z9_3
     try clear Z9_4
     try clear Z9_5
     try clear Y11_0
     try clear Y11_1
     try clear Y11_2
     try clear Y11_3
     try clear Y11_4
     try clear Y11_5
     try clear Y13_0
     try clear Y13_1
     try clear Y13_2
     try clear Y13_3
     try clear Y13_4
     try clear Y13_5
     try clear Y17_0
     try clear Y17_1
     try clear Y17_2
     try clear Y17_3
     try clear Y17_4
     try clear Y17_5
     try clear Y19_0
     try clear Y19_1
     try clear Y19_2
     try clear Y19_3
     try clear Y19_4
     try clear Y19_5
     try clear Y21_0
     try clear Y21_1
     try clear Y21_2
     try clear Y21_3
     try clear Y21_4
     try clear Y21_5
     try clear Y23_0
     try clear Y23_1
     try clear Y23_2
     try clear Y23_3
     try clear Y23_4
     try clear Y23_5
     try clear Y24_0
     try clear Y24_1
     try clear Y24_2
     try clear Y24_3
     try clear Y24_4
     try clear Y24_5
     try clear Y7_0
     try clear Y7_1
     try clear Y7_2
     try clear Y7_3
     try clear Y7_4
     try clear Y7_5
     try clear Y9_0
     try clear Y9_1
     try clear Y9_2
     try clear Y9_3
     try clear Y9_4
     try clear Y9_5
     try clear p2
     obtain ⟨kq,x53_14,rfl,HA,HJ14,BK1136,HB⟩:=hcut
     cases kq with
     | zero=>exact absurd HA.out (by simp [impl_ClientOk.j1])
     | succ kj14 =>
      have H:=HA.out
      clear HA
      simp only [impl_ClientOk.j1] at H
      by_cases c25:x53_14=true
      ·subst c25
       have H1:(some false)=some r:=by rw [if_pos rfl] at H;exact H
       clear H
       have H:=H1
       clear H1
       obtain rfl:=sj_ H
       go_wp2
       go_ret
       exact ⟨fi_,bel_⟩
      ·replace c25:=Bool.eq_false_iff.mpr c25
       subst c25
       have H1:(impl_ClientOk.l0 kj14 l0_3 (l0_3.length:Int) 0 a0_0 a0_1 l0_2 l0_3 a0_4 a0_5)=some r:=by rw [if_neg (show ¬ (false=true) by decide)] at H;exact H
       clear H
       have H:=H1
       clear H1
       have H':=a_ H
       clear H
       have Z26_0:wc.cell? ⟨gb1136,0,none⟩=some (.int .i64 a0_0):=(bC_ BK1136.out 0).trans rfl
       have Z26_1:wc.cell? ⟨gb1136,1,none⟩=some (.int .i64 a0_1):=(bC_ BK1136.out 1).trans rfl
       have Z26_2:wc.cell? ⟨gb1136,2,none⟩=some (.slice A0_2 l0_2.length c0_2):=(bC_ BK1136.out 2).trans rfl
       have Z26_3:wc.cell? ⟨gb1136,3,none⟩=some (.slice A0_3 l0_3.length c0_3):=(bC_ BK1136.out 3).trans rfl
       have Z26_4:wc.cell? ⟨gb1136,4,none⟩=some (.int .i64 a0_4):=(bC_ BK1136.out 4).trans rfl
       have Z26_5:wc.cell? ⟨gb1136,5,none⟩=some (.int .i64 a0_5):=(bC_ BK1136.out 5).trans rfl
       have Y26_0:=bF_ BK1136.out 0
       have Y26_1:=bF_ BK1136.out 1
       have Y26_2:=bF_ BK1136.out 2
       have Y26_3:=bF_ BK1136.out 3
       have Y26_4:=bF_ BK1136.out 4
       have Y26_5:=bF_ BK1136.out 5
       go_wp2
       go_loopg [57] kj14 (fun kq v57 w'=>∃ (x57_3:Int),v57=.int .i64 x57_3∧Aside0 (impl_ClientOk.l0 kq l0_3 (l0_3.length:Int) x57_3 a0_0 a0_1 l0_2 l0_3 a0_4 a0_5=some r)∧Aside0 (kq≤kj14)∧Aside0 (w'.heap[gb1136]?=some (.cells #[.int .i64 a0_0,.int .i64 a0_1,(.slice A0_2 l0_2.length c0_2),(.slice A0_3 l0_3.length c0_3),.int .i64 a0_4,.int .i64 a0_5] 77 (0,0)))∧Aside0 (Below w.heap.size w w'))
       case atStart=>exact ⟨(0),(si_),H',⟨Nat.le_refl _⟩,⟨by (with_reducible repeat (first|refine bN_ ?_ _|refine bD_ ?_|refine bA_ ?_ _));exact BK1136.out⟩,⟨bel_⟩⟩
       case round =>
        clear H'
        try clear c1
        try clear c2
        try clear p2
        try clear c5
        try clear c6
        try clear c6b0
        try clear p6
        try clear c8
        try clear c8b0
        try clear c10
        try clear c14
        try clear c16
        try clear c16b0
        try clear c18
        try clear c18b0
        try clear c20
        try clear c20b0
        try clear c22
        try clear c22b0
        try clear c25
        try clear Z11_0
        try clear Z11_1
        try clear Z11_2
        try clear Z11_3
        try clear Z11_4
        try clear Z11_5
        try clear Z13_0
        try clear Z13_1
        try clear Z13_2
        try clear Z13_3
        try clear Z13_4
        try clear Z13_5
        try clear Z17_0
        try clear Z17_1
        try clear Z17_2
        try clear Z17_3
        try clear Z17_4
        try clear Z17_5
        try clear Z19_0
        try clear Z19_1
        try clear Z19_2
        try clear Z19_3
        try clear Z19_4
        try clear Z19_5
        try clear Z21_0
        try clear Z21_1
        try clear Z21_2
        try clear Z21_3
        try clear Z21_4
        try clear Z21_5
        try clear Z23_0
        try clear Z23_1
        try clear Z23_2
        try clear Z23_3
        try clear Z23_4
        try clear Z23_5
        try clear Z24_0
        try clear Z24_1
        try clear Z24_2
        try clear Z24_3
        try clear Z24_4
        try clear Z24_5
        try clear Z26_0
        try clear Z26_1
        try clear Z26_2
        try clear Z26_3
        try clear Z26_4
        try clear Z26_5
        try clear Z7_0
        try clear Z7_1
        try clear Z7_2
        try clear Z7_3
        try clear Z7_4
        try clear Z7_5
        try clear Z9_0
        try clear Z9_1
        try clear Z9_2
        try clear Z9_3
        try clear Z9_4
        try clear Z9_5
        try clear Y11_0
        try clear Y11_1
        try clear Y11_2
        try clear Y11_3
        try clear Y11_4
        try clear Y11_5
        try clear Y13_0
        try clear Y13_1
        try clear Y13_2
        try clear Y13_3
        try clear Y13_4
        try clear Y13_5
        try clear Y17_0
        try clear Y17_1
        try clear Y17_2
        try clear Y17_3
        try clear Y17_4
        try clear Y17_5
        try clear Y19_0
        try clear Y19_1
        try clear Y19_2
        try clear Y19_3
        try clear Y19_4
        try clear Y19_5
        try clear Y21_0
        try clear Y21_1
        try clear Y21_2
        try clear Y21_3
        try clear Y21_4
        try clear Y21_5
        try clear Y23_0
        try clear Y23_1
        try clear Y23_2
        try clear Y23_3
        try clear Y23_4
        try clear Y23_5
        try clear Y24_0
        try clear Y24_1
        try clear Y24_2
        try clear Y24_3
        try clear Y24_4
        try clear Y24_5
        try clear Y26_0
        try clear Y26_1
        try clear Y26_2
        try clear Y26_3
        try clear Y26_4
        try clear Y26_5
        try clear Y7_0
        try clear Y7_1
        try clear Y7_2
        try clear Y7_3
        try clear Y7_4
        try clear Y7_5
        try clear Y9_0
        try clear Y9_1
        try clear Y9_2
        try clear Y9_3
        try clear Y9_4
        try clear Y9_5
        try clear p2
        try clear p6
        obtain ⟨x57_3,rfl,HA,HK3,BK1136,HB⟩:=hrel
        cases gk with
        | zero=>exact absurd HA.out (by simp [impl_ClientOk.l0])
        | succ k3 =>
         have H:=HA.out
         clear HA
         simp only [impl_ClientOk.l0] at H
         by_cases c27:x57_3 < (l0_3.length:Int)
         ·rw [if_pos c27] at H
          have c27b0:decide (x57_3 < (l0_3.length:Int))=true:=dt_ c27
          clear c27
          by_cases c28:0≤x57_3
          ·rw [if_pos c28] at H
           have c28b0:decide (0≤x57_3)=true:=dt_ c28
           clear c28
           by_cases c29:x57_3 < (l0_3.length:Int)
           ·rw [if_pos c29] at H
            have c29b0:decide (x57_3 < (l0_3.length:Int))=true:=dt_ c29
            clear c29
            have HC30:=a_ H
            clear H
            have p1139:0≤(x57_3:Int):=od_
            have q1139:x57_3 < (l0_3.length:Int):=od_
            obtain ⟨ad1139,e1139,hx1139_0,hx1139_1,hx1139_2,hx1139_3,hx1139_4,hx1139_5,hx1139_6⟩:=at_T44 HR0_3.out x57_3 p1139 q1139
            cases e1139
            replace hx1139_0:=(cb_ HB.out hx1139_0 :)
            replace hx1139_1:=(cb_ HB.out hx1139_1 :)
            replace hx1139_2:=(cb_ HB.out hx1139_2 :)
            replace hx1139_3:=(cb_ HB.out hx1139_3 :)
            replace hx1139_4:=(cb_ HB.out hx1139_4 :)
            replace hx1139_5:=(cb_ HB.out hx1139_5 :)
            replace hx1139_6:=(cb_ HB.out hx1139_6 :)
            replace p1139:=eq_true p1139
            replace q1139:=eq_true q1139
            go_upto_region 8 with (first|((with_reducible refine gD_ (N:=4) rfl ?_);refine bx_ 4 (#[.int .i64 0,.int .i64 0,.int .i64 0,.int .i64 0,.int .i64 0,.int .i64 0,.string (⟨#[]⟩:ByteArray)]) 44 ?_;intro gb1140 hg w31 hbox hb;have n0_:=a_ (bb_ BK1136.out hb);have n1_:=a_ (bS_ (bel_) hb);have n2_:=a_ (hbox);have n3_:=a_ ((by rw [hg];exact (below_size (bel_)):w.heap.size≤gb1140));have n4_:=a_ ((by rw [hg];exact (below_size (bel_)):w.heap.size≤gb1140));have n5_:=a_ ((by rw [hg];exact Nat.ne_of_lt (blk_lt (g:=gb1136) (o:=.cells #[.int .i64 a0_0,.int .i64 a0_1,.slice A0_2 l0_2.length c0_2,.slice (some ad1139) l0_3.length c0_3,.int .i64 a0_4,.int .i64 a0_5] 77 (0,0)) (bp_ BK1136.out)):gb1136≠gb1140));have n6_:=a_ ((by rw [hg];exact Nat.ne_of_gt (blk_lt (g:=gb1136) (o:=.cells #[.int .i64 a0_0,.int .i64 a0_1,.slice A0_2 l0_2.length c0_2,.slice (some ad1139) l0_3.length c0_3,.int .i64 a0_4,.int .i64 a0_5] 77 (0,0)) (bp_ BK1136.out)):gb1140≠gb1136));clear BK1136;clear HB;have BK1136:=n0_;have HB:=n1_;have BK1140:=n2_;have GW1140:=n3_;have GE1140:=n4_;have NB1136_1140:=n5_;have NB1140_1136:=n6_;clear n0_ n1_ n2_ n3_ n4_ n5_ n6_;clear hb hbox hg;have hnb32:=NB1140_1136.out;have hnc32:=NB1136_1140.out;have Z33_0:=cz_ BK1140.out 0 (.int .i64 0);have Z33_1:=cz_ BK1140.out 1 (.int .i64 0);have Z33_2:=cz_ BK1140.out 2 (.int .i64 0);have Z33_3:=cz_ BK1140.out 3 (.int .i64 0);have Z33_4:=cz_ BK1140.out 4 (.int .i64 0);have Z33_5:=cz_ BK1140.out 5 (.int .i64 0);have Z33_6:=cz_ BK1140.out 6 (.string (⟨#[]⟩:ByteArray));have Y33_0:=bF_ BK1140.out 0;have Y33_1:=bF_ BK1140.out 1;have Y33_2:=bF_ BK1140.out 2;have Y33_3:=bF_ BK1140.out 3;have Y33_4:=bF_ BK1140.out 4;have Y33_5:=bF_ BK1140.out 5;have Y33_6:=bF_ BK1140.out 6))
            (try simp only [Act.put,List.setIfInBounds_toArray,List.set_cons_zero,List.set_cons_succ])
            go_cut [81] (fun v81 wc=>∃ (kq:Nat) (x81_29:Bool),v81=.bool x81_29∧Aside0 (impl_ClientOk.j3 kq l0_3 (l0_3.length:Int) x57_3 x81_29 a0_0 a0_1 l0_2 l0_3 a0_4 a0_5 ((rd_T44 l0_3 x57_3).f0) ((rd_T44 l0_3 x57_3).f1) ((rd_T44 l0_3 x57_3).f2.f0) ((rd_T44 l0_3 x57_3).f2.f1) ((rd_T44 l0_3 x57_3).f2.f2) ((rd_T44 l0_3 x57_3).f2.f3) ((rd_T44 l0_3 x57_3).f2.f4)=some r)∧Aside0 (kq≤k3)∧Aside0 (wc.heap[gb1136]?=some (.cells #[.int .i64 a0_0,.int .i64 a0_1,(.slice A0_2 l0_2.length c0_2),(.slice (some ad1139) l0_3.length c0_3),.int .i64 a0_4,.int .i64 a0_5] 77 (0,0)))∧Aside0 (wc.heap[gb1140]?=some (.cells #[.int .i64 ((rd_T44 l0_3 x57_3).f0),.int .i64 ((rd_T44 l0_3 x57_3).f1),.int .i64 ((rd_T44 l0_3 x57_3).f2.f0),.int .i64 ((rd_T44 l0_3 x57_3).f2.f1),.int .i64 ((rd_T44 l0_3 x57_3).f2.f2),.int .i64 ((rd_T44 l0_3 x57_3).f2.f3),.string ((rd_T44 l0_3 x57_3).f2.f4)] 44 (0,0)))∧Aside0 (Below w.heap.size w wc))
            case first =>
             have H:=HC30.out
             clear HC30
             replace H:=bs_ H
             obtain ⟨t1141,A340,H⟩:=H
             try dsimp only at H
             have A34:=a_ A340
             clear A340
             by_cases c35:t1141=true
             ·subst c35
              have H1:(if ((rd_T44 l0_3 x57_3).f0)=a0_0 then (impl_ClientOk.j3 k3 l0_3 (l0_3.length:Int) x57_3 (((rd_T44 l0_3 x57_3).f1) != (wrap64 ((wrap64 (a0_4+x57_3))+1))) a0_0 a0_1 l0_2 l0_3 a0_4 a0_5 ((rd_T44 l0_3 x57_3).f0) ((rd_T44 l0_3 x57_3).f1) ((rd_T44 l0_3 x57_3).f2.f0) ((rd_T44 l0_3 x57_3).f2.f1) ((rd_T44 l0_3 x57_3).f2.f2) ((rd_T44 l0_3 x57_3).f2.f3) ((rd_T44 l0_3 x57_3).f2.f4)) else (impl_ClientOk.j3 k3 l0_3 (l0_3.length:Int) x57_3 true a0_0 a0_1 l0_2 l0_3 a0_4 a0_5 ((rd_T44 l0_3 x57_3).f0) ((rd_T44 l0_3 x57_3).f1) ((rd_T44 l0_3 x57_3).f2.f0) ((rd_T44 l0_3 x57_3).f2.f1) ((rd_T44 l0_3 x57_3).f2.f2) ((rd_T44 l0_3 x57_3).f2.f3) ((rd_T44 l0_3 x57_3).f2.f4)))=some r:=by rw [if_pos rfl] at H;exact H
              clear H
              have H:=H1
              clear H1
              by_cases c36:((rd_T44 l0_3 x57_3).f0)=a0_0
              ·rw [if_pos c36] at H
               have c36b0:(((rd_T44 l0_3 x57_3).f0)==a0_0)=true:=beq_iff_eq.mpr c36
               have c36b1:(((rd_T44 l0_3 x57_3).f0) != a0_0)=false:=be_ c36
               clear c36
               (first|rw [c36b0]|(simp only [i64_w,i32_w];rw [c36b0])|skip)
               have H':=a_ H
               clear H
               have hnb37:=NB1140_1136.out
               have hnc37:=NB1136_1140.out
               have Z38_0:=cz_ BK1140.out 0 (.int .i64 0)
               have Z38_1:=cz_ BK1140.out 1 (.int .i64 0)
               have Z38_2:=cz_ BK1140.out 2 (.int .i64 0)
               have Z38_3:=cz_ BK1140.out 3 (.int .i64 0)
               have Z38_4:=cz_ BK1140.out 4 (.int .i64 0)
               have Z38_5:=cz_ BK1140.out 5 (.int .i64 0)
               have Z38_6:=cz_ BK1140.out 6 (.string (⟨#[]⟩:ByteArray))
               have Y38_0:=bF_ BK1140.out 0
               have Y38_1:=bF_ BK1140.out 1
               have Y38_2:=bF_ BK1140.out 2
               have Y38_3:=bF_ BK1140.out 3
               have Y38_4:=bF_ BK1140.out 4
               have Y38_5:=bF_ BK1140.out 5
               have Y38_6:=bF_ BK1140.out 6
               go_wp2_with (first|((with_reducible refine gC_ (f:=78) rfl ?_);refine gl_ 63 Tryd.func78 #[.agg #[.int .i64 ((rd_T44 l0_3 x57_3).f0),.int .i64 ((rd_T44 l0_3 x57_3).f1),.int .i64 ((rd_T44 l0_3 x57_3).f2.f0),.int .i64 ((rd_T44 l0_3 x57_3).f2.f1),.int .i64 ((rd_T44 l0_3 x57_3).f2.f2),.int .i64 ((rd_T44 l0_3 x57_3).f2.f3),.string ((rd_T44 l0_3 x57_3).f2.f4)]] ?_;(with_reducible refine (impl_EntryOk.calls k3 ((rd_T44 l0_3 x57_3).f0) ((rd_T44 l0_3 x57_3).f1) ((rd_T44 l0_3 x57_3).f2.f0) ((rd_T44 l0_3 x57_3).f2.f1) ((rd_T44 l0_3 x57_3).f2.f2) ((rd_T44 l0_3 x57_3).f2.f3) ((rd_T44 l0_3 x57_3).f2.f4) true _ A34.out ?side1).mono ?_);(case side1=>exact Glob.below HG.out (bel_));rintro e w39 ⟨rfl,hb⟩;refine ⟨_,rfl,?_⟩;have n0_:=a_ (blk_below (g:=gb1136) (o:=.cells #[.int .i64 a0_0,.int .i64 a0_1,.slice A0_2 l0_2.length c0_2,.slice (some ad1139) l0_3.length c0_3,.int .i64 a0_4,.int .i64 a0_5] 77 (0,0)) (by (with_reducible repeat (first|refine bN_ ?_ _|refine bD_ ?_|refine bA_ ?_ _));refine blk_far ?_ NB1136_1140.out _;(with_reducible repeat (first|refine bN_ ?_ _|refine bD_ ?_|refine bA_ ?_ _));refine blk_far ?_ NB1136_1140.out _;(with_reducible repeat (first|refine bN_ ?_ _|refine bD_ ?_|refine bA_ ?_ _));refine blk_far ?_ NB1136_1140.out _;(with_reducible repeat (first|refine bN_ ?_ _|refine bD_ ?_|refine bA_ ?_ _));refine blk_far ?_ NB1136_1140.out _;(with_reducible repeat (first|refine bN_ ?_ _|refine bD_ ?_|refine bA_ ?_ _));refine blk_far ?_ NB1136_1140.out _;(with_reducible repeat (first|refine bN_ ?_ _|refine bD_ ?_|refine bA_ ?_ _));refine blk_far ?_ NB1136_1140.out _;(with_reducible repeat (first|refine bN_ ?_ _|refine bD_ ?_|refine bA_ ?_ _));refine blk_far ?_ NB1136_1140.out _;(with_reducible repeat (first|refine bN_ ?_ _|refine bD_ ?_|refine bA_ ?_ _));exact BK1136.out) hb);have n1_:=a_ (blk_below (g:=gb1140) (o:=.cells #[.int .i64 ((rd_T44 l0_3 x57_3).f0),.int .i64 ((rd_T44 l0_3 x57_3).f1),.int .i64 ((rd_T44 l0_3 x57_3).f2.f0),.int .i64 ((rd_T44 l0_3 x57_3).f2.f1),.int .i64 ((rd_T44 l0_3 x57_3).f2.f2),.int .i64 ((rd_T44 l0_3 x57_3).f2.f3),.string ((rd_T44 l0_3 x57_3).f2.f4)] 44 (0,0)) (by (with_reducible repeat (first|refine bN_ ?_ _|refine bD_ ?_|refine bA_ ?_ _));refine blk_put (cs:=#[.int .i64 ((rd_T44 l0_3 x57_3).f0),.int .i64 ((rd_T44 l0_3 x57_3).f1),.int .i64 ((rd_T44 l0_3 x57_3).f2.f0),.int .i64 ((rd_T44 l0_3 x57_3).f2.f1),.int .i64 ((rd_T44 l0_3 x57_3).f2.f2),.int .i64 ((rd_T44 l0_3 x57_3).f2.f3),.string (⟨#[]⟩:ByteArray)]) ?_ 6 _ rfl;(with_reducible repeat (first|refine bN_ ?_ _|refine bD_ ?_|refine bA_ ?_ _));refine blk_put (cs:=#[.int .i64 ((rd_T44 l0_3 x57_3).f0),.int .i64 ((rd_T44 l0_3 x57_3).f1),.int .i64 ((rd_T44 l0_3 x57_3).f2.f0),.int .i64 ((rd_T44 l0_3 x57_3).f2.f1),.int .i64 ((rd_T44 l0_3 x57_3).f2.f2),.int .i64 0,.string (⟨#[]⟩:ByteArray)]) ?_ 5 _ rfl;(with_reducible repeat (first|refine bN_ ?_ _|refine bD_ ?_|refine bA_ ?_ _));refine blk_put (cs:=#[.int .i64 ((rd_T44 l0_3 x57_3).f0),.int .i64 ((rd_T44 l0_3 x57_3).f1),.int .i64 ((rd_T44 l0_3 x57_3).f2.f0),.int .i64 ((rd_T44 l0_3 x57_3).f2.f1),.int .i64 0,.int .i64 0,.string (⟨#[]⟩:ByteArray)]) ?_ 4 _ rfl;(with_reducible repeat (first|refine bN_ ?_ _|refine bD_ ?_|refine bA_ ?_ _));refine blk_put (cs:=#[.int .i64 ((rd_T44 l0_3 x57_3).f0),.int .i64 ((rd_T44 l0_3 x57_3).f1),.int .i64 ((rd_T44 l0_3 x57_3).f2.f0),.int .i64 0,.int .i64 0,.int .i64 0,.string (⟨#[]⟩:ByteArray)]) ?_ 3 _ rfl;(with_reducible repeat (first|refine bN_ ?_ _|refine bD_ ?_|refine bA_ ?_ _));refine blk_put (cs:=#[.int .i64 ((rd_T44 l0_3 x57_3).f0),.int .i64 ((rd_T44 l0_3 x57_3).f1),.int .i64 0,.int .i64 0,.int .i64 0,.int .i64 0,.string (⟨#[]⟩:ByteArray)]) ?_ 2 _ rfl;(with_reducible repeat (first|refine bN_ ?_ _|refine bD_ ?_|refine bA_ ?_ _));refine blk_put (cs:=#[.int .i64 ((rd_T44 l0_3 x57_3).f0),.int .i64 0,.int .i64 0,.int .i64 0,.int .i64 0,.int .i64 0,.string (⟨#[]⟩:ByteArray)]) ?_ 1 _ rfl;(with_reducible repeat (first|refine bN_ ?_ _|refine bD_ ?_|refine bA_ ?_ _));refine blk_put (cs:=#[.int .i64 0,.int .i64 0,.int .i64 0,.int .i64 0,.int .i64 0,.int .i64 0,.string (⟨#[]⟩:ByteArray)]) ?_ 0 _ rfl;(with_reducible repeat (first|refine bN_ ?_ _|refine bD_ ?_|refine bA_ ?_ _));exact BK1140.out) hb);have n2_:=a_ (bS_ (bel_) hb);clear BK1136;clear BK1140;clear HB;have BK1136:=n0_;have BK1140:=n1_;have HB:=n2_;clear n0_ n1_ n2_;(try clear hb);have Z40_0:=cz_ BK1140.out 0 (.int .i64 ((rd_T44 l0_3 x57_3).f0));have Z40_1:=cz_ BK1140.out 1 (.int .i64 ((rd_T44 l0_3 x57_3).f1));have Z40_2:=cz_ BK1140.out 2 (.int .i64 ((rd_T44 l0_3 x57_3).f2.f0));have Z40_3:=cz_ BK1140.out 3 (.int .i64 ((rd_T44 l0_3 x57_3).f2.f1));have Z40_4:=cz_ BK1140.out 4 (.int .i64 ((rd_T44 l0_3 x57_3).f2.f2));have Z40_5:=cz_ BK1140.out 5 (.int .i64 ((rd_T44 l0_3 x57_3).f2.f3));have Z40_6:=cz_ BK1140.out 6 (.string ((rd_T44 l0_3 x57_3).f2.f4));have Y40_0:=bF_ BK1140.out 0;have Y40_1:=bF_ BK1140.out 1;have Y40_2:=bF_ BK1140.out 2;have Y40_3:=bF_ BK1140.out 3;have Y40_4:=bF_ BK1140.out 4;have Y40_5:=bF_ BK1140.out 5;have Y40_6:=bF_ BK1140.out 6;have Z41_0:=cz_ BK1136.out 0 (.int .i64 a0_0);have Z41_1:=cz_ BK1136.out 1 (.int .i64 a0_1);have Z41_2:=cz_ BK1136.out 2 (.slice A0_2 l0_2.length c0_2);have Z41_3:=cz_ BK1136.out 3 (.slice (some ad1139) l0_3.length c0_3);have Z41_4:=cz_ BK1136.out 4 (.int .i64 a0_4);have Z41_5:=cz_ BK1136.out 5 (.int .i64 a0_5);have Y41_0:=bF_ BK1136.out 0;have Y41_1:=bF_ BK1136.out 1;have Y41_2:=bF_ BK1136.out 2;have Y41_3:=bF_ BK1136.out 3;have Y41_4:=bF_ BK1136.out 4;have Y41_5:=bF_ BK1136.out 5))
               go_meet
               case rel=>exact ⟨_,((((rd_T44 l0_3 x57_3).f1) != (wrap64 ((wrap64 (a0_4+x57_3))+1)))),(si_),H',⟨by have:=HJ1.out;have:=HJ14.out;have:=HK3.out;first|omega|exact Nat.le_refl _⟩,⟨by (with_reducible repeat (first|refine bN_ ?_ _|refine bD_ ?_|refine bA_ ?_ _));exact BK1136.out⟩,⟨by (with_reducible repeat (first|refine bN_ ?_ _|refine bD_ ?_|refine bA_ ?_ _));exact BK1140.out⟩,⟨bel_⟩⟩
              ·rw [if_neg c36] at H
               have c36b0:(((rd_T44 l0_3 x57_3).f0)==a0_0)=false:=bn_ c36
               have c36b1:(((rd_T44 l0_3 x57_3).f0) != a0_0)=true:=bne_iff_ne.mpr c36
               (first|rw [c36b0]|(simp only [i64_w,i32_w];rw [c36b0])|skip)
               have H':=a_ H
               clear H
               have hnb42:=NB1140_1136.out
               have hnc42:=NB1136_1140.out
               have Z43_0:=cz_ BK1140.out 0 (.int .i64 0)
               have Z43_1:=cz_ BK1140.out 1 (.int .i64 0)
               have Z43_2:=cz_ BK1140.out 2 (.int .i64 0)
               have Z43_3:=cz_ BK1140.out 3 (.int .i64 0)
               have Z43_4:=cz_ BK1140.out 4 (.int .i64 0)
               have Z43_5:=cz_ BK1140.out 5 (.int .i64 0)
               have Z43_6:=cz_ BK1140.out 6 (.string (⟨#[]⟩:ByteArray))
               have Y43_0:=bF_ BK1140.out 0
               have Y43_1:=bF_ BK1140.out 1
               have Y43_2:=bF_ BK1140.out 2
               have Y43_3:=bF_ BK1140.out 3
               have Y43_4:=bF_ BK1140.out 4
               have Y43_5:=bF_ BK1140.out 5
               have Y43_6:=bF_ BK1140.out 6
               go_wp2_with (first|((with_reducible refine gC_ (f:=78) rfl ?_);refine gl_ 63 Tryd.func78 #[.agg #[.int .i64 ((rd_T44 l0_3 x57_3).f0),.int .i64 ((rd_T44 l0_3 x57_3).f1),.int .i64 ((rd_T44 l0_3 x57_3).f2.f0),.int .i64 ((rd_T44 l0_3 x57_3).f2.f1),.int .i64 ((rd_T44 l0_3 x57_3).f2.f2),.int .i64 ((rd_T44 l0_3 x57_3).f2.f3),.string ((rd_T44 l0_3 x57_3).f2.f4)]] ?_;(with_reducible refine (impl_EntryOk.calls k3 ((rd_T44 l0_3 x57_3).f0) ((rd_T44 l0_3 x57_3).f1) ((rd_T44 l0_3 x57_3).f2.f0) ((rd_T44 l0_3 x57_3).f2.f1) ((rd_T44 l0_3 x57_3).f2.f2) ((rd_T44 l0_3 x57_3).f2.f3) ((rd_T44 l0_3 x57_3).f2.f4) true _ A34.out ?side1).mono ?_);(case side1=>exact Glob.below HG.out (bel_));rintro e w44 ⟨rfl,hb⟩;refine ⟨_,rfl,?_⟩;have n0_:=a_ (blk_below (g:=gb1136) (o:=.cells #[.int .i64 a0_0,.int .i64 a0_1,.slice A0_2 l0_2.length c0_2,.slice (some ad1139) l0_3.length c0_3,.int .i64 a0_4,.int .i64 a0_5] 77 (0,0)) (by (with_reducible repeat (first|refine bN_ ?_ _|refine bD_ ?_|refine bA_ ?_ _));refine blk_far ?_ NB1136_1140.out _;(with_reducible repeat (first|refine bN_ ?_ _|refine bD_ ?_|refine bA_ ?_ _));refine blk_far ?_ NB1136_1140.out _;(with_reducible repeat (first|refine bN_ ?_ _|refine bD_ ?_|refine bA_ ?_ _));refine blk_far ?_ NB1136_1140.out _;(with_reducible repeat (first|refine bN_ ?_ _|refine bD_ ?_|refine bA_ ?_ _));refine blk_far ?_ NB1136_1140.out _;(with_reducible repeat (first|refine bN_ ?_ _|refine bD_ ?_|refine bA_ ?_ _));refine blk_far ?_ NB1136_1140.out _;(with_reducible repeat (first|refine bN_ ?_ _|refine bD_ ?_|refine bA_ ?_ _));refine blk_far ?_ NB1136_1140.out _;(with_reducible repeat (first|refine bN_ ?_ _|refine bD_ ?_|refine bA_ ?_ _));refine blk_far ?_ NB1136_1140.out _;(with_reducible repeat (first|refine bN_ ?_ _|refine bD_ ?_|refine bA_ ?_ _));exact BK1136.out) hb);have n1_:=a_ (blk_below (g:=gb1140) (o:=.cells #[.int .i64 ((rd_T44 l0_3 x57_3).f0),.int .i64 ((rd_T44 l0_3 x57_3).f1),.int .i64 ((rd_T44 l0_3 x57_3).f2.f0),.int .i64 ((rd_T44 l0_3 x57_3).f2.f1),.int .i64 ((rd_T44 l0_3 x57_3).f2.f2),.int .i64 ((rd_T44 l0_3 x57_3).f2.f3),.string ((rd_T44 l0_3 x57_3).f2.f4)] 44 (0,0)) (by (with_reducible repeat (first|refine bN_ ?_ _|refine bD_ ?_|refine bA_ ?_ _));refine blk_put (cs:=#[.int .i64 ((rd_T44 l0_3 x57_3).f0),.int .i64 ((rd_T44 l0_3 x57_3).f1),.int .i64 ((rd_T44 l0_3 x57_3).f2.f0),.int .i64 ((rd_T44 l0_3 x57_3).f2.f1),.int .i64 ((rd_T44 l0_3 x57_3).f2.f2),.int .i64 ((rd_T44 l0_3 x57_3).f2.f3),.string (⟨#[]⟩:ByteArray)]) ?_ 6 _ rfl;(with_reducible repeat (first|refine bN_ ?_ _|refine bD_ ?_|refine bA_ ?_ _));refine blk_put (cs:=#[.int .i64 ((rd_T44 l0_3 x57_3).f0),.int .i64 ((rd_T44 l0_3 x57_3).f1),.int .i64 ((rd_T44 l0_3 x57_3).f2.f0),.int .i64 ((rd_T44 l0_3 x57_3).f2.f1),.int .i64 ((rd_T44 l0_3 x57_3).f2.f2),.int .i64 0,.string (⟨#[]⟩:ByteArray)]) ?_ 5 _ rfl;(with_reducible repeat (first|refine bN_ ?_ _|refine bD_ ?_|refine bA_ ?_ _));refine blk_put (cs:=#[.int .i64 ((rd_T44 l0_3 x57_3).f0),.int .i64 ((rd_T44 l0_3 x57_3).f1),.int .i64 ((rd_T44 l0_3 x57_3).f2.f0),.int .i64 ((rd_T44 l0_3 x57_3).f2.f1),.int .i64 0,.int .i64 0,.string (⟨#[]⟩:ByteArray)]) ?_ 4 _ rfl;(with_reducible repeat (first|refine bN_ ?_ _|refine bD_ ?_|refine bA_ ?_ _));refine blk_put (cs:=#[.int .i64 ((rd_T44 l0_3 x57_3).f0),.int .i64 ((rd_T44 l0_3 x57_3).f1),.int .i64 ((rd_T44 l0_3 x57_3).f2.f0),.int .i64 0,.int .i64 0,.int .i64 0,.string (⟨#[]⟩:ByteArray)]) ?_ 3 _ rfl;(with_reducible repeat (first|refine bN_ ?_ _|refine bD_ ?_|refine bA_ ?_ _));refine blk_put (cs:=#[.int .i64 ((rd_T44 l0_3 x57_3).f0),.int .i64 ((rd_T44 l0_3 x57_3).f1),.int .i64 0,.int .i64 0,.int .i64 0,.int .i64 0,.string (⟨#[]⟩:ByteArray)]) ?_ 2 _ rfl;(with_reducible repeat (first|refine bN_ ?_ _|refine bD_ ?_|refine bA_ ?_ _));refine blk_put (cs:=#[.int .i64 ((rd_T44 l0_3 x57_3).f0),.int .i64 0,.int .i64 0,.int .i64 0,.int .i64 0,.int .i64 0,.string (⟨#[]⟩:ByteArray)]) ?_ 1 _ rfl;(with_reducible repeat (first|refine bN_ ?_ _|refine bD_ ?_|refine bA_ ?_ _));refine blk_put (cs:=#[.int .i64 0,.int .i64 0,.int .i64 0,.int .i64 0,.int .i64 0,.int .i64 0,.string (⟨#[]⟩:ByteArray)]) ?_ 0 _ rfl;(with_reducible repeat (first|refine bN_ ?_ _|refine bD_ ?_|refine bA_ ?_ _));exact BK1140.out) hb);have n2_:=a_ (bS_ (bel_) hb);clear BK1136;clear BK1140;clear HB;have BK1136:=n0_;have BK1140:=n1_;have HB:=n2_;clear n0_ n1_ n2_;(try clear hb);have Z45_0:=cz_ BK1140.out 0 (.int .i64 ((rd_T44 l0_3 x57_3).f0));have Z45_1:=cz_ BK1140.out 1 (.int .i64 ((rd_T44 l0_3 x57_3).f1));have Z45_2:=cz_ BK1140.out 2 (.int .i64 ((rd_T44 l0_3 x57_3).f2.f0));have Z45_3:=cz_ BK1140.out 3 (.int .i64 ((rd_T44 l0_3 x57_3).f2.f1));have Z45_4:=cz_ BK1140.out 4 (.int .i64 ((rd_T44 l0_3 x57_3).f2.f2));have Z45_5:=cz_ BK1140.out 5 (.int .i64 ((rd_T44 l0_3 x57_3).f2.f3));have Z45_6:=cz_ BK1140.out 6 (.string ((rd_T44 l0_3 x57_3).f2.f4));have Y45_0:=bF_ BK1140.out 0;have Y45_1:=bF_ BK1140.out 1;have Y45_2:=bF_ BK1140.out 2;have Y45_3:=bF_ BK1140.out 3;have Y45_4:=bF_ BK1140.out 4;have Y45_5:=bF_ BK1140.out 5;have Y45_6:=bF_ BK1140.out 6;have Z46_0:=cz_ BK1136.out 0 (.int .i64 a0_0);have Z46_1:=cz_ BK1136.out 1 (.int .i64 a0_1);have Z46_2:=cz_ BK1136.out 2 (.slice A0_2 l0_2.length c0_2);have Z46_3:=cz_ BK1136.out 3 (.slice (some ad1139) l0_3.length c0_3);have Z46_4:=cz_ BK1136.out 4 (.int .i64 a0_4);have Z46_5:=cz_ BK1136.out 5 (.int .i64 a0_5);have Y46_0:=bF_ BK1136.out 0;have Y46_1:=bF_ BK1136.out 1;have Y46_2:=bF_ BK1136.out 2;have Y46_3:=bF_ BK1136.out 3;have Y46_4:=bF_ BK1136.out 4;have Y46_5:=bF_ BK1136.out 5))
               go_meet
               case rel=>exact ⟨_,(true),(si_),H',⟨by have:=HJ1.out;have:=HJ14.out;have:=HK3.out;first|omega|exact Nat.le_refl _⟩,⟨by (with_reducible repeat (first|refine bN_ ?_ _|refine bD_ ?_|refine bA_ ?_ _));exact BK1136.out⟩,⟨by (with_reducible repeat (first|refine bN_ ?_ _|refine bD_ ?_|refine bA_ ?_ _));exact BK1140.out⟩,⟨bel_⟩⟩
             ·replace c35:=Bool.eq_false_iff.mpr c35
              subst c35
              have H1:(impl_ClientOk.j3 k3 l0_3 (l0_3.length:Int) x57_3 true a0_0 a0_1 l0_2 l0_3 a0_4 a0_5 ((rd_T44 l0_3 x57_3).f0) ((rd_T44 l0_3 x57_3).f1) ((rd_T44 l0_3 x57_3).f2.f0) ((rd_T44 l0_3 x57_3).f2.f1) ((rd_T44 l0_3 x57_3).f2.f2) ((rd_T44 l0_3 x57_3).f2.f3) ((rd_T44 l0_3 x57_3).f2.f4))=some r:=by rw [if_neg (show ¬ (false=true) by decide)] at H;exact H
              clear H
              have H:=H1
              clear H1
              have H':=a_ H
              clear H
              have hnb47:=NB1140_1136.out
              have hnc47:=NB1136_1140.out
              have Z48_0:=cz_ BK1140.out 0 (.int .i64 0)
              have Z48_1:=cz_ BK1140.out 1 (.int .i64 0)
              have Z48_2:=cz_ BK1140.out 2 (.int .i64 0)
              have Z48_3:=cz_ BK1140.out 3 (.int .i64 0)
              have Z48_4:=cz_ BK1140.out 4 (.int .i64 0)
              have Z48_5:=cz_ BK1140.out 5 (.int .i64 0)
              have Z48_6:=cz_ BK1140.out 6 (.string (⟨#[]⟩:ByteArray))
              have Y48_0:=bF_ BK1140.out 0
              have Y48_1:=bF_ BK1140.out 1
              have Y48_2:=bF_ BK1140.out 2
              have Y48_3:=bF_ BK1140.out 3
              have Y48_4:=bF_ BK1140.out 4
              have Y48_5:=bF_ BK1140.out 5
              have Y48_6:=bF_ BK1140.out 6
              go_wp2_with (first|((with_reducible refine gC_ (f:=78) rfl ?_);refine gl_ 63 Tryd.func78 #[.agg #[.int .i64 ((rd_T44 l0_3 x57_3).f0),.int .i64 ((rd_T44 l0_3 x57_3).f1),.int .i64 ((rd_T44 l0_3 x57_3).f2.f0),.int .i64 ((rd_T44 l0_3 x57_3).f2.f1),.int .i64 ((rd_T44 l0_3 x57_3).f2.f2),.int .i64 ((rd_T44 l0_3 x57_3).f2.f3),.string ((rd_T44 l0_3 x57_3).f2.f4)]] ?_;(with_reducible refine (impl_EntryOk.calls k3 ((rd_T44 l0_3 x57_3).f0) ((rd_T44 l0_3 x57_3).f1) ((rd_T44 l0_3 x57_3).f2.f0) ((rd_T44 l0_3 x57_3).f2.f1) ((rd_T44 l0_3 x57_3).f2.f2) ((rd_T44 l0_3 x57_3).f2.f3) ((rd_T44 l0_3 x57_3).f2.f4) false _ A34.out ?side1).mono ?_);(case side1=>exact Glob.below HG.out (bel_));rintro e w49 ⟨rfl,hb⟩;refine ⟨_,rfl,?_⟩;have n0_:=a_ (blk_below (g:=gb1136) (o:=.cells #[.int .i64 a0_0,.int .i64 a0_1,.slice A0_2 l0_2.length c0_2,.slice (some ad1139) l0_3.length c0_3,.int .i64 a0_4,.int .i64 a0_5] 77 (0,0)) (by (with_reducible repeat (first|refine bN_ ?_ _|refine bD_ ?_|refine bA_ ?_ _));refine blk_far ?_ NB1136_1140.out _;(with_reducible repeat (first|refine bN_ ?_ _|refine bD_ ?_|refine bA_ ?_ _));refine blk_far ?_ NB1136_1140.out _;(with_reducible repeat (first|refine bN_ ?_ _|refine bD_ ?_|refine bA_ ?_ _));refine blk_far ?_ NB1136_1140.out _;(with_reducible repeat (first|refine bN_ ?_ _|refine bD_ ?_|refine bA_ ?_ _));refine blk_far ?_ NB1136_1140.out _;(with_reducible repeat (first|refine bN_ ?_ _|refine bD_ ?_|refine bA_ ?_ _));refine blk_far ?_ NB1136_1140.out _;(with_reducible repeat (first|refine bN_ ?_ _|refine bD_ ?_|refine bA_ ?_ _));refine blk_far ?_ NB1136_1140.out _;(with_reducible repeat (first|refine bN_ ?_ _|refine bD_ ?_|refine bA_ ?_ _));refine blk_far ?_ NB1136_1140.out _;(with_reducible repeat (first|refine bN_ ?_ _|refine bD_ ?_|refine bA_ ?_ _));exact BK1136.out) hb);have n1_:=a_ (blk_below (g:=gb1140) (o:=.cells #[.int .i64 ((rd_T44 l0_3 x57_3).f0),.int .i64 ((rd_T44 l0_3 x57_3).f1),.int .i64 ((rd_T44 l0_3 x57_3).f2.f0),.int .i64 ((rd_T44 l0_3 x57_3).f2.f1),.int .i64 ((rd_T44 l0_3 x57_3).f2.f2),.int .i64 ((rd_T44 l0_3 x57_3).f2.f3),.string ((rd_T44 l0_3 x57_3).f2.f4)] 44 (0,0)) (by (with_reducible repeat (first|refine bN_ ?_ _|refine bD_ ?_|refine bA_ ?_ _));refine blk_put (cs:=#[.int .i64 ((rd_T44 l0_3 x57_3).f0),.int .i64 ((rd_T44 l0_3 x57_3).f1),.int .i64 ((rd_T44 l0_3 x57_3).f2.f0),.int .i64 ((rd_T44 l0_3 x57_3).f2.f1),.int .i64 ((rd_T44 l0_3 x57_3).f2.f2),.int .i64 ((rd_T44 l0_3 x57_3).f2.f3),.string (⟨#[]⟩:ByteArray)]) ?_ 6 _ rfl;(with_reducible repeat (first|refine bN_ ?_ _|refine bD_ ?_|refine bA_ ?_ _));refine blk_put (cs:=#[.int .i64 ((rd_T44 l0_3 x57_3).f0),.int .i64 ((rd_T44 l0_3 x57_3).f1),.int .i64 ((rd_T44 l0_3 x57_3).f2.f0),.int .i64 ((rd_T44 l0_3 x57_3).f2.f1),.int .i64 ((rd_T44 l0_3 x57_3).f2.f2),.int .i64 0,.string (⟨#[]⟩:ByteArray)]) ?_ 5 _ rfl;(with_reducible repeat (first|refine bN_ ?_ _|refine bD_ ?_|refine bA_ ?_ _));refine blk_put (cs:=#[.int .i64 ((rd_T44 l0_3 x57_3).f0),.int .i64 ((rd_T44 l0_3 x57_3).f1),.int .i64 ((rd_T44 l0_3 x57_3).f2.f0),.int .i64 ((rd_T44 l0_3 x57_3).f2.f1),.int .i64 0,.int .i64 0,.string (⟨#[]⟩:ByteArray)]) ?_ 4 _ rfl;(with_reducible repeat (first|refine bN_ ?_ _|refine bD_ ?_|refine bA_ ?_ _));refine blk_put (cs:=#[.int .i64 ((rd_T44 l0_3 x57_3).f0),.int .i64 ((rd_T44 l0_3 x57_3).f1),.int .i64 ((rd_T44 l0_3 x57_3).f2.f0),.int .i64 0,.int .i64 0,.int .i64 0,.string (⟨#[]⟩:ByteArray)]) ?_ 3 _ rfl;(with_reducible repeat (first|refine bN_ ?_ _|refine bD_ ?_|refine bA_ ?_ _));refine blk_put (cs:=#[.int .i64 ((rd_T44 l0_3 x57_3).f0),.int .i64 ((rd_T44 l0_3 x57_3).f1),.int .i64 0,.int .i64 0,.int .i64 0,.int .i64 0,.string (⟨#[]⟩:ByteArray)]) ?_ 2 _ rfl;(with_reducible repeat (first|refine bN_ ?_ _|refine bD_ ?_|refine bA_ ?_ _));refine blk_put (cs:=#[.int .i64 ((rd_T44 l0_3 x57_3).f0),.int .i64 0,.int .i64 0,.int .i64 0,.int .i64 0,.int .i64 0,.string (⟨#[]⟩:ByteArray)]) ?_ 1 _ rfl;(with_reducible repeat (first|refine bN_ ?_ _|refine bD_ ?_|refine bA_ ?_ _));refine blk_put (cs:=#[.int .i64 0,.int .i64 0,.int .i64 0,.int .i64 0,.int .i64 0,.int .i64 0,.string (⟨#[]⟩:ByteArray)]) ?_ 0 _ rfl;(with_reducible repeat (first|refine bN_ ?_ _|refine bD_ ?_|refine bA_ ?_ _));exact BK1140.out) hb);have n2_:=a_ (bS_ (bel_) hb);clear BK1136;clear BK1140;clear HB;have BK1136:=n0_;have BK1140:=n1_;have HB:=n2_;clear n0_ n1_ n2_;(try clear hb)))
              go_meet
              case rel=>exact ⟨_,(true),(si_),H',⟨by have:=HJ1.out;have:=HJ14.out;have:=HK3.out;first|omega|exact Nat.le_refl _⟩,⟨by (with_reducible repeat (first|refine bN_ ?_ _|refine bD_ ?_|refine bA_ ?_ _));exact BK1136.out⟩,⟨by (with_reducible repeat (first|refine bN_ ?_ _|refine bD_ ?_|refine bA_ ?_ _));exact BK1140.out⟩,⟨bel_⟩⟩
            case rest =>
             clear HC30
             try clear c1
             try clear p1
             try clear q1
             try clear hx1
             try clear c2
             try clear p2
             try clear c3
             try clear c4
             try clear c5
             try clear c6
             try clear c6b0
             try clear p6
             try clear c7
             try clear c8
             try clear c8b0
             try clear c10
             try clear p11
             try clear q11
             try clear hx11
             try clear c14
             try clear c16
             try clear c16b0
             try clear c18
             try clear c18b0
             try clear c20
             try clear c20b0
             try clear c22
             try clear c22b0
             try clear c25
             try clear c27
             try clear c27b0
             try clear c28
             try clear c28b0
             try clear c29
             try clear c29b0
             try clear c32
             try clear c35
             try clear c36
             try clear c36b0
             try clear c36b1
             try clear c37
             try clear c42
             try clear c47
             try clear Z11_0
             try clear Z11_1
             try clear Z11_2
             try clear Z11_3
             try clear Z11_4
             try clear Z11_5
             try clear Z13_0
             try clear Z13_1
             try clear Z13_2
             try clear Z13_3
             try clear Z13_4
             try clear Z13_5
             try clear Z17_0
             try clear Z17_1
             try clear Z17_2
             try clear Z17_3
             try clear Z17_4
             try clear Z17_5
             try clear Z19_0
             try clear Z19_1
             try clear Z19_2
             try clear Z19_3
             try clear Z19_4
             try clear Z19_5
             try clear Z21_0
             try clear Z21_1
             try clear Z21_2
             try clear Z21_3
             try clear Z21_4
             try clear Z21_5
             try clear Z23_0
             try clear Z23_1
             try clear Z23_2
             try clear Z23_3
             try clear Z23_4
             try clear Z23_5
             try clear Z24_0
             try clear Z24_1
             try clear Z24_2
             try clear Z24_3
             try clear Z24_4
             try clear Z24_5
             try clear Z26_0
             try clear Z26_1
             try clear Z26_2
             try clear Z26_3
             try clear Z26_4
             try clear Z26_5
             try clear Z33_0
             try clear Z33_1
             try clear Z33_2
             try clear Z33_3
             try clear Z33_4
             try clear Z33_5
             try clear Z33_6
             try clear Z38_0
             try clear Z38_1
             try clear Z38_2
             try clear Z38_3
             try clear Z38_4
             try clear Z38_5
             try clear Z38_6
             try clear Z40_0
             try clear Z40_1
             try clear Z40_2
             try clear Z40_3
             try clear Z40_4
             try clear Z40_5
             try clear Z40_6
             try clear Z41_0
             try clear Z41_1
             try clear Z41_2
             try clear Z41_3
             try clear Z41_4
             try clear Z41_5
             try clear Z43_0
             try clear Z43_1
             try clear Z43_2
             try clear Z43_3
             try clear Z43_4
             try clear Z43_5
             try clear Z43_6
             try clear Z45_0
             try clear Z45_1
             try clear Z45_2
             try clear Z45_3
             try clear Z45_4
             try clear Z45_5
             try clear Z45_6
             try clear Z46_0
             try clear Z46_1
             try clear Z46_2
             try clear Z46_3
             try clear Z46_4
             try clear Z46_5
             try clear Z48_0
             try clear Z48_1
             try clear Z48_2
             try clear Z48_3
             try clear Z48_4
             try clear Z48_5
             try clear Z48_6
             try clear Z7_0
             try clear Z7_1
             try clear Z7_2
             try clear Z7_3
             try clear Z7_4
             try clear Z7_5
             try clear Z9_0
             try clear Z9_1
             try clear Z9_2
             try clear Z9_3
             try clear Z9_4
             try clear Z9_5
             try clear Y11_0
             try clear Y11_1
             try clear Y11_2
             try clear Y11_3
             try clear Y11_4
             try clear Y11_5
             try clear Y13_0
             try clear Y13_1
             try clear Y13_2
             try clear Y13_3
             try clear Y13_4
             try clear Y13_5
             try clear Y17_0
             try clear Y17_1
             try clear Y17_2
             try clear Y17_3
             try clear Y17_4
             try clear Y17_5
             try clear Y19_0
             try clear Y19_1
             try clear Y19_2
             try clear Y19_3
             try clear Y19_4
             try clear Y19_5
             try clear Y21_0
             try clear Y21_1
             try clear Y21_2
             try clear Y21_3
             try clear Y21_4
             try clear Y21_5
             try clear Y23_0
             try clear Y23_1
             try clear Y23_2
             try clear Y23_3
             try clear Y23_4
             try clear Y23_5
             try clear Y24_0
             try clear Y24_1
             try clear Y24_2
             try clear Y24_3
             try clear Y24_4
             try clear Y24_5
             try clear Y26_0
             try clear Y26_1
             try clear Y26_2
             try clear Y26_3
             try clear Y26_4
             try clear Y26_5
             try clear Y33_0
             try clear Y33_1
             try clear Y33_2
             try clear Y33_3
             try clear Y33_4
             try clear Y33_5
             try clear Y33_6
             try clear Y38_0
             try clear Y38_1
             try clear Y38_2
             try clear Y38_3
             try clear Y38_4
             try clear Y38_5
             try clear Y38_6
             try clear Y40_0
             try clear Y40_1
             try clear Y40_2
             try clear Y40_3
             try clear Y40_4
             try clear Y40_5
             try clear Y40_6
             try clear Y41_0
             try clear Y41_1
             try clear Y41_2
             try clear Y41_3
             try clear Y41_4
             try clear Y41_5
             try clear Y43_0
             try clear Y43_1
             try clear Y43_2
             try clear Y43_3
             try clear Y43_4
             try clear Y43_5
             try clear Y43_6
             try clear Y45_0
             try clear Y45_1
             try clear Y45_2
             try clear Y45_3
             try clear Y45_4
             try clear Y45_5
             try clear Y45_6
             try clear Y46_0
             try clear Y46_1
             try clear Y46_2
             try clear Y46_3
             try clear Y46_4
             try clear Y46_5
             try clear Y48_0
             try clear Y48_1
             try clear Y48_2
             try clear Y48_3
             try clear Y48_4
             try clear Y48_5
             try clear Y48_6
             try clear Y7_0
             try clear Y7_1
             try clear Y7_2
             try clear Y7_3
             try clear Y7_4
             try clear Y7_5
             try clear Y9_0
             try clear Y9_1
             try clear Y9_2
             try clear Y9_3
             try clear Y9_4
             try clear Y9_5
             try clear hx1139_0
             try clear hx1139_1
             try clear hx1139_2
             try clear hx1139_3
             try clear hx1139_4
             try clear hx1139_5
             try clear hx1139_6
             try clear p1139
             try clear p2
             try clear p6
             try clear q1139
             obtain ⟨kq,x81_29,rfl,HA,HJ29,BK1136,BK1140,HB⟩:=hcut
             cases kq with
             | zero=>exact absurd HA.out (by simp [impl_ClientOk.j3])
             | succ kj29 =>
              have H:=HA.out
              clear HA
              simp only [impl_ClientOk.j3] at H
              by_cases c50:x81_29=true
              ·subst c50
               have H1:(some false)=some r:=by rw [if_pos rfl] at H;exact H
               clear H
               have H:=H1
               clear H1
               obtain rfl:=sj_ H
               go_wp2
               go_ret
               exact ⟨fi_,bel_⟩
              ·replace c50:=Bool.eq_false_iff.mpr c50
               subst c50
               have H1:(if ((rd_T44 l0_3 x57_3).f2.f0)=1 then (if ((rd_T44 l0_3 x57_3).f2.f1) > (wrap64 ((wrap64 (10 * a0_0))+a0_5)) then (some false) else (impl_ClientOk.l0 kj29 l0_3 (l0_3.length:Int) (wrap64 (x57_3+1)) a0_0 a0_1 l0_2 l0_3 a0_4 a0_5)) else (impl_ClientOk.l0 kj29 l0_3 (l0_3.length:Int) (wrap64 (x57_3+1)) a0_0 a0_1 l0_2 l0_3 a0_4 a0_5))=some r:=by rw [if_neg (show ¬ (false=true) by decide)] at H;exact H
               clear H
               have H:=H1
               clear H1
               by_cases c51:((rd_T44 l0_3 x57_3).f2.f0)=1
               ·rw [if_pos c51] at H
                have c51b0:(((rd_T44 l0_3 x57_3).f2.f0)==1)=true:=beq_iff_eq.mpr c51
                have c51b1:(((rd_T44 l0_3 x57_3).f2.f0) != 1)=false:=be_ c51
                clear c51
                by_cases c52:((rd_T44 l0_3 x57_3).f2.f1) > (wrap64 ((wrap64 (10 * a0_0))+a0_5))
                ·rw [if_pos c52] at H
                 have c52b0:decide ((wrap64 ((wrap64 (10 * a0_0))+a0_5)) < ((rd_T44 l0_3 x57_3).f2.f1))=true:=dt_ c52
                 clear c52
                 obtain rfl:=sj_ H
                 have hnb53:=NB1140_1136.out
                 have hnc53:=NB1136_1140.out
                 have Z54_0:wc.cell? ⟨gb1140,0,none⟩=some (.int .i64 ((rd_T44 l0_3 x57_3).f0)):=(bC_ BK1140.out 0).trans rfl
                 have Z54_1:wc.cell? ⟨gb1140,1,none⟩=some (.int .i64 ((rd_T44 l0_3 x57_3).f1)):=(bC_ BK1140.out 1).trans rfl
                 have Z54_2:wc.cell? ⟨gb1140,2,none⟩=some (.int .i64 ((rd_T44 l0_3 x57_3).f2.f0)):=(bC_ BK1140.out 2).trans rfl
                 have Z54_3:wc.cell? ⟨gb1140,3,none⟩=some (.int .i64 ((rd_T44 l0_3 x57_3).f2.f1)):=(bC_ BK1140.out 3).trans rfl
                 have Z54_4:wc.cell? ⟨gb1140,4,none⟩=some (.int .i64 ((rd_T44 l0_3 x57_3).f2.f2)):=(bC_ BK1140.out 4).trans rfl
                 have Z54_5:wc.cell? ⟨gb1140,5,none⟩=some (.int .i64 ((rd_T44 l0_3 x57_3).f2.f3)):=(bC_ BK1140.out 5).trans rfl
                 have Z54_6:wc.cell? ⟨gb1140,6,none⟩=some (.string ((rd_T44 l0_3 x57_3).f2.f4)):=(bC_ BK1140.out 6).trans rfl
                 have Y54_0:=bF_ BK1140.out 0
                 have Y54_1:=bF_ BK1140.out 1
                 have Y54_2:=bF_ BK1140.out 2
                 have Y54_3:=bF_ BK1140.out 3
                 have Y54_4:=bF_ BK1140.out 4
                 have Y54_5:=bF_ BK1140.out 5
                 have Y54_6:=bF_ BK1140.out 6
                 have Z55_0:wc.cell? ⟨gb1136,0,none⟩=some (.int .i64 a0_0):=(bC_ BK1136.out 0).trans rfl
                 have Z55_1:wc.cell? ⟨gb1136,1,none⟩=some (.int .i64 a0_1):=(bC_ BK1136.out 1).trans rfl
                 have Z55_2:wc.cell? ⟨gb1136,2,none⟩=some (.slice A0_2 l0_2.length c0_2):=(bC_ BK1136.out 2).trans rfl
                 have Z55_3:wc.cell? ⟨gb1136,3,none⟩=some (.slice (some ad1139) l0_3.length c0_3):=(bC_ BK1136.out 3).trans rfl
                 have Z55_4:wc.cell? ⟨gb1136,4,none⟩=some (.int .i64 a0_4):=(bC_ BK1136.out 4).trans rfl
                 have Z55_5:wc.cell? ⟨gb1136,5,none⟩=some (.int .i64 a0_5):=(bC_ BK1136.out 5).trans rfl
                 have Y55_0:=bF_ BK1136.out 0
                 have Y55_1:=bF_ BK1136.out 1
                 have Y55_2:=bF_ BK1136.out 2
                 have Y55_3:=bF_ BK1136.out 3
                 have Y55_4:=bF_ BK1136.out 4
                 have Y55_5:=bF_ BK1136.out 5
                 go_wp2
                 go_ret
                 exact ⟨fi_,bel_⟩
                ·rw [if_neg c52] at H
                 have c52b0:decide ((wrap64 ((wrap64 (10 * a0_0))+a0_5)) < ((rd_T44 l0_3 x57_3).f2.f1))=false:=df_ c52
                 clear c52
                 have H':=a_ H
                 clear H
                 have hnb56:=NB1140_1136.out
                 have hnc56:=NB1136_1140.out
                 have Z57_0:wc.cell? ⟨gb1140,0,none⟩=some (.int .i64 ((rd_T44 l0_3 x57_3).f0)):=(bC_ BK1140.out 0).trans rfl
                 have Z57_1:wc.cell? ⟨gb1140,1,none⟩=some (.int .i64 ((rd_T44 l0_3 x57_3).f1)):=(bC_ BK1140.out 1).trans rfl
                 have Z57_2:wc.cell? ⟨gb1140,2,none⟩=some (.int .i64 ((rd_T44 l0_3 x57_3).f2.f0)):=(bC_ BK1140.out 2).trans rfl
                 have Z57_3:wc.cell? ⟨gb1140,3,none⟩=some (.int .i64 ((rd_T44 l0_3 x57_3).f2.f1)):=(bC_ BK1140.out 3).trans rfl
                 have Z57_4:wc.cell? ⟨gb1140,4,none⟩=some (.int .i64 ((rd_T44 l0_3 x57_3).f2.f2)):=(bC_ BK1140.out 4).trans rfl
                 have Z57_5:wc.cell? ⟨gb1140,5,none⟩=some (.int .i64 ((rd_T44 l0_3 x57_3).f2.f3)):=(bC_ BK1140.out 5).trans rfl
                 have Z57_6:wc.cell? ⟨gb1140,6,none⟩=some (.string ((rd_T44 l0_3 x57_3).f2.f4)):=(bC_ BK1140.out 6).trans rfl
                 have Y57_0:=bF_ BK1140.out 0
                 have Y57_1:=bF_ BK1140.out 1
                 have Y57_2:=bF_ BK1140.out 2
                 have Y57_3:=bF_ BK1140.out 3
                 have Y57_4:=bF_ BK1140.out 4
                 have Y57_5:=bF_ BK1140.out 5
                 have Y57_6:=bF_ BK1140.out 6
                 have Z58_0:wc.cell? ⟨gb1136,0,none⟩=some (.int .i64 a0_0):=(bC_ BK1136.out 0).trans rfl
                 have Z58_1:wc.cell? ⟨gb1136,1,none⟩=some (.int .i64 a0_1):=(bC_ BK1136.out 1).trans rfl
                 have Z58_2:wc.cell? ⟨gb1136,2,none⟩=some (.slice A0_2 l0_2.length c0_2):=(bC_ BK1136.out 2).trans rfl
                 have Z58_3:wc.cell? ⟨gb1136,3,none⟩=some (.slice (some ad1139) l0_3.length c0_3):=(bC_ BK1136.out 3).trans rfl
                 have Z58_4:wc.cell? ⟨gb1136,4,none⟩=some (.int .i64 a0_4):=(bC_ BK1136.out 4).trans rfl
                 have Z58_5:wc.cell? ⟨gb1136,5,none⟩=some (.int .i64 a0_5):=(bC_ BK1136.out 5).trans rfl
                 have Y58_0:=bF_ BK1136.out 0
                 have Y58_1:=bF_ BK1136.out 1
                 have Y58_2:=bF_ BK1136.out 2
                 have Y58_3:=bF_ BK1136.out 3
                 have Y58_4:=bF_ BK1136.out 4
                 have Y58_5:=bF_ BK1136.out 5
                 go_wp2
                 go_roundg kj29
                 case measure=>have:=HJ1.out;have:=HJ14.out;have:=HK3.out;have:=HJ29.out;omega
                 case rel=>exact ⟨(wrap64 (x57_3+1)),(si_),H',⟨by have:=HJ1.out;have:=HJ14.out;have:=HK3.out;have:=HJ29.out;omega⟩,⟨by (with_reducible repeat (first|refine bN_ ?_ _|refine bD_ ?_|refine bA_ ?_ _));exact BK1136.out⟩,⟨bel_⟩⟩
               ·rw [if_neg c51] at H
                have c51b0:(((rd_T44 l0_3 x57_3).f2.f0)==1)=false:=bn_ c51
                have c51b1:(((rd_T44 l0_3 x57_3).f2.f0) != 1)=true:=bne_iff_ne.mpr c51
                have H':=a_ H
                clear H
                have hnb59:=NB1140_1136.out
                have hnc59:=NB1136_1140.out
                have Z60_0:wc.cell? ⟨gb1140,0,none⟩=some (.int .i64 ((rd_T44 l0_3 x57_3).f0)):=(bC_ BK1140.out 0).trans rfl
                have Z60_1:wc.cell? ⟨gb1140,1,none⟩=some (.int .i64 ((rd_T44 l0_3 x57_3).f1)):=(bC_ BK1140.out 1).trans rfl
                have Z60_2:wc.cell? ⟨gb1140,2,none⟩=some (.int .i64 ((rd_T44 l0_3 x57_3).f2.f0)):=(bC_ BK1140.out 2).trans rfl
                have Z60_3:wc.cell? ⟨gb1140,3,none⟩=some (.int .i64 ((rd_T44 l0_3 x57_3).f2.f1)):=(bC_ BK1140.out 3).trans rfl
                have Z60_4:wc.cell? ⟨gb1140,4,none⟩=some (.int .i64 ((rd_T44 l0_3 x57_3).f2.f2)):=(bC_ BK1140.out 4).trans rfl
                have Z60_5:wc.cell? ⟨gb1140,5,none⟩=some (.int .i64 ((rd_T44 l0_3 x57_3).f2.f3)):=(bC_ BK1140.out 5).trans rfl
                have Z60_6:wc.cell? ⟨gb1140,6,none⟩=some (.string ((rd_T44 l0_3 x57_3).f2.f4)):=(bC_ BK1140.out 6).trans rfl
                have Y60_0:=bF_ BK1140.out 0
                have Y60_1:=bF_ BK1140.out 1
                have Y60_2:=bF_ BK1140.out 2
                have Y60_3:=bF_ BK1140.out 3
                have Y60_4:=bF_ BK1140.out 4
                have Y60_5:=bF_ BK1140.out 5
                have Y60_6:=bF_ BK1140.out 6
                go_wp2
                go_roundg kj29
                case measure=>have:=HJ1.out;have:=HJ14.out;have:=HK3.out;have:=HJ29.out;omega
                case rel=>exact ⟨(wrap64 (x57_3+1)),(si_),H',⟨by have:=HJ1.out;have:=HJ14.out;have:=HK3.out;have:=HJ29.out;omega⟩,⟨by (with_reducible repeat (first|refine bN_ ?_ _|refine bD_ ?_|refine bA_ ?_ _));exact BK1136.out⟩,⟨bel_⟩⟩
           ·rw [if_neg c29] at H
            exact absurd H (by simp)
          ·rw [if_neg c28] at H
           exact absurd H (by simp)
         ·rw [if_neg c27] at H
          have c27b0:decide (x57_3 < (l0_3.length:Int))=false:=df_ c27
          clear c27
          obtain rfl:=sj_ H
          go_wp2
          go_ret
          exact ⟨fi_,bel_⟩

end Go.Proofs.YtdpklbomhdpimaaDoor.P
namespace Go.Proofs.YtdpklbomhdpimaaDoor.P
open Go.RowKit Go.Proofs.YtdpklbomhdpimaaDoorW.PrintWords Go.Proofs.YtdpklbomhdpimaaDoorW.PrintLast Go.Proofs.YtdpklbomhdpimaaDoorW.PrintMore
def impl_cloneR.f (l0:List S69):Option (List S69):=if l0.length < 4398046511104 then some l0 else none
theorem impl_cloneR.calls (A0:Option Addr) (c0:Nat) (l0:List S69) (r:List S69) (w:World) (hr0:Kd.C k69 w A0 l0.length l0) (hc0:l0.length≤c0)
  (h:impl_cloneR.f l0=some r) :
  Calls Tryd.prog 105 #[.slice A0 l0.length c0] w fun e w'=>∃ v0_:Value,e=.returned (v0_)∧Kd.R k69 69 w' w.heap.size (fun _=>True) v0_ r∧Below w.heap.size w w':=by
 unfold impl_cloneR.f at h
 by_cases hlim:l0.length < 4398046511104
 ·rw [if_pos hlim] at h
  obtain rfl:=sj_ h
  clear h
  cases A0 with
  | none =>
   have hl:l0=[]:=by
    rcases Nat.eq_zero_or_pos l0.length with h0|h0
    ·exact List.length_eq_zero_iff.1 h0
    ·obtain ⟨ad,e,_⟩:=hr0.2.2 h0
     cases e
   subst hl
   simp only [List.length_nil]
   have hne:=fun (W:World)=>Lib.run_eql_slice_nil (P:=Tryd.prog) W 62 69 none 0 c0 0 0 Tryd.underlying62
   simp only [Option.isNone_none] at hne
   clear hr0 hlim hc0
   go_enter Tryd.func105,Tryd.ntmps105
   go_wp2
   go_ret
   exact ⟨_,rfl,Kd.R_nil _ _ _ _ _,Below.refl _ _⟩
  | some a =>
   have hne:=fun (W:World)=>Lib.run_eql_slice_nil (P:=Tryd.prog) W 62 69 (some a) l0.length c0 0 0 Tryd.underlying62
   simp only [Option.isNone_some] at hne
   have HR0:=a_ hr0
   have LM:=a_ hlim
   clear hr0 hlim
   have HB:=a_ (Below.refl w.heap.size w)
   go_enter Tryd.func105,Tryd.ntmps105
   go_wp2_with (first
    | ((with_reducible refine gD_ (N:=5) rfl ?_);refine Kd.R_lit k69 _ 69 ?hg (N:=5) ?hd (xs:=([]:List S69)) (inner:=[]) (ok:=fun _=>True) (okp:=fun _=>True) ?hr ?hp (fun _ hk=>hk) trivial (Below.refl _ _) (Nat.le_refl _) (by simp) ?_;(case hd=>rfl);(case hg=>rfl);(case hr=>first|(go_simp;done)|(go_simp;rfl));(case hp=>exact (Reps.none _ _));intro v200 w5 ho6 hb hg_ hnew_;clear hg_ hnew_;have HO:=a_ ho6;replace HB:=a_ (bS_ HB.out hb);clear hb ho6)
    | ((with_reducible refine gate_builtin (b:=.append) (xs:=#[.tmp 5,.tmp 6]) rfl ?_);at_builtin;refine Kd.R_append_rows k69 (w0:=w) w.heap.size rfl (.tmp 5) (.tmp 6) 62 69 (.agg #[(.int .i64 0),(.int .i64 0),(.string ⟨#[]⟩)]) 32 rfl Tryd.underlying62 info69 rfl (by decide) (by omega) _ ([]:List S69) l0 _ _ _ (fun _=>True) (fun _=>False) rfl rfl ?aO ?aR (fun _ _ h=>h) (fun _ h=>h.elim) ?aF ?aB ?aS ?aL ?_;(case aR=>exact Kd.C_below HR0.out HB.out);(case aB=>exact HB.out);(case aF=>exact (fun _ _=>trivial));(case aO=>exact HO.out);(case aS=>exact below_size HB.out);(case aL=>have:=LM.out;simp;omega);intro v203 w9 ho hb hg hat;clear HB HO;have HB:=a_ hb;have HO:=a_ ho;clear ho hb hg hat;obtain ⟨Ao10,co10,eo10⟩:=Kd.R_slice HO.out;subst eo10))
   go_ret
   exact ⟨_,rfl,HO.out,HB.out⟩
 ·rw [if_neg hlim] at h
  cases h
def ringZ:Array Value:=((List.replicate 40 ([Value.int .i64 0,Value.int .i64 0,Value.int .i64 0,Value.int .i64 0,Value.int .i64 0,Value.int .i64 0,Value.string ⟨#[]⟩]:List Value)).flatten++([Value.int .i64 0,Value.int .i64 0]:List Value)).toArray
theorem ringZ_size:ringZ[281]?=some (.int .i64 0):=by kernel_rfl
def Ring0 (w:World) (g:Nat):Prop:=w.heap[g]?=some (.cells ringZ 181 (0,0))
theorem ringOf_nil (A:Option Addr) (c:Nat) (w:World) :
  Calls Tryd.prog 106 #[.slice A 0 c] w fun e w'=>∃ g,e=.returned (.pointer (some ⟨g,0,none⟩))∧w.heap.size≤g∧Ring0 w' g∧Below w.heap.size w w':=by
 have HB:=a_ (Below.refl w.heap.size w)
 go_enter Tryd.func106,Tryd.ntmps106
 go_wp2_with ((with_reducible refine gD_ (N:=7) rfl ?_);refine bx_ 7 (ringZ) 181 ?_;intro g hg w1 hbox hb;have HB1:=a_ (bS_ HB.out hb);have BK:=a_ (show Ring0 w1 g from hbox);have HG:=a_ (show w.heap.size≤g by rw [hg];exact Nat.le_refl _);clear hb hbox hg)
 have hd1:decide ((0:Int) < 0)=false:=rfl
 go_loopw [10] (fun i wr=>i=.int .i64 0∧Aside0 (Ring0 wr g)∧Aside0 (Below w.heap.size w wr)) (fun _ _=>0)
 case atStart=>exact ⟨rfl,BK,HB1⟩
 case round =>
  obtain ⟨rfl,BK2,HB2⟩:=hrel
  clear HB HB1 BK
  go_wp2
  go_ret
  exact ⟨g,rfl,HG.out,BK2.out,HB2.out⟩
theorem ring0_cell {w:World} {g:Nat} (h:Ring0 w g):w.cell? ⟨g,281,none⟩=some (.int .i64 0):=(bC_ h 281).trans ringZ_size
theorem each_nil (g:Nat) (f:Value) (w:World) (hr:Ring0 w g) :
  Calls Tryd.prog 107 #[.pointer (some ⟨g,0,none⟩),f] w fun e w'=>(∃ v,e=.returned v)∧Below w.heap.size w w':=by
 have HB:=a_ (Below.refl w.heap.size w)
 have hc:=ring0_cell hr
 have hu:=Tryd.underlying181
 clear hr
 go_enter Tryd.func107,Tryd.ntmps107
 go_wp2
 have hd1:decide ((0:Int) < 0)=false:=rfl
 go_loopw [9] (fun i wr=>i=.int .i64 0∧Aside0 (Below w.heap.size w wr)) (fun _ _=>0)
 case atStart=>exact ⟨rfl,HB⟩
 case round =>
  obtain ⟨rfl,HB2⟩:=hrel
  clear HB hc
  go_wp2
  refine bodyPost_end (results_none rfl _ _ _) rfl ?_
  exact ⟨⟨_,rfl⟩,HB2.out⟩
def impl_ClientShow.f (k:Nat) (a0_0 a0_1:Int) (l0_2:List S69) (l0_3:List S44) (a0_4 a0_5:Int):Option (List S69) :=
 (impl_ClientOk.f k a0_0 a0_1 l0_2 l0_3 a0_4 a0_5).bind fun t=>if t=true then (if l0_3.length=0 then (if l0_2.length < 4398046511104 then some l0_2 else none) else none) else none
theorem impl_ClientShow.mono (a0_0 a0_1:Int) (l0_2:List S69) (l0_3:List S44) (a0_4 a0_5:Int) (k:Nat):LeO (impl_ClientShow.f k a0_0 a0_1 l0_2 l0_3 a0_4 a0_5) (impl_ClientShow.f (k+1) a0_0 a0_1 l0_2 l0_3 a0_4 a0_5):=by
 unfold impl_ClientShow.f
 exact LeO.bind (impl_ClientOk.mono _ _ _ _ _ _ _) (fun _=>LeO.refl _)
theorem impl_ClientShow.calls (k:Nat) (a0_0:Int) (a0_1:Int) (A0_2:Option Addr) (c0_2:Nat) (l0_2:List S69) (A0_3:Option Addr) (c0_3:Nat) (l0_3:List S44) (a0_4:Int) (a0_5:Int) (r:List S69) (w:World) (hr0_2:Kd.C k69 w A0_2 l0_2.length l0_2) (hc0_2:l0_2.length≤c0_2) (hr0_3:Kd.C k44 w A0_3 l0_3.length l0_3) (hc0_3:l0_3.length≤c0_3) (h:impl_ClientShow.f k a0_0 a0_1 l0_2 l0_3 a0_4 a0_5=some r) (hG:Glob w) :
  Calls Tryd.prog 61 #[.agg #[.int .i64 a0_0,.int .i64 a0_1,.slice A0_2 l0_2.length c0_2,.slice A0_3 l0_3.length c0_3,.int .i64 a0_4,.int .i64 a0_5]] w fun e w'=>∃ v0_:Value,e=.returned v0_∧Kd.R k69 69 w' w.heap.size (fun _=>True) v0_ r∧Below w.heap.size w w':=by
 unfold impl_ClientShow.f at h
 obtain ⟨t,ht,h2⟩:=Option.bind_eq_some_iff.1 h
 clear h
 cases t with
 | false=>simp at h2
 | true =>
  rw [if_pos rfl] at h2
  by_cases h0:l0_3.length=0
  ·rw [if_pos h0] at h2
   by_cases hl:l0_2.length < 4398046511104
   ·rw [if_pos hl] at h2
    obtain rfl:=sj_ h2
    obtain rfl:=List.length_eq_zero_iff.1 h0
    clear h0 h2
    have HT:=a_ ht
    have HR2:=a_ hr0_2
    have HC2:=a_ hc0_2
    have HR3:=a_ hr0_3
    have HC3:=a_ hc0_3
    have HG:=a_ hG
    have HL:=a_ (show impl_cloneR.f l0_2=some l0_2 from if_pos hl)
    clear ht hr0_2 hc0_2 hr0_3 hc0_3 hG hl
    have hu1:=Tryd.underlying77
    have hu2:=Tryd.underlying136
    simp only [List.length_nil]
    go_enter Tryd.func61,Tryd.ntmps61
    go_wp2_with (first|((with_reducible refine gD_ (N:=1) rfl ?_);refine bx_ 1 (#[.int .i64 a0_0,.int .i64 a0_1,.slice A0_2 l0_2.length c0_2,.slice A0_3 0 c0_3,.int .i64 a0_4,.int .i64 a0_5]) 77 ?_;intro gS hgS w1 hbox hb1;have HB1:=a_ hb1;have BS1:=a_ hbox;clear hbox hb1 hgS;have hs0:=(bC_ BS1.out 0).trans rfl;have hs1:=(bC_ BS1.out 1).trans rfl;have hs2:=(bC_ BS1.out 2).trans rfl;have hs3:=(bC_ BS1.out 3).trans rfl;have hs4:=(bC_ BS1.out 4).trans rfl;have hs5:=(bC_ BS1.out 5).trans rfl)|(go_at_call 60;go_loud (refine (impl_ClientOk.calls k _ _ _ _ l0_2 A0_3 c0_3 ([]:List S44) _ _ true _ (Kd.C_below HR2.out HB1.out) HC2.out (Kd.C_below HR3.out HB1.out) HC3.out HT.out (HG.out.below HB1.out)).mono ?_;rintro e w2 ⟨rfl,hb2⟩;have HB2:=a_ (bS_ HB1.out hb2);have BS2:=a_ (blk_below BS1.out hb2);clear hb2;have ht0:=(bC_ BS2.out 2).trans rfl;have ht1:=(bC_ BS2.out 3).trans rfl))|(go_at_call 105;go_loud (refine (impl_cloneR.calls _ _ l0_2 _ _ (Kd.C_below HR2.out HB2.out) HC2.out HL.out).mono ?_;rintro e w3 ⟨v3,rfl,ho3,hb3⟩;obtain ⟨A3,c3,rfl⟩:=Kd.R_slice ho3;have HO3:=a_ (Kd.R_lower ho3 HB2.out.size);have HB3:=a_ (bS_ HB2.out hb3);have BS3:=a_ (blk_below BS2.out hb3);clear hb3 ho3;have hv0:=(bC_ BS3.out 2).trans rfl;have hv1:=(bC_ BS3.out 3).trans rfl))|((with_reducible refine gD_ (N:=11) rfl ?_);refine bx_ 11 (#[.slice A3 l0_2.length c3]) 136 ?_;intro gP hgP w4 hbox hb4;have HO4:=a_ (Kd.R_below HO3.out hb4);have HB4:=a_ (bS_ HB3.out hb4);have BS4:=a_ (blk_below BS3.out hb4);have BP4:=a_ hbox;clear hbox hb4 hgP;have hq2:=(bC_ BS4.out 2).trans rfl;have hq3:=(bC_ BS4.out 3).trans rfl;have hp0:=(bC_ BP4.out 0).trans rfl)|(go_at_call 106;go_loud (refine (ringOf_nil A0_3 c0_3 _).mono ?_;rintro e w5 ⟨gR,rfl,hgR,hR5,hb5⟩;have HO5:=a_ (Kd.R_below HO4.out hb5);have HB5:=a_ (bS_ HB4.out hb5);have BP5:=a_ (blk_below BP4.out hb5);have R5:=a_ hR5;clear hR5 hb5 hgR;have hr0:=(bC_ BP5.out 0).trans rfl))|(go_at_call 107;go_loud (refine (each_nil gR _ _ R5.out).mono ?_;rintro e w6 ⟨⟨v6,rfl⟩,hb6⟩;have HO6:=a_ (Kd.R_below HO5.out hb6);have HB6:=a_ (bS_ HB5.out hb6);have BP6:=a_ (blk_below BP5.out hb6);clear hb6;have hy0:=(bC_ BP6.out 0).trans rfl)))
    go_ret
    exact ⟨_,rfl,HO6.out,HB6.out⟩
   ·rw [if_neg hl] at h2
    cases h2
  ·rw [if_neg h0] at h2
   cases h2
end Go.Proofs.YtdpklbomhdpimaaDoor.P
namespace Go.Proofs.YtdpklbomhdpimaaDoor.P
open Go.RowKit Go.Proofs.YtdpklbomhdpimaaDoorW.PrintWords Go.Proofs.YtdpklbomhdpimaaDoorW.PrintLast
def laws_FnClientNew.f (k:Nat) (l0:List Int):Option (Bool):=if (l0.length:Int) > 1048576 then (some true) else ((spec_DrawClientNew.f k l0).bind fun t1146=>((spec_ClientNew.f t1146).bind fun bt1147=>((impl_ClientNew.f t1146).bind fun bt1159=>(if (bt1159.2.2.2.2.2.2 != bt1147.2.2.2.2.2.2)=true then (none) else ((laws_lpClient.f k bt1159.1 bt1159.2.1 bt1159.2.2.1 bt1159.2.2.2.1 bt1159.2.2.2.2.1 bt1159.2.2.2.2.2.1 bt1147.1 bt1147.2.1 bt1147.2.2.1 bt1147.2.2.2.1 bt1147.2.2.2.2.1 bt1147.2.2.2.2.2.1).bind fun t1171=>(if t1171=true then (if bt1159.2.2.2.2.2.2=true then ((impl_ClientOk.f k bt1159.1 bt1159.2.1 bt1159.2.2.1 bt1159.2.2.2.1 bt1159.2.2.2.2.1 bt1159.2.2.2.2.2.1).bind fun t1173=>(if t1173=true then ((impl_ClientShow.f k bt1159.1 bt1159.2.1 bt1159.2.2.1 bt1159.2.2.2.1 bt1159.2.2.2.2.1 bt1159.2.2.2.2.2.1).bind fun t1174=>((impl_TreeNew.f).bind fun t1177=>((laws_lpRows.f k t1174 t1177).bind fun t1180=>(if t1180=true then (if (bt1159.2.2.2.1.length:Int)=0 then (some ((wrap64 ((wrap64 (bt1159.2.1+bt1159.2.2.2.2.1))+bt1159.2.2.2.2.2.1))==0)) else (none)) else (none))))) else (none))) else (if (bt1159.2.2.2.2.2.2==bt1147.2.2.2.2.2.2)=true then ((laws_lpClient.f k bt1159.1 bt1159.2.1 bt1159.2.2.1 bt1159.2.2.2.1 bt1159.2.2.2.2.1 bt1159.2.2.2.2.2.1 bt1147.1 bt1147.2.1 bt1147.2.2.1 bt1147.2.2.2.1 bt1147.2.2.2.2.1 bt1147.2.2.2.2.2.1).bind fun t1172=>(if t1172=true then (if t1146≥1 then (some (bt1159.2.2.2.2.2.2==(decide (t1146≤3)))) else (some (bt1159.2.2.2.2.2.2==false))) else (none))) else (none))) else (none)))))))
theorem laws_FnClientNew.mono:∀ a0 k,LeO (laws_FnClientNew.f k a0) (laws_FnClientNew.f (k+1) a0):=by
 intro a0 k
 unfold laws_FnClientNew.f
 repeat' first
   | (with_reducible exact impl_ClientOk.mono _ _ _ _ _ _ _)
   | (with_reducible exact impl_ClientShow.mono _ _ _ _ _ _ _)
   | (with_reducible exact laws_lpClient.mono _ _ _ _ _ _ _ _ _ _ _ _ _)
   | (with_reducible exact laws_lpRows.mono _ _ _)
   | (with_reducible exact spec_DrawClientNew.mono _ _)
   | (with_reducible exact LeO.refl _)
   | (with_reducible exact LeO.none _)
   | (with_reducible refine LeO.ite ?_ ?_)
   | (with_reducible refine LeO.bind ?_ (fun _=>?_))
   | exact impl_ClientOk.mono _ _ _ _ _ _ _
   | exact impl_ClientShow.mono _ _ _ _ _ _ _
   | exact laws_lpClient.mono _ _ _ _ _ _ _ _ _ _ _ _ _
   | exact laws_lpRows.mono _ _ _
   | exact spec_DrawClientNew.mono _ _
   | exact LeO.none _
   | refine LeO.ite ?_ ?_
   | refine LeO.bind ?_ (fun _=>?_)
theorem laws_FnClientNew.calls (k:Nat) (A0:Option Addr) (c0:Nat) (l0:List Int) (r:Bool) (w:World) (hr0:Kd.C (Kd.int .u8) w A0 l0.length l0) (hc0:l0.length≤c0) (h:laws_FnClientNew.f k l0=some r) (hG:Glob w) :
  Calls Tryd.prog 12 #[.slice A0 l0.length c0] w fun e w'=>e=.returned (.bool r)∧Below w.heap.size w w':=by
 have hu77:=Tryd.underlying77
 have HR0:=a_ hr0
 have HC0:=a_ hc0
 clear hr0 hc0
 have HB:=a_ (Below.refl w.heap.size w)
 have HG:=a_ hG
 clear hG
 have H:(if (l0.length:Int) > 1048576 then (some true) else ((spec_DrawClientNew.f k l0).bind fun t1146=>((spec_ClientNew.f t1146).bind fun bt1147=>((impl_ClientNew.f t1146).bind fun bt1159=>(if (bt1159.2.2.2.2.2.2 != bt1147.2.2.2.2.2.2)=true then (none) else ((laws_lpClient.f k bt1159.1 bt1159.2.1 bt1159.2.2.1 bt1159.2.2.2.1 bt1159.2.2.2.2.1 bt1159.2.2.2.2.2.1 bt1147.1 bt1147.2.1 bt1147.2.2.1 bt1147.2.2.2.1 bt1147.2.2.2.2.1 bt1147.2.2.2.2.2.1).bind fun t1171=>(if t1171=true then (if bt1159.2.2.2.2.2.2=true then ((impl_ClientOk.f k bt1159.1 bt1159.2.1 bt1159.2.2.1 bt1159.2.2.2.1 bt1159.2.2.2.2.1 bt1159.2.2.2.2.2.1).bind fun t1173=>(if t1173=true then ((impl_ClientShow.f k bt1159.1 bt1159.2.1 bt1159.2.2.1 bt1159.2.2.2.1 bt1159.2.2.2.2.1 bt1159.2.2.2.2.2.1).bind fun t1174=>((impl_TreeNew.f).bind fun t1177=>((laws_lpRows.f k t1174 t1177).bind fun t1180=>(if t1180=true then (if (bt1159.2.2.2.1.length:Int)=0 then (some ((wrap64 ((wrap64 (bt1159.2.1+bt1159.2.2.2.2.1))+bt1159.2.2.2.2.2.1))==0)) else (none)) else (none))))) else (none))) else (if (bt1159.2.2.2.2.2.2==bt1147.2.2.2.2.2.2)=true then ((laws_lpClient.f k bt1159.1 bt1159.2.1 bt1159.2.2.1 bt1159.2.2.2.1 bt1159.2.2.2.2.1 bt1159.2.2.2.2.2.1 bt1147.1 bt1147.2.1 bt1147.2.2.1 bt1147.2.2.2.1 bt1147.2.2.2.2.1 bt1147.2.2.2.2.2.1).bind fun t1172=>(if t1172=true then (if t1146≥1 then (some (bt1159.2.2.2.2.2.2==(decide (t1146≤3)))) else (some (bt1159.2.2.2.2.2.2==false))) else (none))) else (none))) else (none))))))))=some r:=h
 clear h
 by_cases c2:(l0.length:Int) > 1048576
 ·rw [if_pos c2] at H
  have c2b0:decide (1048576 < (l0.length:Int))=true:=dt_ c2
  have c2b1:decide (1048576 < l0.length)=true:=dt_ (by omega)
  clear c2
  obtain rfl:=sj_ H
  go_enter Tryd.func12,Tryd.ntmps12
  go_wp2
  go_ret
  exact ⟨by first|rfl|(simp [errW_none,errW_some] <;> rfl)|(simp [*,errW_none,errW_some] <;> rfl),by repeat (first|(with_reducible first|exact HB.out|apply wA_|apply pw_below_drewN|apply below_drew1)|exact HB.out)⟩
 ·rw [if_neg c2] at H
  have c2b0:decide (1048576 < (l0.length:Int))=false:=df_ c2
  have c2b1:decide (1048576 < l0.length)=false:=df_ (by omega)
  clear c2
  replace H:=bs_ H
  obtain ⟨t1146,A30,H⟩:=H
  replace H:((spec_ClientNew.f t1146).bind fun bt1147=>((impl_ClientNew.f t1146).bind fun bt1159=>(if (bt1159.2.2.2.2.2.2 != bt1147.2.2.2.2.2.2)=true then (none) else ((laws_lpClient.f k bt1159.1 bt1159.2.1 bt1159.2.2.1 bt1159.2.2.2.1 bt1159.2.2.2.2.1 bt1159.2.2.2.2.2.1 bt1147.1 bt1147.2.1 bt1147.2.2.1 bt1147.2.2.2.1 bt1147.2.2.2.2.1 bt1147.2.2.2.2.2.1).bind fun t1171=>(if t1171=true then (if bt1159.2.2.2.2.2.2=true then ((impl_ClientOk.f k bt1159.1 bt1159.2.1 bt1159.2.2.1 bt1159.2.2.2.1 bt1159.2.2.2.2.1 bt1159.2.2.2.2.2.1).bind fun t1173=>(if t1173=true then ((impl_ClientShow.f k bt1159.1 bt1159.2.1 bt1159.2.2.1 bt1159.2.2.2.1 bt1159.2.2.2.2.1 bt1159.2.2.2.2.2.1).bind fun t1174=>((impl_TreeNew.f).bind fun t1177=>((laws_lpRows.f k t1174 t1177).bind fun t1180=>(if t1180=true then (if (bt1159.2.2.2.1.length:Int)=0 then (some ((wrap64 ((wrap64 (bt1159.2.1+bt1159.2.2.2.2.1))+bt1159.2.2.2.2.2.1))==0)) else (none)) else (none))))) else (none))) else (if (bt1159.2.2.2.2.2.2==bt1147.2.2.2.2.2.2)=true then ((laws_lpClient.f k bt1159.1 bt1159.2.1 bt1159.2.2.1 bt1159.2.2.2.1 bt1159.2.2.2.2.1 bt1159.2.2.2.2.2.1 bt1147.1 bt1147.2.1 bt1147.2.2.1 bt1147.2.2.2.1 bt1147.2.2.2.2.1 bt1147.2.2.2.2.2.1).bind fun t1172=>(if t1172=true then (if t1146≥1 then (some (bt1159.2.2.2.2.2.2==(decide (t1146≤3)))) else (some (bt1159.2.2.2.2.2.2==false))) else (none))) else (none))) else (none))))))=some r:=H
  have A3:=a_ A30
  clear A30
  replace H:=bs_ H
  obtain ⟨⟨t1147,t1148,t1149,t1152,t1155,t1156,t1157⟩,A40,H⟩:=H
  replace H:((impl_ClientNew.f t1146).bind fun bt1159=>(if (bt1159.2.2.2.2.2.2 != t1157)=true then (none) else ((laws_lpClient.f k bt1159.1 bt1159.2.1 bt1159.2.2.1 bt1159.2.2.2.1 bt1159.2.2.2.2.1 bt1159.2.2.2.2.2.1 t1147 t1148 t1149 t1152 t1155 t1156).bind fun t1171=>(if t1171=true then (if bt1159.2.2.2.2.2.2=true then ((impl_ClientOk.f k bt1159.1 bt1159.2.1 bt1159.2.2.1 bt1159.2.2.2.1 bt1159.2.2.2.2.1 bt1159.2.2.2.2.2.1).bind fun t1173=>(if t1173=true then ((impl_ClientShow.f k bt1159.1 bt1159.2.1 bt1159.2.2.1 bt1159.2.2.2.1 bt1159.2.2.2.2.1 bt1159.2.2.2.2.2.1).bind fun t1174=>((impl_TreeNew.f).bind fun t1177=>((laws_lpRows.f k t1174 t1177).bind fun t1180=>(if t1180=true then (if (bt1159.2.2.2.1.length:Int)=0 then (some ((wrap64 ((wrap64 (bt1159.2.1+bt1159.2.2.2.2.1))+bt1159.2.2.2.2.2.1))==0)) else (none)) else (none))))) else (none))) else (if (bt1159.2.2.2.2.2.2==t1157)=true then ((laws_lpClient.f k bt1159.1 bt1159.2.1 bt1159.2.2.1 bt1159.2.2.2.1 bt1159.2.2.2.2.1 bt1159.2.2.2.2.2.1 t1147 t1148 t1149 t1152 t1155 t1156).bind fun t1172=>(if t1172=true then (if t1146≥1 then (some (bt1159.2.2.2.2.2.2==(decide (t1146≤3)))) else (some (bt1159.2.2.2.2.2.2==false))) else (none))) else (none))) else (none)))))=some r:=H
  have A4:=a_ A40
  clear A40
  replace H:=bs_ H
  obtain ⟨⟨t1159,t1160,t1161,t1164,t1167,t1168,t1169⟩,A50,H⟩:=H
  replace H:(if (t1169 != t1157)=true then (none) else ((laws_lpClient.f k t1159 t1160 t1161 t1164 t1167 t1168 t1147 t1148 t1149 t1152 t1155 t1156).bind fun t1171=>(if t1171=true then (if t1169=true then ((impl_ClientOk.f k t1159 t1160 t1161 t1164 t1167 t1168).bind fun t1173=>(if t1173=true then ((impl_ClientShow.f k t1159 t1160 t1161 t1164 t1167 t1168).bind fun t1174=>((impl_TreeNew.f).bind fun t1177=>((laws_lpRows.f k t1174 t1177).bind fun t1180=>(if t1180=true then (if (t1164.length:Int)=0 then (some ((wrap64 ((wrap64 (t1160+t1167))+t1168))==0)) else (none)) else (none))))) else (none))) else (if (t1169==t1157)=true then ((laws_lpClient.f k t1159 t1160 t1161 t1164 t1167 t1168 t1147 t1148 t1149 t1152 t1155 t1156).bind fun t1172=>(if t1172=true then (if t1146≥1 then (some (t1169==(decide (t1146≤3)))) else (some (t1169==false))) else (none))) else (none))) else (none))))=some r:=H
  have A5:=a_ A50
  clear A50
  by_cases c6:(t1169 != t1157)=true
  ·rw [if_pos c6] at H
   exact absurd H (by simp)
  ·rw [if_neg c6] at H
   have c6b0:(t1169 != t1157)=false:=by simpa using c6
   (try (have c6b1:decide (t1169=t1157)=true:=by simpa using c6))
   (try (have c6b2:(t1169==t1157)=true:=by simpa using c6))
   clear c6
   replace H:=bs_ H
   obtain ⟨t1171,A70,H⟩:=H
   replace H:(if t1171=true then (if t1169=true then ((impl_ClientOk.f k t1159 t1160 t1161 t1164 t1167 t1168).bind fun t1173=>(if t1173=true then ((impl_ClientShow.f k t1159 t1160 t1161 t1164 t1167 t1168).bind fun t1174=>((impl_TreeNew.f).bind fun t1177=>((laws_lpRows.f k t1174 t1177).bind fun t1180=>(if t1180=true then (if (t1164.length:Int)=0 then (some ((wrap64 ((wrap64 (t1160+t1167))+t1168))==0)) else (none)) else (none))))) else (none))) else (if (t1169==t1157)=true then ((laws_lpClient.f k t1159 t1160 t1161 t1164 t1167 t1168 t1147 t1148 t1149 t1152 t1155 t1156).bind fun t1172=>(if t1172=true then (if t1146≥1 then (some (t1169==(decide (t1146≤3)))) else (some (t1169==false))) else (none))) else (none))) else (none))=some r:=H
   have A7:=a_ A70
   clear A70
   by_cases c8:t1171=true
   ·subst c8
    have H1:(if t1169=true then ((impl_ClientOk.f k t1159 t1160 t1161 t1164 t1167 t1168).bind fun t1173=>(if t1173=true then ((impl_ClientShow.f k t1159 t1160 t1161 t1164 t1167 t1168).bind fun t1174=>((impl_TreeNew.f).bind fun t1177=>((laws_lpRows.f k t1174 t1177).bind fun t1180=>(if t1180=true then (if (t1164.length:Int)=0 then (some ((wrap64 ((wrap64 (t1160+t1167))+t1168))==0)) else (none)) else (none))))) else (none))) else (if (t1169==t1157)=true then ((laws_lpClient.f k t1159 t1160 t1161 t1164 t1167 t1168 t1147 t1148 t1149 t1152 t1155 t1156).bind fun t1172=>(if t1172=true then (if t1146≥1 then (some (t1169==(decide (t1146≤3)))) else (some (t1169==false))) else (none))) else (none)))=some r:=by rw [if_pos rfl] at H;exact H
    clear H
    have H:=H1
    clear H1
    by_cases c9:t1169=true
    ·subst c9
     have H1:((impl_ClientOk.f k t1159 t1160 t1161 t1164 t1167 t1168).bind fun t1173=>(if t1173=true then ((impl_ClientShow.f k t1159 t1160 t1161 t1164 t1167 t1168).bind fun t1174=>((impl_TreeNew.f).bind fun t1177=>((laws_lpRows.f k t1174 t1177).bind fun t1180=>(if t1180=true then (if (t1164.length:Int)=0 then (some ((wrap64 ((wrap64 (t1160+t1167))+t1168))==0)) else (none)) else (none))))) else (none)))=some r:=by rw [if_pos rfl] at H;exact H
     clear H
     have H:=H1
     clear H1
     replace H:=bs_ H
     obtain ⟨t1173,A100,H⟩:=H
     replace H:(if t1173=true then ((impl_ClientShow.f k t1159 t1160 t1161 t1164 t1167 t1168).bind fun t1174=>((impl_TreeNew.f).bind fun t1177=>((laws_lpRows.f k t1174 t1177).bind fun t1180=>(if t1180=true then (if (t1164.length:Int)=0 then (some ((wrap64 ((wrap64 (t1160+t1167))+t1168))==0)) else (none)) else (none))))) else (none))=some r:=H
     have A10:=a_ A100
     clear A100
     by_cases c11:t1173=true
     ·subst c11
      have H1:((impl_ClientShow.f k t1159 t1160 t1161 t1164 t1167 t1168).bind fun t1174=>((impl_TreeNew.f).bind fun t1177=>((laws_lpRows.f k t1174 t1177).bind fun t1180=>(if t1180=true then (if (t1164.length:Int)=0 then (some ((wrap64 ((wrap64 (t1160+t1167))+t1168))==0)) else (none)) else (none)))))=some r:=by rw [if_pos rfl] at H;exact H
      clear H
      have H:=H1
      clear H1
      replace H:=bs_ H
      obtain ⟨t1174,A120,H⟩:=H
      replace H:((impl_TreeNew.f).bind fun t1177=>((laws_lpRows.f k t1174 t1177).bind fun t1180=>(if t1180=true then (if (t1164.length:Int)=0 then (some ((wrap64 ((wrap64 (t1160+t1167))+t1168))==0)) else (none)) else (none))))=some r:=H
      have A12:=a_ A120
      clear A120
      replace H:=bs_ H
      obtain ⟨t1177,A130,H⟩:=H
      replace H:((laws_lpRows.f k t1174 t1177).bind fun t1180=>(if t1180=true then (if (t1164.length:Int)=0 then (some ((wrap64 ((wrap64 (t1160+t1167))+t1168))==0)) else (none)) else (none)))=some r:=H
      have A13:=a_ A130
      clear A130
      replace H:=bs_ H
      obtain ⟨t1180,A140,H⟩:=H
      replace H:(if t1180=true then (if (t1164.length:Int)=0 then (some ((wrap64 ((wrap64 (t1160+t1167))+t1168))==0)) else (none)) else (none))=some r:=H
      have A14:=a_ A140
      clear A140
      by_cases c15:t1180=true
      ·subst c15
       have H1:(if (t1164.length:Int)=0 then (some ((wrap64 ((wrap64 (t1160+t1167))+t1168))==0)) else (none))=some r:=by rw [if_pos rfl] at H;exact H
       clear H
       have H:=H1
       clear H1
       by_cases c16:(t1164.length:Int)=0
       ·rw [if_pos c16] at H
        have c16b0:((t1164.length:Int)==0)=true:=beq_iff_eq.mpr c16
        have c16b1:((t1164.length:Int) != 0)=false:=be_ c16
        clear c16
        obtain rfl:=sj_ H
        go_enter Tryd.func12,Tryd.ntmps12
        go_wp2_with (first|((with_reducible refine gC_ (f:=56) rfl ?_);refine goesL_ (some 12) rfl rfl Tryd.func56 (by kernel_rfl) rfl #[.slice A0 l0.length c0] rfl (by (try simp only [List.map_toArray,List.map_cons,List.map_nil]);first|done|rfl|(simp only [List.length_drop,List.length_take];rfl)) ?_;(with_reducible refine (spec_DrawClientNew.calls k _ _ l0 t1146 _ ?side1 ?side2 A3.out).mono ?_);(case side1=>repeat (first|exact HR0.out|(with_reducible refine Kd.C_alloc ?_ _)|(with_reducible refine Kd.C_drewN ?_ _)|(with_reducible refine Kd.C_drew ?_)));(case side2=>exact HC0.out);rintro e w17 ⟨rfl,hb⟩;refine ⟨_,rfl,?_⟩;have n0_:=a_ (bS_ (by repeat (first|(with_reducible first|exact HB.out|apply wA_|apply pw_below_drewN|apply below_drew1)|exact HB.out)) hb);clear HB;have HB:=n0_;clear n0_;(try clear hb);(try clear hb2);(try clear hk);(try clear hi))|((with_reducible refine gC_ (f:=57) rfl ?_);refine goesL_ (some 15) rfl rfl Tryd.func57 (by kernel_rfl) rfl #[.int .i64 t1146] rfl (by (try simp only [List.map_toArray,List.map_cons,List.map_nil]);first|done|rfl|(simp only [List.length_drop,List.length_take];rfl)) ?_;(with_reducible refine (spec_ClientNew.calls t1146 t1147 t1148 t1149 t1152 t1155 t1156 t1157 _ A4.out).mono ?_);rintro e w18 ⟨v1150,v1153,rfl,ho0,ho1,hb⟩;refine ⟨_,rfl,?_⟩;have n0_:=a_ (Kd.R_lower ho0 (below_size (by repeat (first|(with_reducible first|exact HB.out|apply wA_|apply pw_below_drewN|apply below_drew1)|exact HB.out))));have n1_:=a_ (Kd.R_lower ho1 (below_size (by repeat (first|(with_reducible first|exact HB.out|apply wA_|apply pw_below_drewN|apply below_drew1)|exact HB.out))));have n2_:=a_ (bS_ (by repeat (first|(with_reducible first|exact HB.out|apply wA_|apply pw_below_drewN|apply below_drew1)|exact HB.out)) hb);clear HB;have HO1151:=n0_;have HO1154:=n1_;have HB:=n2_;clear n0_ n1_ n2_;(try clear hb);(try clear hb2);(try clear hk);(try clear hi);(try clear ho0);(try clear ho1))|((with_reducible refine gD_ (N:=4) rfl ?_);refine box_event ?hg (N:=4) ?hd (cs:=#[.int .i64 0,.int .i64 0,.slice none 0 0,.slice none 0 0,.int .i64 0,.int .i64 0]) (t:=77) ?hr ?_;(case hd=>rfl);(case hg=>rfl);(case hr=>first|(go_simp;done)|(go_simp;rfl));intro gb1158 hg w19 hbox hb;have n0_:=a_ (Kd.R_below (by (with_reducible repeat (first|apply Kd.R_alloc|apply Kd.R_drewN|apply Kd.R_drew));exact HO1151.out) hb);have n1_:=a_ (Kd.R_below (by (with_reducible repeat (first|apply Kd.R_alloc|apply Kd.R_drewN|apply Kd.R_drew));exact HO1154.out) hb);have n2_:=a_ (bS_ (by repeat (first|(with_reducible first|exact HB.out|apply wA_|apply pw_below_drewN|apply below_drew1)|exact HB.out)) hb);have n3_:=a_ (hbox);have n4_:=a_ ((by rw [hg];exact (below_size (by repeat (first|(with_reducible first|exact HB.out|apply wA_|apply pw_below_drewN|apply below_drew1)|exact HB.out))):w.heap.size≤gb1158));have n5_:=a_ ((by rw [hg];exact (below_size (by repeat (first|(with_reducible first|exact HB.out|apply wA_|apply pw_below_drewN|apply below_drew1)|exact HB.out))):w.heap.size≤gb1158));clear HO1151;clear HO1154;clear HB;have HO1151:=n0_;have HO1154:=n1_;have HB:=n2_;have BK1158:=n3_;have GW1158:=n4_;have GE1158:=n5_;clear n0_ n1_ n2_ n3_ n4_ n5_;clear hb hbox hg;have Z20_0:w19.cell? ⟨gb1158,0,none⟩=some (.int .i64 0):=(bC_ BK1158.out 0).trans rfl;have Z20_1:w19.cell? ⟨gb1158,1,none⟩=some (.int .i64 0):=(bC_ BK1158.out 1).trans rfl;have Z20_2:w19.cell? ⟨gb1158,2,none⟩=some (.slice none 0 0):=(bC_ BK1158.out 2).trans rfl;have Z20_3:w19.cell? ⟨gb1158,3,none⟩=some (.slice none 0 0):=(bC_ BK1158.out 3).trans rfl;have Z20_4:w19.cell? ⟨gb1158,4,none⟩=some (.int .i64 0):=(bC_ BK1158.out 4).trans rfl;have Z20_5:w19.cell? ⟨gb1158,5,none⟩=some (.int .i64 0):=(bC_ BK1158.out 5).trans rfl;have Y20_0:=bF_ BK1158.out 0;have Y20_1:=bF_ BK1158.out 1;have Y20_2:=bF_ BK1158.out 2;have Y20_3:=bF_ BK1158.out 3;have Y20_4:=bF_ BK1158.out 4;have Y20_5:=bF_ BK1158.out 5;obtain ⟨Ao21,co21,eo21⟩:=Kd.R_slice HO1151.out;subst eo21;obtain ⟨Ao22,co22,eo22⟩:=Kd.R_slice HO1154.out;subst eo22)|((with_reducible refine gC_ (f:=58) rfl ?_);refine goesL_ (some 20) rfl rfl Tryd.func58 (by kernel_rfl) rfl #[.int .i64 t1146] rfl (by (try simp only [List.map_toArray,List.map_cons,List.map_nil]);first|done|rfl|(simp only [List.length_drop,List.length_take];rfl)) ?_;(with_reducible refine (impl_ClientNew.calls t1146 t1159 t1160 t1161 t1164 t1167 t1168 true _ A5.out).mono ?_);rintro e w23 ⟨v1162,v1165,rfl,ho0,ho1,hb⟩;refine ⟨_,rfl,?_⟩;have n0_:=a_ (Kd.R_elder' (by (with_reducible repeat (first|apply Kd.R_alloc|apply Kd.R_drewN|apply Kd.R_drew));exact (Kd.R_mono (Kd.R_far (p:=⟨gb1158,5,none⟩) (Kd.R_far (p:=⟨gb1158,4,none⟩) (Kd.R_far (p:=⟨gb1158,3,none⟩) (Kd.R_far (p:=⟨gb1158,2,none⟩) (Kd.R_far (p:=⟨gb1158,1,none⟩) (Kd.R_far (p:=⟨gb1158,0,none⟩) (Kd.R_types HO1151.out BK1158.out (by decide)) (fun _ hk=>hk.2) (.int .i64 t1147)) (fun _ hk=>hk.2) (.int .i64 t1148)) (fun _ hk=>hk.2) (.slice Ao21 t1149.length co21)) (fun _ hk=>hk.2) (.slice Ao22 t1152.length co22)) (fun _ hk=>hk.2) (.int .i64 t1155)) (fun _ hk=>hk.2) (.int .i64 t1156)) (fun _ h_=>h_.1))) (Kd.R_base ho0) hb);have n1_:=a_ (Kd.R_elder' (by (with_reducible repeat (first|apply Kd.R_alloc|apply Kd.R_drewN|apply Kd.R_drew));exact (Kd.R_mono (Kd.R_far (p:=⟨gb1158,5,none⟩) (Kd.R_far (p:=⟨gb1158,4,none⟩) (Kd.R_far (p:=⟨gb1158,3,none⟩) (Kd.R_far (p:=⟨gb1158,2,none⟩) (Kd.R_far (p:=⟨gb1158,1,none⟩) (Kd.R_far (p:=⟨gb1158,0,none⟩) (Kd.R_types HO1154.out BK1158.out (by decide)) (fun _ hk=>hk.2) (.int .i64 t1147)) (fun _ hk=>hk.2) (.int .i64 t1148)) (fun _ hk=>hk.2) (.slice Ao21 t1149.length co21)) (fun _ hk=>hk.2) (.slice Ao22 t1152.length co22)) (fun _ hk=>hk.2) (.int .i64 t1155)) (fun _ hk=>hk.2) (.int .i64 t1156)) (fun _ h_=>h_.1))) (Kd.R_base ho1) hb);have n2_:=a_ (Kd.R_lower (Kd.R_new' ho0 (Kd.R_lt (by (with_reducible repeat (first|apply Kd.R_alloc|apply Kd.R_drewN|apply Kd.R_drew));exact (Kd.R_mono (Kd.R_far (p:=⟨gb1158,5,none⟩) (Kd.R_far (p:=⟨gb1158,4,none⟩) (Kd.R_far (p:=⟨gb1158,3,none⟩) (Kd.R_far (p:=⟨gb1158,2,none⟩) (Kd.R_far (p:=⟨gb1158,1,none⟩) (Kd.R_far (p:=⟨gb1158,0,none⟩) (Kd.R_types HO1151.out BK1158.out (by decide)) (fun _ hk=>hk.2) (.int .i64 t1147)) (fun _ hk=>hk.2) (.int .i64 t1148)) (fun _ hk=>hk.2) (.slice Ao21 t1149.length co21)) (fun _ hk=>hk.2) (.slice Ao22 t1152.length co22)) (fun _ hk=>hk.2) (.int .i64 t1155)) (fun _ hk=>hk.2) (.int .i64 t1156)) (fun _ h_=>h_.1))))) (below_size (by repeat (first|(with_reducible first|exact HB.out|apply wA_|apply pw_below_drewN|apply below_drew1|refine wS_ ?_ GE1158.out)|exact HB.out))));have n3_:=a_ (Kd.R_lower (Kd.R_new' ho1 (Kd.R_lt (by (with_reducible repeat (first|apply Kd.R_alloc|apply Kd.R_drewN|apply Kd.R_drew));exact (Kd.R_mono (Kd.R_far (p:=⟨gb1158,5,none⟩) (Kd.R_far (p:=⟨gb1158,4,none⟩) (Kd.R_far (p:=⟨gb1158,3,none⟩) (Kd.R_far (p:=⟨gb1158,2,none⟩) (Kd.R_far (p:=⟨gb1158,1,none⟩) (Kd.R_far (p:=⟨gb1158,0,none⟩) (Kd.R_types HO1154.out BK1158.out (by decide)) (fun _ hk=>hk.2) (.int .i64 t1147)) (fun _ hk=>hk.2) (.int .i64 t1148)) (fun _ hk=>hk.2) (.slice Ao21 t1149.length co21)) (fun _ hk=>hk.2) (.slice Ao22 t1152.length co22)) (fun _ hk=>hk.2) (.int .i64 t1155)) (fun _ hk=>hk.2) (.int .i64 t1156)) (fun _ h_=>h_.1))))) (below_size (by repeat (first|(with_reducible first|exact HB.out|apply wA_|apply pw_below_drewN|apply below_drew1|refine wS_ ?_ GE1158.out)|exact HB.out))));have n4_:=a_ (blk_below (g:=gb1158) (o:=.cells #[.int .i64 t1147,.int .i64 t1148,.slice Ao21 t1149.length co21,.slice Ao22 t1152.length co22,.int .i64 t1155,.int .i64 t1156] 77 (0,0)) (by (with_reducible repeat (first|refine bN_ ?_ _|refine bD_ ?_|refine bA_ ?_ _));refine blk_put (cs:=#[.int .i64 t1147,.int .i64 t1148,.slice Ao21 t1149.length co21,.slice Ao22 t1152.length co22,.int .i64 t1155,.int .i64 0]) ?_ 5 _ rfl;(with_reducible repeat (first|refine bN_ ?_ _|refine bD_ ?_|refine bA_ ?_ _));refine blk_put (cs:=#[.int .i64 t1147,.int .i64 t1148,.slice Ao21 t1149.length co21,.slice Ao22 t1152.length co22,.int .i64 0,.int .i64 0]) ?_ 4 _ rfl;(with_reducible repeat (first|refine bN_ ?_ _|refine bD_ ?_|refine bA_ ?_ _));refine blk_put (cs:=#[.int .i64 t1147,.int .i64 t1148,.slice Ao21 t1149.length co21,.slice none 0 0,.int .i64 0,.int .i64 0]) ?_ 3 _ rfl;(with_reducible repeat (first|refine bN_ ?_ _|refine bD_ ?_|refine bA_ ?_ _));refine blk_put (cs:=#[.int .i64 t1147,.int .i64 t1148,.slice none 0 0,.slice none 0 0,.int .i64 0,.int .i64 0]) ?_ 2 _ rfl;(with_reducible repeat (first|refine bN_ ?_ _|refine bD_ ?_|refine bA_ ?_ _));refine blk_put (cs:=#[.int .i64 t1147,.int .i64 0,.slice none 0 0,.slice none 0 0,.int .i64 0,.int .i64 0]) ?_ 1 _ rfl;(with_reducible repeat (first|refine bN_ ?_ _|refine bD_ ?_|refine bA_ ?_ _));refine blk_put (cs:=#[.int .i64 0,.int .i64 0,.slice none 0 0,.slice none 0 0,.int .i64 0,.int .i64 0]) ?_ 0 _ rfl;(with_reducible repeat (first|refine bN_ ?_ _|refine bD_ ?_|refine bA_ ?_ _));exact BK1158.out) hb);have n5_:=a_ (bS_ (by repeat (first|(with_reducible first|exact HB.out|apply wA_|apply pw_below_drewN|apply below_drew1|refine wS_ ?_ GE1158.out)|exact HB.out)) hb);clear HO1151;clear HO1154;clear BK1158;clear HB;have HO1151:=n0_;have HO1154:=n1_;have HO1163:=n2_;have HO1166:=n3_;have BK1158:=n4_;have HB:=n5_;clear n0_ n1_ n2_ n3_ n4_ n5_;(try clear hb);(try clear hb2);(try clear hk);(try clear hi);(try clear ho0);(try clear ho1))|((with_reducible refine gD_ (N:=6) rfl ?_);refine box_event ?hg (N:=6) ?hd (cs:=#[.int .i64 0,.int .i64 0,.slice none 0 0,.slice none 0 0,.int .i64 0,.int .i64 0]) (t:=77) ?hr ?_;(case hd=>rfl);(case hg=>rfl);(case hr=>first|(go_simp;done)|(go_simp;rfl));intro gb1170 hg w24 hbox hb;have n0_:=a_ (Kd.R_below (by (with_reducible repeat (first|apply Kd.R_alloc|apply Kd.R_drewN|apply Kd.R_drew));exact HO1151.out) hb);have n1_:=a_ (Kd.R_below (by (with_reducible repeat (first|apply Kd.R_alloc|apply Kd.R_drewN|apply Kd.R_drew));exact HO1154.out) hb);have n2_:=a_ (Kd.R_below (by (with_reducible repeat (first|apply Kd.R_alloc|apply Kd.R_drewN|apply Kd.R_drew));exact HO1163.out) hb);have n3_:=a_ (Kd.R_below (by (with_reducible repeat (first|apply Kd.R_alloc|apply Kd.R_drewN|apply Kd.R_drew));exact HO1166.out) hb);have n4_:=a_ (blk_below (g:=gb1158) (o:=.cells #[.int .i64 t1147,.int .i64 t1148,.slice Ao21 t1149.length co21,.slice Ao22 t1152.length co22,.int .i64 t1155,.int .i64 t1156] 77 (0,0)) (by (with_reducible repeat (first|refine bN_ ?_ _|refine bD_ ?_|refine bA_ ?_ _));exact BK1158.out) hb);have n5_:=a_ (bS_ (by repeat (first|(with_reducible first|exact HB.out|apply wA_|apply pw_below_drewN|apply below_drew1|refine wS_ ?_ GE1158.out)|exact HB.out)) hb);have n6_:=a_ (hbox);have n7_:=a_ ((by rw [hg];exact (below_size (by repeat (first|(with_reducible first|exact HB.out|apply wA_|apply pw_below_drewN|apply below_drew1|refine wS_ ?_ GE1158.out)|exact HB.out))):w.heap.size≤gb1170));have n8_:=a_ ((by rw [hg];exact (below_size (by repeat (first|(with_reducible first|exact HB.out|apply wA_|apply pw_below_drewN|apply below_drew1|refine wS_ ?_ GE1158.out)|exact HB.out))):w.heap.size≤gb1170));have n9_:=a_ ((by rw [hg];exact Nat.ne_of_lt (blk_lt (g:=gb1158) (o:=.cells #[.int .i64 t1147,.int .i64 t1148,.slice Ao21 t1149.length co21,.slice Ao22 t1152.length co22,.int .i64 t1155,.int .i64 t1156] 77 (0,0)) (by (with_reducible repeat (first|refine bN_ ?_ _|refine bD_ ?_|refine bA_ ?_ _));exact BK1158.out)):gb1158≠gb1170));have n10_:=a_ ((by rw [hg];exact Nat.ne_of_gt (blk_lt (g:=gb1158) (o:=.cells #[.int .i64 t1147,.int .i64 t1148,.slice Ao21 t1149.length co21,.slice Ao22 t1152.length co22,.int .i64 t1155,.int .i64 t1156] 77 (0,0)) (by (with_reducible repeat (first|refine bN_ ?_ _|refine bD_ ?_|refine bA_ ?_ _));exact BK1158.out)):gb1170≠gb1158));clear HO1151;clear HO1154;clear HO1163;clear HO1166;clear BK1158;clear HB;have HO1151:=n0_;have HO1154:=n1_;have HO1163:=n2_;have HO1166:=n3_;have BK1158:=n4_;have HB:=n5_;have BK1170:=n6_;have GW1170:=n7_;have GE1170:=n8_;have NB1158_1170:=n9_;have NB1170_1158:=n10_;clear n0_ n1_ n2_ n3_ n4_ n5_ n6_ n7_ n8_ n9_ n10_;clear hb hbox hg;have hnb25:=NB1170_1158.out;have hnc25:=NB1158_1170.out;have Z26_0:w24.cell? ⟨gb1170,0,none⟩=some (.int .i64 0):=(bC_ BK1170.out 0).trans rfl;have Z26_1:w24.cell? ⟨gb1170,1,none⟩=some (.int .i64 0):=(bC_ BK1170.out 1).trans rfl;have Z26_2:w24.cell? ⟨gb1170,2,none⟩=some (.slice none 0 0):=(bC_ BK1170.out 2).trans rfl;have Z26_3:w24.cell? ⟨gb1170,3,none⟩=some (.slice none 0 0):=(bC_ BK1170.out 3).trans rfl;have Z26_4:w24.cell? ⟨gb1170,4,none⟩=some (.int .i64 0):=(bC_ BK1170.out 4).trans rfl;have Z26_5:w24.cell? ⟨gb1170,5,none⟩=some (.int .i64 0):=(bC_ BK1170.out 5).trans rfl;have Y26_0:=bF_ BK1170.out 0;have Y26_1:=bF_ BK1170.out 1;have Y26_2:=bF_ BK1170.out 2;have Y26_3:=bF_ BK1170.out 3;have Y26_4:=bF_ BK1170.out 4;have Y26_5:=bF_ BK1170.out 5;obtain ⟨Ao27,co27,eo27⟩:=Kd.R_slice HO1163.out;subst eo27;obtain ⟨Ao28,co28,eo28⟩:=Kd.R_slice HO1166.out;subst eo28;have Z29_0:w24.cell? ⟨gb1158,0,none⟩=some (.int .i64 t1147):=(bC_ BK1158.out 0).trans rfl;have Z29_1:w24.cell? ⟨gb1158,1,none⟩=some (.int .i64 t1148):=(bC_ BK1158.out 1).trans rfl;have Z29_2:w24.cell? ⟨gb1158,2,none⟩=some (.slice Ao21 t1149.length co21):=(bC_ BK1158.out 2).trans rfl;have Z29_3:w24.cell? ⟨gb1158,3,none⟩=some (.slice Ao22 t1152.length co22):=(bC_ BK1158.out 3).trans rfl;have Z29_4:w24.cell? ⟨gb1158,4,none⟩=some (.int .i64 t1155):=(bC_ BK1158.out 4).trans rfl;have Z29_5:w24.cell? ⟨gb1158,5,none⟩=some (.int .i64 t1156):=(bC_ BK1158.out 5).trans rfl;have Y29_0:=bF_ BK1158.out 0;have Y29_1:=bF_ BK1158.out 1;have Y29_2:=bF_ BK1158.out 2;have Y29_3:=bF_ BK1158.out 3;have Y29_4:=bF_ BK1158.out 4;have Y29_5:=bF_ BK1158.out 5)|(go_at_call 59;(with_reducible refine (laws_lpClient.calls k t1159 t1160 _ _ t1161 _ _ t1164 t1167 t1168 t1147 t1148 _ _ t1149 _ _ t1152 t1155 t1156 true _ ?side1 ?side2 ?side3 ?side4 ?side5 ?side6 ?side7 ?side8 A7.out).mono ?_);(case side1=>refine (Kd.R_reads' (e:=69) (base:=w.heap.size) (ok:=fun k_=>(True∧some k_≠(.slice Ao21 t1149.length co21:Value).ownBlock)) (n:=t1161.length) (c:=co27) ?_).2.2;exact (by (with_reducible repeat (first|apply Kd.R_alloc|apply Kd.R_drewN|apply Kd.R_drew));exact (Kd.R_mono (Kd.R_far (p:=⟨gb1170,5,none⟩) (Kd.R_far (p:=⟨gb1170,4,none⟩) (Kd.R_far (p:=⟨gb1170,3,none⟩) (Kd.R_far (p:=⟨gb1170,2,none⟩) (Kd.R_far (p:=⟨gb1170,1,none⟩) (Kd.R_far (p:=⟨gb1170,0,none⟩) (Kd.R_types HO1163.out BK1170.out (by decide)) (fun _ hk=>hk.2) (.int .i64 t1159)) (fun _ hk=>hk.2) (.int .i64 t1160)) (fun _ hk=>hk.2) (.slice Ao27 t1161.length co27)) (fun _ hk=>hk.2) (.slice Ao28 t1164.length co28)) (fun _ hk=>hk.2) (.int .i64 t1167)) (fun _ hk=>hk.2) (.int .i64 t1168)) (fun _ h_=>h_.1))));(case side2=>exact (Kd.R_reads' HO1163.out).2.1);(case side3=>refine (Kd.R_reads' (e:=44) (base:=w.heap.size) (ok:=fun k_=>(True∧some k_≠(.slice Ao22 t1152.length co22:Value).ownBlock)) (n:=t1164.length) (c:=co28) ?_).2.2;exact (by (with_reducible repeat (first|apply Kd.R_alloc|apply Kd.R_drewN|apply Kd.R_drew));exact (Kd.R_mono (Kd.R_far (p:=⟨gb1170,5,none⟩) (Kd.R_far (p:=⟨gb1170,4,none⟩) (Kd.R_far (p:=⟨gb1170,3,none⟩) (Kd.R_far (p:=⟨gb1170,2,none⟩) (Kd.R_far (p:=⟨gb1170,1,none⟩) (Kd.R_far (p:=⟨gb1170,0,none⟩) (Kd.R_types HO1166.out BK1170.out (by decide)) (fun _ hk=>hk.2) (.int .i64 t1159)) (fun _ hk=>hk.2) (.int .i64 t1160)) (fun _ hk=>hk.2) (.slice Ao27 t1161.length co27)) (fun _ hk=>hk.2) (.slice Ao28 t1164.length co28)) (fun _ hk=>hk.2) (.int .i64 t1167)) (fun _ hk=>hk.2) (.int .i64 t1168)) (fun _ h_=>h_.1))));(case side4=>exact (Kd.R_reads' HO1166.out).2.1);(case side5=>refine (Kd.R_reads' (e:=69) (base:=w.heap.size) (ok:=fun k_=>(True∧some k_≠(.slice Ao27 t1161.length co27:Value).ownBlock)) (n:=t1149.length) (c:=co21) ?_).2.2;exact (by (with_reducible repeat (first|apply Kd.R_alloc|apply Kd.R_drewN|apply Kd.R_drew));exact (Kd.R_mono (Kd.R_far (p:=⟨gb1170,5,none⟩) (Kd.R_far (p:=⟨gb1170,4,none⟩) (Kd.R_far (p:=⟨gb1170,3,none⟩) (Kd.R_far (p:=⟨gb1170,2,none⟩) (Kd.R_far (p:=⟨gb1170,1,none⟩) (Kd.R_far (p:=⟨gb1170,0,none⟩) (Kd.R_types HO1151.out BK1170.out (by decide)) (fun _ hk=>hk.2) (.int .i64 t1159)) (fun _ hk=>hk.2) (.int .i64 t1160)) (fun _ hk=>hk.2) (.slice Ao27 t1161.length co27)) (fun _ hk=>hk.2) (.slice Ao28 t1164.length co28)) (fun _ hk=>hk.2) (.int .i64 t1167)) (fun _ hk=>hk.2) (.int .i64 t1168)) (fun _ h_=>h_.1))));(case side6=>exact (Kd.R_reads' HO1151.out).2.1);(case side7=>refine (Kd.R_reads' (e:=44) (base:=w.heap.size) (ok:=fun k_=>(True∧some k_≠(.slice Ao28 t1164.length co28:Value).ownBlock)) (n:=t1152.length) (c:=co22) ?_).2.2;exact (by (with_reducible repeat (first|apply Kd.R_alloc|apply Kd.R_drewN|apply Kd.R_drew));exact (Kd.R_mono (Kd.R_far (p:=⟨gb1170,5,none⟩) (Kd.R_far (p:=⟨gb1170,4,none⟩) (Kd.R_far (p:=⟨gb1170,3,none⟩) (Kd.R_far (p:=⟨gb1170,2,none⟩) (Kd.R_far (p:=⟨gb1170,1,none⟩) (Kd.R_far (p:=⟨gb1170,0,none⟩) (Kd.R_types HO1154.out BK1170.out (by decide)) (fun _ hk=>hk.2) (.int .i64 t1159)) (fun _ hk=>hk.2) (.int .i64 t1160)) (fun _ hk=>hk.2) (.slice Ao27 t1161.length co27)) (fun _ hk=>hk.2) (.slice Ao28 t1164.length co28)) (fun _ hk=>hk.2) (.int .i64 t1167)) (fun _ hk=>hk.2) (.int .i64 t1168)) (fun _ h_=>h_.1))));(case side8=>exact (Kd.R_reads' HO1154.out).2.1);rintro e w30 ⟨rfl,hb⟩;have n0_:=a_ (Kd.R_below (by (with_reducible repeat (first|apply Kd.R_alloc|apply Kd.R_drewN|apply Kd.R_drew));exact (Kd.R_mono (Kd.R_far (p:=⟨gb1170,5,none⟩) (Kd.R_far (p:=⟨gb1170,4,none⟩) (Kd.R_far (p:=⟨gb1170,3,none⟩) (Kd.R_far (p:=⟨gb1170,2,none⟩) (Kd.R_far (p:=⟨gb1170,1,none⟩) (Kd.R_far (p:=⟨gb1170,0,none⟩) (Kd.R_types HO1151.out BK1170.out (by decide)) (fun _ hk=>hk.2) (.int .i64 t1159)) (fun _ hk=>hk.2) (.int .i64 t1160)) (fun _ hk=>hk.2) (.slice Ao27 t1161.length co27)) (fun _ hk=>hk.2) (.slice Ao28 t1164.length co28)) (fun _ hk=>hk.2) (.int .i64 t1167)) (fun _ hk=>hk.2) (.int .i64 t1168)) (fun _ h_=>h_.1))) hb);have n1_:=a_ (Kd.R_below (by (with_reducible repeat (first|apply Kd.R_alloc|apply Kd.R_drewN|apply Kd.R_drew));exact (Kd.R_mono (Kd.R_far (p:=⟨gb1170,5,none⟩) (Kd.R_far (p:=⟨gb1170,4,none⟩) (Kd.R_far (p:=⟨gb1170,3,none⟩) (Kd.R_far (p:=⟨gb1170,2,none⟩) (Kd.R_far (p:=⟨gb1170,1,none⟩) (Kd.R_far (p:=⟨gb1170,0,none⟩) (Kd.R_types HO1154.out BK1170.out (by decide)) (fun _ hk=>hk.2) (.int .i64 t1159)) (fun _ hk=>hk.2) (.int .i64 t1160)) (fun _ hk=>hk.2) (.slice Ao27 t1161.length co27)) (fun _ hk=>hk.2) (.slice Ao28 t1164.length co28)) (fun _ hk=>hk.2) (.int .i64 t1167)) (fun _ hk=>hk.2) (.int .i64 t1168)) (fun _ h_=>h_.1))) hb);have n2_:=a_ (Kd.R_below (by (with_reducible repeat (first|apply Kd.R_alloc|apply Kd.R_drewN|apply Kd.R_drew));exact (Kd.R_mono (Kd.R_far (p:=⟨gb1170,5,none⟩) (Kd.R_far (p:=⟨gb1170,4,none⟩) (Kd.R_far (p:=⟨gb1170,3,none⟩) (Kd.R_far (p:=⟨gb1170,2,none⟩) (Kd.R_far (p:=⟨gb1170,1,none⟩) (Kd.R_far (p:=⟨gb1170,0,none⟩) (Kd.R_types HO1163.out BK1170.out (by decide)) (fun _ hk=>hk.2) (.int .i64 t1159)) (fun _ hk=>hk.2) (.int .i64 t1160)) (fun _ hk=>hk.2) (.slice Ao27 t1161.length co27)) (fun _ hk=>hk.2) (.slice Ao28 t1164.length co28)) (fun _ hk=>hk.2) (.int .i64 t1167)) (fun _ hk=>hk.2) (.int .i64 t1168)) (fun _ h_=>h_.1))) hb);have n3_:=a_ (Kd.R_below (by (with_reducible repeat (first|apply Kd.R_alloc|apply Kd.R_drewN|apply Kd.R_drew));exact (Kd.R_mono (Kd.R_far (p:=⟨gb1170,5,none⟩) (Kd.R_far (p:=⟨gb1170,4,none⟩) (Kd.R_far (p:=⟨gb1170,3,none⟩) (Kd.R_far (p:=⟨gb1170,2,none⟩) (Kd.R_far (p:=⟨gb1170,1,none⟩) (Kd.R_far (p:=⟨gb1170,0,none⟩) (Kd.R_types HO1166.out BK1170.out (by decide)) (fun _ hk=>hk.2) (.int .i64 t1159)) (fun _ hk=>hk.2) (.int .i64 t1160)) (fun _ hk=>hk.2) (.slice Ao27 t1161.length co27)) (fun _ hk=>hk.2) (.slice Ao28 t1164.length co28)) (fun _ hk=>hk.2) (.int .i64 t1167)) (fun _ hk=>hk.2) (.int .i64 t1168)) (fun _ h_=>h_.1))) hb);have n4_:=a_ (blk_below (g:=gb1158) (o:=.cells #[.int .i64 t1147,.int .i64 t1148,.slice Ao21 t1149.length co21,.slice Ao22 t1152.length co22,.int .i64 t1155,.int .i64 t1156] 77 (0,0)) (by (with_reducible repeat (first|refine bN_ ?_ _|refine bD_ ?_|refine bA_ ?_ _));refine blk_far ?_ NB1158_1170.out _;(with_reducible repeat (first|refine bN_ ?_ _|refine bD_ ?_|refine bA_ ?_ _));refine blk_far ?_ NB1158_1170.out _;(with_reducible repeat (first|refine bN_ ?_ _|refine bD_ ?_|refine bA_ ?_ _));refine blk_far ?_ NB1158_1170.out _;(with_reducible repeat (first|refine bN_ ?_ _|refine bD_ ?_|refine bA_ ?_ _));refine blk_far ?_ NB1158_1170.out _;(with_reducible repeat (first|refine bN_ ?_ _|refine bD_ ?_|refine bA_ ?_ _));refine blk_far ?_ NB1158_1170.out _;(with_reducible repeat (first|refine bN_ ?_ _|refine bD_ ?_|refine bA_ ?_ _));refine blk_far ?_ NB1158_1170.out _;(with_reducible repeat (first|refine bN_ ?_ _|refine bD_ ?_|refine bA_ ?_ _));exact BK1158.out) hb);have n5_:=a_ (blk_below (g:=gb1170) (o:=.cells #[.int .i64 t1159,.int .i64 t1160,.slice Ao27 t1161.length co27,.slice Ao28 t1164.length co28,.int .i64 t1167,.int .i64 t1168] 77 (0,0)) (by (with_reducible repeat (first|refine bN_ ?_ _|refine bD_ ?_|refine bA_ ?_ _));refine blk_put (cs:=#[.int .i64 t1159,.int .i64 t1160,.slice Ao27 t1161.length co27,.slice Ao28 t1164.length co28,.int .i64 t1167,.int .i64 0]) ?_ 5 _ rfl;(with_reducible repeat (first|refine bN_ ?_ _|refine bD_ ?_|refine bA_ ?_ _));refine blk_put (cs:=#[.int .i64 t1159,.int .i64 t1160,.slice Ao27 t1161.length co27,.slice Ao28 t1164.length co28,.int .i64 0,.int .i64 0]) ?_ 4 _ rfl;(with_reducible repeat (first|refine bN_ ?_ _|refine bD_ ?_|refine bA_ ?_ _));refine blk_put (cs:=#[.int .i64 t1159,.int .i64 t1160,.slice Ao27 t1161.length co27,.slice none 0 0,.int .i64 0,.int .i64 0]) ?_ 3 _ rfl;(with_reducible repeat (first|refine bN_ ?_ _|refine bD_ ?_|refine bA_ ?_ _));refine blk_put (cs:=#[.int .i64 t1159,.int .i64 t1160,.slice none 0 0,.slice none 0 0,.int .i64 0,.int .i64 0]) ?_ 2 _ rfl;(with_reducible repeat (first|refine bN_ ?_ _|refine bD_ ?_|refine bA_ ?_ _));refine blk_put (cs:=#[.int .i64 t1159,.int .i64 0,.slice none 0 0,.slice none 0 0,.int .i64 0,.int .i64 0]) ?_ 1 _ rfl;(with_reducible repeat (first|refine bN_ ?_ _|refine bD_ ?_|refine bA_ ?_ _));refine blk_put (cs:=#[.int .i64 0,.int .i64 0,.slice none 0 0,.slice none 0 0,.int .i64 0,.int .i64 0]) ?_ 0 _ rfl;(with_reducible repeat (first|refine bN_ ?_ _|refine bD_ ?_|refine bA_ ?_ _));exact BK1170.out) hb);have n6_:=a_ (bS_ (by repeat (first|(with_reducible first|exact HB.out|apply wA_|apply pw_below_drewN|apply below_drew1|refine wS_ ?_ GE1158.out|refine wS_ ?_ GE1170.out)|exact HB.out)) hb);clear HO1151;clear HO1154;clear HO1163;clear HO1166;clear BK1158;clear BK1170;clear HB;have HO1151:=n0_;have HO1154:=n1_;have HO1163:=n2_;have HO1166:=n3_;have BK1158:=n4_;have BK1170:=n5_;have HB:=n6_;clear n0_ n1_ n2_ n3_ n4_ n5_ n6_;(try clear hb);(try clear hb2);(try clear hk);(try clear hi);have Z31_0:w30.cell? ⟨gb1170,0,none⟩=some (.int .i64 t1159):=(bC_ BK1170.out 0).trans rfl;have Z31_1:w30.cell? ⟨gb1170,1,none⟩=some (.int .i64 t1160):=(bC_ BK1170.out 1).trans rfl;have Z31_2:w30.cell? ⟨gb1170,2,none⟩=some (.slice Ao27 t1161.length co27):=(bC_ BK1170.out 2).trans rfl;have Z31_3:w30.cell? ⟨gb1170,3,none⟩=some (.slice Ao28 t1164.length co28):=(bC_ BK1170.out 3).trans rfl;have Z31_4:w30.cell? ⟨gb1170,4,none⟩=some (.int .i64 t1167):=(bC_ BK1170.out 4).trans rfl;have Z31_5:w30.cell? ⟨gb1170,5,none⟩=some (.int .i64 t1168):=(bC_ BK1170.out 5).trans rfl;have Y31_0:=bF_ BK1170.out 0;have Y31_1:=bF_ BK1170.out 1;have Y31_2:=bF_ BK1170.out 2;have Y31_3:=bF_ BK1170.out 3;have Y31_4:=bF_ BK1170.out 4;have Y31_5:=bF_ BK1170.out 5)|((with_reducible refine gC_ (f:=60) rfl ?_);refine goesL_ (some 55) rfl rfl Tryd.func60 (by kernel_rfl) rfl #[.agg #[.int .i64 t1159,.int .i64 t1160,.slice Ao27 t1161.length co27,.slice Ao28 t1164.length co28,.int .i64 t1167,.int .i64 t1168]] rfl (by (try simp only [List.map_toArray,List.map_cons,List.map_nil]);first|done|rfl|(simp only [List.length_drop,List.length_take];rfl)) ?_;(with_reducible refine (impl_ClientOk.calls k t1159 t1160 _ _ t1161 _ _ t1164 t1167 t1168 true _ ?side1 ?side2 ?side3 ?side4 A10.out ?side5).mono ?_);(case side1=>repeat (first|exact (Kd.R_reads' HO1163.out).2.2|(with_reducible refine Kd.C_alloc ?_ _)|(with_reducible refine Kd.C_drewN ?_ _)|(with_reducible refine Kd.C_drew ?_)));(case side2=>exact (Kd.R_reads' HO1163.out).2.1);(case side3=>repeat (first|exact (Kd.R_reads' HO1166.out).2.2|(with_reducible refine Kd.C_alloc ?_ _)|(with_reducible refine Kd.C_drewN ?_ _)|(with_reducible refine Kd.C_drew ?_)));(case side4=>exact (Kd.R_reads' HO1166.out).2.1);(case side5=>exact Glob.below HG.out (by repeat (first|(with_reducible first|exact HB.out|apply wA_|apply pw_below_drewN|apply below_drew1|refine wS_ ?_ GE1158.out|refine wS_ ?_ GE1170.out)|exact HB.out)));rintro e w32 ⟨rfl,hb⟩;refine ⟨_,rfl,?_⟩;have n0_:=a_ (Kd.R_below (by (with_reducible repeat (first|apply Kd.R_alloc|apply Kd.R_drewN|apply Kd.R_drew));exact HO1151.out) hb);have n1_:=a_ (Kd.R_below (by (with_reducible repeat (first|apply Kd.R_alloc|apply Kd.R_drewN|apply Kd.R_drew));exact HO1154.out) hb);have n2_:=a_ (Kd.R_below (by (with_reducible repeat (first|apply Kd.R_alloc|apply Kd.R_drewN|apply Kd.R_drew));exact HO1163.out) hb);have n3_:=a_ (Kd.R_below (by (with_reducible repeat (first|apply Kd.R_alloc|apply Kd.R_drewN|apply Kd.R_drew));exact HO1166.out) hb);have n4_:=a_ (blk_below (g:=gb1158) (o:=.cells #[.int .i64 t1147,.int .i64 t1148,.slice Ao21 t1149.length co21,.slice Ao22 t1152.length co22,.int .i64 t1155,.int .i64 t1156] 77 (0,0)) (by (with_reducible repeat (first|refine bN_ ?_ _|refine bD_ ?_|refine bA_ ?_ _));exact BK1158.out) hb);have n5_:=a_ (blk_below (g:=gb1170) (o:=.cells #[.int .i64 t1159,.int .i64 t1160,.slice Ao27 t1161.length co27,.slice Ao28 t1164.length co28,.int .i64 t1167,.int .i64 t1168] 77 (0,0)) (by (with_reducible repeat (first|refine bN_ ?_ _|refine bD_ ?_|refine bA_ ?_ _));exact BK1170.out) hb);have n6_:=a_ (bS_ (by repeat (first|(with_reducible first|exact HB.out|apply wA_|apply pw_below_drewN|apply below_drew1|refine wS_ ?_ GE1158.out|refine wS_ ?_ GE1170.out)|exact HB.out)) hb);clear HO1151;clear HO1154;clear HO1163;clear HO1166;clear BK1158;clear BK1170;clear HB;have HO1151:=n0_;have HO1154:=n1_;have HO1163:=n2_;have HO1166:=n3_;have BK1158:=n4_;have BK1170:=n5_;have HB:=n6_;clear n0_ n1_ n2_ n3_ n4_ n5_ n6_;(try clear hb);(try clear hb2);(try clear hk);(try clear hi);have Z33_0:w32.cell? ⟨gb1170,0,none⟩=some (.int .i64 t1159):=(bC_ BK1170.out 0).trans rfl;have Z33_1:w32.cell? ⟨gb1170,1,none⟩=some (.int .i64 t1160):=(bC_ BK1170.out 1).trans rfl;have Z33_2:w32.cell? ⟨gb1170,2,none⟩=some (.slice Ao27 t1161.length co27):=(bC_ BK1170.out 2).trans rfl;have Z33_3:w32.cell? ⟨gb1170,3,none⟩=some (.slice Ao28 t1164.length co28):=(bC_ BK1170.out 3).trans rfl;have Z33_4:w32.cell? ⟨gb1170,4,none⟩=some (.int .i64 t1167):=(bC_ BK1170.out 4).trans rfl;have Z33_5:w32.cell? ⟨gb1170,5,none⟩=some (.int .i64 t1168):=(bC_ BK1170.out 5).trans rfl;have Y33_0:=bF_ BK1170.out 0;have Y33_1:=bF_ BK1170.out 1;have Y33_2:=bF_ BK1170.out 2;have Y33_3:=bF_ BK1170.out 3;have Y33_4:=bF_ BK1170.out 4;have Y33_5:=bF_ BK1170.out 5)|(go_at_call 61;(with_reducible refine (impl_ClientShow.calls k t1159 t1160 _ _ t1161 _ _ t1164 t1167 t1168 t1174 _ ?side1 ?side2 ?side3 ?side4 A12.out ?side5).mono ?_);(case side1=>repeat (first|exact (Kd.R_reads' HO1163.out).2.2|(with_reducible refine Kd.C_alloc ?_ _)|(with_reducible refine Kd.C_drewN ?_ _)|(with_reducible refine Kd.C_drew ?_)));(case side2=>exact (Kd.R_reads' HO1163.out).2.1);(case side3=>repeat (first|exact (Kd.R_reads' HO1166.out).2.2|(with_reducible refine Kd.C_alloc ?_ _)|(with_reducible refine Kd.C_drewN ?_ _)|(with_reducible refine Kd.C_drew ?_)));(case side4=>exact (Kd.R_reads' HO1166.out).2.1);(case side5=>exact Glob.below HG.out (by repeat (first|(with_reducible first|exact HB.out|apply wA_|apply pw_below_drewN|apply below_drew1|refine wS_ ?_ GE1158.out|refine wS_ ?_ GE1170.out)|exact HB.out)));rintro e w34 ⟨v1175,rfl,ho0,hb⟩;have n0_:=a_ (Kd.R_elder' (by (with_reducible repeat (first|apply Kd.R_alloc|apply Kd.R_drewN|apply Kd.R_drew));exact HO1151.out) (Kd.R_base ho0) hb);have n1_:=a_ (Kd.R_below (by (with_reducible repeat (first|apply Kd.R_alloc|apply Kd.R_drewN|apply Kd.R_drew));exact HO1154.out) hb);have n2_:=a_ (Kd.R_elder' (by (with_reducible repeat (first|apply Kd.R_alloc|apply Kd.R_drewN|apply Kd.R_drew));exact HO1163.out) (Kd.R_base ho0) hb);have n3_:=a_ (Kd.R_below (by (with_reducible repeat (first|apply Kd.R_alloc|apply Kd.R_drewN|apply Kd.R_drew));exact HO1166.out) hb);have n4_:=a_ (Kd.R_lower (Kd.R_new' (Kd.R_new' ho0 (Kd.R_lt (by (with_reducible repeat (first|apply Kd.R_alloc|apply Kd.R_drewN|apply Kd.R_drew));exact HO1151.out))) (Kd.R_lt (by (with_reducible repeat (first|apply Kd.R_alloc|apply Kd.R_drewN|apply Kd.R_drew));exact HO1163.out))) (below_size (by repeat (first|(with_reducible first|exact HB.out|apply wA_|apply pw_below_drewN|apply below_drew1|refine wS_ ?_ GE1158.out|refine wS_ ?_ GE1170.out)|exact HB.out))));have n5_:=a_ (blk_below (g:=gb1158) (o:=.cells #[.int .i64 t1147,.int .i64 t1148,.slice Ao21 t1149.length co21,.slice Ao22 t1152.length co22,.int .i64 t1155,.int .i64 t1156] 77 (0,0)) (by (with_reducible repeat (first|refine bN_ ?_ _|refine bD_ ?_|refine bA_ ?_ _));exact BK1158.out) hb);have n6_:=a_ (blk_below (g:=gb1170) (o:=.cells #[.int .i64 t1159,.int .i64 t1160,.slice Ao27 t1161.length co27,.slice Ao28 t1164.length co28,.int .i64 t1167,.int .i64 t1168] 77 (0,0)) (by (with_reducible repeat (first|refine bN_ ?_ _|refine bD_ ?_|refine bA_ ?_ _));exact BK1170.out) hb);have n7_:=a_ (bS_ (by repeat (first|(with_reducible first|exact HB.out|apply wA_|apply pw_below_drewN|apply below_drew1|refine wS_ ?_ GE1158.out|refine wS_ ?_ GE1170.out)|exact HB.out)) hb);clear HO1151;clear HO1154;clear HO1163;clear HO1166;clear BK1158;clear BK1170;clear HB;have HO1151:=n0_;have HO1154:=n1_;have HO1163:=n2_;have HO1166:=n3_;have HO1176:=n4_;have BK1158:=n5_;have BK1170:=n6_;have HB:=n7_;clear n0_ n1_ n2_ n3_ n4_ n5_ n6_ n7_;(try clear hb);(try clear hb2);(try clear hk);(try clear hi);(try clear ho0))|(go_at_call 48;(with_reducible refine (impl_TreeNew.calls  t1177 _ A13.out).mono ?_);rintro e w35 ⟨v1178,rfl,ho0,hb⟩;have n0_:=a_ (Kd.R_elder' (by (with_reducible repeat (first|apply Kd.R_alloc|apply Kd.R_drewN|apply Kd.R_drew));exact HO1151.out) (Kd.R_base ho0) hb);have n1_:=a_ (Kd.R_below (by (with_reducible repeat (first|apply Kd.R_alloc|apply Kd.R_drewN|apply Kd.R_drew));exact HO1154.out) hb);have n2_:=a_ (Kd.R_elder' (by (with_reducible repeat (first|apply Kd.R_alloc|apply Kd.R_drewN|apply Kd.R_drew));exact HO1163.out) (Kd.R_base ho0) hb);have n3_:=a_ (Kd.R_below (by (with_reducible repeat (first|apply Kd.R_alloc|apply Kd.R_drewN|apply Kd.R_drew));exact HO1166.out) hb);have n4_:=a_ (Kd.R_elder' (by (with_reducible repeat (first|apply Kd.R_alloc|apply Kd.R_drewN|apply Kd.R_drew));exact HO1176.out) (Kd.R_base ho0) hb);have n5_:=a_ (Kd.R_lower (Kd.R_new' (Kd.R_new' (Kd.R_new' ho0 (Kd.R_lt (by (with_reducible repeat (first|apply Kd.R_alloc|apply Kd.R_drewN|apply Kd.R_drew));exact HO1151.out))) (Kd.R_lt (by (with_reducible repeat (first|apply Kd.R_alloc|apply Kd.R_drewN|apply Kd.R_drew));exact HO1163.out))) (Kd.R_lt (by (with_reducible repeat (first|apply Kd.R_alloc|apply Kd.R_drewN|apply Kd.R_drew));exact HO1176.out))) (below_size (by repeat (first|(with_reducible first|exact HB.out|apply wA_|apply pw_below_drewN|apply below_drew1|refine wS_ ?_ GE1158.out|refine wS_ ?_ GE1170.out)|exact HB.out))));have n6_:=a_ (blk_below (g:=gb1158) (o:=.cells #[.int .i64 t1147,.int .i64 t1148,.slice Ao21 t1149.length co21,.slice Ao22 t1152.length co22,.int .i64 t1155,.int .i64 t1156] 77 (0,0)) (by (with_reducible repeat (first|refine bN_ ?_ _|refine bD_ ?_|refine bA_ ?_ _));exact BK1158.out) hb);have n7_:=a_ (blk_below (g:=gb1170) (o:=.cells #[.int .i64 t1159,.int .i64 t1160,.slice Ao27 t1161.length co27,.slice Ao28 t1164.length co28,.int .i64 t1167,.int .i64 t1168] 77 (0,0)) (by (with_reducible repeat (first|refine bN_ ?_ _|refine bD_ ?_|refine bA_ ?_ _));exact BK1170.out) hb);have n8_:=a_ (bS_ (by repeat (first|(with_reducible first|exact HB.out|apply wA_|apply pw_below_drewN|apply below_drew1|refine wS_ ?_ GE1158.out|refine wS_ ?_ GE1170.out)|exact HB.out)) hb);clear HO1151;clear HO1154;clear HO1163;clear HO1166;clear HO1176;clear BK1158;clear BK1170;clear HB;have HO1151:=n0_;have HO1154:=n1_;have HO1163:=n2_;have HO1166:=n3_;have HO1176:=n4_;have HO1179:=n5_;have BK1158:=n6_;have BK1170:=n7_;have HB:=n8_;clear n0_ n1_ n2_ n3_ n4_ n5_ n6_ n7_ n8_;(try clear hb);(try clear hb2);(try clear hk);(try clear hi);(try clear ho0);obtain ⟨Ao36,co36,eo36⟩:=Kd.R_slice HO1176.out;subst eo36;obtain ⟨Ao37,co37,eo37⟩:=Kd.R_slice HO1179.out;subst eo37)|(go_at_call 38;(with_reducible refine (laws_lpRows.calls k _ _ t1174 _ _ t1177 true _ ?side1 ?side2 ?side3 ?side4 A14.out).mono ?_);(case side1=>repeat (first|exact (Kd.R_reads' HO1176.out).2.2|(with_reducible refine Kd.C_alloc ?_ _)|(with_reducible refine Kd.C_drewN ?_ _)|(with_reducible refine Kd.C_drew ?_)));(case side2=>exact (Kd.R_reads' HO1176.out).2.1);(case side3=>repeat (first|exact (Kd.R_reads' HO1179.out).2.2|(with_reducible refine Kd.C_alloc ?_ _)|(with_reducible refine Kd.C_drewN ?_ _)|(with_reducible refine Kd.C_drew ?_)));(case side4=>exact (Kd.R_reads' HO1179.out).2.1);rintro e w' ⟨rfl,⟨nd,rfl⟩⟩;have Z38_0:w35.cell? ⟨gb1170,0,none⟩=some (.int .i64 t1159):=(bC_ BK1170.out 0).trans rfl;have Z38_1:w35.cell? ⟨gb1170,1,none⟩=some (.int .i64 t1160):=(bC_ BK1170.out 1).trans rfl;have Z38_2:w35.cell? ⟨gb1170,2,none⟩=some (.slice Ao27 t1161.length co27):=(bC_ BK1170.out 2).trans rfl;have Z38_3:w35.cell? ⟨gb1170,3,none⟩=some (.slice Ao28 t1164.length co28):=(bC_ BK1170.out 3).trans rfl;have Z38_4:w35.cell? ⟨gb1170,4,none⟩=some (.int .i64 t1167):=(bC_ BK1170.out 4).trans rfl;have Z38_5:w35.cell? ⟨gb1170,5,none⟩=some (.int .i64 t1168):=(bC_ BK1170.out 5).trans rfl;have Y38_0:=bF_ BK1170.out 0;have Y38_1:=bF_ BK1170.out 1;have Y38_2:=bF_ BK1170.out 2;have Y38_3:=bF_ BK1170.out 3;have Y38_4:=bF_ BK1170.out 4;have Y38_5:=bF_ BK1170.out 5))
        go_ret
        exact ⟨by first|rfl|(simp [errW_none,errW_some] <;> rfl)|(simp [*,errW_none,errW_some] <;> rfl),by repeat (first|(with_reducible first|exact HB.out|apply wA_|apply pw_below_drewN|apply below_drew1|refine wS_ ?_ GE1158.out|refine wS_ ?_ GE1170.out)|exact HB.out)⟩
       ·rw [if_neg c16] at H
        exact absurd H (by simp)
      ·replace c15:=Bool.eq_false_iff.mpr c15
       subst c15
       have H1:(none)=some r:=by rw [if_neg (show ¬ (false=true) by decide)] at H;exact H
       clear H
       have H:=H1
       clear H1
       exact absurd H (by simp)
     ·replace c11:=Bool.eq_false_iff.mpr c11
      subst c11
      have H1:(none)=some r:=by rw [if_neg (show ¬ (false=true) by decide)] at H;exact H
      clear H
      have H:=H1
      clear H1
      exact absurd H (by simp)
    ·replace c9:=Bool.eq_false_iff.mpr c9
     subst c9
     have H1:(if (false==t1157)=true then ((laws_lpClient.f k t1159 t1160 t1161 t1164 t1167 t1168 t1147 t1148 t1149 t1152 t1155 t1156).bind fun t1172=>(if t1172=true then (if t1146≥1 then (some (false==(decide (t1146≤3)))) else (some (false==false))) else (none))) else (none))=some r:=by rw [if_neg (show ¬ (false=true) by decide)] at H;exact H
     clear H
     have H:=H1
     clear H1
     by_cases c39:(false==t1157)=true
     ·rw [if_pos c39] at H
      obtain rfl:t1157=false:=by simpa using c39
      replace H:=bs_ H
      obtain ⟨t1172,A400,H⟩:=H
      replace H:(if t1172=true then (if t1146≥1 then (some (false==(decide (t1146≤3)))) else (some (false==false))) else (none))=some r:=H
      have A40:=a_ A400
      clear A400
      by_cases c41:t1172=true
      ·subst c41
       have H1:(if t1146≥1 then (some (false==(decide (t1146≤3)))) else (some (false==false)))=some r:=by rw [if_pos rfl] at H;exact H
       clear H
       have H:=H1
       clear H1
       by_cases c42:t1146≥1
       ·rw [if_pos c42] at H
        have c42b0:decide (1≤t1146)=true:=dt_ c42
        clear c42
        obtain rfl:=sj_ H
        go_enter Tryd.func12,Tryd.ntmps12
        go_wp2_with (first|((with_reducible refine gC_ (f:=56) rfl ?_);refine goesL_ (some 12) rfl rfl Tryd.func56 (by kernel_rfl) rfl #[.slice A0 l0.length c0] rfl (by (try simp only [List.map_toArray,List.map_cons,List.map_nil]);first|done|rfl|(simp only [List.length_drop,List.length_take];rfl)) ?_;(with_reducible refine (spec_DrawClientNew.calls k _ _ l0 t1146 _ ?side1 ?side2 A3.out).mono ?_);(case side1=>repeat (first|exact HR0.out|(with_reducible refine Kd.C_alloc ?_ _)|(with_reducible refine Kd.C_drewN ?_ _)|(with_reducible refine Kd.C_drew ?_)));(case side2=>exact HC0.out);rintro e w43 ⟨rfl,hb⟩;refine ⟨_,rfl,?_⟩;have n0_:=a_ (bS_ (by repeat (first|(with_reducible first|exact HB.out|apply wA_|apply pw_below_drewN|apply below_drew1)|exact HB.out)) hb);clear HB;have HB:=n0_;clear n0_;(try clear hb);(try clear hb2);(try clear hk);(try clear hi))|((with_reducible refine gC_ (f:=57) rfl ?_);refine goesL_ (some 15) rfl rfl Tryd.func57 (by kernel_rfl) rfl #[.int .i64 t1146] rfl (by (try simp only [List.map_toArray,List.map_cons,List.map_nil]);first|done|rfl|(simp only [List.length_drop,List.length_take];rfl)) ?_;(with_reducible refine (spec_ClientNew.calls t1146 t1147 t1148 t1149 t1152 t1155 t1156 false _ A4.out).mono ?_);rintro e w44 ⟨v1150,v1153,rfl,ho0,ho1,hb⟩;refine ⟨_,rfl,?_⟩;have n0_:=a_ (Kd.R_lower ho0 (below_size (by repeat (first|(with_reducible first|exact HB.out|apply wA_|apply pw_below_drewN|apply below_drew1)|exact HB.out))));have n1_:=a_ (Kd.R_lower ho1 (below_size (by repeat (first|(with_reducible first|exact HB.out|apply wA_|apply pw_below_drewN|apply below_drew1)|exact HB.out))));have n2_:=a_ (bS_ (by repeat (first|(with_reducible first|exact HB.out|apply wA_|apply pw_below_drewN|apply below_drew1)|exact HB.out)) hb);clear HB;have HO1151:=n0_;have HO1154:=n1_;have HB:=n2_;clear n0_ n1_ n2_;(try clear hb);(try clear hb2);(try clear hk);(try clear hi);(try clear ho0);(try clear ho1))|((with_reducible refine gD_ (N:=4) rfl ?_);refine box_event ?hg (N:=4) ?hd (cs:=#[.int .i64 0,.int .i64 0,.slice none 0 0,.slice none 0 0,.int .i64 0,.int .i64 0]) (t:=77) ?hr ?_;(case hd=>rfl);(case hg=>rfl);(case hr=>first|(go_simp;done)|(go_simp;rfl));intro gb1158 hg w45 hbox hb;have n0_:=a_ (Kd.R_below (by (with_reducible repeat (first|apply Kd.R_alloc|apply Kd.R_drewN|apply Kd.R_drew));exact HO1151.out) hb);have n1_:=a_ (Kd.R_below (by (with_reducible repeat (first|apply Kd.R_alloc|apply Kd.R_drewN|apply Kd.R_drew));exact HO1154.out) hb);have n2_:=a_ (bS_ (by repeat (first|(with_reducible first|exact HB.out|apply wA_|apply pw_below_drewN|apply below_drew1)|exact HB.out)) hb);have n3_:=a_ (hbox);have n4_:=a_ ((by rw [hg];exact (below_size (by repeat (first|(with_reducible first|exact HB.out|apply wA_|apply pw_below_drewN|apply below_drew1)|exact HB.out))):w.heap.size≤gb1158));have n5_:=a_ ((by rw [hg];exact (below_size (by repeat (first|(with_reducible first|exact HB.out|apply wA_|apply pw_below_drewN|apply below_drew1)|exact HB.out))):w.heap.size≤gb1158));clear HO1151;clear HO1154;clear HB;have HO1151:=n0_;have HO1154:=n1_;have HB:=n2_;have BK1158:=n3_;have GW1158:=n4_;have GE1158:=n5_;clear n0_ n1_ n2_ n3_ n4_ n5_;clear hb hbox hg;have Z46_0:w45.cell? ⟨gb1158,0,none⟩=some (.int .i64 0):=(bC_ BK1158.out 0).trans rfl;have Z46_1:w45.cell? ⟨gb1158,1,none⟩=some (.int .i64 0):=(bC_ BK1158.out 1).trans rfl;have Z46_2:w45.cell? ⟨gb1158,2,none⟩=some (.slice none 0 0):=(bC_ BK1158.out 2).trans rfl;have Z46_3:w45.cell? ⟨gb1158,3,none⟩=some (.slice none 0 0):=(bC_ BK1158.out 3).trans rfl;have Z46_4:w45.cell? ⟨gb1158,4,none⟩=some (.int .i64 0):=(bC_ BK1158.out 4).trans rfl;have Z46_5:w45.cell? ⟨gb1158,5,none⟩=some (.int .i64 0):=(bC_ BK1158.out 5).trans rfl;have Y46_0:=bF_ BK1158.out 0;have Y46_1:=bF_ BK1158.out 1;have Y46_2:=bF_ BK1158.out 2;have Y46_3:=bF_ BK1158.out 3;have Y46_4:=bF_ BK1158.out 4;have Y46_5:=bF_ BK1158.out 5;obtain ⟨Ao47,co47,eo47⟩:=Kd.R_slice HO1151.out;subst eo47;obtain ⟨Ao48,co48,eo48⟩:=Kd.R_slice HO1154.out;subst eo48)|((with_reducible refine gC_ (f:=58) rfl ?_);refine goesL_ (some 20) rfl rfl Tryd.func58 (by kernel_rfl) rfl #[.int .i64 t1146] rfl (by (try simp only [List.map_toArray,List.map_cons,List.map_nil]);first|done|rfl|(simp only [List.length_drop,List.length_take];rfl)) ?_;(with_reducible refine (impl_ClientNew.calls t1146 t1159 t1160 t1161 t1164 t1167 t1168 false _ A5.out).mono ?_);rintro e w49 ⟨v1162,v1165,rfl,ho0,ho1,hb⟩;refine ⟨_,rfl,?_⟩;have n0_:=a_ (Kd.R_elder' (by (with_reducible repeat (first|apply Kd.R_alloc|apply Kd.R_drewN|apply Kd.R_drew));exact (Kd.R_mono (Kd.R_far (p:=⟨gb1158,5,none⟩) (Kd.R_far (p:=⟨gb1158,4,none⟩) (Kd.R_far (p:=⟨gb1158,3,none⟩) (Kd.R_far (p:=⟨gb1158,2,none⟩) (Kd.R_far (p:=⟨gb1158,1,none⟩) (Kd.R_far (p:=⟨gb1158,0,none⟩) (Kd.R_types HO1151.out BK1158.out (by decide)) (fun _ hk=>hk.2) (.int .i64 t1147)) (fun _ hk=>hk.2) (.int .i64 t1148)) (fun _ hk=>hk.2) (.slice Ao47 t1149.length co47)) (fun _ hk=>hk.2) (.slice Ao48 t1152.length co48)) (fun _ hk=>hk.2) (.int .i64 t1155)) (fun _ hk=>hk.2) (.int .i64 t1156)) (fun _ h_=>h_.1))) (Kd.R_base ho0) hb);have n1_:=a_ (Kd.R_elder' (by (with_reducible repeat (first|apply Kd.R_alloc|apply Kd.R_drewN|apply Kd.R_drew));exact (Kd.R_mono (Kd.R_far (p:=⟨gb1158,5,none⟩) (Kd.R_far (p:=⟨gb1158,4,none⟩) (Kd.R_far (p:=⟨gb1158,3,none⟩) (Kd.R_far (p:=⟨gb1158,2,none⟩) (Kd.R_far (p:=⟨gb1158,1,none⟩) (Kd.R_far (p:=⟨gb1158,0,none⟩) (Kd.R_types HO1154.out BK1158.out (by decide)) (fun _ hk=>hk.2) (.int .i64 t1147)) (fun _ hk=>hk.2) (.int .i64 t1148)) (fun _ hk=>hk.2) (.slice Ao47 t1149.length co47)) (fun _ hk=>hk.2) (.slice Ao48 t1152.length co48)) (fun _ hk=>hk.2) (.int .i64 t1155)) (fun _ hk=>hk.2) (.int .i64 t1156)) (fun _ h_=>h_.1))) (Kd.R_base ho1) hb);have n2_:=a_ (Kd.R_lower (Kd.R_new' ho0 (Kd.R_lt (by (with_reducible repeat (first|apply Kd.R_alloc|apply Kd.R_drewN|apply Kd.R_drew));exact (Kd.R_mono (Kd.R_far (p:=⟨gb1158,5,none⟩) (Kd.R_far (p:=⟨gb1158,4,none⟩) (Kd.R_far (p:=⟨gb1158,3,none⟩) (Kd.R_far (p:=⟨gb1158,2,none⟩) (Kd.R_far (p:=⟨gb1158,1,none⟩) (Kd.R_far (p:=⟨gb1158,0,none⟩) (Kd.R_types HO1151.out BK1158.out (by decide)) (fun _ hk=>hk.2) (.int .i64 t1147)) (fun _ hk=>hk.2) (.int .i64 t1148)) (fun _ hk=>hk.2) (.slice Ao47 t1149.length co47)) (fun _ hk=>hk.2) (.slice Ao48 t1152.length co48)) (fun _ hk=>hk.2) (.int .i64 t1155)) (fun _ hk=>hk.2) (.int .i64 t1156)) (fun _ h_=>h_.1))))) (below_size (by repeat (first|(with_reducible first|exact HB.out|apply wA_|apply pw_below_drewN|apply below_drew1|refine wS_ ?_ GE1158.out)|exact HB.out))));have n3_:=a_ (Kd.R_lower (Kd.R_new' ho1 (Kd.R_lt (by (with_reducible repeat (first|apply Kd.R_alloc|apply Kd.R_drewN|apply Kd.R_drew));exact (Kd.R_mono (Kd.R_far (p:=⟨gb1158,5,none⟩) (Kd.R_far (p:=⟨gb1158,4,none⟩) (Kd.R_far (p:=⟨gb1158,3,none⟩) (Kd.R_far (p:=⟨gb1158,2,none⟩) (Kd.R_far (p:=⟨gb1158,1,none⟩) (Kd.R_far (p:=⟨gb1158,0,none⟩) (Kd.R_types HO1154.out BK1158.out (by decide)) (fun _ hk=>hk.2) (.int .i64 t1147)) (fun _ hk=>hk.2) (.int .i64 t1148)) (fun _ hk=>hk.2) (.slice Ao47 t1149.length co47)) (fun _ hk=>hk.2) (.slice Ao48 t1152.length co48)) (fun _ hk=>hk.2) (.int .i64 t1155)) (fun _ hk=>hk.2) (.int .i64 t1156)) (fun _ h_=>h_.1))))) (below_size (by repeat (first|(with_reducible first|exact HB.out|apply wA_|apply pw_below_drewN|apply below_drew1|refine wS_ ?_ GE1158.out)|exact HB.out))));have n4_:=a_ (blk_below (g:=gb1158) (o:=.cells #[.int .i64 t1147,.int .i64 t1148,.slice Ao47 t1149.length co47,.slice Ao48 t1152.length co48,.int .i64 t1155,.int .i64 t1156] 77 (0,0)) (by (with_reducible repeat (first|refine bN_ ?_ _|refine bD_ ?_|refine bA_ ?_ _));refine blk_put (cs:=#[.int .i64 t1147,.int .i64 t1148,.slice Ao47 t1149.length co47,.slice Ao48 t1152.length co48,.int .i64 t1155,.int .i64 0]) ?_ 5 _ rfl;(with_reducible repeat (first|refine bN_ ?_ _|refine bD_ ?_|refine bA_ ?_ _));refine blk_put (cs:=#[.int .i64 t1147,.int .i64 t1148,.slice Ao47 t1149.length co47,.slice Ao48 t1152.length co48,.int .i64 0,.int .i64 0]) ?_ 4 _ rfl;(with_reducible repeat (first|refine bN_ ?_ _|refine bD_ ?_|refine bA_ ?_ _));refine blk_put (cs:=#[.int .i64 t1147,.int .i64 t1148,.slice Ao47 t1149.length co47,.slice none 0 0,.int .i64 0,.int .i64 0]) ?_ 3 _ rfl;(with_reducible repeat (first|refine bN_ ?_ _|refine bD_ ?_|refine bA_ ?_ _));refine blk_put (cs:=#[.int .i64 t1147,.int .i64 t1148,.slice none 0 0,.slice none 0 0,.int .i64 0,.int .i64 0]) ?_ 2 _ rfl;(with_reducible repeat (first|refine bN_ ?_ _|refine bD_ ?_|refine bA_ ?_ _));refine blk_put (cs:=#[.int .i64 t1147,.int .i64 0,.slice none 0 0,.slice none 0 0,.int .i64 0,.int .i64 0]) ?_ 1 _ rfl;(with_reducible repeat (first|refine bN_ ?_ _|refine bD_ ?_|refine bA_ ?_ _));refine blk_put (cs:=#[.int .i64 0,.int .i64 0,.slice none 0 0,.slice none 0 0,.int .i64 0,.int .i64 0]) ?_ 0 _ rfl;(with_reducible repeat (first|refine bN_ ?_ _|refine bD_ ?_|refine bA_ ?_ _));exact BK1158.out) hb);have n5_:=a_ (bS_ (by repeat (first|(with_reducible first|exact HB.out|apply wA_|apply pw_below_drewN|apply below_drew1|refine wS_ ?_ GE1158.out)|exact HB.out)) hb);clear HO1151;clear HO1154;clear BK1158;clear HB;have HO1151:=n0_;have HO1154:=n1_;have HO1163:=n2_;have HO1166:=n3_;have BK1158:=n4_;have HB:=n5_;clear n0_ n1_ n2_ n3_ n4_ n5_;(try clear hb);(try clear hb2);(try clear hk);(try clear hi);(try clear ho0);(try clear ho1))|((with_reducible refine gD_ (N:=6) rfl ?_);refine box_event ?hg (N:=6) ?hd (cs:=#[.int .i64 0,.int .i64 0,.slice none 0 0,.slice none 0 0,.int .i64 0,.int .i64 0]) (t:=77) ?hr ?_;(case hd=>rfl);(case hg=>rfl);(case hr=>first|(go_simp;done)|(go_simp;rfl));intro gb1170 hg w50 hbox hb;have n0_:=a_ (Kd.R_below (by (with_reducible repeat (first|apply Kd.R_alloc|apply Kd.R_drewN|apply Kd.R_drew));exact HO1151.out) hb);have n1_:=a_ (Kd.R_below (by (with_reducible repeat (first|apply Kd.R_alloc|apply Kd.R_drewN|apply Kd.R_drew));exact HO1154.out) hb);have n2_:=a_ (Kd.R_below (by (with_reducible repeat (first|apply Kd.R_alloc|apply Kd.R_drewN|apply Kd.R_drew));exact HO1163.out) hb);have n3_:=a_ (Kd.R_below (by (with_reducible repeat (first|apply Kd.R_alloc|apply Kd.R_drewN|apply Kd.R_drew));exact HO1166.out) hb);have n4_:=a_ (blk_below (g:=gb1158) (o:=.cells #[.int .i64 t1147,.int .i64 t1148,.slice Ao47 t1149.length co47,.slice Ao48 t1152.length co48,.int .i64 t1155,.int .i64 t1156] 77 (0,0)) (by (with_reducible repeat (first|refine bN_ ?_ _|refine bD_ ?_|refine bA_ ?_ _));exact BK1158.out) hb);have n5_:=a_ (bS_ (by repeat (first|(with_reducible first|exact HB.out|apply wA_|apply pw_below_drewN|apply below_drew1|refine wS_ ?_ GE1158.out)|exact HB.out)) hb);have n6_:=a_ (hbox);have n7_:=a_ ((by rw [hg];exact (below_size (by repeat (first|(with_reducible first|exact HB.out|apply wA_|apply pw_below_drewN|apply below_drew1|refine wS_ ?_ GE1158.out)|exact HB.out))):w.heap.size≤gb1170));have n8_:=a_ ((by rw [hg];exact (below_size (by repeat (first|(with_reducible first|exact HB.out|apply wA_|apply pw_below_drewN|apply below_drew1|refine wS_ ?_ GE1158.out)|exact HB.out))):w.heap.size≤gb1170));have n9_:=a_ ((by rw [hg];exact Nat.ne_of_lt (blk_lt (g:=gb1158) (o:=.cells #[.int .i64 t1147,.int .i64 t1148,.slice Ao47 t1149.length co47,.slice Ao48 t1152.length co48,.int .i64 t1155,.int .i64 t1156] 77 (0,0)) (by (with_reducible repeat (first|refine bN_ ?_ _|refine bD_ ?_|refine bA_ ?_ _));exact BK1158.out)):gb1158≠gb1170));have n10_:=a_ ((by rw [hg];exact Nat.ne_of_gt (blk_lt (g:=gb1158) (o:=.cells #[.int .i64 t1147,.int .i64 t1148,.slice Ao47 t1149.length co47,.slice Ao48 t1152.length co48,.int .i64 t1155,.int .i64 t1156] 77 (0,0)) (by (with_reducible repeat (first|refine bN_ ?_ _|refine bD_ ?_|refine bA_ ?_ _));exact BK1158.out)):gb1170≠gb1158));clear HO1151;clear HO1154;clear HO1163;clear HO1166;clear BK1158;clear HB;have HO1151:=n0_;have HO1154:=n1_;have HO1163:=n2_;have HO1166:=n3_;have BK1158:=n4_;have HB:=n5_;have BK1170:=n6_;have GW1170:=n7_;have GE1170:=n8_;have NB1158_1170:=n9_;have NB1170_1158:=n10_;clear n0_ n1_ n2_ n3_ n4_ n5_ n6_ n7_ n8_ n9_ n10_;clear hb hbox hg;have hnb51:=NB1170_1158.out;have hnc51:=NB1158_1170.out;have Z52_0:w50.cell? ⟨gb1170,0,none⟩=some (.int .i64 0):=(bC_ BK1170.out 0).trans rfl;have Z52_1:w50.cell? ⟨gb1170,1,none⟩=some (.int .i64 0):=(bC_ BK1170.out 1).trans rfl;have Z52_2:w50.cell? ⟨gb1170,2,none⟩=some (.slice none 0 0):=(bC_ BK1170.out 2).trans rfl;have Z52_3:w50.cell? ⟨gb1170,3,none⟩=some (.slice none 0 0):=(bC_ BK1170.out 3).trans rfl;have Z52_4:w50.cell? ⟨gb1170,4,none⟩=some (.int .i64 0):=(bC_ BK1170.out 4).trans rfl;have Z52_5:w50.cell? ⟨gb1170,5,none⟩=some (.int .i64 0):=(bC_ BK1170.out 5).trans rfl;have Y52_0:=bF_ BK1170.out 0;have Y52_1:=bF_ BK1170.out 1;have Y52_2:=bF_ BK1170.out 2;have Y52_3:=bF_ BK1170.out 3;have Y52_4:=bF_ BK1170.out 4;have Y52_5:=bF_ BK1170.out 5;obtain ⟨Ao53,co53,eo53⟩:=Kd.R_slice HO1163.out;subst eo53;obtain ⟨Ao54,co54,eo54⟩:=Kd.R_slice HO1166.out;subst eo54;have Z55_0:w50.cell? ⟨gb1158,0,none⟩=some (.int .i64 t1147):=(bC_ BK1158.out 0).trans rfl;have Z55_1:w50.cell? ⟨gb1158,1,none⟩=some (.int .i64 t1148):=(bC_ BK1158.out 1).trans rfl;have Z55_2:w50.cell? ⟨gb1158,2,none⟩=some (.slice Ao47 t1149.length co47):=(bC_ BK1158.out 2).trans rfl;have Z55_3:w50.cell? ⟨gb1158,3,none⟩=some (.slice Ao48 t1152.length co48):=(bC_ BK1158.out 3).trans rfl;have Z55_4:w50.cell? ⟨gb1158,4,none⟩=some (.int .i64 t1155):=(bC_ BK1158.out 4).trans rfl;have Z55_5:w50.cell? ⟨gb1158,5,none⟩=some (.int .i64 t1156):=(bC_ BK1158.out 5).trans rfl;have Y55_0:=bF_ BK1158.out 0;have Y55_1:=bF_ BK1158.out 1;have Y55_2:=bF_ BK1158.out 2;have Y55_3:=bF_ BK1158.out 3;have Y55_4:=bF_ BK1158.out 4;have Y55_5:=bF_ BK1158.out 5;have MARK_:=trivial)|(have hm_:=MARK_;clear hm_ MARK_;go_at_call 59;(with_reducible refine (laws_lpClient.calls k t1159 t1160 _ _ t1161 _ _ t1164 t1167 t1168 t1147 t1148 _ _ t1149 _ _ t1152 t1155 t1156 true _ ?side1 ?side2 ?side3 ?side4 ?side5 ?side6 ?side7 ?side8 A7.out).mono ?_);(case side1=>refine (Kd.R_reads' (e:=69) (base:=w.heap.size) (ok:=fun k_=>(True∧some k_≠(.slice Ao47 t1149.length co47:Value).ownBlock)) (n:=t1161.length) (c:=co53) ?_).2.2;exact (by (with_reducible repeat (first|apply Kd.R_alloc|apply Kd.R_drewN|apply Kd.R_drew));exact (Kd.R_mono (Kd.R_far (p:=⟨gb1170,5,none⟩) (Kd.R_far (p:=⟨gb1170,4,none⟩) (Kd.R_far (p:=⟨gb1170,3,none⟩) (Kd.R_far (p:=⟨gb1170,2,none⟩) (Kd.R_far (p:=⟨gb1170,1,none⟩) (Kd.R_far (p:=⟨gb1170,0,none⟩) (Kd.R_types HO1163.out BK1170.out (by decide)) (fun _ hk=>hk.2) (.int .i64 t1159)) (fun _ hk=>hk.2) (.int .i64 t1160)) (fun _ hk=>hk.2) (.slice Ao53 t1161.length co53)) (fun _ hk=>hk.2) (.slice Ao54 t1164.length co54)) (fun _ hk=>hk.2) (.int .i64 t1167)) (fun _ hk=>hk.2) (.int .i64 t1168)) (fun _ h_=>h_.1))));(case side2=>exact (Kd.R_reads' HO1163.out).2.1);(case side3=>refine (Kd.R_reads' (e:=44) (base:=w.heap.size) (ok:=fun k_=>(True∧some k_≠(.slice Ao48 t1152.length co48:Value).ownBlock)) (n:=t1164.length) (c:=co54) ?_).2.2;exact (by (with_reducible repeat (first|apply Kd.R_alloc|apply Kd.R_drewN|apply Kd.R_drew));exact (Kd.R_mono (Kd.R_far (p:=⟨gb1170,5,none⟩) (Kd.R_far (p:=⟨gb1170,4,none⟩) (Kd.R_far (p:=⟨gb1170,3,none⟩) (Kd.R_far (p:=⟨gb1170,2,none⟩) (Kd.R_far (p:=⟨gb1170,1,none⟩) (Kd.R_far (p:=⟨gb1170,0,none⟩) (Kd.R_types HO1166.out BK1170.out (by decide)) (fun _ hk=>hk.2) (.int .i64 t1159)) (fun _ hk=>hk.2) (.int .i64 t1160)) (fun _ hk=>hk.2) (.slice Ao53 t1161.length co53)) (fun _ hk=>hk.2) (.slice Ao54 t1164.length co54)) (fun _ hk=>hk.2) (.int .i64 t1167)) (fun _ hk=>hk.2) (.int .i64 t1168)) (fun _ h_=>h_.1))));(case side4=>exact (Kd.R_reads' HO1166.out).2.1);(case side5=>refine (Kd.R_reads' (e:=69) (base:=w.heap.size) (ok:=fun k_=>(True∧some k_≠(.slice Ao53 t1161.length co53:Value).ownBlock)) (n:=t1149.length) (c:=co47) ?_).2.2;exact (by (with_reducible repeat (first|apply Kd.R_alloc|apply Kd.R_drewN|apply Kd.R_drew));exact (Kd.R_mono (Kd.R_far (p:=⟨gb1170,5,none⟩) (Kd.R_far (p:=⟨gb1170,4,none⟩) (Kd.R_far (p:=⟨gb1170,3,none⟩) (Kd.R_far (p:=⟨gb1170,2,none⟩) (Kd.R_far (p:=⟨gb1170,1,none⟩) (Kd.R_far (p:=⟨gb1170,0,none⟩) (Kd.R_types HO1151.out BK1170.out (by decide)) (fun _ hk=>hk.2) (.int .i64 t1159)) (fun _ hk=>hk.2) (.int .i64 t1160)) (fun _ hk=>hk.2) (.slice Ao53 t1161.length co53)) (fun _ hk=>hk.2) (.slice Ao54 t1164.length co54)) (fun _ hk=>hk.2) (.int .i64 t1167)) (fun _ hk=>hk.2) (.int .i64 t1168)) (fun _ h_=>h_.1))));(case side6=>exact (Kd.R_reads' HO1151.out).2.1);(case side7=>refine (Kd.R_reads' (e:=44) (base:=w.heap.size) (ok:=fun k_=>(True∧some k_≠(.slice Ao54 t1164.length co54:Value).ownBlock)) (n:=t1152.length) (c:=co48) ?_).2.2;exact (by (with_reducible repeat (first|apply Kd.R_alloc|apply Kd.R_drewN|apply Kd.R_drew));exact (Kd.R_mono (Kd.R_far (p:=⟨gb1170,5,none⟩) (Kd.R_far (p:=⟨gb1170,4,none⟩) (Kd.R_far (p:=⟨gb1170,3,none⟩) (Kd.R_far (p:=⟨gb1170,2,none⟩) (Kd.R_far (p:=⟨gb1170,1,none⟩) (Kd.R_far (p:=⟨gb1170,0,none⟩) (Kd.R_types HO1154.out BK1170.out (by decide)) (fun _ hk=>hk.2) (.int .i64 t1159)) (fun _ hk=>hk.2) (.int .i64 t1160)) (fun _ hk=>hk.2) (.slice Ao53 t1161.length co53)) (fun _ hk=>hk.2) (.slice Ao54 t1164.length co54)) (fun _ hk=>hk.2) (.int .i64 t1167)) (fun _ hk=>hk.2) (.int .i64 t1168)) (fun _ h_=>h_.1))));(case side8=>exact (Kd.R_reads' HO1154.out).2.1);rintro e w56 ⟨rfl,hb⟩;have n0_:=a_ (Kd.R_below (by (with_reducible repeat (first|apply Kd.R_alloc|apply Kd.R_drewN|apply Kd.R_drew));exact (Kd.R_mono (Kd.R_far (p:=⟨gb1170,5,none⟩) (Kd.R_far (p:=⟨gb1170,4,none⟩) (Kd.R_far (p:=⟨gb1170,3,none⟩) (Kd.R_far (p:=⟨gb1170,2,none⟩) (Kd.R_far (p:=⟨gb1170,1,none⟩) (Kd.R_far (p:=⟨gb1170,0,none⟩) (Kd.R_types HO1151.out BK1170.out (by decide)) (fun _ hk=>hk.2) (.int .i64 t1159)) (fun _ hk=>hk.2) (.int .i64 t1160)) (fun _ hk=>hk.2) (.slice Ao53 t1161.length co53)) (fun _ hk=>hk.2) (.slice Ao54 t1164.length co54)) (fun _ hk=>hk.2) (.int .i64 t1167)) (fun _ hk=>hk.2) (.int .i64 t1168)) (fun _ h_=>h_.1))) hb);have n1_:=a_ (Kd.R_below (by (with_reducible repeat (first|apply Kd.R_alloc|apply Kd.R_drewN|apply Kd.R_drew));exact (Kd.R_mono (Kd.R_far (p:=⟨gb1170,5,none⟩) (Kd.R_far (p:=⟨gb1170,4,none⟩) (Kd.R_far (p:=⟨gb1170,3,none⟩) (Kd.R_far (p:=⟨gb1170,2,none⟩) (Kd.R_far (p:=⟨gb1170,1,none⟩) (Kd.R_far (p:=⟨gb1170,0,none⟩) (Kd.R_types HO1154.out BK1170.out (by decide)) (fun _ hk=>hk.2) (.int .i64 t1159)) (fun _ hk=>hk.2) (.int .i64 t1160)) (fun _ hk=>hk.2) (.slice Ao53 t1161.length co53)) (fun _ hk=>hk.2) (.slice Ao54 t1164.length co54)) (fun _ hk=>hk.2) (.int .i64 t1167)) (fun _ hk=>hk.2) (.int .i64 t1168)) (fun _ h_=>h_.1))) hb);have n2_:=a_ (Kd.R_below (by (with_reducible repeat (first|apply Kd.R_alloc|apply Kd.R_drewN|apply Kd.R_drew));exact (Kd.R_mono (Kd.R_far (p:=⟨gb1170,5,none⟩) (Kd.R_far (p:=⟨gb1170,4,none⟩) (Kd.R_far (p:=⟨gb1170,3,none⟩) (Kd.R_far (p:=⟨gb1170,2,none⟩) (Kd.R_far (p:=⟨gb1170,1,none⟩) (Kd.R_far (p:=⟨gb1170,0,none⟩) (Kd.R_types HO1163.out BK1170.out (by decide)) (fun _ hk=>hk.2) (.int .i64 t1159)) (fun _ hk=>hk.2) (.int .i64 t1160)) (fun _ hk=>hk.2) (.slice Ao53 t1161.length co53)) (fun _ hk=>hk.2) (.slice Ao54 t1164.length co54)) (fun _ hk=>hk.2) (.int .i64 t1167)) (fun _ hk=>hk.2) (.int .i64 t1168)) (fun _ h_=>h_.1))) hb);have n3_:=a_ (Kd.R_below (by (with_reducible repeat (first|apply Kd.R_alloc|apply Kd.R_drewN|apply Kd.R_drew));exact (Kd.R_mono (Kd.R_far (p:=⟨gb1170,5,none⟩) (Kd.R_far (p:=⟨gb1170,4,none⟩) (Kd.R_far (p:=⟨gb1170,3,none⟩) (Kd.R_far (p:=⟨gb1170,2,none⟩) (Kd.R_far (p:=⟨gb1170,1,none⟩) (Kd.R_far (p:=⟨gb1170,0,none⟩) (Kd.R_types HO1166.out BK1170.out (by decide)) (fun _ hk=>hk.2) (.int .i64 t1159)) (fun _ hk=>hk.2) (.int .i64 t1160)) (fun _ hk=>hk.2) (.slice Ao53 t1161.length co53)) (fun _ hk=>hk.2) (.slice Ao54 t1164.length co54)) (fun _ hk=>hk.2) (.int .i64 t1167)) (fun _ hk=>hk.2) (.int .i64 t1168)) (fun _ h_=>h_.1))) hb);have n4_:=a_ (blk_below (g:=gb1158) (o:=.cells #[.int .i64 t1147,.int .i64 t1148,.slice Ao47 t1149.length co47,.slice Ao48 t1152.length co48,.int .i64 t1155,.int .i64 t1156] 77 (0,0)) (by (with_reducible repeat (first|refine bN_ ?_ _|refine bD_ ?_|refine bA_ ?_ _));refine blk_far ?_ NB1158_1170.out _;(with_reducible repeat (first|refine bN_ ?_ _|refine bD_ ?_|refine bA_ ?_ _));refine blk_far ?_ NB1158_1170.out _;(with_reducible repeat (first|refine bN_ ?_ _|refine bD_ ?_|refine bA_ ?_ _));refine blk_far ?_ NB1158_1170.out _;(with_reducible repeat (first|refine bN_ ?_ _|refine bD_ ?_|refine bA_ ?_ _));refine blk_far ?_ NB1158_1170.out _;(with_reducible repeat (first|refine bN_ ?_ _|refine bD_ ?_|refine bA_ ?_ _));refine blk_far ?_ NB1158_1170.out _;(with_reducible repeat (first|refine bN_ ?_ _|refine bD_ ?_|refine bA_ ?_ _));refine blk_far ?_ NB1158_1170.out _;(with_reducible repeat (first|refine bN_ ?_ _|refine bD_ ?_|refine bA_ ?_ _));exact BK1158.out) hb);have n5_:=a_ (blk_below (g:=gb1170) (o:=.cells #[.int .i64 t1159,.int .i64 t1160,.slice Ao53 t1161.length co53,.slice Ao54 t1164.length co54,.int .i64 t1167,.int .i64 t1168] 77 (0,0)) (by (with_reducible repeat (first|refine bN_ ?_ _|refine bD_ ?_|refine bA_ ?_ _));refine blk_put (cs:=#[.int .i64 t1159,.int .i64 t1160,.slice Ao53 t1161.length co53,.slice Ao54 t1164.length co54,.int .i64 t1167,.int .i64 0]) ?_ 5 _ rfl;(with_reducible repeat (first|refine bN_ ?_ _|refine bD_ ?_|refine bA_ ?_ _));refine blk_put (cs:=#[.int .i64 t1159,.int .i64 t1160,.slice Ao53 t1161.length co53,.slice Ao54 t1164.length co54,.int .i64 0,.int .i64 0]) ?_ 4 _ rfl;(with_reducible repeat (first|refine bN_ ?_ _|refine bD_ ?_|refine bA_ ?_ _));refine blk_put (cs:=#[.int .i64 t1159,.int .i64 t1160,.slice Ao53 t1161.length co53,.slice none 0 0,.int .i64 0,.int .i64 0]) ?_ 3 _ rfl;(with_reducible repeat (first|refine bN_ ?_ _|refine bD_ ?_|refine bA_ ?_ _));refine blk_put (cs:=#[.int .i64 t1159,.int .i64 t1160,.slice none 0 0,.slice none 0 0,.int .i64 0,.int .i64 0]) ?_ 2 _ rfl;(with_reducible repeat (first|refine bN_ ?_ _|refine bD_ ?_|refine bA_ ?_ _));refine blk_put (cs:=#[.int .i64 t1159,.int .i64 0,.slice none 0 0,.slice none 0 0,.int .i64 0,.int .i64 0]) ?_ 1 _ rfl;(with_reducible repeat (first|refine bN_ ?_ _|refine bD_ ?_|refine bA_ ?_ _));refine blk_put (cs:=#[.int .i64 0,.int .i64 0,.slice none 0 0,.slice none 0 0,.int .i64 0,.int .i64 0]) ?_ 0 _ rfl;(with_reducible repeat (first|refine bN_ ?_ _|refine bD_ ?_|refine bA_ ?_ _));exact BK1170.out) hb);have n6_:=a_ (bS_ (by repeat (first|(with_reducible first|exact HB.out|apply wA_|apply pw_below_drewN|apply below_drew1|refine wS_ ?_ GE1158.out|refine wS_ ?_ GE1170.out)|exact HB.out)) hb);clear HO1151;clear HO1154;clear HO1163;clear HO1166;clear BK1158;clear BK1170;clear HB;have HO1151:=n0_;have HO1154:=n1_;have HO1163:=n2_;have HO1166:=n3_;have BK1158:=n4_;have BK1170:=n5_;have HB:=n6_;clear n0_ n1_ n2_ n3_ n4_ n5_ n6_;(try clear hb);(try clear hb2);(try clear hk);(try clear hi);have Z57_0:w56.cell? ⟨gb1170,0,none⟩=some (.int .i64 t1159):=(bC_ BK1170.out 0).trans rfl;have Z57_1:w56.cell? ⟨gb1170,1,none⟩=some (.int .i64 t1160):=(bC_ BK1170.out 1).trans rfl;have Z57_2:w56.cell? ⟨gb1170,2,none⟩=some (.slice Ao53 t1161.length co53):=(bC_ BK1170.out 2).trans rfl;have Z57_3:w56.cell? ⟨gb1170,3,none⟩=some (.slice Ao54 t1164.length co54):=(bC_ BK1170.out 3).trans rfl;have Z57_4:w56.cell? ⟨gb1170,4,none⟩=some (.int .i64 t1167):=(bC_ BK1170.out 4).trans rfl;have Z57_5:w56.cell? ⟨gb1170,5,none⟩=some (.int .i64 t1168):=(bC_ BK1170.out 5).trans rfl;have Y57_0:=bF_ BK1170.out 0;have Y57_1:=bF_ BK1170.out 1;have Y57_2:=bF_ BK1170.out 2;have Y57_3:=bF_ BK1170.out 3;have Y57_4:=bF_ BK1170.out 4;have Y57_5:=bF_ BK1170.out 5;have Z58_0:w56.cell? ⟨gb1158,0,none⟩=some (.int .i64 t1147):=(bC_ BK1158.out 0).trans rfl;have Z58_1:w56.cell? ⟨gb1158,1,none⟩=some (.int .i64 t1148):=(bC_ BK1158.out 1).trans rfl;have Z58_2:w56.cell? ⟨gb1158,2,none⟩=some (.slice Ao47 t1149.length co47):=(bC_ BK1158.out 2).trans rfl;have Z58_3:w56.cell? ⟨gb1158,3,none⟩=some (.slice Ao48 t1152.length co48):=(bC_ BK1158.out 3).trans rfl;have Z58_4:w56.cell? ⟨gb1158,4,none⟩=some (.int .i64 t1155):=(bC_ BK1158.out 4).trans rfl;have Z58_5:w56.cell? ⟨gb1158,5,none⟩=some (.int .i64 t1156):=(bC_ BK1158.out 5).trans rfl;have Y58_0:=bF_ BK1158.out 0;have Y58_1:=bF_ BK1158.out 1;have Y58_2:=bF_ BK1158.out 2;have Y58_3:=bF_ BK1158.out 3;have Y58_4:=bF_ BK1158.out 4;have Y58_5:=bF_ BK1158.out 5)|(go_at_call 59;(with_reducible refine (laws_lpClient.calls k t1159 t1160 _ _ t1161 _ _ t1164 t1167 t1168 t1147 t1148 _ _ t1149 _ _ t1152 t1155 t1156 true _ ?side1 ?side2 ?side3 ?side4 ?side5 ?side6 ?side7 ?side8 A40.out).mono ?_);(case side1=>repeat (first|exact (Kd.R_reads' HO1163.out).2.2|(with_reducible refine Kd.C_alloc ?_ _)|(with_reducible refine Kd.C_drewN ?_ _)|(with_reducible refine Kd.C_drew ?_)));(case side2=>exact (Kd.R_reads' HO1163.out).2.1);(case side3=>repeat (first|exact (Kd.R_reads' HO1166.out).2.2|(with_reducible refine Kd.C_alloc ?_ _)|(with_reducible refine Kd.C_drewN ?_ _)|(with_reducible refine Kd.C_drew ?_)));(case side4=>exact (Kd.R_reads' HO1166.out).2.1);(case side5=>repeat (first|exact (Kd.R_reads' HO1151.out).2.2|(with_reducible refine Kd.C_alloc ?_ _)|(with_reducible refine Kd.C_drewN ?_ _)|(with_reducible refine Kd.C_drew ?_)));(case side6=>exact (Kd.R_reads' HO1151.out).2.1);(case side7=>repeat (first|exact (Kd.R_reads' HO1154.out).2.2|(with_reducible refine Kd.C_alloc ?_ _)|(with_reducible refine Kd.C_drewN ?_ _)|(with_reducible refine Kd.C_drew ?_)));(case side8=>exact (Kd.R_reads' HO1154.out).2.1);rintro e w59 ⟨rfl,hb⟩;have n0_:=a_ (Kd.R_below (by (with_reducible repeat (first|apply Kd.R_alloc|apply Kd.R_drewN|apply Kd.R_drew));exact HO1151.out) hb);have n1_:=a_ (Kd.R_below (by (with_reducible repeat (first|apply Kd.R_alloc|apply Kd.R_drewN|apply Kd.R_drew));exact HO1154.out) hb);have n2_:=a_ (Kd.R_below (by (with_reducible repeat (first|apply Kd.R_alloc|apply Kd.R_drewN|apply Kd.R_drew));exact HO1163.out) hb);have n3_:=a_ (Kd.R_below (by (with_reducible repeat (first|apply Kd.R_alloc|apply Kd.R_drewN|apply Kd.R_drew));exact HO1166.out) hb);have n4_:=a_ (blk_below (g:=gb1158) (o:=.cells #[.int .i64 t1147,.int .i64 t1148,.slice Ao47 t1149.length co47,.slice Ao48 t1152.length co48,.int .i64 t1155,.int .i64 t1156] 77 (0,0)) (by (with_reducible repeat (first|refine bN_ ?_ _|refine bD_ ?_|refine bA_ ?_ _));exact BK1158.out) hb);have n5_:=a_ (blk_below (g:=gb1170) (o:=.cells #[.int .i64 t1159,.int .i64 t1160,.slice Ao53 t1161.length co53,.slice Ao54 t1164.length co54,.int .i64 t1167,.int .i64 t1168] 77 (0,0)) (by (with_reducible repeat (first|refine bN_ ?_ _|refine bD_ ?_|refine bA_ ?_ _));exact BK1170.out) hb);have n6_:=a_ (bS_ (by repeat (first|(with_reducible first|exact HB.out|apply wA_|apply pw_below_drewN|apply below_drew1|refine wS_ ?_ GE1158.out|refine wS_ ?_ GE1170.out)|exact HB.out)) hb);clear HO1151;clear HO1154;clear HO1163;clear HO1166;clear BK1158;clear BK1170;clear HB;have HO1151:=n0_;have HO1154:=n1_;have HO1163:=n2_;have HO1166:=n3_;have BK1158:=n4_;have BK1170:=n5_;have HB:=n6_;clear n0_ n1_ n2_ n3_ n4_ n5_ n6_;(try clear hb);(try clear hb2);(try clear hk);(try clear hi)))
        go_ret
        exact ⟨by first|rfl|(simp [errW_none,errW_some] <;> rfl)|(simp [*,errW_none,errW_some] <;> rfl),by repeat (first|(with_reducible first|exact HB.out|apply wA_|apply pw_below_drewN|apply below_drew1|refine wS_ ?_ GE1158.out|refine wS_ ?_ GE1170.out)|exact HB.out)⟩
       ·rw [if_neg c42] at H
        have c42b0:decide (1≤t1146)=false:=df_ c42
        clear c42
        obtain rfl:=sj_ H
        go_enter Tryd.func12,Tryd.ntmps12
        go_wp2_with (first|((with_reducible refine gC_ (f:=56) rfl ?_);refine goesL_ (some 12) rfl rfl Tryd.func56 (by kernel_rfl) rfl #[.slice A0 l0.length c0] rfl (by (try simp only [List.map_toArray,List.map_cons,List.map_nil]);first|done|rfl|(simp only [List.length_drop,List.length_take];rfl)) ?_;(with_reducible refine (spec_DrawClientNew.calls k _ _ l0 t1146 _ ?side1 ?side2 A3.out).mono ?_);(case side1=>repeat (first|exact HR0.out|(with_reducible refine Kd.C_alloc ?_ _)|(with_reducible refine Kd.C_drewN ?_ _)|(with_reducible refine Kd.C_drew ?_)));(case side2=>exact HC0.out);rintro e w60 ⟨rfl,hb⟩;refine ⟨_,rfl,?_⟩;have n0_:=a_ (bS_ (by repeat (first|(with_reducible first|exact HB.out|apply wA_|apply pw_below_drewN|apply below_drew1)|exact HB.out)) hb);clear HB;have HB:=n0_;clear n0_;(try clear hb);(try clear hb2);(try clear hk);(try clear hi))|((with_reducible refine gC_ (f:=57) rfl ?_);refine goesL_ (some 15) rfl rfl Tryd.func57 (by kernel_rfl) rfl #[.int .i64 t1146] rfl (by (try simp only [List.map_toArray,List.map_cons,List.map_nil]);first|done|rfl|(simp only [List.length_drop,List.length_take];rfl)) ?_;(with_reducible refine (spec_ClientNew.calls t1146 t1147 t1148 t1149 t1152 t1155 t1156 false _ A4.out).mono ?_);rintro e w61 ⟨v1150,v1153,rfl,ho0,ho1,hb⟩;refine ⟨_,rfl,?_⟩;have n0_:=a_ (Kd.R_lower ho0 (below_size (by repeat (first|(with_reducible first|exact HB.out|apply wA_|apply pw_below_drewN|apply below_drew1)|exact HB.out))));have n1_:=a_ (Kd.R_lower ho1 (below_size (by repeat (first|(with_reducible first|exact HB.out|apply wA_|apply pw_below_drewN|apply below_drew1)|exact HB.out))));have n2_:=a_ (bS_ (by repeat (first|(with_reducible first|exact HB.out|apply wA_|apply pw_below_drewN|apply below_drew1)|exact HB.out)) hb);clear HB;have HO1151:=n0_;have HO1154:=n1_;have HB:=n2_;clear n0_ n1_ n2_;(try clear hb);(try clear hb2);(try clear hk);(try clear hi);(try clear ho0);(try clear ho1))|((with_reducible refine gD_ (N:=4) rfl ?_);refine box_event ?hg (N:=4) ?hd (cs:=#[.int .i64 0,.int .i64 0,.slice none 0 0,.slice none 0 0,.int .i64 0,.int .i64 0]) (t:=77) ?hr ?_;(case hd=>rfl);(case hg=>rfl);(case hr=>first|(go_simp;done)|(go_simp;rfl));intro gb1158 hg w62 hbox hb;have n0_:=a_ (Kd.R_below (by (with_reducible repeat (first|apply Kd.R_alloc|apply Kd.R_drewN|apply Kd.R_drew));exact HO1151.out) hb);have n1_:=a_ (Kd.R_below (by (with_reducible repeat (first|apply Kd.R_alloc|apply Kd.R_drewN|apply Kd.R_drew));exact HO1154.out) hb);have n2_:=a_ (bS_ (by repeat (first|(with_reducible first|exact HB.out|apply wA_|apply pw_below_drewN|apply below_drew1)|exact HB.out)) hb);have n3_:=a_ (hbox);have n4_:=a_ ((by rw [hg];exact (below_size (by repeat (first|(with_reducible first|exact HB.out|apply wA_|apply pw_below_drewN|apply below_drew1)|exact HB.out))):w.heap.size≤gb1158));have n5_:=a_ ((by rw [hg];exact (below_size (by repeat (first|(with_reducible first|exact HB.out|apply wA_|apply pw_below_drewN|apply below_drew1)|exact HB.out))):w.heap.size≤gb1158));clear HO1151;clear HO1154;clear HB;have HO1151:=n0_;have HO1154:=n1_;have HB:=n2_;have BK1158:=n3_;have GW1158:=n4_;have GE1158:=n5_;clear n0_ n1_ n2_ n3_ n4_ n5_;clear hb hbox hg;have Z63_0:w62.cell? ⟨gb1158,0,none⟩=some (.int .i64 0):=(bC_ BK1158.out 0).trans rfl;have Z63_1:w62.cell? ⟨gb1158,1,none⟩=some (.int .i64 0):=(bC_ BK1158.out 1).trans rfl;have Z63_2:w62.cell? ⟨gb1158,2,none⟩=some (.slice none 0 0):=(bC_ BK1158.out 2).trans rfl;have Z63_3:w62.cell? ⟨gb1158,3,none⟩=some (.slice none 0 0):=(bC_ BK1158.out 3).trans rfl;have Z63_4:w62.cell? ⟨gb1158,4,none⟩=some (.int .i64 0):=(bC_ BK1158.out 4).trans rfl;have Z63_5:w62.cell? ⟨gb1158,5,none⟩=some (.int .i64 0):=(bC_ BK1158.out 5).trans rfl;have Y63_0:=bF_ BK1158.out 0;have Y63_1:=bF_ BK1158.out 1;have Y63_2:=bF_ BK1158.out 2;have Y63_3:=bF_ BK1158.out 3;have Y63_4:=bF_ BK1158.out 4;have Y63_5:=bF_ BK1158.out 5;obtain ⟨Ao64,co64,eo64⟩:=Kd.R_slice HO1151.out;subst eo64;obtain ⟨Ao65,co65,eo65⟩:=Kd.R_slice HO1154.out;subst eo65)|((with_reducible refine gC_ (f:=58) rfl ?_);refine goesL_ (some 20) rfl rfl Tryd.func58 (by kernel_rfl) rfl #[.int .i64 t1146] rfl (by (try simp only [List.map_toArray,List.map_cons,List.map_nil]);first|done|rfl|(simp only [List.length_drop,List.length_take];rfl)) ?_;(with_reducible refine (impl_ClientNew.calls t1146 t1159 t1160 t1161 t1164 t1167 t1168 false _ A5.out).mono ?_);rintro e w66 ⟨v1162,v1165,rfl,ho0,ho1,hb⟩;refine ⟨_,rfl,?_⟩;have n0_:=a_ (Kd.R_elder' (by (with_reducible repeat (first|apply Kd.R_alloc|apply Kd.R_drewN|apply Kd.R_drew));exact (Kd.R_mono (Kd.R_far (p:=⟨gb1158,5,none⟩) (Kd.R_far (p:=⟨gb1158,4,none⟩) (Kd.R_far (p:=⟨gb1158,3,none⟩) (Kd.R_far (p:=⟨gb1158,2,none⟩) (Kd.R_far (p:=⟨gb1158,1,none⟩) (Kd.R_far (p:=⟨gb1158,0,none⟩) (Kd.R_types HO1151.out BK1158.out (by decide)) (fun _ hk=>hk.2) (.int .i64 t1147)) (fun _ hk=>hk.2) (.int .i64 t1148)) (fun _ hk=>hk.2) (.slice Ao64 t1149.length co64)) (fun _ hk=>hk.2) (.slice Ao65 t1152.length co65)) (fun _ hk=>hk.2) (.int .i64 t1155)) (fun _ hk=>hk.2) (.int .i64 t1156)) (fun _ h_=>h_.1))) (Kd.R_base ho0) hb);have n1_:=a_ (Kd.R_elder' (by (with_reducible repeat (first|apply Kd.R_alloc|apply Kd.R_drewN|apply Kd.R_drew));exact (Kd.R_mono (Kd.R_far (p:=⟨gb1158,5,none⟩) (Kd.R_far (p:=⟨gb1158,4,none⟩) (Kd.R_far (p:=⟨gb1158,3,none⟩) (Kd.R_far (p:=⟨gb1158,2,none⟩) (Kd.R_far (p:=⟨gb1158,1,none⟩) (Kd.R_far (p:=⟨gb1158,0,none⟩) (Kd.R_types HO1154.out BK1158.out (by decide)) (fun _ hk=>hk.2) (.int .i64 t1147)) (fun _ hk=>hk.2) (.int .i64 t1148)) (fun _ hk=>hk.2) (.slice Ao64 t1149.length co64)) (fun _ hk=>hk.2) (.slice Ao65 t1152.length co65)) (fun _ hk=>hk.2) (.int .i64 t1155)) (fun _ hk=>hk.2) (.int .i64 t1156)) (fun _ h_=>h_.1))) (Kd.R_base ho1) hb);have n2_:=a_ (Kd.R_lower (Kd.R_new' ho0 (Kd.R_lt (by (with_reducible repeat (first|apply Kd.R_alloc|apply Kd.R_drewN|apply Kd.R_drew));exact (Kd.R_mono (Kd.R_far (p:=⟨gb1158,5,none⟩) (Kd.R_far (p:=⟨gb1158,4,none⟩) (Kd.R_far (p:=⟨gb1158,3,none⟩) (Kd.R_far (p:=⟨gb1158,2,none⟩) (Kd.R_far (p:=⟨gb1158,1,none⟩) (Kd.R_far (p:=⟨gb1158,0,none⟩) (Kd.R_types HO1151.out BK1158.out (by decide)) (fun _ hk=>hk.2) (.int .i64 t1147)) (fun _ hk=>hk.2) (.int .i64 t1148)) (fun _ hk=>hk.2) (.slice Ao64 t1149.length co64)) (fun _ hk=>hk.2) (.slice Ao65 t1152.length co65)) (fun _ hk=>hk.2) (.int .i64 t1155)) (fun _ hk=>hk.2) (.int .i64 t1156)) (fun _ h_=>h_.1))))) (below_size (by repeat (first|(with_reducible first|exact HB.out|apply wA_|apply pw_below_drewN|apply below_drew1|refine wS_ ?_ GE1158.out)|exact HB.out))));have n3_:=a_ (Kd.R_lower (Kd.R_new' ho1 (Kd.R_lt (by (with_reducible repeat (first|apply Kd.R_alloc|apply Kd.R_drewN|apply Kd.R_drew));exact (Kd.R_mono (Kd.R_far (p:=⟨gb1158,5,none⟩) (Kd.R_far (p:=⟨gb1158,4,none⟩) (Kd.R_far (p:=⟨gb1158,3,none⟩) (Kd.R_far (p:=⟨gb1158,2,none⟩) (Kd.R_far (p:=⟨gb1158,1,none⟩) (Kd.R_far (p:=⟨gb1158,0,none⟩) (Kd.R_types HO1154.out BK1158.out (by decide)) (fun _ hk=>hk.2) (.int .i64 t1147)) (fun _ hk=>hk.2) (.int .i64 t1148)) (fun _ hk=>hk.2) (.slice Ao64 t1149.length co64)) (fun _ hk=>hk.2) (.slice Ao65 t1152.length co65)) (fun _ hk=>hk.2) (.int .i64 t1155)) (fun _ hk=>hk.2) (.int .i64 t1156)) (fun _ h_=>h_.1))))) (below_size (by repeat (first|(with_reducible first|exact HB.out|apply wA_|apply pw_below_drewN|apply below_drew1|refine wS_ ?_ GE1158.out)|exact HB.out))));have n4_:=a_ (blk_below (g:=gb1158) (o:=.cells #[.int .i64 t1147,.int .i64 t1148,.slice Ao64 t1149.length co64,.slice Ao65 t1152.length co65,.int .i64 t1155,.int .i64 t1156] 77 (0,0)) (by (with_reducible repeat (first|refine bN_ ?_ _|refine bD_ ?_|refine bA_ ?_ _));refine blk_put (cs:=#[.int .i64 t1147,.int .i64 t1148,.slice Ao64 t1149.length co64,.slice Ao65 t1152.length co65,.int .i64 t1155,.int .i64 0]) ?_ 5 _ rfl;(with_reducible repeat (first|refine bN_ ?_ _|refine bD_ ?_|refine bA_ ?_ _));refine blk_put (cs:=#[.int .i64 t1147,.int .i64 t1148,.slice Ao64 t1149.length co64,.slice Ao65 t1152.length co65,.int .i64 0,.int .i64 0]) ?_ 4 _ rfl;(with_reducible repeat (first|refine bN_ ?_ _|refine bD_ ?_|refine bA_ ?_ _));refine blk_put (cs:=#[.int .i64 t1147,.int .i64 t1148,.slice Ao64 t1149.length co64,.slice none 0 0,.int .i64 0,.int .i64 0]) ?_ 3 _ rfl;(with_reducible repeat (first|refine bN_ ?_ _|refine bD_ ?_|refine bA_ ?_ _));refine blk_put (cs:=#[.int .i64 t1147,.int .i64 t1148,.slice none 0 0,.slice none 0 0,.int .i64 0,.int .i64 0]) ?_ 2 _ rfl;(with_reducible repeat (first|refine bN_ ?_ _|refine bD_ ?_|refine bA_ ?_ _));refine blk_put (cs:=#[.int .i64 t1147,.int .i64 0,.slice none 0 0,.slice none 0 0,.int .i64 0,.int .i64 0]) ?_ 1 _ rfl;(with_reducible repeat (first|refine bN_ ?_ _|refine bD_ ?_|refine bA_ ?_ _));refine blk_put (cs:=#[.int .i64 0,.int .i64 0,.slice none 0 0,.slice none 0 0,.int .i64 0,.int .i64 0]) ?_ 0 _ rfl;(with_reducible repeat (first|refine bN_ ?_ _|refine bD_ ?_|refine bA_ ?_ _));exact BK1158.out) hb);have n5_:=a_ (bS_ (by repeat (first|(with_reducible first|exact HB.out|apply wA_|apply pw_below_drewN|apply below_drew1|refine wS_ ?_ GE1158.out)|exact HB.out)) hb);clear HO1151;clear HO1154;clear BK1158;clear HB;have HO1151:=n0_;have HO1154:=n1_;have HO1163:=n2_;have HO1166:=n3_;have BK1158:=n4_;have HB:=n5_;clear n0_ n1_ n2_ n3_ n4_ n5_;(try clear hb);(try clear hb2);(try clear hk);(try clear hi);(try clear ho0);(try clear ho1))|((with_reducible refine gD_ (N:=6) rfl ?_);refine box_event ?hg (N:=6) ?hd (cs:=#[.int .i64 0,.int .i64 0,.slice none 0 0,.slice none 0 0,.int .i64 0,.int .i64 0]) (t:=77) ?hr ?_;(case hd=>rfl);(case hg=>rfl);(case hr=>first|(go_simp;done)|(go_simp;rfl));intro gb1170 hg w67 hbox hb;have n0_:=a_ (Kd.R_below (by (with_reducible repeat (first|apply Kd.R_alloc|apply Kd.R_drewN|apply Kd.R_drew));exact HO1151.out) hb);have n1_:=a_ (Kd.R_below (by (with_reducible repeat (first|apply Kd.R_alloc|apply Kd.R_drewN|apply Kd.R_drew));exact HO1154.out) hb);have n2_:=a_ (Kd.R_below (by (with_reducible repeat (first|apply Kd.R_alloc|apply Kd.R_drewN|apply Kd.R_drew));exact HO1163.out) hb);have n3_:=a_ (Kd.R_below (by (with_reducible repeat (first|apply Kd.R_alloc|apply Kd.R_drewN|apply Kd.R_drew));exact HO1166.out) hb);have n4_:=a_ (blk_below (g:=gb1158) (o:=.cells #[.int .i64 t1147,.int .i64 t1148,.slice Ao64 t1149.length co64,.slice Ao65 t1152.length co65,.int .i64 t1155,.int .i64 t1156] 77 (0,0)) (by (with_reducible repeat (first|refine bN_ ?_ _|refine bD_ ?_|refine bA_ ?_ _));exact BK1158.out) hb);have n5_:=a_ (bS_ (by repeat (first|(with_reducible first|exact HB.out|apply wA_|apply pw_below_drewN|apply below_drew1|refine wS_ ?_ GE1158.out)|exact HB.out)) hb);have n6_:=a_ (hbox);have n7_:=a_ ((by rw [hg];exact (below_size (by repeat (first|(with_reducible first|exact HB.out|apply wA_|apply pw_below_drewN|apply below_drew1|refine wS_ ?_ GE1158.out)|exact HB.out))):w.heap.size≤gb1170));have n8_:=a_ ((by rw [hg];exact (below_size (by repeat (first|(with_reducible first|exact HB.out|apply wA_|apply pw_below_drewN|apply below_drew1|refine wS_ ?_ GE1158.out)|exact HB.out))):w.heap.size≤gb1170));have n9_:=a_ ((by rw [hg];exact Nat.ne_of_lt (blk_lt (g:=gb1158) (o:=.cells #[.int .i64 t1147,.int .i64 t1148,.slice Ao64 t1149.length co64,.slice Ao65 t1152.length co65,.int .i64 t1155,.int .i64 t1156] 77 (0,0)) (by (with_reducible repeat (first|refine bN_ ?_ _|refine bD_ ?_|refine bA_ ?_ _));exact BK1158.out)):gb1158≠gb1170));have n10_:=a_ ((by rw [hg];exact Nat.ne_of_gt (blk_lt (g:=gb1158) (o:=.cells #[.int .i64 t1147,.int .i64 t1148,.slice Ao64 t1149.length co64,.slice Ao65 t1152.length co65,.int .i64 t1155,.int .i64 t1156] 77 (0,0)) (by (with_reducible repeat (first|refine bN_ ?_ _|refine bD_ ?_|refine bA_ ?_ _));exact BK1158.out)):gb1170≠gb1158));clear HO1151;clear HO1154;clear HO1163;clear HO1166;clear BK1158;clear HB;have HO1151:=n0_;have HO1154:=n1_;have HO1163:=n2_;have HO1166:=n3_;have BK1158:=n4_;have HB:=n5_;have BK1170:=n6_;have GW1170:=n7_;have GE1170:=n8_;have NB1158_1170:=n9_;have NB1170_1158:=n10_;clear n0_ n1_ n2_ n3_ n4_ n5_ n6_ n7_ n8_ n9_ n10_;clear hb hbox hg;have hnb68:=NB1170_1158.out;have hnc68:=NB1158_1170.out;have Z69_0:w67.cell? ⟨gb1170,0,none⟩=some (.int .i64 0):=(bC_ BK1170.out 0).trans rfl;have Z69_1:w67.cell? ⟨gb1170,1,none⟩=some (.int .i64 0):=(bC_ BK1170.out 1).trans rfl;have Z69_2:w67.cell? ⟨gb1170,2,none⟩=some (.slice none 0 0):=(bC_ BK1170.out 2).trans rfl;have Z69_3:w67.cell? ⟨gb1170,3,none⟩=some (.slice none 0 0):=(bC_ BK1170.out 3).trans rfl;have Z69_4:w67.cell? ⟨gb1170,4,none⟩=some (.int .i64 0):=(bC_ BK1170.out 4).trans rfl;have Z69_5:w67.cell? ⟨gb1170,5,none⟩=some (.int .i64 0):=(bC_ BK1170.out 5).trans rfl;have Y69_0:=bF_ BK1170.out 0;have Y69_1:=bF_ BK1170.out 1;have Y69_2:=bF_ BK1170.out 2;have Y69_3:=bF_ BK1170.out 3;have Y69_4:=bF_ BK1170.out 4;have Y69_5:=bF_ BK1170.out 5;obtain ⟨Ao70,co70,eo70⟩:=Kd.R_slice HO1163.out;subst eo70;obtain ⟨Ao71,co71,eo71⟩:=Kd.R_slice HO1166.out;subst eo71;have Z72_0:w67.cell? ⟨gb1158,0,none⟩=some (.int .i64 t1147):=(bC_ BK1158.out 0).trans rfl;have Z72_1:w67.cell? ⟨gb1158,1,none⟩=some (.int .i64 t1148):=(bC_ BK1158.out 1).trans rfl;have Z72_2:w67.cell? ⟨gb1158,2,none⟩=some (.slice Ao64 t1149.length co64):=(bC_ BK1158.out 2).trans rfl;have Z72_3:w67.cell? ⟨gb1158,3,none⟩=some (.slice Ao65 t1152.length co65):=(bC_ BK1158.out 3).trans rfl;have Z72_4:w67.cell? ⟨gb1158,4,none⟩=some (.int .i64 t1155):=(bC_ BK1158.out 4).trans rfl;have Z72_5:w67.cell? ⟨gb1158,5,none⟩=some (.int .i64 t1156):=(bC_ BK1158.out 5).trans rfl;have Y72_0:=bF_ BK1158.out 0;have Y72_1:=bF_ BK1158.out 1;have Y72_2:=bF_ BK1158.out 2;have Y72_3:=bF_ BK1158.out 3;have Y72_4:=bF_ BK1158.out 4;have Y72_5:=bF_ BK1158.out 5;have MARK_:=trivial)|(have hm_:=MARK_;clear hm_ MARK_;go_at_call 59;(with_reducible refine (laws_lpClient.calls k t1159 t1160 _ _ t1161 _ _ t1164 t1167 t1168 t1147 t1148 _ _ t1149 _ _ t1152 t1155 t1156 true _ ?side1 ?side2 ?side3 ?side4 ?side5 ?side6 ?side7 ?side8 A7.out).mono ?_);(case side1=>refine (Kd.R_reads' (e:=69) (base:=w.heap.size) (ok:=fun k_=>(True∧some k_≠(.slice Ao64 t1149.length co64:Value).ownBlock)) (n:=t1161.length) (c:=co70) ?_).2.2;exact (by (with_reducible repeat (first|apply Kd.R_alloc|apply Kd.R_drewN|apply Kd.R_drew));exact (Kd.R_mono (Kd.R_far (p:=⟨gb1170,5,none⟩) (Kd.R_far (p:=⟨gb1170,4,none⟩) (Kd.R_far (p:=⟨gb1170,3,none⟩) (Kd.R_far (p:=⟨gb1170,2,none⟩) (Kd.R_far (p:=⟨gb1170,1,none⟩) (Kd.R_far (p:=⟨gb1170,0,none⟩) (Kd.R_types HO1163.out BK1170.out (by decide)) (fun _ hk=>hk.2) (.int .i64 t1159)) (fun _ hk=>hk.2) (.int .i64 t1160)) (fun _ hk=>hk.2) (.slice Ao70 t1161.length co70)) (fun _ hk=>hk.2) (.slice Ao71 t1164.length co71)) (fun _ hk=>hk.2) (.int .i64 t1167)) (fun _ hk=>hk.2) (.int .i64 t1168)) (fun _ h_=>h_.1))));(case side2=>exact (Kd.R_reads' HO1163.out).2.1);(case side3=>refine (Kd.R_reads' (e:=44) (base:=w.heap.size) (ok:=fun k_=>(True∧some k_≠(.slice Ao65 t1152.length co65:Value).ownBlock)) (n:=t1164.length) (c:=co71) ?_).2.2;exact (by (with_reducible repeat (first|apply Kd.R_alloc|apply Kd.R_drewN|apply Kd.R_drew));exact (Kd.R_mono (Kd.R_far (p:=⟨gb1170,5,none⟩) (Kd.R_far (p:=⟨gb1170,4,none⟩) (Kd.R_far (p:=⟨gb1170,3,none⟩) (Kd.R_far (p:=⟨gb1170,2,none⟩) (Kd.R_far (p:=⟨gb1170,1,none⟩) (Kd.R_far (p:=⟨gb1170,0,none⟩) (Kd.R_types HO1166.out BK1170.out (by decide)) (fun _ hk=>hk.2) (.int .i64 t1159)) (fun _ hk=>hk.2) (.int .i64 t1160)) (fun _ hk=>hk.2) (.slice Ao70 t1161.length co70)) (fun _ hk=>hk.2) (.slice Ao71 t1164.length co71)) (fun _ hk=>hk.2) (.int .i64 t1167)) (fun _ hk=>hk.2) (.int .i64 t1168)) (fun _ h_=>h_.1))));(case side4=>exact (Kd.R_reads' HO1166.out).2.1);(case side5=>refine (Kd.R_reads' (e:=69) (base:=w.heap.size) (ok:=fun k_=>(True∧some k_≠(.slice Ao70 t1161.length co70:Value).ownBlock)) (n:=t1149.length) (c:=co64) ?_).2.2;exact (by (with_reducible repeat (first|apply Kd.R_alloc|apply Kd.R_drewN|apply Kd.R_drew));exact (Kd.R_mono (Kd.R_far (p:=⟨gb1170,5,none⟩) (Kd.R_far (p:=⟨gb1170,4,none⟩) (Kd.R_far (p:=⟨gb1170,3,none⟩) (Kd.R_far (p:=⟨gb1170,2,none⟩) (Kd.R_far (p:=⟨gb1170,1,none⟩) (Kd.R_far (p:=⟨gb1170,0,none⟩) (Kd.R_types HO1151.out BK1170.out (by decide)) (fun _ hk=>hk.2) (.int .i64 t1159)) (fun _ hk=>hk.2) (.int .i64 t1160)) (fun _ hk=>hk.2) (.slice Ao70 t1161.length co70)) (fun _ hk=>hk.2) (.slice Ao71 t1164.length co71)) (fun _ hk=>hk.2) (.int .i64 t1167)) (fun _ hk=>hk.2) (.int .i64 t1168)) (fun _ h_=>h_.1))));(case side6=>exact (Kd.R_reads' HO1151.out).2.1);(case side7=>refine (Kd.R_reads' (e:=44) (base:=w.heap.size) (ok:=fun k_=>(True∧some k_≠(.slice Ao71 t1164.length co71:Value).ownBlock)) (n:=t1152.length) (c:=co65) ?_).2.2;exact (by (with_reducible repeat (first|apply Kd.R_alloc|apply Kd.R_drewN|apply Kd.R_drew));exact (Kd.R_mono (Kd.R_far (p:=⟨gb1170,5,none⟩) (Kd.R_far (p:=⟨gb1170,4,none⟩) (Kd.R_far (p:=⟨gb1170,3,none⟩) (Kd.R_far (p:=⟨gb1170,2,none⟩) (Kd.R_far (p:=⟨gb1170,1,none⟩) (Kd.R_far (p:=⟨gb1170,0,none⟩) (Kd.R_types HO1154.out BK1170.out (by decide)) (fun _ hk=>hk.2) (.int .i64 t1159)) (fun _ hk=>hk.2) (.int .i64 t1160)) (fun _ hk=>hk.2) (.slice Ao70 t1161.length co70)) (fun _ hk=>hk.2) (.slice Ao71 t1164.length co71)) (fun _ hk=>hk.2) (.int .i64 t1167)) (fun _ hk=>hk.2) (.int .i64 t1168)) (fun _ h_=>h_.1))));(case side8=>exact (Kd.R_reads' HO1154.out).2.1);rintro e w73 ⟨rfl,hb⟩;have n0_:=a_ (Kd.R_below (by (with_reducible repeat (first|apply Kd.R_alloc|apply Kd.R_drewN|apply Kd.R_drew));exact (Kd.R_mono (Kd.R_far (p:=⟨gb1170,5,none⟩) (Kd.R_far (p:=⟨gb1170,4,none⟩) (Kd.R_far (p:=⟨gb1170,3,none⟩) (Kd.R_far (p:=⟨gb1170,2,none⟩) (Kd.R_far (p:=⟨gb1170,1,none⟩) (Kd.R_far (p:=⟨gb1170,0,none⟩) (Kd.R_types HO1151.out BK1170.out (by decide)) (fun _ hk=>hk.2) (.int .i64 t1159)) (fun _ hk=>hk.2) (.int .i64 t1160)) (fun _ hk=>hk.2) (.slice Ao70 t1161.length co70)) (fun _ hk=>hk.2) (.slice Ao71 t1164.length co71)) (fun _ hk=>hk.2) (.int .i64 t1167)) (fun _ hk=>hk.2) (.int .i64 t1168)) (fun _ h_=>h_.1))) hb);have n1_:=a_ (Kd.R_below (by (with_reducible repeat (first|apply Kd.R_alloc|apply Kd.R_drewN|apply Kd.R_drew));exact (Kd.R_mono (Kd.R_far (p:=⟨gb1170,5,none⟩) (Kd.R_far (p:=⟨gb1170,4,none⟩) (Kd.R_far (p:=⟨gb1170,3,none⟩) (Kd.R_far (p:=⟨gb1170,2,none⟩) (Kd.R_far (p:=⟨gb1170,1,none⟩) (Kd.R_far (p:=⟨gb1170,0,none⟩) (Kd.R_types HO1154.out BK1170.out (by decide)) (fun _ hk=>hk.2) (.int .i64 t1159)) (fun _ hk=>hk.2) (.int .i64 t1160)) (fun _ hk=>hk.2) (.slice Ao70 t1161.length co70)) (fun _ hk=>hk.2) (.slice Ao71 t1164.length co71)) (fun _ hk=>hk.2) (.int .i64 t1167)) (fun _ hk=>hk.2) (.int .i64 t1168)) (fun _ h_=>h_.1))) hb);have n2_:=a_ (Kd.R_below (by (with_reducible repeat (first|apply Kd.R_alloc|apply Kd.R_drewN|apply Kd.R_drew));exact (Kd.R_mono (Kd.R_far (p:=⟨gb1170,5,none⟩) (Kd.R_far (p:=⟨gb1170,4,none⟩) (Kd.R_far (p:=⟨gb1170,3,none⟩) (Kd.R_far (p:=⟨gb1170,2,none⟩) (Kd.R_far (p:=⟨gb1170,1,none⟩) (Kd.R_far (p:=⟨gb1170,0,none⟩) (Kd.R_types HO1163.out BK1170.out (by decide)) (fun _ hk=>hk.2) (.int .i64 t1159)) (fun _ hk=>hk.2) (.int .i64 t1160)) (fun _ hk=>hk.2) (.slice Ao70 t1161.length co70)) (fun _ hk=>hk.2) (.slice Ao71 t1164.length co71)) (fun _ hk=>hk.2) (.int .i64 t1167)) (fun _ hk=>hk.2) (.int .i64 t1168)) (fun _ h_=>h_.1))) hb);have n3_:=a_ (Kd.R_below (by (with_reducible repeat (first|apply Kd.R_alloc|apply Kd.R_drewN|apply Kd.R_drew));exact (Kd.R_mono (Kd.R_far (p:=⟨gb1170,5,none⟩) (Kd.R_far (p:=⟨gb1170,4,none⟩) (Kd.R_far (p:=⟨gb1170,3,none⟩) (Kd.R_far (p:=⟨gb1170,2,none⟩) (Kd.R_far (p:=⟨gb1170,1,none⟩) (Kd.R_far (p:=⟨gb1170,0,none⟩) (Kd.R_types HO1166.out BK1170.out (by decide)) (fun _ hk=>hk.2) (.int .i64 t1159)) (fun _ hk=>hk.2) (.int .i64 t1160)) (fun _ hk=>hk.2) (.slice Ao70 t1161.length co70)) (fun _ hk=>hk.2) (.slice Ao71 t1164.length co71)) (fun _ hk=>hk.2) (.int .i64 t1167)) (fun _ hk=>hk.2) (.int .i64 t1168)) (fun _ h_=>h_.1))) hb);have n4_:=a_ (blk_below (g:=gb1158) (o:=.cells #[.int .i64 t1147,.int .i64 t1148,.slice Ao64 t1149.length co64,.slice Ao65 t1152.length co65,.int .i64 t1155,.int .i64 t1156] 77 (0,0)) (by (with_reducible repeat (first|refine bN_ ?_ _|refine bD_ ?_|refine bA_ ?_ _));refine blk_far ?_ NB1158_1170.out _;(with_reducible repeat (first|refine bN_ ?_ _|refine bD_ ?_|refine bA_ ?_ _));refine blk_far ?_ NB1158_1170.out _;(with_reducible repeat (first|refine bN_ ?_ _|refine bD_ ?_|refine bA_ ?_ _));refine blk_far ?_ NB1158_1170.out _;(with_reducible repeat (first|refine bN_ ?_ _|refine bD_ ?_|refine bA_ ?_ _));refine blk_far ?_ NB1158_1170.out _;(with_reducible repeat (first|refine bN_ ?_ _|refine bD_ ?_|refine bA_ ?_ _));refine blk_far ?_ NB1158_1170.out _;(with_reducible repeat (first|refine bN_ ?_ _|refine bD_ ?_|refine bA_ ?_ _));refine blk_far ?_ NB1158_1170.out _;(with_reducible repeat (first|refine bN_ ?_ _|refine bD_ ?_|refine bA_ ?_ _));exact BK1158.out) hb);have n5_:=a_ (blk_below (g:=gb1170) (o:=.cells #[.int .i64 t1159,.int .i64 t1160,.slice Ao70 t1161.length co70,.slice Ao71 t1164.length co71,.int .i64 t1167,.int .i64 t1168] 77 (0,0)) (by (with_reducible repeat (first|refine bN_ ?_ _|refine bD_ ?_|refine bA_ ?_ _));refine blk_put (cs:=#[.int .i64 t1159,.int .i64 t1160,.slice Ao70 t1161.length co70,.slice Ao71 t1164.length co71,.int .i64 t1167,.int .i64 0]) ?_ 5 _ rfl;(with_reducible repeat (first|refine bN_ ?_ _|refine bD_ ?_|refine bA_ ?_ _));refine blk_put (cs:=#[.int .i64 t1159,.int .i64 t1160,.slice Ao70 t1161.length co70,.slice Ao71 t1164.length co71,.int .i64 0,.int .i64 0]) ?_ 4 _ rfl;(with_reducible repeat (first|refine bN_ ?_ _|refine bD_ ?_|refine bA_ ?_ _));refine blk_put (cs:=#[.int .i64 t1159,.int .i64 t1160,.slice Ao70 t1161.length co70,.slice none 0 0,.int .i64 0,.int .i64 0]) ?_ 3 _ rfl;(with_reducible repeat (first|refine bN_ ?_ _|refine bD_ ?_|refine bA_ ?_ _));refine blk_put (cs:=#[.int .i64 t1159,.int .i64 t1160,.slice none 0 0,.slice none 0 0,.int .i64 0,.int .i64 0]) ?_ 2 _ rfl;(with_reducible repeat (first|refine bN_ ?_ _|refine bD_ ?_|refine bA_ ?_ _));refine blk_put (cs:=#[.int .i64 t1159,.int .i64 0,.slice none 0 0,.slice none 0 0,.int .i64 0,.int .i64 0]) ?_ 1 _ rfl;(with_reducible repeat (first|refine bN_ ?_ _|refine bD_ ?_|refine bA_ ?_ _));refine blk_put (cs:=#[.int .i64 0,.int .i64 0,.slice none 0 0,.slice none 0 0,.int .i64 0,.int .i64 0]) ?_ 0 _ rfl;(with_reducible repeat (first|refine bN_ ?_ _|refine bD_ ?_|refine bA_ ?_ _));exact BK1170.out) hb);have n6_:=a_ (bS_ (by repeat (first|(with_reducible first|exact HB.out|apply wA_|apply pw_below_drewN|apply below_drew1|refine wS_ ?_ GE1158.out|refine wS_ ?_ GE1170.out)|exact HB.out)) hb);clear HO1151;clear HO1154;clear HO1163;clear HO1166;clear BK1158;clear BK1170;clear HB;have HO1151:=n0_;have HO1154:=n1_;have HO1163:=n2_;have HO1166:=n3_;have BK1158:=n4_;have BK1170:=n5_;have HB:=n6_;clear n0_ n1_ n2_ n3_ n4_ n5_ n6_;(try clear hb);(try clear hb2);(try clear hk);(try clear hi);have Z74_0:w73.cell? ⟨gb1170,0,none⟩=some (.int .i64 t1159):=(bC_ BK1170.out 0).trans rfl;have Z74_1:w73.cell? ⟨gb1170,1,none⟩=some (.int .i64 t1160):=(bC_ BK1170.out 1).trans rfl;have Z74_2:w73.cell? ⟨gb1170,2,none⟩=some (.slice Ao70 t1161.length co70):=(bC_ BK1170.out 2).trans rfl;have Z74_3:w73.cell? ⟨gb1170,3,none⟩=some (.slice Ao71 t1164.length co71):=(bC_ BK1170.out 3).trans rfl;have Z74_4:w73.cell? ⟨gb1170,4,none⟩=some (.int .i64 t1167):=(bC_ BK1170.out 4).trans rfl;have Z74_5:w73.cell? ⟨gb1170,5,none⟩=some (.int .i64 t1168):=(bC_ BK1170.out 5).trans rfl;have Y74_0:=bF_ BK1170.out 0;have Y74_1:=bF_ BK1170.out 1;have Y74_2:=bF_ BK1170.out 2;have Y74_3:=bF_ BK1170.out 3;have Y74_4:=bF_ BK1170.out 4;have Y74_5:=bF_ BK1170.out 5;have Z75_0:w73.cell? ⟨gb1158,0,none⟩=some (.int .i64 t1147):=(bC_ BK1158.out 0).trans rfl;have Z75_1:w73.cell? ⟨gb1158,1,none⟩=some (.int .i64 t1148):=(bC_ BK1158.out 1).trans rfl;have Z75_2:w73.cell? ⟨gb1158,2,none⟩=some (.slice Ao64 t1149.length co64):=(bC_ BK1158.out 2).trans rfl;have Z75_3:w73.cell? ⟨gb1158,3,none⟩=some (.slice Ao65 t1152.length co65):=(bC_ BK1158.out 3).trans rfl;have Z75_4:w73.cell? ⟨gb1158,4,none⟩=some (.int .i64 t1155):=(bC_ BK1158.out 4).trans rfl;have Z75_5:w73.cell? ⟨gb1158,5,none⟩=some (.int .i64 t1156):=(bC_ BK1158.out 5).trans rfl;have Y75_0:=bF_ BK1158.out 0;have Y75_1:=bF_ BK1158.out 1;have Y75_2:=bF_ BK1158.out 2;have Y75_3:=bF_ BK1158.out 3;have Y75_4:=bF_ BK1158.out 4;have Y75_5:=bF_ BK1158.out 5)|(go_at_call 59;(with_reducible refine (laws_lpClient.calls k t1159 t1160 _ _ t1161 _ _ t1164 t1167 t1168 t1147 t1148 _ _ t1149 _ _ t1152 t1155 t1156 true _ ?side1 ?side2 ?side3 ?side4 ?side5 ?side6 ?side7 ?side8 A40.out).mono ?_);(case side1=>repeat (first|exact (Kd.R_reads' HO1163.out).2.2|(with_reducible refine Kd.C_alloc ?_ _)|(with_reducible refine Kd.C_drewN ?_ _)|(with_reducible refine Kd.C_drew ?_)));(case side2=>exact (Kd.R_reads' HO1163.out).2.1);(case side3=>repeat (first|exact (Kd.R_reads' HO1166.out).2.2|(with_reducible refine Kd.C_alloc ?_ _)|(with_reducible refine Kd.C_drewN ?_ _)|(with_reducible refine Kd.C_drew ?_)));(case side4=>exact (Kd.R_reads' HO1166.out).2.1);(case side5=>repeat (first|exact (Kd.R_reads' HO1151.out).2.2|(with_reducible refine Kd.C_alloc ?_ _)|(with_reducible refine Kd.C_drewN ?_ _)|(with_reducible refine Kd.C_drew ?_)));(case side6=>exact (Kd.R_reads' HO1151.out).2.1);(case side7=>repeat (first|exact (Kd.R_reads' HO1154.out).2.2|(with_reducible refine Kd.C_alloc ?_ _)|(with_reducible refine Kd.C_drewN ?_ _)|(with_reducible refine Kd.C_drew ?_)));(case side8=>exact (Kd.R_reads' HO1154.out).2.1);rintro e w76 ⟨rfl,hb⟩;have n0_:=a_ (Kd.R_below (by (with_reducible repeat (first|apply Kd.R_alloc|apply Kd.R_drewN|apply Kd.R_drew));exact HO1151.out) hb);have n1_:=a_ (Kd.R_below (by (with_reducible repeat (first|apply Kd.R_alloc|apply Kd.R_drewN|apply Kd.R_drew));exact HO1154.out) hb);have n2_:=a_ (Kd.R_below (by (with_reducible repeat (first|apply Kd.R_alloc|apply Kd.R_drewN|apply Kd.R_drew));exact HO1163.out) hb);have n3_:=a_ (Kd.R_below (by (with_reducible repeat (first|apply Kd.R_alloc|apply Kd.R_drewN|apply Kd.R_drew));exact HO1166.out) hb);have n4_:=a_ (blk_below (g:=gb1158) (o:=.cells #[.int .i64 t1147,.int .i64 t1148,.slice Ao64 t1149.length co64,.slice Ao65 t1152.length co65,.int .i64 t1155,.int .i64 t1156] 77 (0,0)) (by (with_reducible repeat (first|refine bN_ ?_ _|refine bD_ ?_|refine bA_ ?_ _));exact BK1158.out) hb);have n5_:=a_ (blk_below (g:=gb1170) (o:=.cells #[.int .i64 t1159,.int .i64 t1160,.slice Ao70 t1161.length co70,.slice Ao71 t1164.length co71,.int .i64 t1167,.int .i64 t1168] 77 (0,0)) (by (with_reducible repeat (first|refine bN_ ?_ _|refine bD_ ?_|refine bA_ ?_ _));exact BK1170.out) hb);have n6_:=a_ (bS_ (by repeat (first|(with_reducible first|exact HB.out|apply wA_|apply pw_below_drewN|apply below_drew1|refine wS_ ?_ GE1158.out|refine wS_ ?_ GE1170.out)|exact HB.out)) hb);clear HO1151;clear HO1154;clear HO1163;clear HO1166;clear BK1158;clear BK1170;clear HB;have HO1151:=n0_;have HO1154:=n1_;have HO1163:=n2_;have HO1166:=n3_;have BK1158:=n4_;have BK1170:=n5_;have HB:=n6_;clear n0_ n1_ n2_ n3_ n4_ n5_ n6_;(try clear hb);(try clear hb2);(try clear hk);(try clear hi)))
        go_ret
        exact ⟨by first|rfl|(simp [errW_none,errW_some] <;> rfl)|(simp [*,errW_none,errW_some] <;> rfl),by repeat (first|(with_reducible first|exact HB.out|apply wA_|apply pw_below_drewN|apply below_drew1|refine wS_ ?_ GE1158.out|refine wS_ ?_ GE1170.out)|exact HB.out)⟩
      ·replace c41:=Bool.eq_false_iff.mpr c41
       subst c41
       have H1:(none)=some r:=by rw [if_neg (show ¬ (false=true) by decide)] at H;exact H
       clear H
       have H:=H1
       clear H1
       exact absurd H (by simp)
     ·rw [if_neg c39] at H
      exact absurd H (by simp)
   ·replace c8:=Bool.eq_false_iff.mpr c8
    subst c8
    have H1:(none)=some r:=by rw [if_neg (show ¬ (false=true) by decide)] at H;exact H
    clear H
    have H:=H1
    clear H1
    exact absurd H (by simp)

def laws_FnClientNew.Pure:Prop:=∀ (l0:List Int),l0.length≤maxLen→l0.length * 1≤140737488351232→(∀ x∈l0,(Lit.int .u8 x).wf=true)→∃ k,laws_FnClientNew.f k l0=some true
theorem laws_FnClientNew.walk (P:laws_FnClientNew.Pure) (a0:Option Addr) (len0 cap0:Nat) (z0:List Int) (w:World) (w0:(a0=none∧len0=0∧cap0=0∧z0=[])∨∃ x,a0=some x∧len0≤cap0∧cap0≤maxLen∧z0.length=cap0∧(∀ i,i < z0.length→w.cell? (x.add i)=some (.int .u8 (z0.getD i 0)))∧∀ n∈z0,(Lit.int .u8 n).wf=true) (y0:len0 * 1≤140737488351232) (hG:Glob w) :
  Calls Tryd.prog 12 #[.slice a0 len0 cap0] w fun e w'=>e=.returned (.bool true)∧Below w.heap.size w w':=by
 obtain ⟨l0,rfl,hr0,hm0,hw0,hc0⟩:=ReadsInt.ofRowC w0
 obtain ⟨k,h⟩:=P l0 hm0 y0 hw0
 refine (laws_FnClientNew.calls k _ _ l0 true w (Kd.C_of_reads (d:=(0:Int)) (h1:=fun _=>rfl) hr0) hc0 h hG).mono ?_
 rintro e w' ⟨rfl,hd⟩
 exact ⟨rfl,hd⟩

end Go.Proofs.YtdpklbomhdpimaaDoor.P
