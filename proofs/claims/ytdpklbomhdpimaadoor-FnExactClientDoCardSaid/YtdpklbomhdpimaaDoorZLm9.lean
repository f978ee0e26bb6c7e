/- Joined by a program (wip/shake.py): the declarations that 'YtdpklbomhdpimaaDoorCardFnExactClientDo' reaches. -/
import Derived.Test.YtdpklbomhdpimaaDoorZLm8
set_option linter.unusedVariables false
set_option linter.unusedSimpArgs false
set_option linter.unusedSectionVars false
set_option maxHeartbeats 8000000
set_option maxRecDepth 100000
namespace Go.Proofs.YtdpklbomhdpimaaDoor.P
open Go.RowKit Go.Proofs.YtdpklbomhdpimaaDoorW.PrintWords Go.Proofs.YtdpklbomhdpimaaDoorW.PrintLast
theorem laws_FnExactClientDo.calls (k:Nat) (a0_0:Int) (a0_1:Int) (A0_2:Option Addr) (c0_2:Nat) (l0_2:List (S183)) (A0_3:Option Addr) (c0_3:Nat) (l0_3:List (S36)) (a0_4:Int) (a0_5:Int) (a1_0:Int) (a1_1:Int) (a1_2:Int) (a1_3:Int) (a1_4:ByteArray) (r:Bool) (w:World) (hr0_2:Kd.C k183 w A0_2 l0_2.length l0_2) (hc0_2:l0_2.length≤c0_2) (hr0_3:Kd.C k36 w A0_3 l0_3.length l0_3) (hc0_3:l0_3.length≤c0_3) (h:laws_FnExactClientDo.f k a0_0 a0_1 l0_2 l0_3 a0_4 a0_5 a1_0 a1_1 a1_2 a1_3 a1_4=some r) (hG:Glob w) :
  Calls Tryd.prog 14 #[.agg #[.int .i64 a0_0,.int .i64 a0_1,.slice A0_2 l0_2.length c0_2,.slice A0_3 l0_3.length c0_3,.int .i64 a0_4,.int .i64 a0_5],.agg #[.int .i64 a1_0,.int .i64 a1_1,.int .i64 a1_2,.int .i64 a1_3,.string a1_4]] w fun e w'=>e=.returned (.bool r)∧Below w.heap.size w w':=by
 have hu85:=Tryd.underlying85
 have hu34:=Tryd.underlying34
 have hu77:=Tryd.underlying77
 have HR0_2:=a_ hr0_2
 have HC0_2:=a_ hc0_2
 clear hr0_2 hc0_2
 have HR0_3:=a_ hr0_3
 have HC0_3:=a_ hc0_3
 clear hr0_3 hc0_3
 have HB:=a_ (Below.refl w.heap.size w)
 have HG:=a_ hG
 clear hG
 unfold laws_FnExactClientDo.f at h
 have H:=h
 clear h
 replace H:=bs_ H
 obtain ⟨t409,A30,H⟩:=H
 try dsimp only at H
 have A3:=a_ A30
 clear A30
 by_cases c4:t409 < 0
 ·rw [if_pos c4] at H
  have c4b0:decide (t409 < 0)=true:=dt_ c4
  clear c4
  obtain rfl:=sj_ H
  go_enter Tryd.func14,Tryd.ntmps14
  go_wp2_with (first|((with_reducible refine gD_ (N:=2) rfl ?_);refine bx_ 2 (#[.int .i64 a0_0,.int .i64 a0_1,.slice A0_2 l0_2.length c0_2,.slice A0_3 l0_3.length c0_3,.int .i64 a0_4,.int .i64 a0_5]) 85 ?_;intro gb407 hg w5 hbox hb;have n0_:=a_ (bS_ (bel_) hb);have n1_:=a_ (hbox);have n2_:=a_ ((by rw [hg];exact (below_size (bel_)):w.heap.size≤gb407));have n3_:=a_ ((by rw [hg];exact (below_size (bel_)):w.heap.size≤gb407));clear HB;have HB:=n0_;have BK407:=n1_;have GW407:=n2_;have GE407:=n3_;clear n0_ n1_ n2_ n3_;clear hb hbox hg)|((with_reducible refine gD_ (N:=3) rfl ?_);refine bx_ 3 (#[.int .i64 a1_0,.int .i64 a1_1,.int .i64 a1_2,.int .i64 a1_3,.string a1_4]) 34 ?_;intro gb408 hg w6 hbox hb;have n0_:=a_ (blk_below (g:=gb407) (o:=.cells #[.int .i64 a0_0,.int .i64 a0_1,.slice A0_2 l0_2.length c0_2,.slice A0_3 l0_3.length c0_3,.int .i64 a0_4,.int .i64 a0_5] 85 (0,0)) (bp_ BK407.out) hb);have n1_:=a_ (bS_ (bel_) hb);have n2_:=a_ (hbox);have n3_:=a_ ((by rw [hg];exact (below_size (bel_)):w.heap.size≤gb408));have n4_:=a_ ((by rw [hg];exact (below_size (bel_)):w.heap.size≤gb408));have n5_:=a_ ((by rw [hg];exact Nat.ne_of_lt (blk_lt (g:=gb407) (o:=.cells #[.int .i64 a0_0,.int .i64 a0_1,.slice A0_2 l0_2.length c0_2,.slice A0_3 l0_3.length c0_3,.int .i64 a0_4,.int .i64 a0_5] 85 (0,0)) (bp_ BK407.out)):gb407≠gb408));have n6_:=a_ ((by rw [hg];exact Nat.ne_of_gt (blk_lt (g:=gb407) (o:=.cells #[.int .i64 a0_0,.int .i64 a0_1,.slice A0_2 l0_2.length c0_2,.slice A0_3 l0_3.length c0_3,.int .i64 a0_4,.int .i64 a0_5] 85 (0,0)) (bp_ BK407.out)):gb408≠gb407));clear BK407;clear HB;have BK407:=n0_;have HB:=n1_;have BK408:=n2_;have GW408:=n3_;have GE408:=n4_;have NB407_408:=n5_;have NB408_407:=n6_;clear n0_ n1_ n2_ n3_ n4_ n5_ n6_;clear hb hbox hg;have hnb7:=NB407_408.out;have hnc7:=NB408_407.out;have Z8_0:=cz_ BK407.out 0 (.int .i64 a0_0);have Z8_1:=cz_ BK407.out 1 (.int .i64 a0_1);have Z8_2:=cz_ BK407.out 2 (.slice A0_2 l0_2.length c0_2);have Z8_3:=cz_ BK407.out 3 (.slice A0_3 l0_3.length c0_3);have Z8_4:=cz_ BK407.out 4 (.int .i64 a0_4);have Z8_5:=cz_ BK407.out 5 (.int .i64 a0_5);have Y8_0:=bF_ BK407.out 0;have Y8_1:=bF_ BK407.out 1;have Y8_2:=bF_ BK407.out 2;have Y8_3:=bF_ BK407.out 3;have Y8_4:=bF_ BK407.out 4;have Y8_5:=bF_ BK407.out 5)|((with_reducible refine gC_ (f:=62) rfl ?_);refine gl_ 18 Tryd.func62 #[.agg #[.int .i64 a0_0,.int .i64 a0_1,.slice A0_2 l0_2.length c0_2,.slice A0_3 l0_3.length c0_3,.int .i64 a0_4,.int .i64 a0_5],.int .i64 1048576] ?_;(with_reducible refine (laws_szClient.calls k a0_0 a0_1 _ _ l0_2 _ _ l0_3 a0_4 a0_5 1048576 t409 _ ?side1 ?side2 ?side3 ?side4 A3.out).mono ?_);(case side1=>exact cp_ HR0_2.out);(case side2=>exact HC0_2.out);(case side3=>exact cx_ (Kd.C_below HR0_3.out HB.out));(case side4=>exact HC0_3.out);rintro e w9 ⟨rfl,hb⟩;refine ⟨_,rfl,?_⟩;replace HB:=a_ (bS_ (bel_) hb);replace BK407:=a_ (blk_below (g:=gb407) (o:=.cells #[.int .i64 a0_0,.int .i64 a0_1,.slice A0_2 l0_2.length c0_2,.slice A0_3 l0_3.length c0_3,.int .i64 a0_4,.int .i64 a0_5] 85 (0,0)) (bp_ BK407.out) hb);replace BK408:=a_ (blk_below (g:=gb408) (o:=.cells #[.int .i64 a1_0,.int .i64 a1_1,.int .i64 a1_2,.int .i64 a1_3,.string a1_4] 34 (0,0)) (bp_ BK408.out) hb);(try clear hb)))
  go_ret
  exact ⟨fi_,bel_⟩
 ·rw [if_neg c4] at H
  have c4b0:decide (t409 < 0)=false:=df_ c4
  clear c4
  replace H:=bs_ H
  obtain ⟨t410,A100,H⟩:=H
  try dsimp only at H
  have A10:=a_ A100
  clear A100
  by_cases c11:t410 < 0
  ·rw [if_pos c11] at H
   have c11b0:decide (t410 < 0)=true:=dt_ c11
   clear c11
   obtain rfl:=sj_ H
   go_enter Tryd.func14,Tryd.ntmps14
   go_wp2_with (first|((with_reducible refine gD_ (N:=2) rfl ?_);refine bx_ 2 (#[.int .i64 a0_0,.int .i64 a0_1,.slice A0_2 l0_2.length c0_2,.slice A0_3 l0_3.length c0_3,.int .i64 a0_4,.int .i64 a0_5]) 85 ?_;intro gb407 hg w12 hbox hb;have n0_:=a_ (bS_ (bel_) hb);have n1_:=a_ (hbox);have n2_:=a_ ((by rw [hg];exact (below_size (bel_)):w.heap.size≤gb407));have n3_:=a_ ((by rw [hg];exact (below_size (bel_)):w.heap.size≤gb407));clear HB;have HB:=n0_;have BK407:=n1_;have GW407:=n2_;have GE407:=n3_;clear n0_ n1_ n2_ n3_;clear hb hbox hg)|((with_reducible refine gD_ (N:=3) rfl ?_);refine bx_ 3 (#[.int .i64 a1_0,.int .i64 a1_1,.int .i64 a1_2,.int .i64 a1_3,.string a1_4]) 34 ?_;intro gb408 hg w13 hbox hb;have n0_:=a_ (blk_below (g:=gb407) (o:=.cells #[.int .i64 a0_0,.int .i64 a0_1,.slice A0_2 l0_2.length c0_2,.slice A0_3 l0_3.length c0_3,.int .i64 a0_4,.int .i64 a0_5] 85 (0,0)) (bp_ BK407.out) hb);have n1_:=a_ (bS_ (bel_) hb);have n2_:=a_ (hbox);have n3_:=a_ ((by rw [hg];exact (below_size (bel_)):w.heap.size≤gb408));have n4_:=a_ ((by rw [hg];exact (below_size (bel_)):w.heap.size≤gb408));have n5_:=a_ ((by rw [hg];exact Nat.ne_of_lt (blk_lt (g:=gb407) (o:=.cells #[.int .i64 a0_0,.int .i64 a0_1,.slice A0_2 l0_2.length c0_2,.slice A0_3 l0_3.length c0_3,.int .i64 a0_4,.int .i64 a0_5] 85 (0,0)) (bp_ BK407.out)):gb407≠gb408));have n6_:=a_ ((by rw [hg];exact Nat.ne_of_gt (blk_lt (g:=gb407) (o:=.cells #[.int .i64 a0_0,.int .i64 a0_1,.slice A0_2 l0_2.length c0_2,.slice A0_3 l0_3.length c0_3,.int .i64 a0_4,.int .i64 a0_5] 85 (0,0)) (bp_ BK407.out)):gb408≠gb407));clear BK407;clear HB;have BK407:=n0_;have HB:=n1_;have BK408:=n2_;have GW408:=n3_;have GE408:=n4_;have NB407_408:=n5_;have NB408_407:=n6_;clear n0_ n1_ n2_ n3_ n4_ n5_ n6_;clear hb hbox hg;have hnb14:=NB407_408.out;have hnc14:=NB408_407.out;have Z15_0:=cz_ BK407.out 0 (.int .i64 a0_0);have Z15_1:=cz_ BK407.out 1 (.int .i64 a0_1);have Z15_2:=cz_ BK407.out 2 (.slice A0_2 l0_2.length c0_2);have Z15_3:=cz_ BK407.out 3 (.slice A0_3 l0_3.length c0_3);have Z15_4:=cz_ BK407.out 4 (.int .i64 a0_4);have Z15_5:=cz_ BK407.out 5 (.int .i64 a0_5);have Y15_0:=bF_ BK407.out 0;have Y15_1:=bF_ BK407.out 1;have Y15_2:=bF_ BK407.out 2;have Y15_3:=bF_ BK407.out 3;have Y15_4:=bF_ BK407.out 4;have Y15_5:=bF_ BK407.out 5)|((with_reducible refine gC_ (f:=62) rfl ?_);refine gl_ 18 Tryd.func62 #[.agg #[.int .i64 a0_0,.int .i64 a0_1,.slice A0_2 l0_2.length c0_2,.slice A0_3 l0_3.length c0_3,.int .i64 a0_4,.int .i64 a0_5],.int .i64 1048576] ?_;(with_reducible refine (laws_szClient.calls k a0_0 a0_1 _ _ l0_2 _ _ l0_3 a0_4 a0_5 1048576 t409 _ ?side1 ?side2 ?side3 ?side4 A3.out).mono ?_);(case side1=>exact cp_ HR0_2.out);(case side2=>exact HC0_2.out);(case side3=>exact cx_ (Kd.C_below HR0_3.out HB.out));(case side4=>exact HC0_3.out);rintro e w16 ⟨rfl,hb⟩;refine ⟨_,rfl,?_⟩;replace HB:=a_ (bS_ (bel_) hb);replace BK407:=a_ (blk_below (g:=gb407) (o:=.cells #[.int .i64 a0_0,.int .i64 a0_1,.slice A0_2 l0_2.length c0_2,.slice A0_3 l0_3.length c0_3,.int .i64 a0_4,.int .i64 a0_5] 85 (0,0)) (bp_ BK407.out) hb);replace BK408:=a_ (blk_below (g:=gb408) (o:=.cells #[.int .i64 a1_0,.int .i64 a1_1,.int .i64 a1_2,.int .i64 a1_3,.string a1_4] 34 (0,0)) (bp_ BK408.out) hb);(try clear hb);have Z17_0:=cz_ BK408.out 0 (.int .i64 a1_0);have Z17_1:=cz_ BK408.out 1 (.int .i64 a1_1);have Z17_2:=cz_ BK408.out 2 (.int .i64 a1_2);have Z17_3:=cz_ BK408.out 3 (.int .i64 a1_3);have Z17_4:=cz_ BK408.out 4 (.string a1_4);have Y17_0:=bF_ BK408.out 0;have Y17_1:=bF_ BK408.out 1;have Y17_2:=bF_ BK408.out 2;have Y17_3:=bF_ BK408.out 3;have Y17_4:=bF_ BK408.out 4)|((with_reducible refine gC_ (f:=66) rfl ?_);refine gl_ 23 Tryd.func66 #[.agg #[.int .i64 a1_0,.int .i64 a1_1,.int .i64 a1_2,.int .i64 a1_3,.string a1_4],.int .i64 t409] ?_;(with_reducible refine (laws_szOp.calls a1_0 a1_1 a1_2 a1_3 a1_4 t409 t410 _ A10.out).mono ?_);rintro e w18 ⟨rfl,hb⟩;refine ⟨_,rfl,?_⟩;replace HB:=a_ (bS_ (bel_) hb);replace BK407:=a_ (blk_below (g:=gb407) (o:=.cells #[.int .i64 a0_0,.int .i64 a0_1,.slice A0_2 l0_2.length c0_2,.slice A0_3 l0_3.length c0_3,.int .i64 a0_4,.int .i64 a0_5] 85 (0,0)) (bp_ BK407.out) hb);replace BK408:=a_ (blk_below (g:=gb408) (o:=.cells #[.int .i64 a1_0,.int .i64 a1_1,.int .i64 a1_2,.int .i64 a1_3,.string a1_4] 34 (0,0)) (bp_ BK408.out) hb);(try clear hb)))
   go_ret
   exact ⟨fi_,bel_⟩
  ·rw [if_neg c11] at H
   have c11b0:decide (t410 < 0)=false:=df_ c11
   clear c11
   replace H:=bs_ H
   obtain ⟨⟨t411,t412,t413,t416,t419,t420⟩,A190,H⟩:=H
   try dsimp only at H
   have A19:=a_ A190
   clear A190
   replace H:=bs_ H
   obtain ⟨⟨t421,t422,t423,t424,t425⟩,A200,H⟩:=H
   try dsimp only at H
   have A20:=a_ A200
   clear A200
   replace H:=bs_ H
   obtain ⟨⟨t426,t427,t428,t431,t434,t435,t436⟩,A210,H⟩:=H
   try dsimp only at H
   have A21:=a_ A210
   clear A210
   replace H:=bs_ H
   obtain ⟨⟨t438,t439,t440,t443,t446,t447⟩,A220,H⟩:=H
   try dsimp only at H
   have A22:=a_ A220
   clear A220
   replace H:=bs_ H
   obtain ⟨⟨t449,t450,t451,t452,t453⟩,A230,H⟩:=H
   try dsimp only at H
   have A23:=a_ A230
   clear A230
   replace H:=bs_ H
   obtain ⟨⟨t454,t455,t456,t459,t462,t463,t464⟩,A240,H⟩:=H
   try dsimp only at H
   have A24:=a_ A240
   clear A240
   replace H:=bs_ H
   obtain ⟨t466,A250,H⟩:=H
   try dsimp only at H
   have A25:=a_ A250
   clear A250
   by_cases c26:t466=true
   ·subst c26
    have H1:(if (t464 != t436)=true then (none) else ((laws_toClient.f k a0_0 a0_1 l0_2 l0_3 a0_4 a0_5).bind fun bt467=>((laws_eqClient.f k t438 t439 t440 t443 t446 t447 bt467.1 bt467.2.1 bt467.2.2.1 bt467.2.2.2.1 bt467.2.2.2.2.1 bt467.2.2.2.2.2).bind fun t477=>(if t477=true then ((laws_markClient.f k t438 t439 t440 t443 t446 t447 1).bind fun bt478=>(if bt478.1 < 0 then (none) else ((laws_eqClient.f k t454 t455 t456 t459 t462 t463 t426 t427 t428 t431 t434 t435).bind fun t481=>(if t481=true then ((laws_markClient.f k t454 t455 t456 t459 t462 t463 1).bind fun bt482=>((laws_heldClient.f k t454 t455 bt482.2.1 bt482.2.2 t462 t463 1).bind fun t485=>(if t485 < 0 then (none) else (if t485=bt482.1 then ((laws_toClient.f k a0_0 a0_1 l0_2 l0_3 a0_4 a0_5).bind fun bt486=>((laws_toOp.f a1_0 a1_1 a1_2 a1_3 a1_4).bind fun bt496=>((impl_ClientDo.f k bt486.1 bt486.2.1 bt486.2.2.1 bt486.2.2.2.1 bt486.2.2.2.2.1 bt486.2.2.2.2.2 bt496.1 bt496.2.1 bt496.2.2.1 bt496.2.2.2.1 bt496.2.2.2.2).bind fun bt501=>((laws_eqClient.f k bt501.1 bt501.2.1 bt501.2.2.1 bt501.2.2.2.1 bt501.2.2.2.2.1 bt501.2.2.2.2.2.1 t426 t427 t428 t431 t434 t435).bind fun t513=>(if t513=true then (if (bt501.2.2.2.2.2.2 != t436)=true then (none) else ((laws_heldClient.f k t454 t455 bt482.2.1 bt482.2.2 t462 t463 1).bind fun t514=>(if t514 < 0 then (none) else (if t514=bt482.1 then (some true) else (none))))) else (none)))))) else (none))))) else (none))))) else (none)))))=some r:=by rw [if_pos rfl] at H;exact H
    clear H
    have H:=H1
    clear H1
    by_cases c27:(t464 != t436)=true
    ·rw [if_pos c27] at H
     exact absurd H (by simp)
    ·rw [if_neg c27] at H
     have c27b0:(t464 != t436)=false:=by simpa using c27
     (try (have c27b1:decide (t464=t436)=true:=by simpa using c27))
     (try (have c27b2:(t464==t436)=true:=by simpa using c27))
     clear c27
     replace H:=bs_ H
     obtain ⟨⟨t467,t468,t469,t472,t475,t476⟩,A280,H⟩:=H
     try dsimp only at H
     have A28:=a_ A280
     clear A280
     replace H:=bs_ H
     obtain ⟨t477,A290,H⟩:=H
     try dsimp only at H
     have A29:=a_ A290
     clear A290
     by_cases c30:t477=true
     ·subst c30
      have H1:((laws_markClient.f k t438 t439 t440 t443 t446 t447 1).bind fun bt478=>(if bt478.1 < 0 then (none) else ((laws_eqClient.f k t454 t455 t456 t459 t462 t463 t426 t427 t428 t431 t434 t435).bind fun t481=>(if t481=true then ((laws_markClient.f k t454 t455 t456 t459 t462 t463 1).bind fun bt482=>((laws_heldClient.f k t454 t455 bt482.2.1 bt482.2.2 t462 t463 1).bind fun t485=>(if t485 < 0 then (none) else (if t485=bt482.1 then ((laws_toClient.f k a0_0 a0_1 l0_2 l0_3 a0_4 a0_5).bind fun bt486=>((laws_toOp.f a1_0 a1_1 a1_2 a1_3 a1_4).bind fun bt496=>((impl_ClientDo.f k bt486.1 bt486.2.1 bt486.2.2.1 bt486.2.2.2.1 bt486.2.2.2.2.1 bt486.2.2.2.2.2 bt496.1 bt496.2.1 bt496.2.2.1 bt496.2.2.2.1 bt496.2.2.2.2).bind fun bt501=>((laws_eqClient.f k bt501.1 bt501.2.1 bt501.2.2.1 bt501.2.2.2.1 bt501.2.2.2.2.1 bt501.2.2.2.2.2.1 t426 t427 t428 t431 t434 t435).bind fun t513=>(if t513=true then (if (bt501.2.2.2.2.2.2 != t436)=true then (none) else ((laws_heldClient.f k t454 t455 bt482.2.1 bt482.2.2 t462 t463 1).bind fun t514=>(if t514 < 0 then (none) else (if t514=bt482.1 then (some true) else (none))))) else (none)))))) else (none))))) else (none)))))=some r:=by rw [if_pos rfl] at H;exact H
      clear H
      have H:=H1
      clear H1
      replace H:=bs_ H
      obtain ⟨⟨t478,t479,t480⟩,A310,H⟩:=H
      try dsimp only at H
      have A31:=a_ A310
      clear A310
      by_cases c32:t478 < 0
      ·rw [if_pos c32] at H
       exact absurd H (by simp)
      ·rw [if_neg c32] at H
       have c32b0:decide (t478 < 0)=false:=df_ c32
       clear c32
       replace H:=bs_ H
       obtain ⟨t481,A330,H⟩:=H
       try dsimp only at H
       have A33:=a_ A330
       clear A330
       by_cases c34:t481=true
       ·subst c34
        have H1:((laws_markClient.f k t454 t455 t456 t459 t462 t463 1).bind fun bt482=>((laws_heldClient.f k t454 t455 bt482.2.1 bt482.2.2 t462 t463 1).bind fun t485=>(if t485 < 0 then (none) else (if t485=bt482.1 then ((laws_toClient.f k a0_0 a0_1 l0_2 l0_3 a0_4 a0_5).bind fun bt486=>((laws_toOp.f a1_0 a1_1 a1_2 a1_3 a1_4).bind fun bt496=>((impl_ClientDo.f k bt486.1 bt486.2.1 bt486.2.2.1 bt486.2.2.2.1 bt486.2.2.2.2.1 bt486.2.2.2.2.2 bt496.1 bt496.2.1 bt496.2.2.1 bt496.2.2.2.1 bt496.2.2.2.2).bind fun bt501=>((laws_eqClient.f k bt501.1 bt501.2.1 bt501.2.2.1 bt501.2.2.2.1 bt501.2.2.2.2.1 bt501.2.2.2.2.2.1 t426 t427 t428 t431 t434 t435).bind fun t513=>(if t513=true then (if (bt501.2.2.2.2.2.2 != t436)=true then (none) else ((laws_heldClient.f k t454 t455 bt482.2.1 bt482.2.2 t462 t463 1).bind fun t514=>(if t514 < 0 then (none) else (if t514=bt482.1 then (some true) else (none))))) else (none)))))) else (none)))))=some r:=by rw [if_pos rfl] at H;exact H
        clear H
        have H:=H1
        clear H1
        replace H:=bs_ H
        obtain ⟨⟨t482,t483,t484⟩,A350,H⟩:=H
        try dsimp only at H
        have A35:=a_ A350
        clear A350
        replace H:=bs_ H
        obtain ⟨t485,A360,H⟩:=H
        try dsimp only at H
        have A36:=a_ A360
        clear A360
        by_cases c37:t485 < 0
        ·rw [if_pos c37] at H
         exact absurd H (by simp)
        ·rw [if_neg c37] at H
         have c37b0:decide (t485 < 0)=false:=df_ c37
         clear c37
         by_cases c38:t485=t482
         ·rw [if_pos c38] at H
          have c38b0:(t485==t482)=true:=beq_iff_eq.mpr c38
          have c38b1:(t485 != t482)=false:=be_ c38
          clear c38
          replace H:=bs_ H
          obtain ⟨⟨t486,t487,t488,t491,t494,t495⟩,A390,H⟩:=H
          try dsimp only at H
          have A39:=a_ A390
          clear A390
          replace H:=bs_ H
          obtain ⟨⟨t496,t497,t498,t499,t500⟩,A400,H⟩:=H
          try dsimp only at H
          have A40:=a_ A400
          clear A400
          replace H:=bs_ H
          obtain ⟨⟨t501,t502,t503,t506,t509,t510,t511⟩,A410,H⟩:=H
          try dsimp only at H
          have A41:=a_ A410
          clear A410
          replace H:=bs_ H
          obtain ⟨t513,A420,H⟩:=H
          try dsimp only at H
          have A42:=a_ A420
          clear A420
          by_cases c43:t513=true
          ·subst c43
           have H1:(if (t511 != t436)=true then (none) else ((laws_heldClient.f k t454 t455 t483 t484 t462 t463 1).bind fun t514=>(if t514 < 0 then (none) else (if t514=t482 then (some true) else (none)))))=some r:=by rw [if_pos rfl] at H;exact H
           clear H
           have H:=H1
           clear H1
           by_cases c44:(t511 != t436)=true
           ·rw [if_pos c44] at H
            exact absurd H (by simp)
           ·rw [if_neg c44] at H
            have c44b0:(t511 != t436)=false:=by simpa using c44
            (try (have c44b1:decide (t511=t436)=true:=by simpa using c44))
            (try (have c44b2:(t511==t436)=true:=by simpa using c44))
            clear c44
            replace H:=bs_ H
            obtain ⟨t514,A450,H⟩:=H
            try dsimp only at H
            have A45:=a_ A450
            clear A450
            by_cases c46:t514 < 0
            ·rw [if_pos c46] at H
             exact absurd H (by simp)
            ·rw [if_neg c46] at H
             have c46b0:decide (t514 < 0)=false:=df_ c46
             clear c46
             by_cases c47:t514=t482
             ·rw [if_pos c47] at H
              have c47b0:(t514==t482)=true:=beq_iff_eq.mpr c47
              have c47b1:(t514 != t482)=false:=be_ c47
              clear c47
              obtain rfl:=sj_ H
              go_enter Tryd.func14,Tryd.ntmps14
              try go_wp2_with (first|((with_reducible refine gD_ (N:=2) rfl ?_);refine bx_ 2 (#[.int .i64 a0_0,.int .i64 a0_1,.slice A0_2 l0_2.length c0_2,.slice A0_3 l0_3.length c0_3,.int .i64 a0_4,.int .i64 a0_5]) 85 ?_;intro gb407 hg w48 hbox hb;have n0_:=a_ (bS_ (bel_) hb);have n1_:=a_ (hbox);have n2_:=a_ ((by rw [hg];exact (below_size (bel_)):w.heap.size≤gb407));have n3_:=a_ ((by rw [hg];exact (below_size (bel_)):w.heap.size≤gb407));clear HB;have HB:=n0_;have BK407:=n1_;have GW407:=n2_;have GE407:=n3_;clear n0_ n1_ n2_ n3_;clear hb hbox hg)|((with_reducible refine gD_ (N:=3) rfl ?_);refine bx_ 3 (#[.int .i64 a1_0,.int .i64 a1_1,.int .i64 a1_2,.int .i64 a1_3,.string a1_4]) 34 ?_;intro gb408 hg w49 hbox hb;have n0_:=a_ (blk_below (g:=gb407) (o:=.cells #[.int .i64 a0_0,.int .i64 a0_1,.slice A0_2 l0_2.length c0_2,.slice A0_3 l0_3.length c0_3,.int .i64 a0_4,.int .i64 a0_5] 85 (0,0)) (bp_ BK407.out) hb);have n1_:=a_ (bS_ (bel_) hb);have n2_:=a_ (hbox);have n3_:=a_ ((by rw [hg];exact (below_size (bel_)):w.heap.size≤gb408));have n4_:=a_ ((by rw [hg];exact (below_size (bel_)):w.heap.size≤gb408));have n5_:=a_ ((by rw [hg];exact Nat.ne_of_lt (blk_lt (g:=gb407) (o:=.cells #[.int .i64 a0_0,.int .i64 a0_1,.slice A0_2 l0_2.length c0_2,.slice A0_3 l0_3.length c0_3,.int .i64 a0_4,.int .i64 a0_5] 85 (0,0)) (bp_ BK407.out)):gb407≠gb408));have n6_:=a_ ((by rw [hg];exact Nat.ne_of_gt (blk_lt (g:=gb407) (o:=.cells #[.int .i64 a0_0,.int .i64 a0_1,.slice A0_2 l0_2.length c0_2,.slice A0_3 l0_3.length c0_3,.int .i64 a0_4,.int .i64 a0_5] 85 (0,0)) (bp_ BK407.out)):gb408≠gb407));clear BK407;clear HB;have BK407:=n0_;have HB:=n1_;have BK408:=n2_;have GW408:=n3_;have GE408:=n4_;have NB407_408:=n5_;have NB408_407:=n6_;clear n0_ n1_ n2_ n3_ n4_ n5_ n6_;clear hb hbox hg;have hnb50:=NB407_408.out;have hnc50:=NB408_407.out;have Z51_0:=cz_ BK407.out 0 (.int .i64 a0_0);have Z51_1:=cz_ BK407.out 1 (.int .i64 a0_1);have Z51_2:=cz_ BK407.out 2 (.slice A0_2 l0_2.length c0_2);have Z51_3:=cz_ BK407.out 3 (.slice A0_3 l0_3.length c0_3);have Z51_4:=cz_ BK407.out 4 (.int .i64 a0_4);have Z51_5:=cz_ BK407.out 5 (.int .i64 a0_5);have Y51_0:=bF_ BK407.out 0;have Y51_1:=bF_ BK407.out 1;have Y51_2:=bF_ BK407.out 2;have Y51_3:=bF_ BK407.out 3;have Y51_4:=bF_ BK407.out 4;have Y51_5:=bF_ BK407.out 5)|((with_reducible refine gC_ (f:=62) rfl ?_);refine gl_ 18 Tryd.func62 #[.agg #[.int .i64 a0_0,.int .i64 a0_1,.slice A0_2 l0_2.length c0_2,.slice A0_3 l0_3.length c0_3,.int .i64 a0_4,.int .i64 a0_5],.int .i64 1048576] ?_;(with_reducible refine (laws_szClient.calls k a0_0 a0_1 _ _ l0_2 _ _ l0_3 a0_4 a0_5 1048576 t409 _ ?side1 ?side2 ?side3 ?side4 A3.out).mono ?_);(case side1=>exact cp_ HR0_2.out);(case side2=>exact HC0_2.out);(case side3=>exact cx_ (Kd.C_below HR0_3.out HB.out));(case side4=>exact HC0_3.out);rintro e w52 ⟨rfl,hb⟩;refine ⟨_,rfl,?_⟩;replace HB:=a_ (bS_ (bel_) hb);replace BK407:=a_ (blk_below (g:=gb407) (o:=.cells #[.int .i64 a0_0,.int .i64 a0_1,.slice A0_2 l0_2.length c0_2,.slice A0_3 l0_3.length c0_3,.int .i64 a0_4,.int .i64 a0_5] 85 (0,0)) (bp_ BK407.out) hb);replace BK408:=a_ (blk_below (g:=gb408) (o:=.cells #[.int .i64 a1_0,.int .i64 a1_1,.int .i64 a1_2,.int .i64 a1_3,.string a1_4] 34 (0,0)) (bp_ BK408.out) hb);(try clear hb);have Z53_0:=cz_ BK408.out 0 (.int .i64 a1_0);have Z53_1:=cz_ BK408.out 1 (.int .i64 a1_1);have Z53_2:=cz_ BK408.out 2 (.int .i64 a1_2);have Z53_3:=cz_ BK408.out 3 (.int .i64 a1_3);have Z53_4:=cz_ BK408.out 4 (.string a1_4);have Y53_0:=bF_ BK408.out 0;have Y53_1:=bF_ BK408.out 1;have Y53_2:=bF_ BK408.out 2;have Y53_3:=bF_ BK408.out 3;have Y53_4:=bF_ BK408.out 4)|((with_reducible refine gC_ (f:=66) rfl ?_);refine gl_ 23 Tryd.func66 #[.agg #[.int .i64 a1_0,.int .i64 a1_1,.int .i64 a1_2,.int .i64 a1_3,.string a1_4],.int .i64 t409] ?_;(with_reducible refine (laws_szOp.calls a1_0 a1_1 a1_2 a1_3 a1_4 t409 t410 _ A10.out).mono ?_);rintro e w54 ⟨rfl,hb⟩;refine ⟨_,rfl,?_⟩;replace HB:=a_ (bS_ (bel_) hb);replace BK407:=a_ (blk_below (g:=gb407) (o:=.cells #[.int .i64 a0_0,.int .i64 a0_1,.slice A0_2 l0_2.length c0_2,.slice A0_3 l0_3.length c0_3,.int .i64 a0_4,.int .i64 a0_5] 85 (0,0)) (bp_ BK407.out) hb);replace BK408:=a_ (blk_below (g:=gb408) (o:=.cells #[.int .i64 a1_0,.int .i64 a1_1,.int .i64 a1_2,.int .i64 a1_3,.string a1_4] 34 (0,0)) (bp_ BK408.out) hb);(try clear hb)))
              replace BK407:=a_ (bD_ BK407.out)
              replace BK408:=a_ (bD_ BK408.out)
              replace HB:=a_ (below_drew1 HB.out)
              refine start_ (n:=11) (S:=fun w'=>w'.cell? ⟨gb407,0,none⟩=some (.int .i64 a0_0)∧w'.cell? ⟨gb407,1,none⟩=some (.int .i64 a0_1)∧w'.cell? ⟨gb407,2,none⟩=some (.slice A0_2 l0_2.length c0_2)∧w'.cell? ⟨gb407,3,none⟩=some (.slice A0_3 l0_3.length c0_3)∧w'.cell? ⟨gb407,4,none⟩=some (.int .i64 a0_4)∧w'.cell? ⟨gb407,5,none⟩=some (.int .i64 a0_5)∧w'.cell? ⟨gb408,0,none⟩=some (.int .i64 a1_0)∧w'.cell? ⟨gb408,1,none⟩=some (.int .i64 a1_1)∧w'.cell? ⟨gb408,2,none⟩=some (.int .i64 a1_2)∧w'.cell? ⟨gb408,3,none⟩=some (.int .i64 a1_3)∧w'.cell? ⟨gb408,4,none⟩=some (.string a1_4)) (ds:=[]) #[false,false,false,false,false,false,false,false,false,false,false] (by kernel_rfl) rfl rfl ⟨(bC_ BK407.out 0).trans rfl,(bC_ BK407.out 1).trans rfl,(bC_ BK407.out 2).trans rfl,(bC_ BK407.out 3).trans rfl,(bC_ BK407.out 4).trans rfl,(bC_ BK407.out 5).trans rfl,(bC_ BK408.out 0).trans rfl,(bC_ BK408.out 1).trans rfl,(bC_ BK408.out 2).trans rfl,(bC_ BK408.out 3).trans rfl,(bC_ BK408.out 4).trans rfl⟩ (fun hHeld=>?_);refine with_tabW laws_FnExactClientDo.tab8 laws_FnExactClientDo.bits8 (fun HT_ HW_=>?_)
              generalize w54.drew=w55 at BK407 BK408 HB hHeld ⊢
              refine ta11_ 0 27 hHeld ?_
              refine ta11_ 2 29 hHeld ?_
              refine join_ (σ:=Value×Value×Value×Value×Nat) 2 #[true,true,true,true,true,true,true,true,true,false,false] (fun s_=>[(28,.agg #[.int .i64 t411,.int .i64 t412,s_.1,s_.2.1,.int .i64 t419,.int .i64 t420]),(30,.agg #[.int .i64 t421,.int .i64 t422,.int .i64 t423,.int .i64 t424,.string t425]),(31,.tuple #[.agg #[.int .i64 t426,.int .i64 t427,s_.2.2.1,s_.2.2.2.1,.int .i64 t434,.int .i64 t435],.bool t436]),(6,.pointer (some ⟨s_.2.2.2.2,0,none⟩)),(26,.tuple #[.agg #[.int .i64 t426,.int .i64 t427,s_.2.2.1,s_.2.2.2.1,.int .i64 t434,.int .i64 t435],.bool t436]),(32,.agg #[.int .i64 t426,.int .i64 t427,s_.2.2.1,s_.2.2.2.1,.int .i64 t434,.int .i64 t435]),(33,.bool t436)]) (fun s_ w'=>(w'.cell? ⟨gb407,0,none⟩=some (.int .i64 a0_0)∧w'.cell? ⟨gb407,1,none⟩=some (.int .i64 a0_1)∧w'.cell? ⟨gb407,2,none⟩=some (.slice A0_2 l0_2.length c0_2)∧w'.cell? ⟨gb407,3,none⟩=some (.slice A0_3 l0_3.length c0_3)∧w'.cell? ⟨gb407,4,none⟩=some (.int .i64 a0_4)∧w'.cell? ⟨gb407,5,none⟩=some (.int .i64 a0_5)∧w'.cell? ⟨gb408,0,none⟩=some (.int .i64 a1_0)∧w'.cell? ⟨gb408,1,none⟩=some (.int .i64 a1_1)∧w'.cell? ⟨gb408,2,none⟩=some (.int .i64 a1_2)∧w'.cell? ⟨gb408,3,none⟩=some (.int .i64 a1_3)∧w'.cell? ⟨gb408,4,none⟩=some (.string a1_4))∧(Kd.R k69 69 w' w.heap.size (fun k_=>some k_≠(s_.2.2.1:Value).ownBlock) s_.1 t413)∧(Kd.R k44 44 w' w.heap.size (fun k_=>some k_≠(s_.2.2.2.1:Value).ownBlock) s_.2.1 t416)∧(Kd.R k69 69 w' w.heap.size (fun k_=>some k_≠(s_.1:Value).ownBlock) s_.2.2.1 t428)∧(Kd.R k44 44 w' w.heap.size (fun k_=>some k_≠(s_.2.1:Value).ownBlock) s_.2.2.2.1 t431)∧(w'.heap[gb407]?=some (.cells #[.int .i64 a0_0,.int .i64 a0_1,.slice A0_2 l0_2.length c0_2,.slice A0_3 l0_3.length c0_3,.int .i64 a0_4,.int .i64 a0_5] 85 (0,0)))∧(w'.heap[gb408]?=some (.cells #[.int .i64 a1_0,.int .i64 a1_1,.int .i64 a1_2,.int .i64 a1_3,.string a1_4] 34 (0,0)))∧(w'.heap[s_.2.2.2.2]?=some (.cells #[.int .i64 0,.int .i64 0,.slice none 0 0,.slice none 0 0,.int .i64 0,.int .i64 0] 77 (0,0)))∧(w.heap.size≤s_.2.2.2.2)∧(w.heap.size≤s_.2.2.2.2)∧(gb407≠s_.2.2.2.2)∧(s_.2.2.2.2≠gb407)∧(gb408≠s_.2.2.2.2)∧(s_.2.2.2.2≠gb408)∧(Below w.heap.size w w')) ?_ ?_
              rotate_left
              ·intro hCont
               refine two_ (i:=1) (j:=8) (Ni:=some 28) (Nj:=some 6) #[true,true,true,false,false,false,false,false,false,false,false] #[true,false,true,false,false,false,false,false,true,false,false] rfl rfl rfl rfl (two_of HT_.out (by kernel_rfl)) (by decide) (by decide) (fun K hK=>?_) (fun K hK=>?_)
               ·skip
                refine goes_ Tryd.func64 (by kernel_rfl) rfl #[.agg #[.int .i64 a0_0,.int .i64 a0_1,.slice A0_2 l0_2.length c0_2,.slice A0_3 l0_3.length c0_3,.int .i64 a0_4,.int .i64 a0_5]] (by rfl) rfl rfl ar_ ?_
                with_reducible refine (laws_toClient.calls k a0_0 a0_1 _ _ l0_2 _ _ l0_3 a0_4 a0_5 t411 t412 t413 t416 t419 t420 _ ?side1 ?side2 ?side3 ?side4 A19.out).mono ?_
                (case side1=>exact cp_ HR0_2.out)
                (case side2=>exact HC0_2.out)
                (case side3=>exact cx_ (Kd.C_below HR0_3.out HB.out))
                (case side4=>exact HC0_3.out)
                rintro e w56 ⟨v414,v417,rfl,ho0,ho1,hb⟩
                refine ⟨_,rfl,?_⟩
                have HO415:=a_ (Kd.R_lower ho0 (below_size (bel_)))
                have HO418:=a_ (Kd.R_lower ho1 (below_size (bel_)))
                replace HB:=a_ (bS_ (bel_) hb)
                replace BK407:=a_ (blk_below (g:=gb407) (o:=.cells #[.int .i64 a0_0,.int .i64 a0_1,.slice A0_2 l0_2.length c0_2,.slice A0_3 l0_3.length c0_3,.int .i64 a0_4,.int .i64 a0_5] 85 (0,0)) (bp_ BK407.out) hb)
                replace BK408:=a_ (blk_below (g:=gb408) (o:=.cells #[.int .i64 a1_0,.int .i64 a1_1,.int .i64 a1_2,.int .i64 a1_3,.string a1_4] 34 (0,0)) (bp_ BK408.out) hb)
                try clear hb ho0 ho1
                refine hK.out _ _ ⟨(bC_ BK407.out 0).trans rfl,(bC_ BK407.out 1).trans rfl,(bC_ BK407.out 2).trans rfl,(bC_ BK407.out 3).trans rfl,(bC_ BK407.out 4).trans rfl,(bC_ BK407.out 5).trans rfl,(bC_ BK408.out 0).trans rfl,(bC_ BK408.out 1).trans rfl,(bC_ BK408.out 2).trans rfl,(bC_ BK408.out 3).trans rfl,(bC_ BK408.out 4).trans rfl⟩ (fun hHeld=>?_)
                clear hK K
                refine no_ 28 ?_
                refine two_ (i:=3) (j:=8) (Ni:=some 30) (Nj:=some 6) #[true,true,true,true,false,false,false,false,false,false,false] #[true,true,true,false,false,false,false,false,true,false,false] rfl rfl rfl rfl (two_of HT_.out (by kernel_rfl)) (by decide) (by decide) (fun K hK=>?_) (fun K hK=>?_)
                ·skip
                 refine goes_ Tryd.func68 (by kernel_rfl) rfl #[.agg #[.int .i64 a1_0,.int .i64 a1_1,.int .i64 a1_2,.int .i64 a1_3,.string a1_4]] (by rfl) rfl rfl ar_ ?_
                 with_reducible refine (laws_toOp.calls a1_0 a1_1 a1_2 a1_3 a1_4 t421 t422 t423 t424 t425 _ A20.out).mono ?_
                 rintro e w57 ⟨rfl,hb⟩
                 refine ⟨_,rfl,?_⟩
                 replace HO415:=a_ (Kd.R_below (rp_ HO415.out) hb)
                 replace HO418:=a_ (Kd.R_below (rp_ HO418.out) hb)
                 replace HB:=a_ (bS_ (bel_) hb)
                 replace BK407:=a_ (blk_below (g:=gb407) (o:=.cells #[.int .i64 a0_0,.int .i64 a0_1,.slice A0_2 l0_2.length c0_2,.slice A0_3 l0_3.length c0_3,.int .i64 a0_4,.int .i64 a0_5] 85 (0,0)) (bp_ BK407.out) hb)
                 replace BK408:=a_ (blk_below (g:=gb408) (o:=.cells #[.int .i64 a1_0,.int .i64 a1_1,.int .i64 a1_2,.int .i64 a1_3,.string a1_4] 34 (0,0)) (bp_ BK408.out) hb)
                 try clear hb
                 obtain ⟨Ao58,co58,eo58⟩:=Kd.R_slice HO415.out
                 (first|subst eo58|(injection eo58 with f1_ f2_ f3_;have f4_:=f1_.symm;have f5_:=f3_.symm;clear f1_ f2_ f3_;subst f4_;subst f5_))
                 obtain ⟨Ao59,co59,eo59⟩:=Kd.R_slice HO418.out
                 (first|subst eo59|(injection eo59 with f1_ f2_ f3_;have f4_:=f1_.symm;have f5_:=f3_.symm;clear f1_ f2_ f3_;subst f4_;subst f5_))
                 refine hK.out _ _ ⟨(bC_ BK407.out 0).trans rfl,(bC_ BK407.out 1).trans rfl,(bC_ BK407.out 2).trans rfl,(bC_ BK407.out 3).trans rfl,(bC_ BK407.out 4).trans rfl,(bC_ BK407.out 5).trans rfl,(bC_ BK408.out 0).trans rfl,(bC_ BK408.out 1).trans rfl,(bC_ BK408.out 2).trans rfl,(bC_ BK408.out 3).trans rfl,(bC_ BK408.out 4).trans rfl⟩ (fun hHeld=>?_)
                 clear hK K
                 refine no_ 30 ?_
                 refine two_ (i:=4) (j:=8) (Ni:=some 31) (Nj:=some 6) #[true,true,true,true,true,false,false,false,false,false,false] #[true,true,true,true,false,false,false,false,true,false,false] rfl rfl rfl rfl (two_of HT_.out (by kernel_rfl)) (by decide) (by decide) (fun K hK=>?_) (fun K hK=>?_)
                 ·skip
                  refine goes_ Tryd.func67 (by kernel_rfl) rfl #[.agg #[.int .i64 t411,.int .i64 t412,.slice Ao58 t413.length co58,.slice Ao59 t416.length co59,.int .i64 t419,.int .i64 t420],.agg #[.int .i64 t421,.int .i64 t422,.int .i64 t423,.int .i64 t424,.string t425]] (by rfl) rfl rfl ar_ ?_
                  with_reducible refine (spec_ClientDo.calls k t411 t412 _ _ t413 _ _ t416 t419 t420 t421 t422 t423 t424 t425 t426 t427 t428 t431 t434 t435 t436 _ ?side1 ?side2 ?side3 ?side4 A21.out).mono ?_
                  (case side1=>exact cx_ (Kd.R_reads' HO415.out).2.2)
                  (case side2=>exact (Kd.R_reads' HO415.out).2.1)
                  (case side3=>exact cx_ (Kd.R_reads' HO418.out).2.2)
                  (case side4=>exact (Kd.R_reads' HO418.out).2.1)
                  rintro e w60 ⟨v429,v432,rfl,ho0,ho1,hb⟩
                  refine ⟨_,rfl,?_⟩
                  have HO430:=a_ (Kd.R_lower (Kd.R_new' ho0 (Kd.R_lt (rp_ HO415.out))) (below_size (bel_)))
                  replace HO415:=a_ (Kd.R_elder' (rp_ HO415.out) (Kd.R_base ho0) hb)
                  have HO433:=a_ (Kd.R_lower (Kd.R_new' ho1 (Kd.R_lt (rp_ HO418.out))) (below_size (bel_)))
                  replace HO418:=a_ (Kd.R_elder' (rp_ HO418.out) (Kd.R_base ho1) hb)
                  replace HB:=a_ (bS_ (bel_) hb)
                  replace BK407:=a_ (blk_below (g:=gb407) (o:=.cells #[.int .i64 a0_0,.int .i64 a0_1,.slice A0_2 l0_2.length c0_2,.slice A0_3 l0_3.length c0_3,.int .i64 a0_4,.int .i64 a0_5] 85 (0,0)) (bp_ BK407.out) hb)
                  replace BK408:=a_ (blk_below (g:=gb408) (o:=.cells #[.int .i64 a1_0,.int .i64 a1_1,.int .i64 a1_2,.int .i64 a1_3,.string a1_4] 34 (0,0)) (bp_ BK408.out) hb)
                  try clear hb ho0 ho1
                  refine hK.out _ _ ⟨(bC_ BK407.out 0).trans rfl,(bC_ BK407.out 1).trans rfl,(bC_ BK407.out 2).trans rfl,(bC_ BK407.out 3).trans rfl,(bC_ BK407.out 4).trans rfl,(bC_ BK407.out 5).trans rfl,(bC_ BK408.out 0).trans rfl,(bC_ BK408.out 1).trans rfl,(bC_ BK408.out 2).trans rfl,(bC_ BK408.out 3).trans rfl,(bC_ BK408.out 4).trans rfl⟩ (fun hHeld=>?_)
                  clear hK K
                  refine no_ 31 ?_
                  refine pa_ 5 26 ?_
                  refine pa_ 6 32 ?_
                  refine pa_ 7 33 ?_
                  refine on_ 8 6 (fun K hK=>?_)
                  refine box_step ?hg (N:=6) ?hd (cs:=#[.int .i64 0,.int .i64 0,.slice none 0 0,.slice none 0 0,.int .i64 0,.int .i64 0]) (t:=77) ?hr ?_;(case hd=>rfl);(case hg=>rfl);(case hr=>first|(go_simp;done)|(go_simp;rfl))
                  intro gb437 hg w61 hbox hb
                  replace HO415:=a_ (Kd.R_below (rp_ HO415.out) hb)
                  replace HO418:=a_ (Kd.R_below (rp_ HO418.out) hb)
                  replace HO430:=a_ (Kd.R_below (rp_ HO430.out) hb)
                  replace HO433:=a_ (Kd.R_below (rp_ HO433.out) hb)
                  have BK437:=a_ (hbox)
                  have GW437:=a_ ((by rw [hg];exact (below_size (bel_)):w.heap.size≤gb437))
                  have GE437:=a_ ((by rw [hg];exact (below_size (bel_)):w.heap.size≤gb437))
                  replace HB:=a_ (bS_ (bel_) hb)
                  have NB407_437:=a_ ((by rw [hg];exact Nat.ne_of_lt (blk_lt (g:=gb407) (o:=.cells #[.int .i64 a0_0,.int .i64 a0_1,.slice A0_2 l0_2.length c0_2,.slice A0_3 l0_3.length c0_3,.int .i64 a0_4,.int .i64 a0_5] 85 (0,0)) (bp_ BK407.out)):gb407≠gb437))
                  have NB437_407:=a_ ((by rw [hg];exact Nat.ne_of_gt (blk_lt (g:=gb407) (o:=.cells #[.int .i64 a0_0,.int .i64 a0_1,.slice A0_2 l0_2.length c0_2,.slice A0_3 l0_3.length c0_3,.int .i64 a0_4,.int .i64 a0_5] 85 (0,0)) (bp_ BK407.out)):gb437≠gb407))
                  replace BK407:=a_ (blk_below (g:=gb407) (o:=.cells #[.int .i64 a0_0,.int .i64 a0_1,.slice A0_2 l0_2.length c0_2,.slice A0_3 l0_3.length c0_3,.int .i64 a0_4,.int .i64 a0_5] 85 (0,0)) (bp_ BK407.out) hb)
                  have NB408_437:=a_ ((by rw [hg];exact Nat.ne_of_lt (blk_lt (g:=gb408) (o:=.cells #[.int .i64 a1_0,.int .i64 a1_1,.int .i64 a1_2,.int .i64 a1_3,.string a1_4] 34 (0,0)) (bp_ BK408.out)):gb408≠gb437))
                  have NB437_408:=a_ ((by rw [hg];exact Nat.ne_of_gt (blk_lt (g:=gb408) (o:=.cells #[.int .i64 a1_0,.int .i64 a1_1,.int .i64 a1_2,.int .i64 a1_3,.string a1_4] 34 (0,0)) (bp_ BK408.out)):gb437≠gb408))
                  replace BK408:=a_ (blk_below (g:=gb408) (o:=.cells #[.int .i64 a1_0,.int .i64 a1_1,.int .i64 a1_2,.int .i64 a1_3,.string a1_4] 34 (0,0)) (bp_ BK408.out) hb)
                  clear hb hbox hg
                  refine hK.out _ _ ⟨(bC_ BK407.out 0).trans rfl,(bC_ BK407.out 1).trans rfl,(bC_ BK407.out 2).trans rfl,(bC_ BK407.out 3).trans rfl,(bC_ BK407.out 4).trans rfl,(bC_ BK407.out 5).trans rfl,(bC_ BK408.out 0).trans rfl,(bC_ BK408.out 1).trans rfl,(bC_ BK408.out 2).trans rfl,(bC_ BK408.out 3).trans rfl,(bC_ BK408.out 4).trans rfl⟩ (fun hHeld=>?_)
                  clear hK K
                  refine no_ 6 ?_
                  exact norm_ (by simp only [putAll,Act.put,List.setIfInBounds_toArray,List.set_cons_zero,List.set_cons_succ]) (hCont (.slice Ao58 t413.length co58,.slice Ao59 t416.length co59,v429,v432,gb437) _ ⟨hHeld,(by (with_reducible repeat (first|apply Kd.R_alloc|apply Kd.R_drewN|apply Kd.R_drew));exact Kd.R_mono HO415.out (fun _ hk=>hk.2)),(by (with_reducible repeat (first|apply Kd.R_alloc|apply Kd.R_drewN|apply Kd.R_drew));exact Kd.R_mono HO418.out (fun _ hk=>hk.2)),(by (with_reducible repeat (first|apply Kd.R_alloc|apply Kd.R_drewN|apply Kd.R_drew));exact Kd.R_mono HO430.out (fun _ hk=>hk.2)),(by (with_reducible repeat (first|apply Kd.R_alloc|apply Kd.R_drewN|apply Kd.R_drew));exact Kd.R_mono HO433.out (fun _ hk=>hk.2)),(bp_ BK407.out),(bp_ BK408.out),(bp_ BK437.out),GW437.out,GE437.out,NB407_437.out,NB437_407.out,NB408_437.out,NB437_408.out,(bel_)⟩)
                 ·skip
                  refine box_step ?hg (N:=6) ?hd (cs:=#[.int .i64 0,.int .i64 0,.slice none 0 0,.slice none 0 0,.int .i64 0,.int .i64 0]) (t:=77) ?hr ?_;(case hd=>rfl);(case hg=>rfl);(case hr=>first|(go_simp;done)|(go_simp;rfl))
                  intro gb437 hg w58 hbox hb
                  replace HO415:=a_ (Kd.R_below (rp_ HO415.out) hb)
                  replace HO418:=a_ (Kd.R_below (rp_ HO418.out) hb)
                  have BK437:=a_ (hbox)
                  have GW437:=a_ ((by rw [hg];exact (below_size (bel_)):w.heap.size≤gb437))
                  have GE437:=a_ ((by rw [hg];exact (below_size (bel_)):w.heap.size≤gb437))
                  replace HB:=a_ (bS_ (bel_) hb)
                  have NB407_437:=a_ ((by rw [hg];exact Nat.ne_of_lt (blk_lt (g:=gb407) (o:=.cells #[.int .i64 a0_0,.int .i64 a0_1,.slice A0_2 l0_2.length c0_2,.slice A0_3 l0_3.length c0_3,.int .i64 a0_4,.int .i64 a0_5] 85 (0,0)) (bp_ BK407.out)):gb407≠gb437))
                  have NB437_407:=a_ ((by rw [hg];exact Nat.ne_of_gt (blk_lt (g:=gb407) (o:=.cells #[.int .i64 a0_0,.int .i64 a0_1,.slice A0_2 l0_2.length c0_2,.slice A0_3 l0_3.length c0_3,.int .i64 a0_4,.int .i64 a0_5] 85 (0,0)) (bp_ BK407.out)):gb437≠gb407))
                  replace BK407:=a_ (blk_below (g:=gb407) (o:=.cells #[.int .i64 a0_0,.int .i64 a0_1,.slice A0_2 l0_2.length c0_2,.slice A0_3 l0_3.length c0_3,.int .i64 a0_4,.int .i64 a0_5] 85 (0,0)) (bp_ BK407.out) hb)
                  have NB408_437:=a_ ((by rw [hg];exact Nat.ne_of_lt (blk_lt (g:=gb408) (o:=.cells #[.int .i64 a1_0,.int .i64 a1_1,.int .i64 a1_2,.int .i64 a1_3,.string a1_4] 34 (0,0)) (bp_ BK408.out)):gb408≠gb437))
                  have NB437_408:=a_ ((by rw [hg];exact Nat.ne_of_gt (blk_lt (g:=gb408) (o:=.cells #[.int .i64 a1_0,.int .i64 a1_1,.int .i64 a1_2,.int .i64 a1_3,.string a1_4] 34 (0,0)) (bp_ BK408.out)):gb437≠gb408))
                  replace BK408:=a_ (blk_below (g:=gb408) (o:=.cells #[.int .i64 a1_0,.int .i64 a1_1,.int .i64 a1_2,.int .i64 a1_3,.string a1_4] 34 (0,0)) (bp_ BK408.out) hb)
                  clear hb hbox hg
                  obtain ⟨Ao59,co59,eo59⟩:=Kd.R_slice HO415.out
                  (first|subst eo59|(injection eo59 with f1_ f2_ f3_;have f4_:=f1_.symm;have f5_:=f3_.symm;clear f1_ f2_ f3_;subst f4_;subst f5_))
                  obtain ⟨Ao60,co60,eo60⟩:=Kd.R_slice HO418.out
                  (first|subst eo60|(injection eo60 with f1_ f2_ f3_;have f4_:=f1_.symm;have f5_:=f3_.symm;clear f1_ f2_ f3_;subst f4_;subst f5_))
                  refine hK.out _ _ ⟨(bC_ BK407.out 0).trans rfl,(bC_ BK407.out 1).trans rfl,(bC_ BK407.out 2).trans rfl,(bC_ BK407.out 3).trans rfl,(bC_ BK407.out 4).trans rfl,(bC_ BK407.out 5).trans rfl,(bC_ BK408.out 0).trans rfl,(bC_ BK408.out 1).trans rfl,(bC_ BK408.out 2).trans rfl,(bC_ BK408.out 3).trans rfl,(bC_ BK408.out 4).trans rfl⟩ (fun hHeld=>?_)
                  clear hK K
                  refine no_ 6 ?_
                  refine on_ 4 31 (fun K hK=>?_)
                  refine goes_ Tryd.func67 (by kernel_rfl) rfl #[.agg #[.int .i64 t411,.int .i64 t412,.slice Ao59 t413.length co59,.slice Ao60 t416.length co60,.int .i64 t419,.int .i64 t420],.agg #[.int .i64 t421,.int .i64 t422,.int .i64 t423,.int .i64 t424,.string t425]] (by rfl) rfl rfl ar_ ?_
                  with_reducible refine (spec_ClientDo.calls k t411 t412 _ _ t413 _ _ t416 t419 t420 t421 t422 t423 t424 t425 t426 t427 t428 t431 t434 t435 t436 _ ?side1 ?side2 ?side3 ?side4 A21.out).mono ?_
                  (case side1=>exact cx_ (Kd.R_reads' HO415.out).2.2)
                  (case side2=>exact (Kd.R_reads' HO415.out).2.1)
                  (case side3=>exact cx_ (Kd.R_reads' HO418.out).2.2)
                  (case side4=>exact (Kd.R_reads' HO418.out).2.1)
                  rintro e w61 ⟨v429,v432,rfl,ho0,ho1,hb⟩
                  refine ⟨_,rfl,?_⟩
                  have HO430:=a_ (Kd.R_lower (Kd.R_new' ho0 (Kd.R_lt (rp_ HO415.out))) (below_size (bel_)))
                  replace HO415:=a_ (Kd.R_elder' (rp_ HO415.out) (Kd.R_base ho0) hb)
                  have HO433:=a_ (Kd.R_lower (Kd.R_new' ho1 (Kd.R_lt (rp_ HO418.out))) (below_size (bel_)))
                  replace HO418:=a_ (Kd.R_elder' (rp_ HO418.out) (Kd.R_base ho1) hb)
                  replace HB:=a_ (bS_ (bel_) hb)
                  replace BK407:=a_ (blk_below (g:=gb407) (o:=.cells #[.int .i64 a0_0,.int .i64 a0_1,.slice A0_2 l0_2.length c0_2,.slice A0_3 l0_3.length c0_3,.int .i64 a0_4,.int .i64 a0_5] 85 (0,0)) (bp_ BK407.out) hb)
                  replace BK408:=a_ (blk_below (g:=gb408) (o:=.cells #[.int .i64 a1_0,.int .i64 a1_1,.int .i64 a1_2,.int .i64 a1_3,.string a1_4] 34 (0,0)) (bp_ BK408.out) hb)
                  replace BK437:=a_ (blk_below (g:=gb437) (o:=.cells #[.int .i64 0,.int .i64 0,.slice none 0 0,.slice none 0 0,.int .i64 0,.int .i64 0] 77 (0,0)) (bp_ BK437.out) hb)
                  try clear hb ho0 ho1
                  refine hK.out _ _ ⟨(bC_ BK407.out 0).trans rfl,(bC_ BK407.out 1).trans rfl,(bC_ BK407.out 2).trans rfl,(bC_ BK407.out 3).trans rfl,(bC_ BK407.out 4).trans rfl,(bC_ BK407.out 5).trans rfl,(bC_ BK408.out 0).trans rfl,(bC_ BK408.out 1).trans rfl,(bC_ BK408.out 2).trans rfl,(bC_ BK408.out 3).trans rfl,(bC_ BK408.out 4).trans rfl⟩ (fun hHeld=>?_)
                  clear hK K
                  refine no_ 31 ?_
                  refine pa_ 5 26 ?_
                  refine pa_ 6 32 ?_
                  refine pa_ 7 33 ?_
                  exact norm_ (by simp only [putAll,Act.put,List.setIfInBounds_toArray,List.set_cons_zero,List.set_cons_succ]) (hCont (.slice Ao59 t413.length co59,.slice Ao60 t416.length co60,v429,v432,gb437) _ ⟨hHeld,(by (with_reducible repeat (first|apply Kd.R_alloc|apply Kd.R_drewN|apply Kd.R_drew));exact Kd.R_mono HO415.out (fun _ hk=>hk.2)),(by (with_reducible repeat (first|apply Kd.R_alloc|apply Kd.R_drewN|apply Kd.R_drew));exact Kd.R_mono HO418.out (fun _ hk=>hk.2)),(by (with_reducible repeat (first|apply Kd.R_alloc|apply Kd.R_drewN|apply Kd.R_drew));exact Kd.R_mono HO430.out (fun _ hk=>hk.2)),(by (with_reducible repeat (first|apply Kd.R_alloc|apply Kd.R_drewN|apply Kd.R_drew));exact Kd.R_mono HO433.out (fun _ hk=>hk.2)),(bp_ BK407.out),(bp_ BK408.out),(bp_ BK437.out),GW437.out,GE437.out,NB407_437.out,NB437_407.out,NB408_437.out,NB437_408.out,(bel_)⟩)
                ·skip
                 refine box_step ?hg (N:=6) ?hd (cs:=#[.int .i64 0,.int .i64 0,.slice none 0 0,.slice none 0 0,.int .i64 0,.int .i64 0]) (t:=77) ?hr ?_;(case hd=>rfl);(case hg=>rfl);(case hr=>first|(go_simp;done)|(go_simp;rfl))
                 intro gb437 hg w57 hbox hb
                 replace HO415:=a_ (Kd.R_below (rp_ HO415.out) hb)
                 replace HO418:=a_ (Kd.R_below (rp_ HO418.out) hb)
                 have BK437:=a_ (hbox)
                 have GW437:=a_ ((by rw [hg];exact (below_size (bel_)):w.heap.size≤gb437))
                 have GE437:=a_ ((by rw [hg];exact (below_size (bel_)):w.heap.size≤gb437))
                 replace HB:=a_ (bS_ (bel_) hb)
                 have NB407_437:=a_ ((by rw [hg];exact Nat.ne_of_lt (blk_lt (g:=gb407) (o:=.cells #[.int .i64 a0_0,.int .i64 a0_1,.slice A0_2 l0_2.length c0_2,.slice A0_3 l0_3.length c0_3,.int .i64 a0_4,.int .i64 a0_5] 85 (0,0)) (bp_ BK407.out)):gb407≠gb437))
                 have NB437_407:=a_ ((by rw [hg];exact Nat.ne_of_gt (blk_lt (g:=gb407) (o:=.cells #[.int .i64 a0_0,.int .i64 a0_1,.slice A0_2 l0_2.length c0_2,.slice A0_3 l0_3.length c0_3,.int .i64 a0_4,.int .i64 a0_5] 85 (0,0)) (bp_ BK407.out)):gb437≠gb407))
                 replace BK407:=a_ (blk_below (g:=gb407) (o:=.cells #[.int .i64 a0_0,.int .i64 a0_1,.slice A0_2 l0_2.length c0_2,.slice A0_3 l0_3.length c0_3,.int .i64 a0_4,.int .i64 a0_5] 85 (0,0)) (bp_ BK407.out) hb)
                 have NB408_437:=a_ ((by rw [hg];exact Nat.ne_of_lt (blk_lt (g:=gb408) (o:=.cells #[.int .i64 a1_0,.int .i64 a1_1,.int .i64 a1_2,.int .i64 a1_3,.string a1_4] 34 (0,0)) (bp_ BK408.out)):gb408≠gb437))
                 have NB437_408:=a_ ((by rw [hg];exact Nat.ne_of_gt (blk_lt (g:=gb408) (o:=.cells #[.int .i64 a1_0,.int .i64 a1_1,.int .i64 a1_2,.int .i64 a1_3,.string a1_4] 34 (0,0)) (bp_ BK408.out)):gb437≠gb408))
                 replace BK408:=a_ (blk_below (g:=gb408) (o:=.cells #[.int .i64 a1_0,.int .i64 a1_1,.int .i64 a1_2,.int .i64 a1_3,.string a1_4] 34 (0,0)) (bp_ BK408.out) hb)
                 clear hb hbox hg
                 refine hK.out _ _ ⟨(bC_ BK407.out 0).trans rfl,(bC_ BK407.out 1).trans rfl,(bC_ BK407.out 2).trans rfl,(bC_ BK407.out 3).trans rfl,(bC_ BK407.out 4).trans rfl,(bC_ BK407.out 5).trans rfl,(bC_ BK408.out 0).trans rfl,(bC_ BK408.out 1).trans rfl,(bC_ BK408.out 2).trans rfl,(bC_ BK408.out 3).trans rfl,(bC_ BK408.out 4).trans rfl⟩ (fun hHeld=>?_)
                 clear hK K
                 refine no_ 6 ?_
                 refine on_ 3 30 (fun K hK=>?_)
                 refine goes_ Tryd.func68 (by kernel_rfl) rfl #[.agg #[.int .i64 a1_0,.int .i64 a1_1,.int .i64 a1_2,.int .i64 a1_3,.string a1_4]] (by rfl) rfl rfl ar_ ?_
                 with_reducible refine (laws_toOp.calls a1_0 a1_1 a1_2 a1_3 a1_4 t421 t422 t423 t424 t425 _ A20.out).mono ?_
                 rintro e w58 ⟨rfl,hb⟩
                 refine ⟨_,rfl,?_⟩
                 replace HO415:=a_ (Kd.R_below (rp_ HO415.out) hb)
                 replace HO418:=a_ (Kd.R_below (rp_ HO418.out) hb)
                 replace HB:=a_ (bS_ (bel_) hb)
                 replace BK407:=a_ (blk_below (g:=gb407) (o:=.cells #[.int .i64 a0_0,.int .i64 a0_1,.slice A0_2 l0_2.length c0_2,.slice A0_3 l0_3.length c0_3,.int .i64 a0_4,.int .i64 a0_5] 85 (0,0)) (bp_ BK407.out) hb)
                 replace BK408:=a_ (blk_below (g:=gb408) (o:=.cells #[.int .i64 a1_0,.int .i64 a1_1,.int .i64 a1_2,.int .i64 a1_3,.string a1_4] 34 (0,0)) (bp_ BK408.out) hb)
                 replace BK437:=a_ (blk_below (g:=gb437) (o:=.cells #[.int .i64 0,.int .i64 0,.slice none 0 0,.slice none 0 0,.int .i64 0,.int .i64 0] 77 (0,0)) (bp_ BK437.out) hb)
                 try clear hb
                 obtain ⟨Ao59,co59,eo59⟩:=Kd.R_slice HO415.out
                 (first|subst eo59|(injection eo59 with f1_ f2_ f3_;have f4_:=f1_.symm;have f5_:=f3_.symm;clear f1_ f2_ f3_;subst f4_;subst f5_))
                 obtain ⟨Ao60,co60,eo60⟩:=Kd.R_slice HO418.out
                 (first|subst eo60|(injection eo60 with f1_ f2_ f3_;have f4_:=f1_.symm;have f5_:=f3_.symm;clear f1_ f2_ f3_;subst f4_;subst f5_))
                 refine hK.out _ _ ⟨(bC_ BK407.out 0).trans rfl,(bC_ BK407.out 1).trans rfl,(bC_ BK407.out 2).trans rfl,(bC_ BK407.out 3).trans rfl,(bC_ BK407.out 4).trans rfl,(bC_ BK407.out 5).trans rfl,(bC_ BK408.out 0).trans rfl,(bC_ BK408.out 1).trans rfl,(bC_ BK408.out 2).trans rfl,(bC_ BK408.out 3).trans rfl,(bC_ BK408.out 4).trans rfl⟩ (fun hHeld=>?_)
                 clear hK K
                 refine no_ 30 ?_
                 refine on_ 4 31 (fun K hK=>?_)
                 refine goes_ Tryd.func67 (by kernel_rfl) rfl #[.agg #[.int .i64 t411,.int .i64 t412,.slice Ao59 t413.length co59,.slice Ao60 t416.length co60,.int .i64 t419,.int .i64 t420],.agg #[.int .i64 t421,.int .i64 t422,.int .i64 t423,.int .i64 t424,.string t425]] (by rfl) rfl rfl ar_ ?_
                 with_reducible refine (spec_ClientDo.calls k t411 t412 _ _ t413 _ _ t416 t419 t420 t421 t422 t423 t424 t425 t426 t427 t428 t431 t434 t435 t436 _ ?side1 ?side2 ?side3 ?side4 A21.out).mono ?_
                 (case side1=>exact cx_ (Kd.R_reads' HO415.out).2.2)
                 (case side2=>exact (Kd.R_reads' HO415.out).2.1)
                 (case side3=>exact cx_ (Kd.R_reads' HO418.out).2.2)
                 (case side4=>exact (Kd.R_reads' HO418.out).2.1)
                 rintro e w61 ⟨v429,v432,rfl,ho0,ho1,hb⟩
                 refine ⟨_,rfl,?_⟩
                 have HO430:=a_ (Kd.R_lower (Kd.R_new' ho0 (Kd.R_lt (rp_ HO415.out))) (below_size (bel_)))
                 replace HO415:=a_ (Kd.R_elder' (rp_ HO415.out) (Kd.R_base ho0) hb)
                 have HO433:=a_ (Kd.R_lower (Kd.R_new' ho1 (Kd.R_lt (rp_ HO418.out))) (below_size (bel_)))
                 replace HO418:=a_ (Kd.R_elder' (rp_ HO418.out) (Kd.R_base ho1) hb)
                 replace HB:=a_ (bS_ (bel_) hb)
                 replace BK407:=a_ (blk_below (g:=gb407) (o:=.cells #[.int .i64 a0_0,.int .i64 a0_1,.slice A0_2 l0_2.length c0_2,.slice A0_3 l0_3.length c0_3,.int .i64 a0_4,.int .i64 a0_5] 85 (0,0)) (bp_ BK407.out) hb)
                 replace BK408:=a_ (blk_below (g:=gb408) (o:=.cells #[.int .i64 a1_0,.int .i64 a1_1,.int .i64 a1_2,.int .i64 a1_3,.string a1_4] 34 (0,0)) (bp_ BK408.out) hb)
                 replace BK437:=a_ (blk_below (g:=gb437) (o:=.cells #[.int .i64 0,.int .i64 0,.slice none 0 0,.slice none 0 0,.int .i64 0,.int .i64 0] 77 (0,0)) (bp_ BK437.out) hb)
                 try clear hb ho0 ho1
                 refine hK.out _ _ ⟨(bC_ BK407.out 0).trans rfl,(bC_ BK407.out 1).trans rfl,(bC_ BK407.out 2).trans rfl,(bC_ BK407.out 3).trans rfl,(bC_ BK407.out 4).trans rfl,(bC_ BK407.out 5).trans rfl,(bC_ BK408.out 0).trans rfl,(bC_ BK408.out 1).trans rfl,(bC_ BK408.out 2).trans rfl,(bC_ BK408.out 3).trans rfl,(bC_ BK408.out 4).trans rfl⟩ (fun hHeld=>?_)
                 clear hK K
                 refine no_ 31 ?_
                 refine pa_ 5 26 ?_
                 refine pa_ 6 32 ?_
                 refine pa_ 7 33 ?_
                 exact norm_ (by simp only [putAll,Act.put,List.setIfInBounds_toArray,List.set_cons_zero,List.set_cons_succ]) (hCont (.slice Ao59 t413.length co59,.slice Ao60 t416.length co60,v429,v432,gb437) _ ⟨hHeld,(by (with_reducible repeat (first|apply Kd.R_alloc|apply Kd.R_drewN|apply Kd.R_drew));exact Kd.R_mono HO415.out (fun _ hk=>hk.2)),(by (with_reducible repeat (first|apply Kd.R_alloc|apply Kd.R_drewN|apply Kd.R_drew));exact Kd.R_mono HO418.out (fun _ hk=>hk.2)),(by (with_reducible repeat (first|apply Kd.R_alloc|apply Kd.R_drewN|apply Kd.R_drew));exact Kd.R_mono HO430.out (fun _ hk=>hk.2)),(by (with_reducible repeat (first|apply Kd.R_alloc|apply Kd.R_drewN|apply Kd.R_drew));exact Kd.R_mono HO433.out (fun _ hk=>hk.2)),(bp_ BK407.out),(bp_ BK408.out),(bp_ BK437.out),GW437.out,GE437.out,NB407_437.out,NB437_407.out,NB408_437.out,NB437_408.out,(bel_)⟩)
               ·skip
                refine box_step ?hg (N:=6) ?hd (cs:=#[.int .i64 0,.int .i64 0,.slice none 0 0,.slice none 0 0,.int .i64 0,.int .i64 0]) (t:=77) ?hr ?_;(case hd=>rfl);(case hg=>rfl);(case hr=>first|(go_simp;done)|(go_simp;rfl))
                intro gb437 hg w56 hbox hb
                have BK437:=a_ (hbox)
                have GW437:=a_ ((by rw [hg];exact (below_size (bel_)):w.heap.size≤gb437))
                have GE437:=a_ ((by rw [hg];exact (below_size (bel_)):w.heap.size≤gb437))
                replace HB:=a_ (bS_ (bel_) hb)
                have NB407_437:=a_ ((by rw [hg];exact Nat.ne_of_lt (blk_lt (g:=gb407) (o:=.cells #[.int .i64 a0_0,.int .i64 a0_1,.slice A0_2 l0_2.length c0_2,.slice A0_3 l0_3.length c0_3,.int .i64 a0_4,.int .i64 a0_5] 85 (0,0)) (bp_ BK407.out)):gb407≠gb437))
                have NB437_407:=a_ ((by rw [hg];exact Nat.ne_of_gt (blk_lt (g:=gb407) (o:=.cells #[.int .i64 a0_0,.int .i64 a0_1,.slice A0_2 l0_2.length c0_2,.slice A0_3 l0_3.length c0_3,.int .i64 a0_4,.int .i64 a0_5] 85 (0,0)) (bp_ BK407.out)):gb437≠gb407))
                replace BK407:=a_ (blk_below (g:=gb407) (o:=.cells #[.int .i64 a0_0,.int .i64 a0_1,.slice A0_2 l0_2.length c0_2,.slice A0_3 l0_3.length c0_3,.int .i64 a0_4,.int .i64 a0_5] 85 (0,0)) (bp_ BK407.out) hb)
                have NB408_437:=a_ ((by rw [hg];exact Nat.ne_of_lt (blk_lt (g:=gb408) (o:=.cells #[.int .i64 a1_0,.int .i64 a1_1,.int .i64 a1_2,.int .i64 a1_3,.string a1_4] 34 (0,0)) (bp_ BK408.out)):gb408≠gb437))
                have NB437_408:=a_ ((by rw [hg];exact Nat.ne_of_gt (blk_lt (g:=gb408) (o:=.cells #[.int .i64 a1_0,.int .i64 a1_1,.int .i64 a1_2,.int .i64 a1_3,.string a1_4] 34 (0,0)) (bp_ BK408.out)):gb437≠gb408))
                replace BK408:=a_ (blk_below (g:=gb408) (o:=.cells #[.int .i64 a1_0,.int .i64 a1_1,.int .i64 a1_2,.int .i64 a1_3,.string a1_4] 34 (0,0)) (bp_ BK408.out) hb)
                clear hb hbox hg
                refine hK.out _ _ ⟨(bC_ BK407.out 0).trans rfl,(bC_ BK407.out 1).trans rfl,(bC_ BK407.out 2).trans rfl,(bC_ BK407.out 3).trans rfl,(bC_ BK407.out 4).trans rfl,(bC_ BK407.out 5).trans rfl,(bC_ BK408.out 0).trans rfl,(bC_ BK408.out 1).trans rfl,(bC_ BK408.out 2).trans rfl,(bC_ BK408.out 3).trans rfl,(bC_ BK408.out 4).trans rfl⟩ (fun hHeld=>?_)
                clear hK K
                refine no_ 6 ?_
                refine on_ 1 28 (fun K hK=>?_)
                refine goes_ Tryd.func64 (by kernel_rfl) rfl #[.agg #[.int .i64 a0_0,.int .i64 a0_1,.slice A0_2 l0_2.length c0_2,.slice A0_3 l0_3.length c0_3,.int .i64 a0_4,.int .i64 a0_5]] (by rfl) rfl rfl ar_ ?_
                with_reducible refine (laws_toClient.calls k a0_0 a0_1 _ _ l0_2 _ _ l0_3 a0_4 a0_5 t411 t412 t413 t416 t419 t420 _ ?side1 ?side2 ?side3 ?side4 A19.out).mono ?_
                (case side1=>exact cp_ HR0_2.out)
                (case side2=>exact HC0_2.out)
                (case side3=>exact cx_ (Kd.C_below HR0_3.out HB.out))
                (case side4=>exact HC0_3.out)
                rintro e w57 ⟨v414,v417,rfl,ho0,ho1,hb⟩
                refine ⟨_,rfl,?_⟩
                have HO415:=a_ (Kd.R_lower ho0 (below_size (bel_)))
                have HO418:=a_ (Kd.R_lower ho1 (below_size (bel_)))
                replace HB:=a_ (bS_ (bel_) hb)
                replace BK407:=a_ (blk_below (g:=gb407) (o:=.cells #[.int .i64 a0_0,.int .i64 a0_1,.slice A0_2 l0_2.length c0_2,.slice A0_3 l0_3.length c0_3,.int .i64 a0_4,.int .i64 a0_5] 85 (0,0)) (bp_ BK407.out) hb)
                replace BK408:=a_ (blk_below (g:=gb408) (o:=.cells #[.int .i64 a1_0,.int .i64 a1_1,.int .i64 a1_2,.int .i64 a1_3,.string a1_4] 34 (0,0)) (bp_ BK408.out) hb)
                replace BK437:=a_ (blk_below (g:=gb437) (o:=.cells #[.int .i64 0,.int .i64 0,.slice none 0 0,.slice none 0 0,.int .i64 0,.int .i64 0] 77 (0,0)) (bp_ BK437.out) hb)
                try clear hb ho0 ho1
                refine hK.out _ _ ⟨(bC_ BK407.out 0).trans rfl,(bC_ BK407.out 1).trans rfl,(bC_ BK407.out 2).trans rfl,(bC_ BK407.out 3).trans rfl,(bC_ BK407.out 4).trans rfl,(bC_ BK407.out 5).trans rfl,(bC_ BK408.out 0).trans rfl,(bC_ BK408.out 1).trans rfl,(bC_ BK408.out 2).trans rfl,(bC_ BK408.out 3).trans rfl,(bC_ BK408.out 4).trans rfl⟩ (fun hHeld=>?_)
                clear hK K
                refine no_ 28 ?_
                refine on_ 3 30 (fun K hK=>?_)
                refine goes_ Tryd.func68 (by kernel_rfl) rfl #[.agg #[.int .i64 a1_0,.int .i64 a1_1,.int .i64 a1_2,.int .i64 a1_3,.string a1_4]] (by rfl) rfl rfl ar_ ?_
                with_reducible refine (laws_toOp.calls a1_0 a1_1 a1_2 a1_3 a1_4 t421 t422 t423 t424 t425 _ A20.out).mono ?_
                rintro e w58 ⟨rfl,hb⟩
                refine ⟨_,rfl,?_⟩
                replace HO415:=a_ (Kd.R_below (rp_ HO415.out) hb)
                replace HO418:=a_ (Kd.R_below (rp_ HO418.out) hb)
                replace HB:=a_ (bS_ (bel_) hb)
                replace BK407:=a_ (blk_below (g:=gb407) (o:=.cells #[.int .i64 a0_0,.int .i64 a0_1,.slice A0_2 l0_2.length c0_2,.slice A0_3 l0_3.length c0_3,.int .i64 a0_4,.int .i64 a0_5] 85 (0,0)) (bp_ BK407.out) hb)
                replace BK408:=a_ (blk_below (g:=gb408) (o:=.cells #[.int .i64 a1_0,.int .i64 a1_1,.int .i64 a1_2,.int .i64 a1_3,.string a1_4] 34 (0,0)) (bp_ BK408.out) hb)
                replace BK437:=a_ (blk_below (g:=gb437) (o:=.cells #[.int .i64 0,.int .i64 0,.slice none 0 0,.slice none 0 0,.int .i64 0,.int .i64 0] 77 (0,0)) (bp_ BK437.out) hb)
                try clear hb
                obtain ⟨Ao59,co59,eo59⟩:=Kd.R_slice HO415.out
                (first|subst eo59|(injection eo59 with f1_ f2_ f3_;have f4_:=f1_.symm;have f5_:=f3_.symm;clear f1_ f2_ f3_;subst f4_;subst f5_))
                obtain ⟨Ao60,co60,eo60⟩:=Kd.R_slice HO418.out
                (first|subst eo60|(injection eo60 with f1_ f2_ f3_;have f4_:=f1_.symm;have f5_:=f3_.symm;clear f1_ f2_ f3_;subst f4_;subst f5_))
                refine hK.out _ _ ⟨(bC_ BK407.out 0).trans rfl,(bC_ BK407.out 1).trans rfl,(bC_ BK407.out 2).trans rfl,(bC_ BK407.out 3).trans rfl,(bC_ BK407.out 4).trans rfl,(bC_ BK407.out 5).trans rfl,(bC_ BK408.out 0).trans rfl,(bC_ BK408.out 1).trans rfl,(bC_ BK408.out 2).trans rfl,(bC_ BK408.out 3).trans rfl,(bC_ BK408.out 4).trans rfl⟩ (fun hHeld=>?_)
                clear hK K
                refine no_ 30 ?_
                refine on_ 4 31 (fun K hK=>?_)
                refine goes_ Tryd.func67 (by kernel_rfl) rfl #[.agg #[.int .i64 t411,.int .i64 t412,.slice Ao59 t413.length co59,.slice Ao60 t416.length co60,.int .i64 t419,.int .i64 t420],.agg #[.int .i64 t421,.int .i64 t422,.int .i64 t423,.int .i64 t424,.string t425]] (by rfl) rfl rfl ar_ ?_
                with_reducible refine (spec_ClientDo.calls k t411 t412 _ _ t413 _ _ t416 t419 t420 t421 t422 t423 t424 t425 t426 t427 t428 t431 t434 t435 t436 _ ?side1 ?side2 ?side3 ?side4 A21.out).mono ?_
                (case side1=>exact cx_ (Kd.R_reads' HO415.out).2.2)
                (case side2=>exact (Kd.R_reads' HO415.out).2.1)
                (case side3=>exact cx_ (Kd.R_reads' HO418.out).2.2)
                (case side4=>exact (Kd.R_reads' HO418.out).2.1)
                rintro e w61 ⟨v429,v432,rfl,ho0,ho1,hb⟩
                refine ⟨_,rfl,?_⟩
                have HO430:=a_ (Kd.R_lower (Kd.R_new' ho0 (Kd.R_lt (rp_ HO415.out))) (below_size (bel_)))
                replace HO415:=a_ (Kd.R_elder' (rp_ HO415.out) (Kd.R_base ho0) hb)
                have HO433:=a_ (Kd.R_lower (Kd.R_new' ho1 (Kd.R_lt (rp_ HO418.out))) (below_size (bel_)))
                replace HO418:=a_ (Kd.R_elder' (rp_ HO418.out) (Kd.R_base ho1) hb)
                replace HB:=a_ (bS_ (bel_) hb)
                replace BK407:=a_ (blk_below (g:=gb407) (o:=.cells #[.int .i64 a0_0,.int .i64 a0_1,.slice A0_2 l0_2.length c0_2,.slice A0_3 l0_3.length c0_3,.int .i64 a0_4,.int .i64 a0_5] 85 (0,0)) (bp_ BK407.out) hb)
                replace BK408:=a_ (blk_below (g:=gb408) (o:=.cells #[.int .i64 a1_0,.int .i64 a1_1,.int .i64 a1_2,.int .i64 a1_3,.string a1_4] 34 (0,0)) (bp_ BK408.out) hb)
                replace BK437:=a_ (blk_below (g:=gb437) (o:=.cells #[.int .i64 0,.int .i64 0,.slice none 0 0,.slice none 0 0,.int .i64 0,.int .i64 0] 77 (0,0)) (bp_ BK437.out) hb)
                try clear hb ho0 ho1
                refine hK.out _ _ ⟨(bC_ BK407.out 0).trans rfl,(bC_ BK407.out 1).trans rfl,(bC_ BK407.out 2).trans rfl,(bC_ BK407.out 3).trans rfl,(bC_ BK407.out 4).trans rfl,(bC_ BK407.out 5).trans rfl,(bC_ BK408.out 0).trans rfl,(bC_ BK408.out 1).trans rfl,(bC_ BK408.out 2).trans rfl,(bC_ BK408.out 3).trans rfl,(bC_ BK408.out 4).trans rfl⟩ (fun hHeld=>?_)
                clear hK K
                refine no_ 31 ?_
                refine pa_ 5 26 ?_
                refine pa_ 6 32 ?_
                refine pa_ 7 33 ?_
                exact norm_ (by simp only [putAll,Act.put,List.setIfInBounds_toArray,List.set_cons_zero,List.set_cons_succ]) (hCont (.slice Ao59 t413.length co59,.slice Ao60 t416.length co60,v429,v432,gb437) _ ⟨hHeld,(by (with_reducible repeat (first|apply Kd.R_alloc|apply Kd.R_drewN|apply Kd.R_drew));exact Kd.R_mono HO415.out (fun _ hk=>hk.2)),(by (with_reducible repeat (first|apply Kd.R_alloc|apply Kd.R_drewN|apply Kd.R_drew));exact Kd.R_mono HO418.out (fun _ hk=>hk.2)),(by (with_reducible repeat (first|apply Kd.R_alloc|apply Kd.R_drewN|apply Kd.R_drew));exact Kd.R_mono HO430.out (fun _ hk=>hk.2)),(by (with_reducible repeat (first|apply Kd.R_alloc|apply Kd.R_drewN|apply Kd.R_drew));exact Kd.R_mono HO433.out (fun _ hk=>hk.2)),(bp_ BK407.out),(bp_ BK408.out),(bp_ BK437.out),GW437.out,GE437.out,NB407_437.out,NB437_407.out,NB408_437.out,NB437_408.out,(bel_)⟩)
              rintro ⟨v414,v417,v429,v432,gb437⟩ w62 ⟨hS_,h0_,h1_,h2_,h3_,h4_,h5_,h6_,h7_,h8_,h9_,h10_,h11_,h12_,h13_⟩
              have HO415:Aside0 (Kd.R k69 69 w62 w.heap.size (fun k_=>some k_≠(v429:Value).ownBlock) v414 t413):=⟨h0_⟩
              have HO418:Aside0 (Kd.R k44 44 w62 w.heap.size (fun k_=>some k_≠(v432:Value).ownBlock) v417 t416):=⟨h1_⟩
              have HO430:Aside0 (Kd.R k69 69 w62 w.heap.size (fun k_=>some k_≠(v414:Value).ownBlock) v429 t428):=⟨h2_⟩
              have HO433:Aside0 (Kd.R k44 44 w62 w.heap.size (fun k_=>some k_≠(v417:Value).ownBlock) v432 t431):=⟨h3_⟩
              replace BK407:Aside0 (w62.heap[gb407]?=some (.cells #[.int .i64 a0_0,.int .i64 a0_1,.slice A0_2 l0_2.length c0_2,.slice A0_3 l0_3.length c0_3,.int .i64 a0_4,.int .i64 a0_5] 85 (0,0))):=⟨h4_⟩
              replace BK408:Aside0 (w62.heap[gb408]?=some (.cells #[.int .i64 a1_0,.int .i64 a1_1,.int .i64 a1_2,.int .i64 a1_3,.string a1_4] 34 (0,0))):=⟨h5_⟩
              have BK437:Aside0 (w62.heap[gb437]?=some (.cells #[.int .i64 0,.int .i64 0,.slice none 0 0,.slice none 0 0,.int .i64 0,.int .i64 0] 77 (0,0))):=⟨h6_⟩
              have GW437:Aside0 (w.heap.size≤gb437):=⟨h7_⟩
              have GE437:Aside0 (w.heap.size≤gb437):=⟨h8_⟩
              have NB407_437:Aside0 (gb407≠gb437):=⟨h9_⟩
              have NB437_407:Aside0 (gb437≠gb407):=⟨h10_⟩
              have NB408_437:Aside0 (gb408≠gb437):=⟨h11_⟩
              have NB437_408:Aside0 (gb437≠gb408):=⟨h12_⟩
              replace HB:Aside0 (Below w.heap.size w w62):=⟨h13_⟩
              clear h0_ h1_ h2_ h3_ h4_ h5_ h6_ h7_ h8_ h9_ h10_ h11_ h12_ h13_
              have hHeld:w62.cell? ⟨gb407,0,none⟩=some (.int .i64 a0_0)∧w62.cell? ⟨gb407,1,none⟩=some (.int .i64 a0_1)∧w62.cell? ⟨gb407,2,none⟩=some (.slice A0_2 l0_2.length c0_2)∧w62.cell? ⟨gb407,3,none⟩=some (.slice A0_3 l0_3.length c0_3)∧w62.cell? ⟨gb407,4,none⟩=some (.int .i64 a0_4)∧w62.cell? ⟨gb407,5,none⟩=some (.int .i64 a0_5)∧w62.cell? ⟨gb408,0,none⟩=some (.int .i64 a1_0)∧w62.cell? ⟨gb408,1,none⟩=some (.int .i64 a1_1)∧w62.cell? ⟨gb408,2,none⟩=some (.int .i64 a1_2)∧w62.cell? ⟨gb408,3,none⟩=some (.int .i64 a1_3)∧w62.cell? ⟨gb408,4,none⟩=some (.string a1_4):=hS_
              obtain ⟨Ao65,co65,eo65⟩:=Kd.R_slice HO430.out
              (first|subst eo65|(injection eo65 with f1_ f2_ f3_;have f4_:=f1_.symm;have f5_:=f3_.symm;clear f1_ f2_ f3_;subst f4_;subst f5_))
              obtain ⟨Ao67,co67,eo67⟩:=Kd.R_slice HO433.out
              (first|subst eo67|(injection eo67 with f1_ f2_ f3_;have f4_:=f1_.symm;have f5_:=f3_.symm;clear f1_ f2_ f3_;subst f4_;subst f5_))
              refine norm_ (a':=?_) ?_ ?_
              rotate_left
              ·simp only [putAll,Act.put,List.setIfInBounds_toArray,List.set_cons_zero,List.set_cons_succ]
               rfl
              refine one_ (i:=9) (N:=none) #[true,true,true,true,true,true,true,true,true,true,false] rfl rfl (one_of HT_.out (by kernel_rfl)) (by decide) (fun K hK=>?_)
              have hs63:w62.cell? ⟨gb437,0,none⟩=some (.int .i64 0):=(bC_ BK437.out 0).trans rfl
              have hfs63:=bF_ BK437.out 0
              have hns63_0:=NB407_437.out
              have hns63_1:=NB408_437.out
              have hms63_0:=NB437_407.out
              have hms63_1:=NB437_408.out
              have hs64:w62.cell? ⟨gb437,1,none⟩=some (.int .i64 0):=(bC_ BK437.out 1).trans rfl
              have hfs64:=bF_ BK437.out 1
              have hns64_0:=NB407_437.out
              have hns64_1:=NB408_437.out
              have hms64_0:=NB437_407.out
              have hms64_1:=NB437_408.out
              have hs66:w62.cell? ⟨gb437,2,none⟩=some (.slice none 0 0):=(bC_ BK437.out 2).trans rfl
              have hfs66:=bF_ BK437.out 2
              have hns66_0:=NB407_437.out
              have hns66_1:=NB408_437.out
              have hms66_0:=NB437_407.out
              have hms66_1:=NB437_408.out
              have hs68:w62.cell? ⟨gb437,3,none⟩=some (.slice none 0 0):=(bC_ BK437.out 3).trans rfl
              have hfs68:=bF_ BK437.out 3
              have hns68_0:=NB407_437.out
              have hns68_1:=NB408_437.out
              have hms68_0:=NB437_407.out
              have hms68_1:=NB437_408.out
              have hs69:w62.cell? ⟨gb437,4,none⟩=some (.int .i64 0):=(bC_ BK437.out 4).trans rfl
              have hfs69:=bF_ BK437.out 4
              have hns69_0:=NB407_437.out
              have hns69_1:=NB408_437.out
              have hms69_0:=NB437_407.out
              have hms69_1:=NB437_408.out
              have hs70:w62.cell? ⟨gb437,5,none⟩=some (.int .i64 0):=(bC_ BK437.out 5).trans rfl
              have hfs70:=bF_ BK437.out 5
              have hns70_0:=NB407_437.out
              have hns70_1:=NB408_437.out
              have hms70_0:=NB437_407.out
              have hms70_1:=NB437_408.out
              refine skip_ (w1:=?_) (by rfl) rfl ?_ ?_
              rotate_left
              ·go_simp
               rfl
              refine hK.out _ _ ⟨(cf6_ (g:=gb437) NB407_437.out (hHeld.1)),(cf6_ (g:=gb437) NB407_437.out (hHeld.2.1)),(cf6_ (g:=gb437) NB407_437.out (hHeld.2.2.1)),(cf6_ (g:=gb437) NB407_437.out (hHeld.2.2.2.1)),(cf6_ (g:=gb437) NB407_437.out (hHeld.2.2.2.2.1)),(cf6_ (g:=gb437) NB407_437.out (hHeld.2.2.2.2.2.1)),(cf6_ (g:=gb437) NB408_437.out (hHeld.2.2.2.2.2.2.1)),(cf6_ (g:=gb437) NB408_437.out (hHeld.2.2.2.2.2.2.2.1)),(cf6_ (g:=gb437) NB408_437.out (hHeld.2.2.2.2.2.2.2.2.1)),(cf6_ (g:=gb437) NB408_437.out (hHeld.2.2.2.2.2.2.2.2.2.1)),(cf6_ (g:=gb437) NB408_437.out (hHeld.2.2.2.2.2.2.2.2.2.2))⟩ (fun hHeld=>?_)
              clear hK K
              refine pa_ 10 7 ?_
              refine done_ (done_of HT_.out (by kernel_rfl)) ?_
              have hnb71:=NB407_437.out
              have hnc71:=NB437_407.out
              have Z72_0:=cz_ BK407.out 0 (.int .i64 a0_0)
              have Z72_1:=cz_ BK407.out 1 (.int .i64 a0_1)
              have Z72_2:=cz_ BK407.out 2 (.slice A0_2 l0_2.length c0_2)
              have Z72_3:=cz_ BK407.out 3 (.slice A0_3 l0_3.length c0_3)
              have Z72_4:=cz_ BK407.out 4 (.int .i64 a0_4)
              have Z72_5:=cz_ BK407.out 5 (.int .i64 a0_5)
              have Y72_0:=bF_ BK407.out 0
              have Y72_1:=bF_ BK407.out 1
              have Y72_2:=bF_ BK407.out 2
              have Y72_3:=bF_ BK407.out 3
              have Y72_4:=bF_ BK407.out 4
              have Y72_5:=bF_ BK407.out 5
              try go_wp2_with (first|((with_reducible refine gC_ (f:=64) rfl ?_);refine gl_ 35 Tryd.func64 #[.agg #[.int .i64 a0_0,.int .i64 a0_1,.slice A0_2 l0_2.length c0_2,.slice A0_3 l0_3.length c0_3,.int .i64 a0_4,.int .i64 a0_5]] ?_;(with_reducible refine (laws_toClient.calls k a0_0 a0_1 _ _ l0_2 _ _ l0_3 a0_4 a0_5 t438 t439 t440 t443 t446 t447 _ ?side1 ?side2 ?side3 ?side4 A22.out).mono ?_);(case side1=>exact Kd.C_below HR0_2.out (bel_));(case side2=>exact HC0_2.out);(case side3=>exact Kd.C_below HR0_3.out (bel_));(case side4=>exact HC0_3.out);rintro e w73 ⟨v441,v444,rfl,ho0,ho1,hb⟩;refine ⟨_,rfl,?_⟩;have n0_:=a_ (Kd.R_elder' (by (with_reducible repeat (first|apply Kd.R_alloc|apply Kd.R_drewN|apply Kd.R_drew));exact (Kd.R_mono (rf6_ (g:=gb437) (Kd.R_types HO415.out BK437.out (by decide)) (fun _ hk=>hk.2) (.int .i64 t426) (.int .i64 t427) (.slice Ao65 t428.length co65) (.slice Ao67 t431.length co67) (.int .i64 t434) (.int .i64 t435)) (fun _ h_=>h_.1))) (Kd.R_base ho0) hb);have n1_:=a_ (Kd.R_elder' (by (with_reducible repeat (first|apply Kd.R_alloc|apply Kd.R_drewN|apply Kd.R_drew));exact (Kd.R_mono (rf6_ (g:=gb437) (Kd.R_types HO418.out BK437.out (by decide)) (fun _ hk=>hk.2) (.int .i64 t426) (.int .i64 t427) (.slice Ao65 t428.length co65) (.slice Ao67 t431.length co67) (.int .i64 t434) (.int .i64 t435)) (fun _ h_=>h_.1))) (Kd.R_base ho1) hb);have n2_:=a_ (Kd.R_elder' (by (with_reducible repeat (first|apply Kd.R_alloc|apply Kd.R_drewN|apply Kd.R_drew));exact (Kd.R_mono (rf6_ (g:=gb437) (Kd.R_types HO430.out BK437.out (by decide)) (fun _ hk=>hk.2) (.int .i64 t426) (.int .i64 t427) (.slice Ao65 t428.length co65) (.slice Ao67 t431.length co67) (.int .i64 t434) (.int .i64 t435)) (fun _ h_=>h_.1))) (Kd.R_base ho0) hb);have n3_:=a_ (Kd.R_elder' (by (with_reducible repeat (first|apply Kd.R_alloc|apply Kd.R_drewN|apply Kd.R_drew));exact (Kd.R_mono (rf6_ (g:=gb437) (Kd.R_types HO433.out BK437.out (by decide)) (fun _ hk=>hk.2) (.int .i64 t426) (.int .i64 t427) (.slice Ao65 t428.length co65) (.slice Ao67 t431.length co67) (.int .i64 t434) (.int .i64 t435)) (fun _ h_=>h_.1))) (Kd.R_base ho1) hb);have n4_:=a_ (Kd.R_lower (Kd.R_new' (Kd.R_new' ho0 (Kd.R_lt (by (with_reducible repeat (first|apply Kd.R_alloc|apply Kd.R_drewN|apply Kd.R_drew));exact (Kd.R_mono (rf6_ (g:=gb437) (Kd.R_types HO415.out BK437.out (by decide)) (fun _ hk=>hk.2) (.int .i64 t426) (.int .i64 t427) (.slice Ao65 t428.length co65) (.slice Ao67 t431.length co67) (.int .i64 t434) (.int .i64 t435)) (fun _ h_=>h_.1))))) (Kd.R_lt (by (with_reducible repeat (first|apply Kd.R_alloc|apply Kd.R_drewN|apply Kd.R_drew));exact (Kd.R_mono (rf6_ (g:=gb437) (Kd.R_types HO430.out BK437.out (by decide)) (fun _ hk=>hk.2) (.int .i64 t426) (.int .i64 t427) (.slice Ao65 t428.length co65) (.slice Ao67 t431.length co67) (.int .i64 t434) (.int .i64 t435)) (fun _ h_=>h_.1))))) (below_size (bel_)));have n5_:=a_ (Kd.R_lower (Kd.R_new' (Kd.R_new' ho1 (Kd.R_lt (by (with_reducible repeat (first|apply Kd.R_alloc|apply Kd.R_drewN|apply Kd.R_drew));exact (Kd.R_mono (rf6_ (g:=gb437) (Kd.R_types HO418.out BK437.out (by decide)) (fun _ hk=>hk.2) (.int .i64 t426) (.int .i64 t427) (.slice Ao65 t428.length co65) (.slice Ao67 t431.length co67) (.int .i64 t434) (.int .i64 t435)) (fun _ h_=>h_.1))))) (Kd.R_lt (by (with_reducible repeat (first|apply Kd.R_alloc|apply Kd.R_drewN|apply Kd.R_drew));exact (Kd.R_mono (rf6_ (g:=gb437) (Kd.R_types HO433.out BK437.out (by decide)) (fun _ hk=>hk.2) (.int .i64 t426) (.int .i64 t427) (.slice Ao65 t428.length co65) (.slice Ao67 t431.length co67) (.int .i64 t434) (.int .i64 t435)) (fun _ h_=>h_.1))))) (below_size (bel_)));have n6_:=a_ (blk_below (g:=gb407) (o:=.cells #[.int .i64 a0_0,.int .i64 a0_1,.slice A0_2 l0_2.length c0_2,.slice A0_3 l0_3.length c0_3,.int .i64 a0_4,.int .i64 a0_5] 85 (0,0)) (fp1_ NB407_437.out BK407.out) hb);have n7_:=a_ (blk_below (g:=gb408) (o:=.cells #[.int .i64 a1_0,.int .i64 a1_1,.int .i64 a1_2,.int .i64 a1_3,.string a1_4] 34 (0,0)) (fp1_ NB408_437.out BK408.out) hb);have n8_:=a_ (blk_below (g:=gb437) (o:=.cells #[.int .i64 t426,.int .i64 t427,.slice Ao65 t428.length co65,.slice Ao67 t431.length co67,.int .i64 t434,.int .i64 t435] 77 (0,0)) (k6p_ BK437.out) hb);have n9_:=a_ (bS_ (bel_) hb);clear HO415;clear HO418;clear HO430;clear HO433;clear BK407;clear BK408;clear BK437;clear HB;have HO415:=n0_;have HO418:=n1_;have HO430:=n2_;have HO433:=n3_;have HO442:=n4_;have HO445:=n5_;have BK407:=n6_;have BK408:=n7_;have BK437:=n8_;have HB:=n9_;clear n0_ n1_ n2_ n3_ n4_ n5_ n6_ n7_ n8_ n9_;(try clear hb ho0 ho1))|((with_reducible refine gD_ (N:=8) rfl ?_);refine bx_ 8 (#[.int .i64 0,.int .i64 0,.slice none 0 0,.slice none 0 0,.int .i64 0,.int .i64 0]) 77 ?_;intro gb448 hg w74 hbox hb;have n0_:=a_ (Kd.R_below (rp_ HO415.out) hb);have n1_:=a_ (Kd.R_below (rp_ HO418.out) hb);have n2_:=a_ (Kd.R_below (rp_ HO430.out) hb);have n3_:=a_ (Kd.R_below (rp_ HO433.out) hb);have n4_:=a_ (Kd.R_below (rp_ HO442.out) hb);have n5_:=a_ (Kd.R_below (rp_ HO445.out) hb);have n6_:=a_ (blk_below (g:=gb407) (o:=.cells #[.int .i64 a0_0,.int .i64 a0_1,.slice A0_2 l0_2.length c0_2,.slice A0_3 l0_3.length c0_3,.int .i64 a0_4,.int .i64 a0_5] 85 (0,0)) (bp_ BK407.out) hb);have n7_:=a_ (blk_below (g:=gb408) (o:=.cells #[.int .i64 a1_0,.int .i64 a1_1,.int .i64 a1_2,.int .i64 a1_3,.string a1_4] 34 (0,0)) (bp_ BK408.out) hb);have n8_:=a_ (blk_below (g:=gb437) (o:=.cells #[.int .i64 t426,.int .i64 t427,.slice Ao65 t428.length co65,.slice Ao67 t431.length co67,.int .i64 t434,.int .i64 t435] 77 (0,0)) (bp_ BK437.out) hb);have n9_:=a_ (bS_ (bel_) hb);have n10_:=a_ (hbox);have n11_:=a_ ((by rw [hg];exact (below_size (bel_)):w.heap.size≤gb448));have n12_:=a_ ((by rw [hg];exact (below_size (bel_)):w.heap.size≤gb448));have n13_:=a_ ((by rw [hg];exact Nat.ne_of_lt (blk_lt (g:=gb407) (o:=.cells #[.int .i64 a0_0,.int .i64 a0_1,.slice A0_2 l0_2.length c0_2,.slice A0_3 l0_3.length c0_3,.int .i64 a0_4,.int .i64 a0_5] 85 (0,0)) (bp_ BK407.out)):gb407≠gb448));have n14_:=a_ ((by rw [hg];exact Nat.ne_of_gt (blk_lt (g:=gb407) (o:=.cells #[.int .i64 a0_0,.int .i64 a0_1,.slice A0_2 l0_2.length c0_2,.slice A0_3 l0_3.length c0_3,.int .i64 a0_4,.int .i64 a0_5] 85 (0,0)) (bp_ BK407.out)):gb448≠gb407));have n15_:=a_ ((by rw [hg];exact Nat.ne_of_lt (blk_lt (g:=gb408) (o:=.cells #[.int .i64 a1_0,.int .i64 a1_1,.int .i64 a1_2,.int .i64 a1_3,.string a1_4] 34 (0,0)) (bp_ BK408.out)):gb408≠gb448));have n16_:=a_ ((by rw [hg];exact Nat.ne_of_gt (blk_lt (g:=gb408) (o:=.cells #[.int .i64 a1_0,.int .i64 a1_1,.int .i64 a1_2,.int .i64 a1_3,.string a1_4] 34 (0,0)) (bp_ BK408.out)):gb448≠gb408));have n17_:=a_ ((by rw [hg];exact Nat.ne_of_lt (blk_lt (g:=gb437) (o:=.cells #[.int .i64 t426,.int .i64 t427,.slice Ao65 t428.length co65,.slice Ao67 t431.length co67,.int .i64 t434,.int .i64 t435] 77 (0,0)) (bp_ BK437.out)):gb437≠gb448));have n18_:=a_ ((by rw [hg];exact Nat.ne_of_gt (blk_lt (g:=gb437) (o:=.cells #[.int .i64 t426,.int .i64 t427,.slice Ao65 t428.length co65,.slice Ao67 t431.length co67,.int .i64 t434,.int .i64 t435] 77 (0,0)) (bp_ BK437.out)):gb448≠gb437));clear HO415;clear HO418;clear HO430;clear HO433;clear HO442;clear HO445;clear BK407;clear BK408;clear BK437;clear HB;have HO415:=n0_;have HO418:=n1_;have HO430:=n2_;have HO433:=n3_;have HO442:=n4_;have HO445:=n5_;have BK407:=n6_;have BK408:=n7_;have BK437:=n8_;have HB:=n9_;have BK448:=n10_;have GW448:=n11_;have GE448:=n12_;have NB407_448:=n13_;have NB448_407:=n14_;have NB408_448:=n15_;have NB448_408:=n16_;have NB437_448:=n17_;have NB448_437:=n18_;clear n0_ n1_ n2_ n3_ n4_ n5_ n6_ n7_ n8_ n9_ n10_ n11_ n12_ n13_ n14_ n15_ n16_ n17_ n18_;clear hb hbox hg;have hnb75:=NB448_407.out;have hnc75:=NB407_448.out;have hnb76:=NB448_408.out;have hnc76:=NB408_448.out;have hnb77:=NB448_437.out;have hnc77:=NB437_448.out;have Z78_0:=cz_ BK448.out 0 (.int .i64 0);have Z78_1:=cz_ BK448.out 1 (.int .i64 0);have Z78_2:=cz_ BK448.out 2 (.slice none 0 0);have Z78_3:=cz_ BK448.out 3 (.slice none 0 0);have Z78_4:=cz_ BK448.out 4 (.int .i64 0);have Z78_5:=cz_ BK448.out 5 (.int .i64 0);have Y78_0:=bF_ BK448.out 0;have Y78_1:=bF_ BK448.out 1;have Y78_2:=bF_ BK448.out 2;have Y78_3:=bF_ BK448.out 3;have Y78_4:=bF_ BK448.out 4;have Y78_5:=bF_ BK448.out 5;obtain ⟨Ao79,co79,eo79⟩:=Kd.R_slice HO442.out;subst eo79;obtain ⟨Ao80,co80,eo80⟩:=Kd.R_slice HO445.out;subst eo80))
              have n0_:Aside0 (Kd.R k69 69 ((((((w74.setCell ⟨gb448,0,none⟩ (.int .i64 t438)).setCell ⟨gb448,1,none⟩ (.int .i64 t439)).setCell ⟨gb448,2,none⟩ (.slice Ao79 t440.length co79)).setCell ⟨gb448,3,none⟩ (.slice Ao80 t443.length co80)).setCell ⟨gb448,4,none⟩ (.int .i64 t446)).setCell ⟨gb448,5,none⟩ (.int .i64 t447)) w.heap.size (fun k_=>some k_≠(.slice Ao65 t428.length co65:Value).ownBlock∧some k_≠(.slice Ao79 t440.length co79:Value).ownBlock) v414 t413):=⟨by (with_reducible repeat (first|apply Kd.R_alloc|apply Kd.R_drewN|apply Kd.R_drew));exact Kd.R_mono (rf6_ (g:=gb448) (Kd.R_types HO415.out BK448.out (by decide)) (fun _ hk=>hk.2) (.int .i64 t438) (.int .i64 t439) (.slice Ao79 t440.length co79) (.slice Ao80 t443.length co80) (.int .i64 t446) (.int .i64 t447)) (fun _ hk=>⟨hk.1.1,hk.1.2⟩)⟩
              have n1_:Aside0 (Kd.R k44 44 ((((((w74.setCell ⟨gb448,0,none⟩ (.int .i64 t438)).setCell ⟨gb448,1,none⟩ (.int .i64 t439)).setCell ⟨gb448,2,none⟩ (.slice Ao79 t440.length co79)).setCell ⟨gb448,3,none⟩ (.slice Ao80 t443.length co80)).setCell ⟨gb448,4,none⟩ (.int .i64 t446)).setCell ⟨gb448,5,none⟩ (.int .i64 t447)) w.heap.size (fun k_=>some k_≠(.slice Ao67 t431.length co67:Value).ownBlock∧some k_≠(.slice Ao80 t443.length co80:Value).ownBlock) v417 t416):=⟨by (with_reducible repeat (first|apply Kd.R_alloc|apply Kd.R_drewN|apply Kd.R_drew));exact Kd.R_mono (rf6_ (g:=gb448) (Kd.R_types HO418.out BK448.out (by decide)) (fun _ hk=>hk.2) (.int .i64 t438) (.int .i64 t439) (.slice Ao79 t440.length co79) (.slice Ao80 t443.length co80) (.int .i64 t446) (.int .i64 t447)) (fun _ hk=>⟨hk.1.1,hk.1.2⟩)⟩
              have n2_:Aside0 (Kd.R k69 69 ((((((w74.setCell ⟨gb448,0,none⟩ (.int .i64 t438)).setCell ⟨gb448,1,none⟩ (.int .i64 t439)).setCell ⟨gb448,2,none⟩ (.slice Ao79 t440.length co79)).setCell ⟨gb448,3,none⟩ (.slice Ao80 t443.length co80)).setCell ⟨gb448,4,none⟩ (.int .i64 t446)).setCell ⟨gb448,5,none⟩ (.int .i64 t447)) w.heap.size (fun k_=>some k_≠(v414:Value).ownBlock∧some k_≠(.slice Ao79 t440.length co79:Value).ownBlock) (.slice Ao65 t428.length co65) t428):=⟨by (with_reducible repeat (first|apply Kd.R_alloc|apply Kd.R_drewN|apply Kd.R_drew));exact Kd.R_mono (rf6_ (g:=gb448) (Kd.R_types HO430.out BK448.out (by decide)) (fun _ hk=>hk.2) (.int .i64 t438) (.int .i64 t439) (.slice Ao79 t440.length co79) (.slice Ao80 t443.length co80) (.int .i64 t446) (.int .i64 t447)) (fun _ hk=>⟨hk.1.1,hk.1.2⟩)⟩
              have n3_:Aside0 (Kd.R k44 44 ((((((w74.setCell ⟨gb448,0,none⟩ (.int .i64 t438)).setCell ⟨gb448,1,none⟩ (.int .i64 t439)).setCell ⟨gb448,2,none⟩ (.slice Ao79 t440.length co79)).setCell ⟨gb448,3,none⟩ (.slice Ao80 t443.length co80)).setCell ⟨gb448,4,none⟩ (.int .i64 t446)).setCell ⟨gb448,5,none⟩ (.int .i64 t447)) w.heap.size (fun k_=>some k_≠(v417:Value).ownBlock∧some k_≠(.slice Ao80 t443.length co80:Value).ownBlock) (.slice Ao67 t431.length co67) t431):=⟨by (with_reducible repeat (first|apply Kd.R_alloc|apply Kd.R_drewN|apply Kd.R_drew));exact Kd.R_mono (rf6_ (g:=gb448) (Kd.R_types HO433.out BK448.out (by decide)) (fun _ hk=>hk.2) (.int .i64 t438) (.int .i64 t439) (.slice Ao79 t440.length co79) (.slice Ao80 t443.length co80) (.int .i64 t446) (.int .i64 t447)) (fun _ hk=>⟨hk.1.1,hk.1.2⟩)⟩
              have n4_:Aside0 (Kd.R k69 69 ((((((w74.setCell ⟨gb448,0,none⟩ (.int .i64 t438)).setCell ⟨gb448,1,none⟩ (.int .i64 t439)).setCell ⟨gb448,2,none⟩ (.slice Ao79 t440.length co79)).setCell ⟨gb448,3,none⟩ (.slice Ao80 t443.length co80)).setCell ⟨gb448,4,none⟩ (.int .i64 t446)).setCell ⟨gb448,5,none⟩ (.int .i64 t447)) w.heap.size (fun k_=>some k_≠(v414:Value).ownBlock∧some k_≠(.slice Ao65 t428.length co65:Value).ownBlock) (.slice Ao79 t440.length co79) t440):=⟨by (with_reducible repeat (first|apply Kd.R_alloc|apply Kd.R_drewN|apply Kd.R_drew));exact Kd.R_mono (rf6_ (g:=gb448) (Kd.R_types HO442.out BK448.out (by decide)) (fun _ hk=>hk.2) (.int .i64 t438) (.int .i64 t439) (.slice Ao79 t440.length co79) (.slice Ao80 t443.length co80) (.int .i64 t446) (.int .i64 t447)) (fun _ hk=>⟨hk.1.1.2,hk.1.2⟩)⟩
              have n5_:Aside0 (Kd.R k44 44 ((((((w74.setCell ⟨gb448,0,none⟩ (.int .i64 t438)).setCell ⟨gb448,1,none⟩ (.int .i64 t439)).setCell ⟨gb448,2,none⟩ (.slice Ao79 t440.length co79)).setCell ⟨gb448,3,none⟩ (.slice Ao80 t443.length co80)).setCell ⟨gb448,4,none⟩ (.int .i64 t446)).setCell ⟨gb448,5,none⟩ (.int .i64 t447)) w.heap.size (fun k_=>some k_≠(v417:Value).ownBlock∧some k_≠(.slice Ao67 t431.length co67:Value).ownBlock) (.slice Ao80 t443.length co80) t443):=⟨by (with_reducible repeat (first|apply Kd.R_alloc|apply Kd.R_drewN|apply Kd.R_drew));exact Kd.R_mono (rf6_ (g:=gb448) (Kd.R_types HO445.out BK448.out (by decide)) (fun _ hk=>hk.2) (.int .i64 t438) (.int .i64 t439) (.slice Ao79 t440.length co79) (.slice Ao80 t443.length co80) (.int .i64 t446) (.int .i64 t447)) (fun _ hk=>⟨hk.1.1.2,hk.1.2⟩)⟩
              have n6_:Aside0 (((((((w74.setCell ⟨gb448,0,none⟩ (.int .i64 t438)).setCell ⟨gb448,1,none⟩ (.int .i64 t439)).setCell ⟨gb448,2,none⟩ (.slice Ao79 t440.length co79)).setCell ⟨gb448,3,none⟩ (.slice Ao80 t443.length co80)).setCell ⟨gb448,4,none⟩ (.int .i64 t446)).setCell ⟨gb448,5,none⟩ (.int .i64 t447)).heap[gb407]?=some (.cells #[.int .i64 a0_0,.int .i64 a0_1,.slice A0_2 l0_2.length c0_2,.slice A0_3 l0_3.length c0_3,.int .i64 a0_4,.int .i64 a0_5] 85 (0,0))):=⟨fp1_ NB407_448.out BK407.out⟩
              have n7_:Aside0 (((((((w74.setCell ⟨gb448,0,none⟩ (.int .i64 t438)).setCell ⟨gb448,1,none⟩ (.int .i64 t439)).setCell ⟨gb448,2,none⟩ (.slice Ao79 t440.length co79)).setCell ⟨gb448,3,none⟩ (.slice Ao80 t443.length co80)).setCell ⟨gb448,4,none⟩ (.int .i64 t446)).setCell ⟨gb448,5,none⟩ (.int .i64 t447)).heap[gb408]?=some (.cells #[.int .i64 a1_0,.int .i64 a1_1,.int .i64 a1_2,.int .i64 a1_3,.string a1_4] 34 (0,0))):=⟨fp1_ NB408_448.out BK408.out⟩
              have n8_:Aside0 (((((((w74.setCell ⟨gb448,0,none⟩ (.int .i64 t438)).setCell ⟨gb448,1,none⟩ (.int .i64 t439)).setCell ⟨gb448,2,none⟩ (.slice Ao79 t440.length co79)).setCell ⟨gb448,3,none⟩ (.slice Ao80 t443.length co80)).setCell ⟨gb448,4,none⟩ (.int .i64 t446)).setCell ⟨gb448,5,none⟩ (.int .i64 t447)).heap[gb437]?=some (.cells #[.int .i64 t426,.int .i64 t427,.slice Ao65 t428.length co65,.slice Ao67 t431.length co67,.int .i64 t434,.int .i64 t435] 77 (0,0))):=⟨fp1_ NB437_448.out BK437.out⟩
              have n9_:Aside0 (((((((w74.setCell ⟨gb448,0,none⟩ (.int .i64 t438)).setCell ⟨gb448,1,none⟩ (.int .i64 t439)).setCell ⟨gb448,2,none⟩ (.slice Ao79 t440.length co79)).setCell ⟨gb448,3,none⟩ (.slice Ao80 t443.length co80)).setCell ⟨gb448,4,none⟩ (.int .i64 t446)).setCell ⟨gb448,5,none⟩ (.int .i64 t447)).heap[gb448]?=some (.cells #[.int .i64 t438,.int .i64 t439,.slice Ao79 t440.length co79,.slice Ao80 t443.length co80,.int .i64 t446,.int .i64 t447] 77 (0,0))):=⟨k6p_ BK448.out⟩
              have n10_:Aside0 (Below w.heap.size w ((((((w74.setCell ⟨gb448,0,none⟩ (.int .i64 t438)).setCell ⟨gb448,1,none⟩ (.int .i64 t439)).setCell ⟨gb448,2,none⟩ (.slice Ao79 t440.length co79)).setCell ⟨gb448,3,none⟩ (.slice Ao80 t443.length co80)).setCell ⟨gb448,4,none⟩ (.int .i64 t446)).setCell ⟨gb448,5,none⟩ (.int .i64 t447))):=⟨bel_⟩
              (try clear HO415)
              (try clear HO418)
              (try clear HO430)
              (try clear HO433)
              (try clear HO442)
              (try clear HO445)
              (try clear BK407)
              (try clear BK408)
              (try clear BK437)
              (try clear BK448)
              (try clear HB)
              generalize ((((((w74.setCell ⟨gb448,0,none⟩ (.int .i64 t438)).setCell ⟨gb448,1,none⟩ (.int .i64 t439)).setCell ⟨gb448,2,none⟩ (.slice Ao79 t440.length co79)).setCell ⟨gb448,3,none⟩ (.slice Ao80 t443.length co80)).setCell ⟨gb448,4,none⟩ (.int .i64 t446)).setCell ⟨gb448,5,none⟩ (.int .i64 t447))=w81 at n0_ n1_ n2_ n3_ n4_ n5_ n6_ n7_ n8_ n9_ n10_ ⊢
              have HO415:=n0_
              have HO418:=n1_
              have HO430:=n2_
              have HO433:=n3_
              have HO442:=n4_
              have HO445:=n5_
              have BK407:=n6_
              have BK408:=n7_
              have BK437:=n8_
              have BK448:=n9_
              have HB:=n10_
              clear n0_ n1_ n2_ n3_ n4_ n5_ n6_ n7_ n8_ n9_ n10_
              replace HO415:=a_ (Kd.R_drew HO415.out)
              replace HO418:=a_ (Kd.R_drew HO418.out)
              replace HO430:=a_ (Kd.R_drew HO430.out)
              replace HO433:=a_ (Kd.R_drew HO433.out)
              replace HO442:=a_ (Kd.R_drew HO442.out)
              replace HO445:=a_ (Kd.R_drew HO445.out)
              replace BK407:=a_ (bD_ BK407.out)
              replace BK408:=a_ (bD_ BK408.out)
              replace BK437:=a_ (bD_ BK437.out)
              replace BK448:=a_ (bD_ BK448.out)
              replace HB:=a_ (below_drew1 HB.out)
              refine start_ (n:=10) (S:=fun w'=>w'.cell? ⟨gb448,0,none⟩=some (.int .i64 t438)∧w'.cell? ⟨gb448,1,none⟩=some (.int .i64 t439)∧w'.cell? ⟨gb448,2,none⟩=some (.slice Ao79 t440.length co79)∧w'.cell? ⟨gb448,3,none⟩=some (.slice Ao80 t443.length co80)∧w'.cell? ⟨gb448,4,none⟩=some (.int .i64 t446)∧w'.cell? ⟨gb448,5,none⟩=some (.int .i64 t447)∧w'.cell? ⟨gb408,0,none⟩=some (.int .i64 a1_0)∧w'.cell? ⟨gb408,1,none⟩=some (.int .i64 a1_1)∧w'.cell? ⟨gb408,2,none⟩=some (.int .i64 a1_2)∧w'.cell? ⟨gb408,3,none⟩=some (.int .i64 a1_3)∧w'.cell? ⟨gb408,4,none⟩=some (.string a1_4)) (ds:=[]) #[false,false,false,false,false,false,false,false,false,false] (by kernel_rfl) rfl rfl ⟨(bC_ BK448.out 0).trans rfl,(bC_ BK448.out 1).trans rfl,(bC_ BK448.out 2).trans rfl,(bC_ BK448.out 3).trans rfl,(bC_ BK448.out 4).trans rfl,(bC_ BK448.out 5).trans rfl,(bC_ BK408.out 0).trans rfl,(bC_ BK408.out 1).trans rfl,(bC_ BK408.out 2).trans rfl,(bC_ BK408.out 3).trans rfl,(bC_ BK408.out 4).trans rfl⟩ (fun hHeld=>?_);refine with_tabW laws_FnExactClientDo.tab10 laws_FnExactClientDo.bits10 (fun HT_ HW_=>?_)
              generalize w81.drew=w82 at HO415 HO418 HO430 HO433 HO442 HO445 BK407 BK408 BK437 BK448 HB hHeld ⊢
              refine ta11_ 0 37 hHeld ?_
              refine ta11_ 1 38 hHeld ?_
              refine join_ (σ:=Value×Value×Nat) 2 #[true,true,true,true,true,true,true,true,false,false] (fun s_=>[(39,.agg #[.int .i64 t449,.int .i64 t450,.int .i64 t451,.int .i64 t452,.string t453]),(40,.tuple #[.agg #[.int .i64 t454,.int .i64 t455,s_.1,s_.2.1,.int .i64 t462,.int .i64 t463],.bool t464]),(9,.pointer (some ⟨s_.2.2,0,none⟩)),(36,.tuple #[.agg #[.int .i64 t454,.int .i64 t455,s_.1,s_.2.1,.int .i64 t462,.int .i64 t463],.bool t464]),(41,.agg #[.int .i64 t454,.int .i64 t455,s_.1,s_.2.1,.int .i64 t462,.int .i64 t463]),(42,.bool t464)]) (fun s_ w'=>(w'.cell? ⟨gb448,0,none⟩=some (.int .i64 t438)∧w'.cell? ⟨gb448,1,none⟩=some (.int .i64 t439)∧w'.cell? ⟨gb448,2,none⟩=some (.slice Ao79 t440.length co79)∧w'.cell? ⟨gb448,3,none⟩=some (.slice Ao80 t443.length co80)∧w'.cell? ⟨gb448,4,none⟩=some (.int .i64 t446)∧w'.cell? ⟨gb448,5,none⟩=some (.int .i64 t447)∧w'.cell? ⟨gb408,0,none⟩=some (.int .i64 a1_0)∧w'.cell? ⟨gb408,1,none⟩=some (.int .i64 a1_1)∧w'.cell? ⟨gb408,2,none⟩=some (.int .i64 a1_2)∧w'.cell? ⟨gb408,3,none⟩=some (.int .i64 a1_3)∧w'.cell? ⟨gb408,4,none⟩=some (.string a1_4))∧(Kd.R k69 69 w' w.heap.size (fun k_=>some k_≠(.slice Ao65 t428.length co65:Value).ownBlock∧some k_≠(.slice Ao79 t440.length co79:Value).ownBlock∧some k_≠(s_.1:Value).ownBlock) v414 t413)∧(Kd.R k44 44 w' w.heap.size (fun k_=>some k_≠(.slice Ao67 t431.length co67:Value).ownBlock∧some k_≠(.slice Ao80 t443.length co80:Value).ownBlock∧some k_≠(s_.2.1:Value).ownBlock) v417 t416)∧(Kd.R k69 69 w' w.heap.size (fun k_=>some k_≠(v414:Value).ownBlock∧some k_≠(.slice Ao79 t440.length co79:Value).ownBlock∧some k_≠(s_.1:Value).ownBlock) (.slice Ao65 t428.length co65) t428)∧(Kd.R k44 44 w' w.heap.size (fun k_=>some k_≠(v417:Value).ownBlock∧some k_≠(.slice Ao80 t443.length co80:Value).ownBlock∧some k_≠(s_.2.1:Value).ownBlock) (.slice Ao67 t431.length co67) t431)∧(Kd.R k69 69 w' w.heap.size (fun k_=>some k_≠(v414:Value).ownBlock∧some k_≠(.slice Ao65 t428.length co65:Value).ownBlock∧some k_≠(s_.1:Value).ownBlock) (.slice Ao79 t440.length co79) t440)∧(Kd.R k44 44 w' w.heap.size (fun k_=>some k_≠(v417:Value).ownBlock∧some k_≠(.slice Ao67 t431.length co67:Value).ownBlock∧some k_≠(s_.2.1:Value).ownBlock) (.slice Ao80 t443.length co80) t443)∧(Kd.R k69 69 w' w.heap.size (fun k_=>some k_≠(v414:Value).ownBlock∧some k_≠(.slice Ao65 t428.length co65:Value).ownBlock∧some k_≠(.slice Ao79 t440.length co79:Value).ownBlock) s_.1 t456)∧(Kd.R k44 44 w' w.heap.size (fun k_=>some k_≠(v417:Value).ownBlock∧some k_≠(.slice Ao67 t431.length co67:Value).ownBlock∧some k_≠(.slice Ao80 t443.length co80:Value).ownBlock) s_.2.1 t459)∧(w'.heap[gb407]?=some (.cells #[.int .i64 a0_0,.int .i64 a0_1,.slice A0_2 l0_2.length c0_2,.slice A0_3 l0_3.length c0_3,.int .i64 a0_4,.int .i64 a0_5] 85 (0,0)))∧(w'.heap[gb408]?=some (.cells #[.int .i64 a1_0,.int .i64 a1_1,.int .i64 a1_2,.int .i64 a1_3,.string a1_4] 34 (0,0)))∧(w'.heap[gb437]?=some (.cells #[.int .i64 t426,.int .i64 t427,.slice Ao65 t428.length co65,.slice Ao67 t431.length co67,.int .i64 t434,.int .i64 t435] 77 (0,0)))∧(w'.heap[gb448]?=some (.cells #[.int .i64 t438,.int .i64 t439,.slice Ao79 t440.length co79,.slice Ao80 t443.length co80,.int .i64 t446,.int .i64 t447] 77 (0,0)))∧(w'.heap[s_.2.2]?=some (.cells #[.int .i64 0,.int .i64 0,.slice none 0 0,.slice none 0 0,.int .i64 0,.int .i64 0] 77 (0,0)))∧(w.heap.size≤s_.2.2)∧(w.heap.size≤s_.2.2)∧(gb407≠s_.2.2)∧(s_.2.2≠gb407)∧(gb408≠s_.2.2)∧(s_.2.2≠gb408)∧(gb437≠s_.2.2)∧(s_.2.2≠gb437)∧(gb448≠s_.2.2)∧(s_.2.2≠gb448)∧(Below w.heap.size w w')) ?_ ?_
              rotate_left
              ·intro hCont
               refine two_ (i:=2) (j:=7) (Ni:=some 39) (Nj:=some 9) #[true,true,true,false,false,false,false,false,false,false] #[true,true,false,false,false,false,false,true,false,false] rfl rfl rfl rfl (two_of HT_.out (by kernel_rfl)) (by decide) (by decide) (fun K hK=>?_) (fun K hK=>?_)
               ·skip
                refine goes_ Tryd.func68 (by kernel_rfl) rfl #[.agg #[.int .i64 a1_0,.int .i64 a1_1,.int .i64 a1_2,.int .i64 a1_3,.string a1_4]] (by rfl) rfl rfl ar_ ?_
                with_reducible refine (laws_toOp.calls a1_0 a1_1 a1_2 a1_3 a1_4 t449 t450 t451 t452 t453 _ A23.out).mono ?_
                rintro e w83 ⟨rfl,hb⟩
                refine ⟨_,rfl,?_⟩
                replace HO415:=a_ (Kd.R_below (rp_ HO415.out) hb)
                replace HO418:=a_ (Kd.R_below (rp_ HO418.out) hb)
                replace HO430:=a_ (Kd.R_below (rp_ HO430.out) hb)
                replace HO433:=a_ (Kd.R_below (rp_ HO433.out) hb)
                replace HO442:=a_ (Kd.R_below (rp_ HO442.out) hb)
                replace HO445:=a_ (Kd.R_below (rp_ HO445.out) hb)
                replace HB:=a_ (bS_ (bel_) hb)
                replace BK407:=a_ (blk_below (g:=gb407) (o:=.cells #[.int .i64 a0_0,.int .i64 a0_1,.slice A0_2 l0_2.length c0_2,.slice A0_3 l0_3.length c0_3,.int .i64 a0_4,.int .i64 a0_5] 85 (0,0)) (bp_ BK407.out) hb)
                replace BK408:=a_ (blk_below (g:=gb408) (o:=.cells #[.int .i64 a1_0,.int .i64 a1_1,.int .i64 a1_2,.int .i64 a1_3,.string a1_4] 34 (0,0)) (bp_ BK408.out) hb)
                replace BK437:=a_ (blk_below (g:=gb437) (o:=.cells #[.int .i64 t426,.int .i64 t427,.slice Ao65 t428.length co65,.slice Ao67 t431.length co67,.int .i64 t434,.int .i64 t435] 77 (0,0)) (bp_ BK437.out) hb)
                replace BK448:=a_ (blk_below (g:=gb448) (o:=.cells #[.int .i64 t438,.int .i64 t439,.slice Ao79 t440.length co79,.slice Ao80 t443.length co80,.int .i64 t446,.int .i64 t447] 77 (0,0)) (bp_ BK448.out) hb)
                try clear hb
                refine hK.out _ _ ⟨(bC_ BK448.out 0).trans rfl,(bC_ BK448.out 1).trans rfl,(bC_ BK448.out 2).trans rfl,(bC_ BK448.out 3).trans rfl,(bC_ BK448.out 4).trans rfl,(bC_ BK448.out 5).trans rfl,(bC_ BK408.out 0).trans rfl,(bC_ BK408.out 1).trans rfl,(bC_ BK408.out 2).trans rfl,(bC_ BK408.out 3).trans rfl,(bC_ BK408.out 4).trans rfl⟩ (fun hHeld=>?_)
                clear hK K
                refine no_ 39 ?_
                refine two_ (i:=3) (j:=7) (Ni:=some 40) (Nj:=some 9) #[true,true,true,true,false,false,false,false,false,false] #[true,true,true,false,false,false,false,true,false,false] rfl rfl rfl rfl (two_of HT_.out (by kernel_rfl)) (by decide) (by decide) (fun K hK=>?_) (fun K hK=>?_)
                ·skip
                 refine goes_ Tryd.func69 (by kernel_rfl) rfl #[.agg #[.int .i64 t438,.int .i64 t439,.slice Ao79 t440.length co79,.slice Ao80 t443.length co80,.int .i64 t446,.int .i64 t447],.agg #[.int .i64 t449,.int .i64 t450,.int .i64 t451,.int .i64 t452,.string t453]] (by rfl) rfl rfl ar_ ?_
                 with_reducible refine (impl_ClientDo.calls k t438 t439 _ _ t440 _ _ t443 t446 t447 t449 t450 t451 t452 t453 t454 t455 t456 t459 t462 t463 t464 _ ?side1 ?side2 ?side3 ?side4 A24.out ?side5).mono ?_
                 (case side1=>exact cx_ (Kd.R_reads' HO442.out).2.2)
                 (case side2=>exact (Kd.R_reads' HO442.out).2.1)
                 (case side3=>exact cx_ (Kd.R_reads' HO445.out).2.2)
                 (case side4=>exact (Kd.R_reads' HO445.out).2.1)
                 (case side5=>exact Glob.below HG.out (bel_))
                 rintro e w84 ⟨v457,v460,rfl,ho0,ho1,hb⟩
                 refine ⟨_,rfl,?_⟩
                 have HO458:=a_ (Kd.R_lower (Kd.R_new' (Kd.R_new' (Kd.R_new' ho0 (Kd.R_lt (rp_ HO415.out))) (Kd.R_lt (rp_ HO430.out))) (Kd.R_lt (rp_ HO442.out))) (below_size (bel_)))
                 replace HO415:=a_ (Kd.R_elder' (rp_ HO415.out) (Kd.R_base ho0) hb)
                 replace HO430:=a_ (Kd.R_elder' (rp_ HO430.out) (Kd.R_base ho0) hb)
                 replace HO442:=a_ (Kd.R_elder' (rp_ HO442.out) (Kd.R_base ho0) hb)
                 have HO461:=a_ (Kd.R_lower (Kd.R_new' (Kd.R_new' (Kd.R_new' ho1 (Kd.R_lt (rp_ HO418.out))) (Kd.R_lt (rp_ HO433.out))) (Kd.R_lt (rp_ HO445.out))) (below_size (bel_)))
                 replace HO418:=a_ (Kd.R_elder' (rp_ HO418.out) (Kd.R_base ho1) hb)
                 replace HO433:=a_ (Kd.R_elder' (rp_ HO433.out) (Kd.R_base ho1) hb)
                 replace HO445:=a_ (Kd.R_elder' (rp_ HO445.out) (Kd.R_base ho1) hb)
                 replace HB:=a_ (bS_ (bel_) hb)
                 replace BK407:=a_ (blk_below (g:=gb407) (o:=.cells #[.int .i64 a0_0,.int .i64 a0_1,.slice A0_2 l0_2.length c0_2,.slice A0_3 l0_3.length c0_3,.int .i64 a0_4,.int .i64 a0_5] 85 (0,0)) (bp_ BK407.out) hb)
                 replace BK408:=a_ (blk_below (g:=gb408) (o:=.cells #[.int .i64 a1_0,.int .i64 a1_1,.int .i64 a1_2,.int .i64 a1_3,.string a1_4] 34 (0,0)) (bp_ BK408.out) hb)
                 replace BK437:=a_ (blk_below (g:=gb437) (o:=.cells #[.int .i64 t426,.int .i64 t427,.slice Ao65 t428.length co65,.slice Ao67 t431.length co67,.int .i64 t434,.int .i64 t435] 77 (0,0)) (bp_ BK437.out) hb)
                 replace BK448:=a_ (blk_below (g:=gb448) (o:=.cells #[.int .i64 t438,.int .i64 t439,.slice Ao79 t440.length co79,.slice Ao80 t443.length co80,.int .i64 t446,.int .i64 t447] 77 (0,0)) (bp_ BK448.out) hb)
                 try clear hb ho0 ho1
                 refine hK.out _ _ ⟨(bC_ BK448.out 0).trans rfl,(bC_ BK448.out 1).trans rfl,(bC_ BK448.out 2).trans rfl,(bC_ BK448.out 3).trans rfl,(bC_ BK448.out 4).trans rfl,(bC_ BK448.out 5).trans rfl,(bC_ BK408.out 0).trans rfl,(bC_ BK408.out 1).trans rfl,(bC_ BK408.out 2).trans rfl,(bC_ BK408.out 3).trans rfl,(bC_ BK408.out 4).trans rfl⟩ (fun hHeld=>?_)
                 clear hK K
                 refine no_ 40 ?_
                 refine pa_ 4 36 ?_
                 refine pa_ 5 41 ?_
                 refine pa_ 6 42 ?_
                 refine on_ 7 9 (fun K hK=>?_)
                 refine box_step ?hg (N:=9) ?hd (cs:=#[.int .i64 0,.int .i64 0,.slice none 0 0,.slice none 0 0,.int .i64 0,.int .i64 0]) (t:=77) ?hr ?_;(case hd=>rfl);(case hg=>rfl);(case hr=>first|(go_simp;done)|(go_simp;rfl))
                 intro gb465 hg w85 hbox hb
                 replace HO415:=a_ (Kd.R_below (rp_ HO415.out) hb)
                 replace HO418:=a_ (Kd.R_below (rp_ HO418.out) hb)
                 replace HO430:=a_ (Kd.R_below (rp_ HO430.out) hb)
                 replace HO433:=a_ (Kd.R_below (rp_ HO433.out) hb)
                 replace HO442:=a_ (Kd.R_below (rp_ HO442.out) hb)
                 replace HO445:=a_ (Kd.R_below (rp_ HO445.out) hb)
                 replace HO458:=a_ (Kd.R_below (rp_ HO458.out) hb)
                 replace HO461:=a_ (Kd.R_below (rp_ HO461.out) hb)
                 have BK465:=a_ (hbox)
                 have GW465:=a_ ((by rw [hg];exact (below_size (bel_)):w.heap.size≤gb465))
                 have GE465:=a_ ((by rw [hg];exact (below_size (bel_)):w.heap.size≤gb465))
                 replace HB:=a_ (bS_ (bel_) hb)
                 have NB407_465:=a_ ((by rw [hg];exact Nat.ne_of_lt (blk_lt (g:=gb407) (o:=.cells #[.int .i64 a0_0,.int .i64 a0_1,.slice A0_2 l0_2.length c0_2,.slice A0_3 l0_3.length c0_3,.int .i64 a0_4,.int .i64 a0_5] 85 (0,0)) (bp_ BK407.out)):gb407≠gb465))
                 have NB465_407:=a_ ((by rw [hg];exact Nat.ne_of_gt (blk_lt (g:=gb407) (o:=.cells #[.int .i64 a0_0,.int .i64 a0_1,.slice A0_2 l0_2.length c0_2,.slice A0_3 l0_3.length c0_3,.int .i64 a0_4,.int .i64 a0_5] 85 (0,0)) (bp_ BK407.out)):gb465≠gb407))
                 replace BK407:=a_ (blk_below (g:=gb407) (o:=.cells #[.int .i64 a0_0,.int .i64 a0_1,.slice A0_2 l0_2.length c0_2,.slice A0_3 l0_3.length c0_3,.int .i64 a0_4,.int .i64 a0_5] 85 (0,0)) (bp_ BK407.out) hb)
                 have NB408_465:=a_ ((by rw [hg];exact Nat.ne_of_lt (blk_lt (g:=gb408) (o:=.cells #[.int .i64 a1_0,.int .i64 a1_1,.int .i64 a1_2,.int .i64 a1_3,.string a1_4] 34 (0,0)) (bp_ BK408.out)):gb408≠gb465))
                 have NB465_408:=a_ ((by rw [hg];exact Nat.ne_of_gt (blk_lt (g:=gb408) (o:=.cells #[.int .i64 a1_0,.int .i64 a1_1,.int .i64 a1_2,.int .i64 a1_3,.string a1_4] 34 (0,0)) (bp_ BK408.out)):gb465≠gb408))
                 replace BK408:=a_ (blk_below (g:=gb408) (o:=.cells #[.int .i64 a1_0,.int .i64 a1_1,.int .i64 a1_2,.int .i64 a1_3,.string a1_4] 34 (0,0)) (bp_ BK408.out) hb)
                 have NB437_465:=a_ ((by rw [hg];exact Nat.ne_of_lt (blk_lt (g:=gb437) (o:=.cells #[.int .i64 t426,.int .i64 t427,.slice Ao65 t428.length co65,.slice Ao67 t431.length co67,.int .i64 t434,.int .i64 t435] 77 (0,0)) (bp_ BK437.out)):gb437≠gb465))
                 have NB465_437:=a_ ((by rw [hg];exact Nat.ne_of_gt (blk_lt (g:=gb437) (o:=.cells #[.int .i64 t426,.int .i64 t427,.slice Ao65 t428.length co65,.slice Ao67 t431.length co67,.int .i64 t434,.int .i64 t435] 77 (0,0)) (bp_ BK437.out)):gb465≠gb437))
                 replace BK437:=a_ (blk_below (g:=gb437) (o:=.cells #[.int .i64 t426,.int .i64 t427,.slice Ao65 t428.length co65,.slice Ao67 t431.length co67,.int .i64 t434,.int .i64 t435] 77 (0,0)) (bp_ BK437.out) hb)
                 have NB448_465:=a_ ((by rw [hg];exact Nat.ne_of_lt (blk_lt (g:=gb448) (o:=.cells #[.int .i64 t438,.int .i64 t439,.slice Ao79 t440.length co79,.slice Ao80 t443.length co80,.int .i64 t446,.int .i64 t447] 77 (0,0)) (bp_ BK448.out)):gb448≠gb465))
                 have NB465_448:=a_ ((by rw [hg];exact Nat.ne_of_gt (blk_lt (g:=gb448) (o:=.cells #[.int .i64 t438,.int .i64 t439,.slice Ao79 t440.length co79,.slice Ao80 t443.length co80,.int .i64 t446,.int .i64 t447] 77 (0,0)) (bp_ BK448.out)):gb465≠gb448))
                 replace BK448:=a_ (blk_below (g:=gb448) (o:=.cells #[.int .i64 t438,.int .i64 t439,.slice Ao79 t440.length co79,.slice Ao80 t443.length co80,.int .i64 t446,.int .i64 t447] 77 (0,0)) (bp_ BK448.out) hb)
                 clear hb hbox hg
                 refine hK.out _ _ ⟨(bC_ BK448.out 0).trans rfl,(bC_ BK448.out 1).trans rfl,(bC_ BK448.out 2).trans rfl,(bC_ BK448.out 3).trans rfl,(bC_ BK448.out 4).trans rfl,(bC_ BK448.out 5).trans rfl,(bC_ BK408.out 0).trans rfl,(bC_ BK408.out 1).trans rfl,(bC_ BK408.out 2).trans rfl,(bC_ BK408.out 3).trans rfl,(bC_ BK408.out 4).trans rfl⟩ (fun hHeld=>?_)
                 clear hK K
                 refine no_ 9 ?_
                 exact norm_ (by simp only [putAll,Act.put,List.setIfInBounds_toArray,List.set_cons_zero,List.set_cons_succ]) (hCont (v457,v460,gb465) _ ⟨hHeld,(by (with_reducible repeat (first|apply Kd.R_alloc|apply Kd.R_drewN|apply Kd.R_drew));exact Kd.R_mono HO415.out (fun _ hk=>⟨hk.1.1,⟨hk.1.2,hk.2⟩⟩)),(by (with_reducible repeat (first|apply Kd.R_alloc|apply Kd.R_drewN|apply Kd.R_drew));exact Kd.R_mono HO418.out (fun _ hk=>⟨hk.1.1,⟨hk.1.2,hk.2⟩⟩)),(by (with_reducible repeat (first|apply Kd.R_alloc|apply Kd.R_drewN|apply Kd.R_drew));exact Kd.R_mono HO430.out (fun _ hk=>⟨hk.1.1,⟨hk.1.2,hk.2⟩⟩)),(by (with_reducible repeat (first|apply Kd.R_alloc|apply Kd.R_drewN|apply Kd.R_drew));exact Kd.R_mono HO433.out (fun _ hk=>⟨hk.1.1,⟨hk.1.2,hk.2⟩⟩)),(by (with_reducible repeat (first|apply Kd.R_alloc|apply Kd.R_drewN|apply Kd.R_drew));exact Kd.R_mono HO442.out (fun _ hk=>⟨hk.1.1,⟨hk.1.2,hk.2⟩⟩)),(by (with_reducible repeat (first|apply Kd.R_alloc|apply Kd.R_drewN|apply Kd.R_drew));exact Kd.R_mono HO445.out (fun _ hk=>⟨hk.1.1,⟨hk.1.2,hk.2⟩⟩)),(by (with_reducible repeat (first|apply Kd.R_alloc|apply Kd.R_drewN|apply Kd.R_drew));exact Kd.R_mono HO458.out (fun _ hk=>⟨hk.1.1.2,⟨hk.1.2,hk.2⟩⟩)),(by (with_reducible repeat (first|apply Kd.R_alloc|apply Kd.R_drewN|apply Kd.R_drew));exact Kd.R_mono HO461.out (fun _ hk=>⟨hk.1.1.2,⟨hk.1.2,hk.2⟩⟩)),(bp_ BK407.out),(bp_ BK408.out),(bp_ BK437.out),(bp_ BK448.out),(bp_ BK465.out),GW465.out,GE465.out,NB407_465.out,NB465_407.out,NB408_465.out,NB465_408.out,NB437_465.out,NB465_437.out,NB448_465.out,NB465_448.out,(bel_)⟩)
                ·skip
                 refine box_step ?hg (N:=9) ?hd (cs:=#[.int .i64 0,.int .i64 0,.slice none 0 0,.slice none 0 0,.int .i64 0,.int .i64 0]) (t:=77) ?hr ?_;(case hd=>rfl);(case hg=>rfl);(case hr=>first|(go_simp;done)|(go_simp;rfl))
                 intro gb465 hg w84 hbox hb
                 replace HO415:=a_ (Kd.R_below (rp_ HO415.out) hb)
                 replace HO418:=a_ (Kd.R_below (rp_ HO418.out) hb)
                 replace HO430:=a_ (Kd.R_below (rp_ HO430.out) hb)
                 replace HO433:=a_ (Kd.R_below (rp_ HO433.out) hb)
                 replace HO442:=a_ (Kd.R_below (rp_ HO442.out) hb)
                 replace HO445:=a_ (Kd.R_below (rp_ HO445.out) hb)
                 have BK465:=a_ (hbox)
                 have GW465:=a_ ((by rw [hg];exact (below_size (bel_)):w.heap.size≤gb465))
                 have GE465:=a_ ((by rw [hg];exact (below_size (bel_)):w.heap.size≤gb465))
                 replace HB:=a_ (bS_ (bel_) hb)
                 have NB407_465:=a_ ((by rw [hg];exact Nat.ne_of_lt (blk_lt (g:=gb407) (o:=.cells #[.int .i64 a0_0,.int .i64 a0_1,.slice A0_2 l0_2.length c0_2,.slice A0_3 l0_3.length c0_3,.int .i64 a0_4,.int .i64 a0_5] 85 (0,0)) (bp_ BK407.out)):gb407≠gb465))
                 have NB465_407:=a_ ((by rw [hg];exact Nat.ne_of_gt (blk_lt (g:=gb407) (o:=.cells #[.int .i64 a0_0,.int .i64 a0_1,.slice A0_2 l0_2.length c0_2,.slice A0_3 l0_3.length c0_3,.int .i64 a0_4,.int .i64 a0_5] 85 (0,0)) (bp_ BK407.out)):gb465≠gb407))
                 replace BK407:=a_ (blk_below (g:=gb407) (o:=.cells #[.int .i64 a0_0,.int .i64 a0_1,.slice A0_2 l0_2.length c0_2,.slice A0_3 l0_3.length c0_3,.int .i64 a0_4,.int .i64 a0_5] 85 (0,0)) (bp_ BK407.out) hb)
                 have NB408_465:=a_ ((by rw [hg];exact Nat.ne_of_lt (blk_lt (g:=gb408) (o:=.cells #[.int .i64 a1_0,.int .i64 a1_1,.int .i64 a1_2,.int .i64 a1_3,.string a1_4] 34 (0,0)) (bp_ BK408.out)):gb408≠gb465))
                 have NB465_408:=a_ ((by rw [hg];exact Nat.ne_of_gt (blk_lt (g:=gb408) (o:=.cells #[.int .i64 a1_0,.int .i64 a1_1,.int .i64 a1_2,.int .i64 a1_3,.string a1_4] 34 (0,0)) (bp_ BK408.out)):gb465≠gb408))
                 replace BK408:=a_ (blk_below (g:=gb408) (o:=.cells #[.int .i64 a1_0,.int .i64 a1_1,.int .i64 a1_2,.int .i64 a1_3,.string a1_4] 34 (0,0)) (bp_ BK408.out) hb)
                 have NB437_465:=a_ ((by rw [hg];exact Nat.ne_of_lt (blk_lt (g:=gb437) (o:=.cells #[.int .i64 t426,.int .i64 t427,.slice Ao65 t428.length co65,.slice Ao67 t431.length co67,.int .i64 t434,.int .i64 t435] 77 (0,0)) (bp_ BK437.out)):gb437≠gb465))
                 have NB465_437:=a_ ((by rw [hg];exact Nat.ne_of_gt (blk_lt (g:=gb437) (o:=.cells #[.int .i64 t426,.int .i64 t427,.slice Ao65 t428.length co65,.slice Ao67 t431.length co67,.int .i64 t434,.int .i64 t435] 77 (0,0)) (bp_ BK437.out)):gb465≠gb437))
                 replace BK437:=a_ (blk_below (g:=gb437) (o:=.cells #[.int .i64 t426,.int .i64 t427,.slice Ao65 t428.length co65,.slice Ao67 t431.length co67,.int .i64 t434,.int .i64 t435] 77 (0,0)) (bp_ BK437.out) hb)
                 have NB448_465:=a_ ((by rw [hg];exact Nat.ne_of_lt (blk_lt (g:=gb448) (o:=.cells #[.int .i64 t438,.int .i64 t439,.slice Ao79 t440.length co79,.slice Ao80 t443.length co80,.int .i64 t446,.int .i64 t447] 77 (0,0)) (bp_ BK448.out)):gb448≠gb465))
                 have NB465_448:=a_ ((by rw [hg];exact Nat.ne_of_gt (blk_lt (g:=gb448) (o:=.cells #[.int .i64 t438,.int .i64 t439,.slice Ao79 t440.length co79,.slice Ao80 t443.length co80,.int .i64 t446,.int .i64 t447] 77 (0,0)) (bp_ BK448.out)):gb465≠gb448))
                 replace BK448:=a_ (blk_below (g:=gb448) (o:=.cells #[.int .i64 t438,.int .i64 t439,.slice Ao79 t440.length co79,.slice Ao80 t443.length co80,.int .i64 t446,.int .i64 t447] 77 (0,0)) (bp_ BK448.out) hb)
                 clear hb hbox hg
                 refine hK.out _ _ ⟨(bC_ BK448.out 0).trans rfl,(bC_ BK448.out 1).trans rfl,(bC_ BK448.out 2).trans rfl,(bC_ BK448.out 3).trans rfl,(bC_ BK448.out 4).trans rfl,(bC_ BK448.out 5).trans rfl,(bC_ BK408.out 0).trans rfl,(bC_ BK408.out 1).trans rfl,(bC_ BK408.out 2).trans rfl,(bC_ BK408.out 3).trans rfl,(bC_ BK408.out 4).trans rfl⟩ (fun hHeld=>?_)
                 clear hK K
                 refine no_ 9 ?_
                 refine on_ 3 40 (fun K hK=>?_)
                 refine goes_ Tryd.func69 (by kernel_rfl) rfl #[.agg #[.int .i64 t438,.int .i64 t439,.slice Ao79 t440.length co79,.slice Ao80 t443.length co80,.int .i64 t446,.int .i64 t447],.agg #[.int .i64 t449,.int .i64 t450,.int .i64 t451,.int .i64 t452,.string t453]] (by rfl) rfl rfl ar_ ?_
                 with_reducible refine (impl_ClientDo.calls k t438 t439 _ _ t440 _ _ t443 t446 t447 t449 t450 t451 t452 t453 t454 t455 t456 t459 t462 t463 t464 _ ?side1 ?side2 ?side3 ?side4 A24.out ?side5).mono ?_
                 (case side1=>exact cx_ (Kd.R_reads' HO442.out).2.2)
                 (case side2=>exact (Kd.R_reads' HO442.out).2.1)
                 (case side3=>exact cx_ (Kd.R_reads' HO445.out).2.2)
                 (case side4=>exact (Kd.R_reads' HO445.out).2.1)
                 (case side5=>exact Glob.below HG.out (bel_))
                 rintro e w85 ⟨v457,v460,rfl,ho0,ho1,hb⟩
                 refine ⟨_,rfl,?_⟩
                 have HO458:=a_ (Kd.R_lower (Kd.R_new' (Kd.R_new' (Kd.R_new' ho0 (Kd.R_lt (rp_ HO415.out))) (Kd.R_lt (rp_ HO430.out))) (Kd.R_lt (rp_ HO442.out))) (below_size (bel_)))
                 replace HO415:=a_ (Kd.R_elder' (rp_ HO415.out) (Kd.R_base ho0) hb)
                 replace HO430:=a_ (Kd.R_elder' (rp_ HO430.out) (Kd.R_base ho0) hb)
                 replace HO442:=a_ (Kd.R_elder' (rp_ HO442.out) (Kd.R_base ho0) hb)
                 have HO461:=a_ (Kd.R_lower (Kd.R_new' (Kd.R_new' (Kd.R_new' ho1 (Kd.R_lt (rp_ HO418.out))) (Kd.R_lt (rp_ HO433.out))) (Kd.R_lt (rp_ HO445.out))) (below_size (bel_)))
                 replace HO418:=a_ (Kd.R_elder' (rp_ HO418.out) (Kd.R_base ho1) hb)
                 replace HO433:=a_ (Kd.R_elder' (rp_ HO433.out) (Kd.R_base ho1) hb)
                 replace HO445:=a_ (Kd.R_elder' (rp_ HO445.out) (Kd.R_base ho1) hb)
                 replace HB:=a_ (bS_ (bel_) hb)
                 replace BK407:=a_ (blk_below (g:=gb407) (o:=.cells #[.int .i64 a0_0,.int .i64 a0_1,.slice A0_2 l0_2.length c0_2,.slice A0_3 l0_3.length c0_3,.int .i64 a0_4,.int .i64 a0_5] 85 (0,0)) (bp_ BK407.out) hb)
                 replace BK408:=a_ (blk_below (g:=gb408) (o:=.cells #[.int .i64 a1_0,.int .i64 a1_1,.int .i64 a1_2,.int .i64 a1_3,.string a1_4] 34 (0,0)) (bp_ BK408.out) hb)
                 replace BK437:=a_ (blk_below (g:=gb437) (o:=.cells #[.int .i64 t426,.int .i64 t427,.slice Ao65 t428.length co65,.slice Ao67 t431.length co67,.int .i64 t434,.int .i64 t435] 77 (0,0)) (bp_ BK437.out) hb)
                 replace BK448:=a_ (blk_below (g:=gb448) (o:=.cells #[.int .i64 t438,.int .i64 t439,.slice Ao79 t440.length co79,.slice Ao80 t443.length co80,.int .i64 t446,.int .i64 t447] 77 (0,0)) (bp_ BK448.out) hb)
                 replace BK465:=a_ (blk_below (g:=gb465) (o:=.cells #[.int .i64 0,.int .i64 0,.slice none 0 0,.slice none 0 0,.int .i64 0,.int .i64 0] 77 (0,0)) (bp_ BK465.out) hb)
                 try clear hb ho0 ho1
                 refine hK.out _ _ ⟨(bC_ BK448.out 0).trans rfl,(bC_ BK448.out 1).trans rfl,(bC_ BK448.out 2).trans rfl,(bC_ BK448.out 3).trans rfl,(bC_ BK448.out 4).trans rfl,(bC_ BK448.out 5).trans rfl,(bC_ BK408.out 0).trans rfl,(bC_ BK408.out 1).trans rfl,(bC_ BK408.out 2).trans rfl,(bC_ BK408.out 3).trans rfl,(bC_ BK408.out 4).trans rfl⟩ (fun hHeld=>?_)
                 clear hK K
                 refine no_ 40 ?_
                 refine pa_ 4 36 ?_
                 refine pa_ 5 41 ?_
                 refine pa_ 6 42 ?_
                 exact norm_ (by simp only [putAll,Act.put,List.setIfInBounds_toArray,List.set_cons_zero,List.set_cons_succ]) (hCont (v457,v460,gb465) _ ⟨hHeld,(by (with_reducible repeat (first|apply Kd.R_alloc|apply Kd.R_drewN|apply Kd.R_drew));exact Kd.R_mono HO415.out (fun _ hk=>⟨hk.1.1,⟨hk.1.2,hk.2⟩⟩)),(by (with_reducible repeat (first|apply Kd.R_alloc|apply Kd.R_drewN|apply Kd.R_drew));exact Kd.R_mono HO418.out (fun _ hk=>⟨hk.1.1,⟨hk.1.2,hk.2⟩⟩)),(by (with_reducible repeat (first|apply Kd.R_alloc|apply Kd.R_drewN|apply Kd.R_drew));exact Kd.R_mono HO430.out (fun _ hk=>⟨hk.1.1,⟨hk.1.2,hk.2⟩⟩)),(by (with_reducible repeat (first|apply Kd.R_alloc|apply Kd.R_drewN|apply Kd.R_drew));exact Kd.R_mono HO433.out (fun _ hk=>⟨hk.1.1,⟨hk.1.2,hk.2⟩⟩)),(by (with_reducible repeat (first|apply Kd.R_alloc|apply Kd.R_drewN|apply Kd.R_drew));exact Kd.R_mono HO442.out (fun _ hk=>⟨hk.1.1,⟨hk.1.2,hk.2⟩⟩)),(by (with_reducible repeat (first|apply Kd.R_alloc|apply Kd.R_drewN|apply Kd.R_drew));exact Kd.R_mono HO445.out (fun _ hk=>⟨hk.1.1,⟨hk.1.2,hk.2⟩⟩)),(by (with_reducible repeat (first|apply Kd.R_alloc|apply Kd.R_drewN|apply Kd.R_drew));exact Kd.R_mono HO458.out (fun _ hk=>⟨hk.1.1.2,⟨hk.1.2,hk.2⟩⟩)),(by (with_reducible repeat (first|apply Kd.R_alloc|apply Kd.R_drewN|apply Kd.R_drew));exact Kd.R_mono HO461.out (fun _ hk=>⟨hk.1.1.2,⟨hk.1.2,hk.2⟩⟩)),(bp_ BK407.out),(bp_ BK408.out),(bp_ BK437.out),(bp_ BK448.out),(bp_ BK465.out),GW465.out,GE465.out,NB407_465.out,NB465_407.out,NB408_465.out,NB465_408.out,NB437_465.out,NB465_437.out,NB448_465.out,NB465_448.out,(bel_)⟩)
               ·skip
                refine box_step ?hg (N:=9) ?hd (cs:=#[.int .i64 0,.int .i64 0,.slice none 0 0,.slice none 0 0,.int .i64 0,.int .i64 0]) (t:=77) ?hr ?_;(case hd=>rfl);(case hg=>rfl);(case hr=>first|(go_simp;done)|(go_simp;rfl))
                intro gb465 hg w83 hbox hb
                replace HO415:=a_ (Kd.R_below (rp_ HO415.out) hb)
                replace HO418:=a_ (Kd.R_below (rp_ HO418.out) hb)
                replace HO430:=a_ (Kd.R_below (rp_ HO430.out) hb)
                replace HO433:=a_ (Kd.R_below (rp_ HO433.out) hb)
                replace HO442:=a_ (Kd.R_below (rp_ HO442.out) hb)
                replace HO445:=a_ (Kd.R_below (rp_ HO445.out) hb)
                have BK465:=a_ (hbox)
                have GW465:=a_ ((by rw [hg];exact (below_size (bel_)):w.heap.size≤gb465))
                have GE465:=a_ ((by rw [hg];exact (below_size (bel_)):w.heap.size≤gb465))
                replace HB:=a_ (bS_ (bel_) hb)
                have NB407_465:=a_ ((by rw [hg];exact Nat.ne_of_lt (blk_lt (g:=gb407) (o:=.cells #[.int .i64 a0_0,.int .i64 a0_1,.slice A0_2 l0_2.length c0_2,.slice A0_3 l0_3.length c0_3,.int .i64 a0_4,.int .i64 a0_5] 85 (0,0)) (bp_ BK407.out)):gb407≠gb465))
                have NB465_407:=a_ ((by rw [hg];exact Nat.ne_of_gt (blk_lt (g:=gb407) (o:=.cells #[.int .i64 a0_0,.int .i64 a0_1,.slice A0_2 l0_2.length c0_2,.slice A0_3 l0_3.length c0_3,.int .i64 a0_4,.int .i64 a0_5] 85 (0,0)) (bp_ BK407.out)):gb465≠gb407))
                replace BK407:=a_ (blk_below (g:=gb407) (o:=.cells #[.int .i64 a0_0,.int .i64 a0_1,.slice A0_2 l0_2.length c0_2,.slice A0_3 l0_3.length c0_3,.int .i64 a0_4,.int .i64 a0_5] 85 (0,0)) (bp_ BK407.out) hb)
                have NB408_465:=a_ ((by rw [hg];exact Nat.ne_of_lt (blk_lt (g:=gb408) (o:=.cells #[.int .i64 a1_0,.int .i64 a1_1,.int .i64 a1_2,.int .i64 a1_3,.string a1_4] 34 (0,0)) (bp_ BK408.out)):gb408≠gb465))
                have NB465_408:=a_ ((by rw [hg];exact Nat.ne_of_gt (blk_lt (g:=gb408) (o:=.cells #[.int .i64 a1_0,.int .i64 a1_1,.int .i64 a1_2,.int .i64 a1_3,.string a1_4] 34 (0,0)) (bp_ BK408.out)):gb465≠gb408))
                replace BK408:=a_ (blk_below (g:=gb408) (o:=.cells #[.int .i64 a1_0,.int .i64 a1_1,.int .i64 a1_2,.int .i64 a1_3,.string a1_4] 34 (0,0)) (bp_ BK408.out) hb)
                have NB437_465:=a_ ((by rw [hg];exact Nat.ne_of_lt (blk_lt (g:=gb437) (o:=.cells #[.int .i64 t426,.int .i64 t427,.slice Ao65 t428.length co65,.slice Ao67 t431.length co67,.int .i64 t434,.int .i64 t435] 77 (0,0)) (bp_ BK437.out)):gb437≠gb465))
                have NB465_437:=a_ ((by rw [hg];exact Nat.ne_of_gt (blk_lt (g:=gb437) (o:=.cells #[.int .i64 t426,.int .i64 t427,.slice Ao65 t428.length co65,.slice Ao67 t431.length co67,.int .i64 t434,.int .i64 t435] 77 (0,0)) (bp_ BK437.out)):gb465≠gb437))
                replace BK437:=a_ (blk_below (g:=gb437) (o:=.cells #[.int .i64 t426,.int .i64 t427,.slice Ao65 t428.length co65,.slice Ao67 t431.length co67,.int .i64 t434,.int .i64 t435] 77 (0,0)) (bp_ BK437.out) hb)
                have NB448_465:=a_ ((by rw [hg];exact Nat.ne_of_lt (blk_lt (g:=gb448) (o:=.cells #[.int .i64 t438,.int .i64 t439,.slice Ao79 t440.length co79,.slice Ao80 t443.length co80,.int .i64 t446,.int .i64 t447] 77 (0,0)) (bp_ BK448.out)):gb448≠gb465))
                have NB465_448:=a_ ((by rw [hg];exact Nat.ne_of_gt (blk_lt (g:=gb448) (o:=.cells #[.int .i64 t438,.int .i64 t439,.slice Ao79 t440.length co79,.slice Ao80 t443.length co80,.int .i64 t446,.int .i64 t447] 77 (0,0)) (bp_ BK448.out)):gb465≠gb448))
                replace BK448:=a_ (blk_below (g:=gb448) (o:=.cells #[.int .i64 t438,.int .i64 t439,.slice Ao79 t440.length co79,.slice Ao80 t443.length co80,.int .i64 t446,.int .i64 t447] 77 (0,0)) (bp_ BK448.out) hb)
                clear hb hbox hg
                refine hK.out _ _ ⟨(bC_ BK448.out 0).trans rfl,(bC_ BK448.out 1).trans rfl,(bC_ BK448.out 2).trans rfl,(bC_ BK448.out 3).trans rfl,(bC_ BK448.out 4).trans rfl,(bC_ BK448.out 5).trans rfl,(bC_ BK408.out 0).trans rfl,(bC_ BK408.out 1).trans rfl,(bC_ BK408.out 2).trans rfl,(bC_ BK408.out 3).trans rfl,(bC_ BK408.out 4).trans rfl⟩ (fun hHeld=>?_)
                clear hK K
                refine no_ 9 ?_
                refine on_ 2 39 (fun K hK=>?_)
                refine goes_ Tryd.func68 (by kernel_rfl) rfl #[.agg #[.int .i64 a1_0,.int .i64 a1_1,.int .i64 a1_2,.int .i64 a1_3,.string a1_4]] (by rfl) rfl rfl ar_ ?_
                with_reducible refine (laws_toOp.calls a1_0 a1_1 a1_2 a1_3 a1_4 t449 t450 t451 t452 t453 _ A23.out).mono ?_
                rintro e w84 ⟨rfl,hb⟩
                refine ⟨_,rfl,?_⟩
                replace HO415:=a_ (Kd.R_below (rp_ HO415.out) hb)
                replace HO418:=a_ (Kd.R_below (rp_ HO418.out) hb)
                replace HO430:=a_ (Kd.R_below (rp_ HO430.out) hb)
                replace HO433:=a_ (Kd.R_below (rp_ HO433.out) hb)
                replace HO442:=a_ (Kd.R_below (rp_ HO442.out) hb)
                replace HO445:=a_ (Kd.R_below (rp_ HO445.out) hb)
                replace HB:=a_ (bS_ (bel_) hb)
                replace BK407:=a_ (blk_below (g:=gb407) (o:=.cells #[.int .i64 a0_0,.int .i64 a0_1,.slice A0_2 l0_2.length c0_2,.slice A0_3 l0_3.length c0_3,.int .i64 a0_4,.int .i64 a0_5] 85 (0,0)) (bp_ BK407.out) hb)
                replace BK408:=a_ (blk_below (g:=gb408) (o:=.cells #[.int .i64 a1_0,.int .i64 a1_1,.int .i64 a1_2,.int .i64 a1_3,.string a1_4] 34 (0,0)) (bp_ BK408.out) hb)
                replace BK437:=a_ (blk_below (g:=gb437) (o:=.cells #[.int .i64 t426,.int .i64 t427,.slice Ao65 t428.length co65,.slice Ao67 t431.length co67,.int .i64 t434,.int .i64 t435] 77 (0,0)) (bp_ BK437.out) hb)
                replace BK448:=a_ (blk_below (g:=gb448) (o:=.cells #[.int .i64 t438,.int .i64 t439,.slice Ao79 t440.length co79,.slice Ao80 t443.length co80,.int .i64 t446,.int .i64 t447] 77 (0,0)) (bp_ BK448.out) hb)
                replace BK465:=a_ (blk_below (g:=gb465) (o:=.cells #[.int .i64 0,.int .i64 0,.slice none 0 0,.slice none 0 0,.int .i64 0,.int .i64 0] 77 (0,0)) (bp_ BK465.out) hb)
                try clear hb
                refine hK.out _ _ ⟨(bC_ BK448.out 0).trans rfl,(bC_ BK448.out 1).trans rfl,(bC_ BK448.out 2).trans rfl,(bC_ BK448.out 3).trans rfl,(bC_ BK448.out 4).trans rfl,(bC_ BK448.out 5).trans rfl,(bC_ BK408.out 0).trans rfl,(bC_ BK408.out 1).trans rfl,(bC_ BK408.out 2).trans rfl,(bC_ BK408.out 3).trans rfl,(bC_ BK408.out 4).trans rfl⟩ (fun hHeld=>?_)
                clear hK K
                refine no_ 39 ?_
                refine on_ 3 40 (fun K hK=>?_)
                refine goes_ Tryd.func69 (by kernel_rfl) rfl #[.agg #[.int .i64 t438,.int .i64 t439,.slice Ao79 t440.length co79,.slice Ao80 t443.length co80,.int .i64 t446,.int .i64 t447],.agg #[.int .i64 t449,.int .i64 t450,.int .i64 t451,.int .i64 t452,.string t453]] (by rfl) rfl rfl ar_ ?_
                with_reducible refine (impl_ClientDo.calls k t438 t439 _ _ t440 _ _ t443 t446 t447 t449 t450 t451 t452 t453 t454 t455 t456 t459 t462 t463 t464 _ ?side1 ?side2 ?side3 ?side4 A24.out ?side5).mono ?_
                (case side1=>exact cx_ (Kd.R_reads' HO442.out).2.2)
                (case side2=>exact (Kd.R_reads' HO442.out).2.1)
                (case side3=>exact cx_ (Kd.R_reads' HO445.out).2.2)
                (case side4=>exact (Kd.R_reads' HO445.out).2.1)
                (case side5=>exact Glob.below HG.out (bel_))
                rintro e w85 ⟨v457,v460,rfl,ho0,ho1,hb⟩
                refine ⟨_,rfl,?_⟩
                have HO458:=a_ (Kd.R_lower (Kd.R_new' (Kd.R_new' (Kd.R_new' ho0 (Kd.R_lt (rp_ HO415.out))) (Kd.R_lt (rp_ HO430.out))) (Kd.R_lt (rp_ HO442.out))) (below_size (bel_)))
                replace HO415:=a_ (Kd.R_elder' (rp_ HO415.out) (Kd.R_base ho0) hb)
                replace HO430:=a_ (Kd.R_elder' (rp_ HO430.out) (Kd.R_base ho0) hb)
                replace HO442:=a_ (Kd.R_elder' (rp_ HO442.out) (Kd.R_base ho0) hb)
                have HO461:=a_ (Kd.R_lower (Kd.R_new' (Kd.R_new' (Kd.R_new' ho1 (Kd.R_lt (rp_ HO418.out))) (Kd.R_lt (rp_ HO433.out))) (Kd.R_lt (rp_ HO445.out))) (below_size (bel_)))
                replace HO418:=a_ (Kd.R_elder' (rp_ HO418.out) (Kd.R_base ho1) hb)
                replace HO433:=a_ (Kd.R_elder' (rp_ HO433.out) (Kd.R_base ho1) hb)
                replace HO445:=a_ (Kd.R_elder' (rp_ HO445.out) (Kd.R_base ho1) hb)
                replace HB:=a_ (bS_ (bel_) hb)
                replace BK407:=a_ (blk_below (g:=gb407) (o:=.cells #[.int .i64 a0_0,.int .i64 a0_1,.slice A0_2 l0_2.length c0_2,.slice A0_3 l0_3.length c0_3,.int .i64 a0_4,.int .i64 a0_5] 85 (0,0)) (bp_ BK407.out) hb)
                replace BK408:=a_ (blk_below (g:=gb408) (o:=.cells #[.int .i64 a1_0,.int .i64 a1_1,.int .i64 a1_2,.int .i64 a1_3,.string a1_4] 34 (0,0)) (bp_ BK408.out) hb)
                replace BK437:=a_ (blk_below (g:=gb437) (o:=.cells #[.int .i64 t426,.int .i64 t427,.slice Ao65 t428.length co65,.slice Ao67 t431.length co67,.int .i64 t434,.int .i64 t435] 77 (0,0)) (bp_ BK437.out) hb)
                replace BK448:=a_ (blk_below (g:=gb448) (o:=.cells #[.int .i64 t438,.int .i64 t439,.slice Ao79 t440.length co79,.slice Ao80 t443.length co80,.int .i64 t446,.int .i64 t447] 77 (0,0)) (bp_ BK448.out) hb)
                replace BK465:=a_ (blk_below (g:=gb465) (o:=.cells #[.int .i64 0,.int .i64 0,.slice none 0 0,.slice none 0 0,.int .i64 0,.int .i64 0] 77 (0,0)) (bp_ BK465.out) hb)
                try clear hb ho0 ho1
                refine hK.out _ _ ⟨(bC_ BK448.out 0).trans rfl,(bC_ BK448.out 1).trans rfl,(bC_ BK448.out 2).trans rfl,(bC_ BK448.out 3).trans rfl,(bC_ BK448.out 4).trans rfl,(bC_ BK448.out 5).trans rfl,(bC_ BK408.out 0).trans rfl,(bC_ BK408.out 1).trans rfl,(bC_ BK408.out 2).trans rfl,(bC_ BK408.out 3).trans rfl,(bC_ BK408.out 4).trans rfl⟩ (fun hHeld=>?_)
                clear hK K
                refine no_ 40 ?_
                refine pa_ 4 36 ?_
                refine pa_ 5 41 ?_
                refine pa_ 6 42 ?_
                exact norm_ (by simp only [putAll,Act.put,List.setIfInBounds_toArray,List.set_cons_zero,List.set_cons_succ]) (hCont (v457,v460,gb465) _ ⟨hHeld,(by (with_reducible repeat (first|apply Kd.R_alloc|apply Kd.R_drewN|apply Kd.R_drew));exact Kd.R_mono HO415.out (fun _ hk=>⟨hk.1.1,⟨hk.1.2,hk.2⟩⟩)),(by (with_reducible repeat (first|apply Kd.R_alloc|apply Kd.R_drewN|apply Kd.R_drew));exact Kd.R_mono HO418.out (fun _ hk=>⟨hk.1.1,⟨hk.1.2,hk.2⟩⟩)),(by (with_reducible repeat (first|apply Kd.R_alloc|apply Kd.R_drewN|apply Kd.R_drew));exact Kd.R_mono HO430.out (fun _ hk=>⟨hk.1.1,⟨hk.1.2,hk.2⟩⟩)),(by (with_reducible repeat (first|apply Kd.R_alloc|apply Kd.R_drewN|apply Kd.R_drew));exact Kd.R_mono HO433.out (fun _ hk=>⟨hk.1.1,⟨hk.1.2,hk.2⟩⟩)),(by (with_reducible repeat (first|apply Kd.R_alloc|apply Kd.R_drewN|apply Kd.R_drew));exact Kd.R_mono HO442.out (fun _ hk=>⟨hk.1.1,⟨hk.1.2,hk.2⟩⟩)),(by (with_reducible repeat (first|apply Kd.R_alloc|apply Kd.R_drewN|apply Kd.R_drew));exact Kd.R_mono HO445.out (fun _ hk=>⟨hk.1.1,⟨hk.1.2,hk.2⟩⟩)),(by (with_reducible repeat (first|apply Kd.R_alloc|apply Kd.R_drewN|apply Kd.R_drew));exact Kd.R_mono HO458.out (fun _ hk=>⟨hk.1.1.2,⟨hk.1.2,hk.2⟩⟩)),(by (with_reducible repeat (first|apply Kd.R_alloc|apply Kd.R_drewN|apply Kd.R_drew));exact Kd.R_mono HO461.out (fun _ hk=>⟨hk.1.1.2,⟨hk.1.2,hk.2⟩⟩)),(bp_ BK407.out),(bp_ BK408.out),(bp_ BK437.out),(bp_ BK448.out),(bp_ BK465.out),GW465.out,GE465.out,NB407_465.out,NB465_407.out,NB408_465.out,NB465_408.out,NB437_465.out,NB465_437.out,NB448_465.out,NB465_448.out,(bel_)⟩)
              rintro ⟨v457,v460,gb465⟩ w86 ⟨hS_,h0_,h1_,h2_,h3_,h4_,h5_,h6_,h7_,h8_,h9_,h10_,h11_,h12_,h13_,h14_,h15_,h16_,h17_,h18_,h19_,h20_,h21_,h22_,h23_⟩
              replace HO415:Aside0 (Kd.R k69 69 w86 w.heap.size (fun k_=>some k_≠(.slice Ao65 t428.length co65:Value).ownBlock∧some k_≠(.slice Ao79 t440.length co79:Value).ownBlock∧some k_≠(v457:Value).ownBlock) v414 t413):=⟨h0_⟩
              replace HO418:Aside0 (Kd.R k44 44 w86 w.heap.size (fun k_=>some k_≠(.slice Ao67 t431.length co67:Value).ownBlock∧some k_≠(.slice Ao80 t443.length co80:Value).ownBlock∧some k_≠(v460:Value).ownBlock) v417 t416):=⟨h1_⟩
              replace HO430:Aside0 (Kd.R k69 69 w86 w.heap.size (fun k_=>some k_≠(v414:Value).ownBlock∧some k_≠(.slice Ao79 t440.length co79:Value).ownBlock∧some k_≠(v457:Value).ownBlock) (.slice Ao65 t428.length co65) t428):=⟨h2_⟩
              replace HO433:Aside0 (Kd.R k44 44 w86 w.heap.size (fun k_=>some k_≠(v417:Value).ownBlock∧some k_≠(.slice Ao80 t443.length co80:Value).ownBlock∧some k_≠(v460:Value).ownBlock) (.slice Ao67 t431.length co67) t431):=⟨h3_⟩
              replace HO442:Aside0 (Kd.R k69 69 w86 w.heap.size (fun k_=>some k_≠(v414:Value).ownBlock∧some k_≠(.slice Ao65 t428.length co65:Value).ownBlock∧some k_≠(v457:Value).ownBlock) (.slice Ao79 t440.length co79) t440):=⟨h4_⟩
              replace HO445:Aside0 (Kd.R k44 44 w86 w.heap.size (fun k_=>some k_≠(v417:Value).ownBlock∧some k_≠(.slice Ao67 t431.length co67:Value).ownBlock∧some k_≠(v460:Value).ownBlock) (.slice Ao80 t443.length co80) t443):=⟨h5_⟩
              have HO458:Aside0 (Kd.R k69 69 w86 w.heap.size (fun k_=>some k_≠(v414:Value).ownBlock∧some k_≠(.slice Ao65 t428.length co65:Value).ownBlock∧some k_≠(.slice Ao79 t440.length co79:Value).ownBlock) v457 t456):=⟨h6_⟩
              have HO461:Aside0 (Kd.R k44 44 w86 w.heap.size (fun k_=>some k_≠(v417:Value).ownBlock∧some k_≠(.slice Ao67 t431.length co67:Value).ownBlock∧some k_≠(.slice Ao80 t443.length co80:Value).ownBlock) v460 t459):=⟨h7_⟩
              replace BK407:Aside0 (w86.heap[gb407]?=some (.cells #[.int .i64 a0_0,.int .i64 a0_1,.slice A0_2 l0_2.length c0_2,.slice A0_3 l0_3.length c0_3,.int .i64 a0_4,.int .i64 a0_5] 85 (0,0))):=⟨h8_⟩
              replace BK408:Aside0 (w86.heap[gb408]?=some (.cells #[.int .i64 a1_0,.int .i64 a1_1,.int .i64 a1_2,.int .i64 a1_3,.string a1_4] 34 (0,0))):=⟨h9_⟩
              replace BK437:Aside0 (w86.heap[gb437]?=some (.cells #[.int .i64 t426,.int .i64 t427,.slice Ao65 t428.length co65,.slice Ao67 t431.length co67,.int .i64 t434,.int .i64 t435] 77 (0,0))):=⟨h10_⟩
              replace BK448:Aside0 (w86.heap[gb448]?=some (.cells #[.int .i64 t438,.int .i64 t439,.slice Ao79 t440.length co79,.slice Ao80 t443.length co80,.int .i64 t446,.int .i64 t447] 77 (0,0))):=⟨h11_⟩
              have BK465:Aside0 (w86.heap[gb465]?=some (.cells #[.int .i64 0,.int .i64 0,.slice none 0 0,.slice none 0 0,.int .i64 0,.int .i64 0] 77 (0,0))):=⟨h12_⟩
              have GW465:Aside0 (w.heap.size≤gb465):=⟨h13_⟩
              have GE465:Aside0 (w.heap.size≤gb465):=⟨h14_⟩
              have NB407_465:Aside0 (gb407≠gb465):=⟨h15_⟩
              have NB465_407:Aside0 (gb465≠gb407):=⟨h16_⟩
              have NB408_465:Aside0 (gb408≠gb465):=⟨h17_⟩
              have NB465_408:Aside0 (gb465≠gb408):=⟨h18_⟩
              have NB437_465:Aside0 (gb437≠gb465):=⟨h19_⟩
              have NB465_437:Aside0 (gb465≠gb437):=⟨h20_⟩
              have NB448_465:Aside0 (gb448≠gb465):=⟨h21_⟩
              have NB465_448:Aside0 (gb465≠gb448):=⟨h22_⟩
              replace HB:Aside0 (Below w.heap.size w w86):=⟨h23_⟩
              clear h0_ h1_ h2_ h3_ h4_ h5_ h6_ h7_ h8_ h9_ h10_ h11_ h12_ h13_ h14_ h15_ h16_ h17_ h18_ h19_ h20_ h21_ h22_ h23_
              have hHeld:w86.cell? ⟨gb448,0,none⟩=some (.int .i64 t438)∧w86.cell? ⟨gb448,1,none⟩=some (.int .i64 t439)∧w86.cell? ⟨gb448,2,none⟩=some (.slice Ao79 t440.length co79)∧w86.cell? ⟨gb448,3,none⟩=some (.slice Ao80 t443.length co80)∧w86.cell? ⟨gb448,4,none⟩=some (.int .i64 t446)∧w86.cell? ⟨gb448,5,none⟩=some (.int .i64 t447)∧w86.cell? ⟨gb408,0,none⟩=some (.int .i64 a1_0)∧w86.cell? ⟨gb408,1,none⟩=some (.int .i64 a1_1)∧w86.cell? ⟨gb408,2,none⟩=some (.int .i64 a1_2)∧w86.cell? ⟨gb408,3,none⟩=some (.int .i64 a1_3)∧w86.cell? ⟨gb408,4,none⟩=some (.string a1_4):=hS_
              obtain ⟨Ao89,co89,eo89⟩:=Kd.R_slice HO458.out
              (first|subst eo89|(injection eo89 with f1_ f2_ f3_;have f4_:=f1_.symm;have f5_:=f3_.symm;clear f1_ f2_ f3_;subst f4_;subst f5_))
              obtain ⟨Ao91,co91,eo91⟩:=Kd.R_slice HO461.out
              (first|subst eo91|(injection eo91 with f1_ f2_ f3_;have f4_:=f1_.symm;have f5_:=f3_.symm;clear f1_ f2_ f3_;subst f4_;subst f5_))
              refine norm_ (a':=?_) ?_ ?_
              rotate_left
              ·simp only [putAll,Act.put,List.setIfInBounds_toArray,List.set_cons_zero,List.set_cons_succ]
               rfl
              refine one_ (i:=8) (N:=none) #[true,true,true,true,true,true,true,true,true,false] rfl rfl (one_of HT_.out (by kernel_rfl)) (by decide) (fun K hK=>?_)
              have hs87:w86.cell? ⟨gb465,0,none⟩=some (.int .i64 0):=(bC_ BK465.out 0).trans rfl
              have hfs87:=bF_ BK465.out 0
              have hns87_0:=NB407_465.out
              have hns87_1:=NB408_465.out
              have hns87_2:=NB437_465.out
              have hns87_3:=NB448_465.out
              have hms87_0:=NB465_407.out
              have hms87_1:=NB465_408.out
              have hms87_2:=NB465_437.out
              have hms87_3:=NB465_448.out
              have hs88:w86.cell? ⟨gb465,1,none⟩=some (.int .i64 0):=(bC_ BK465.out 1).trans rfl
              have hfs88:=bF_ BK465.out 1
              have hns88_0:=NB407_465.out
              have hns88_1:=NB408_465.out
              have hns88_2:=NB437_465.out
              have hns88_3:=NB448_465.out
              have hms88_0:=NB465_407.out
              have hms88_1:=NB465_408.out
              have hms88_2:=NB465_437.out
              have hms88_3:=NB465_448.out
              have hs90:w86.cell? ⟨gb465,2,none⟩=some (.slice none 0 0):=(bC_ BK465.out 2).trans rfl
              have hfs90:=bF_ BK465.out 2
              have hns90_0:=NB407_465.out
              have hns90_1:=NB408_465.out
              have hns90_2:=NB437_465.out
              have hns90_3:=NB448_465.out
              have hms90_0:=NB465_407.out
              have hms90_1:=NB465_408.out
              have hms90_2:=NB465_437.out
              have hms90_3:=NB465_448.out
              have hs92:w86.cell? ⟨gb465,3,none⟩=some (.slice none 0 0):=(bC_ BK465.out 3).trans rfl
              have hfs92:=bF_ BK465.out 3
              have hns92_0:=NB407_465.out
              have hns92_1:=NB408_465.out
              have hns92_2:=NB437_465.out
              have hns92_3:=NB448_465.out
              have hms92_0:=NB465_407.out
              have hms92_1:=NB465_408.out
              have hms92_2:=NB465_437.out
              have hms92_3:=NB465_448.out
              have hs93:w86.cell? ⟨gb465,4,none⟩=some (.int .i64 0):=(bC_ BK465.out 4).trans rfl
              have hfs93:=bF_ BK465.out 4
              have hns93_0:=NB407_465.out
              have hns93_1:=NB408_465.out
              have hns93_2:=NB437_465.out
              have hns93_3:=NB448_465.out
              have hms93_0:=NB465_407.out
              have hms93_1:=NB465_408.out
              have hms93_2:=NB465_437.out
              have hms93_3:=NB465_448.out
              have hs94:w86.cell? ⟨gb465,5,none⟩=some (.int .i64 0):=(bC_ BK465.out 5).trans rfl
              have hfs94:=bF_ BK465.out 5
              have hns94_0:=NB407_465.out
              have hns94_1:=NB408_465.out
              have hns94_2:=NB437_465.out
              have hns94_3:=NB448_465.out
              have hms94_0:=NB465_407.out
              have hms94_1:=NB465_408.out
              have hms94_2:=NB465_437.out
              have hms94_3:=NB465_448.out
              refine skip_ (w1:=?_) (by rfl) rfl ?_ ?_
              rotate_left
              ·go_simp
               rfl
              refine hK.out _ _ ⟨(cf6_ (g:=gb465) NB448_465.out (hHeld.1)),(cf6_ (g:=gb465) NB448_465.out (hHeld.2.1)),(cf6_ (g:=gb465) NB448_465.out (hHeld.2.2.1)),(cf6_ (g:=gb465) NB448_465.out (hHeld.2.2.2.1)),(cf6_ (g:=gb465) NB448_465.out (hHeld.2.2.2.2.1)),(cf6_ (g:=gb465) NB448_465.out (hHeld.2.2.2.2.2.1)),(cf6_ (g:=gb465) NB408_465.out (hHeld.2.2.2.2.2.2.1)),(cf6_ (g:=gb465) NB408_465.out (hHeld.2.2.2.2.2.2.2.1)),(cf6_ (g:=gb465) NB408_465.out (hHeld.2.2.2.2.2.2.2.2.1)),(cf6_ (g:=gb465) NB408_465.out (hHeld.2.2.2.2.2.2.2.2.2.1)),(cf6_ (g:=gb465) NB408_465.out (hHeld.2.2.2.2.2.2.2.2.2.2))⟩ (fun hHeld=>?_)
              clear hK K
              refine pa_ 9 10 ?_
              refine done_ (done_of HT_.out (by kernel_rfl)) ?_
              have hnb95:=NB465_407.out
              have hnc95:=NB407_465.out
              have hnb96:=NB465_408.out
              have hnc96:=NB408_465.out
              have hnb97:=NB465_437.out
              have hnc97:=NB437_465.out
              have hnb98:=NB465_448.out
              have hnc98:=NB448_465.out
              have Z99_0:=cz_ BK465.out 0 (.int .i64 0)
              have Z99_1:=cz_ BK465.out 1 (.int .i64 0)
              have Z99_2:=cz_ BK465.out 2 (.slice none 0 0)
              have Z99_3:=cz_ BK465.out 3 (.slice none 0 0)
              have Z99_4:=cz_ BK465.out 4 (.int .i64 0)
              have Z99_5:=cz_ BK465.out 5 (.int .i64 0)
              have Y99_0:=bF_ BK465.out 0
              have Y99_1:=bF_ BK465.out 1
              have Y99_2:=bF_ BK465.out 2
              have Y99_3:=bF_ BK465.out 3
              have Y99_4:=bF_ BK465.out 4
              have Y99_5:=bF_ BK465.out 5
              have hnb100:=NB437_408.out
              have hnc100:=NB408_437.out
              have Z101_0:=cz_ BK437.out 0 (.int .i64 t426)
              have Z101_1:=cz_ BK437.out 1 (.int .i64 t427)
              have Z101_2:=cz_ BK437.out 2 (.slice Ao65 t428.length co65)
              have Z101_3:=cz_ BK437.out 3 (.slice Ao67 t431.length co67)
              have Z101_4:=cz_ BK437.out 4 (.int .i64 t434)
              have Z101_5:=cz_ BK437.out 5 (.int .i64 t435)
              have Y101_0:=bF_ BK437.out 0
              have Y101_1:=bF_ BK437.out 1
              have Y101_2:=bF_ BK437.out 2
              have Y101_3:=bF_ BK437.out 3
              have Y101_4:=bF_ BK437.out 4
              have Y101_5:=bF_ BK437.out 5
              try go_wp2_with (first|((with_reducible refine gC_ (f:=65) rfl ?_);refine gl_ 45 Tryd.func65 #[.agg #[.int .i64 t454,.int .i64 t455,.slice Ao89 t456.length co89,.slice Ao91 t459.length co91,.int .i64 t462,.int .i64 t463],.agg #[.int .i64 t426,.int .i64 t427,.slice Ao65 t428.length co65,.slice Ao67 t431.length co67,.int .i64 t434,.int .i64 t435]] ?_;(with_reducible refine (laws_eqClient.calls k t454 t455 _ _ t456 _ _ t459 t462 t463 t426 t427 _ _ t428 _ _ t431 t434 t435 true _ ?side1 ?side2 ?side3 ?side4 ?side5 ?side6 ?side7 ?side8 A25.out).mono ?_);(case side1=>refine (Kd.R_reads' (e:=69) (base:=w.heap.size) (ok:=fun k_=>(some k_≠(v414:Value).ownBlock∧(some k_≠(.slice Ao65 t428.length co65:Value).ownBlock∧some k_≠(.slice Ao79 t440.length co79:Value).ownBlock))) (n:=t456.length) (c:=co89) ?_).2.2;exact (by (with_reducible repeat (first|apply Kd.R_alloc|apply Kd.R_drewN|apply Kd.R_drew));exact (Kd.R_mono (rf6_ (g:=gb465) (Kd.R_types HO458.out BK465.out (by decide)) (fun _ hk=>hk.2) (.int .i64 t454) (.int .i64 t455) (.slice Ao89 t456.length co89) (.slice Ao91 t459.length co91) (.int .i64 t462) (.int .i64 t463)) (fun _ h_=>h_.1))));(case side2=>exact (Kd.R_reads' HO458.out).2.1);(case side3=>refine (Kd.R_reads' (e:=44) (base:=w.heap.size) (ok:=fun k_=>(some k_≠(v417:Value).ownBlock∧(some k_≠(.slice Ao67 t431.length co67:Value).ownBlock∧some k_≠(.slice Ao80 t443.length co80:Value).ownBlock))) (n:=t459.length) (c:=co91) ?_).2.2;exact (by (with_reducible repeat (first|apply Kd.R_alloc|apply Kd.R_drewN|apply Kd.R_drew));exact (Kd.R_mono (rf6_ (g:=gb465) (Kd.R_types HO461.out BK465.out (by decide)) (fun _ hk=>hk.2) (.int .i64 t454) (.int .i64 t455) (.slice Ao89 t456.length co89) (.slice Ao91 t459.length co91) (.int .i64 t462) (.int .i64 t463)) (fun _ h_=>h_.1))));(case side4=>exact (Kd.R_reads' HO461.out).2.1);(case side5=>refine (Kd.R_reads' (e:=69) (base:=w.heap.size) (ok:=fun k_=>(some k_≠(v414:Value).ownBlock∧(some k_≠(.slice Ao79 t440.length co79:Value).ownBlock∧some k_≠(.slice Ao89 t456.length co89:Value).ownBlock))) (n:=t428.length) (c:=co65) ?_).2.2;exact (by (with_reducible repeat (first|apply Kd.R_alloc|apply Kd.R_drewN|apply Kd.R_drew));exact (Kd.R_mono (rf6_ (g:=gb465) (Kd.R_types HO430.out BK465.out (by decide)) (fun _ hk=>hk.2) (.int .i64 t454) (.int .i64 t455) (.slice Ao89 t456.length co89) (.slice Ao91 t459.length co91) (.int .i64 t462) (.int .i64 t463)) (fun _ h_=>h_.1))));(case side6=>exact (Kd.R_reads' HO430.out).2.1);(case side7=>refine (Kd.R_reads' (e:=44) (base:=w.heap.size) (ok:=fun k_=>(some k_≠(v417:Value).ownBlock∧(some k_≠(.slice Ao80 t443.length co80:Value).ownBlock∧some k_≠(.slice Ao91 t459.length co91:Value).ownBlock))) (n:=t431.length) (c:=co67) ?_).2.2;exact (by (with_reducible repeat (first|apply Kd.R_alloc|apply Kd.R_drewN|apply Kd.R_drew));exact (Kd.R_mono (rf6_ (g:=gb465) (Kd.R_types HO433.out BK465.out (by decide)) (fun _ hk=>hk.2) (.int .i64 t454) (.int .i64 t455) (.slice Ao89 t456.length co89) (.slice Ao91 t459.length co91) (.int .i64 t462) (.int .i64 t463)) (fun _ h_=>h_.1))));(case side8=>exact (Kd.R_reads' HO433.out).2.1);rintro e w102 ⟨rfl,hb⟩;refine ⟨_,rfl,?_⟩;have n0_:=a_ (Kd.R_below (by (with_reducible repeat (first|apply Kd.R_alloc|apply Kd.R_drewN|apply Kd.R_drew));exact (Kd.R_mono (rf6_ (g:=gb465) (Kd.R_types HO415.out BK465.out (by decide)) (fun _ hk=>hk.2) (.int .i64 t454) (.int .i64 t455) (.slice Ao89 t456.length co89) (.slice Ao91 t459.length co91) (.int .i64 t462) (.int .i64 t463)) (fun _ h_=>h_.1))) hb);have n1_:=a_ (Kd.R_below (by (with_reducible repeat (first|apply Kd.R_alloc|apply Kd.R_drewN|apply Kd.R_drew));exact (Kd.R_mono (rf6_ (g:=gb465) (Kd.R_types HO418.out BK465.out (by decide)) (fun _ hk=>hk.2) (.int .i64 t454) (.int .i64 t455) (.slice Ao89 t456.length co89) (.slice Ao91 t459.length co91) (.int .i64 t462) (.int .i64 t463)) (fun _ h_=>h_.1))) hb);have n2_:=a_ (Kd.R_below (by (with_reducible repeat (first|apply Kd.R_alloc|apply Kd.R_drewN|apply Kd.R_drew));exact (Kd.R_mono (rf6_ (g:=gb465) (Kd.R_types HO430.out BK465.out (by decide)) (fun _ hk=>hk.2) (.int .i64 t454) (.int .i64 t455) (.slice Ao89 t456.length co89) (.slice Ao91 t459.length co91) (.int .i64 t462) (.int .i64 t463)) (fun _ h_=>h_.1))) hb);have n3_:=a_ (Kd.R_below (by (with_reducible repeat (first|apply Kd.R_alloc|apply Kd.R_drewN|apply Kd.R_drew));exact (Kd.R_mono (rf6_ (g:=gb465) (Kd.R_types HO433.out BK465.out (by decide)) (fun _ hk=>hk.2) (.int .i64 t454) (.int .i64 t455) (.slice Ao89 t456.length co89) (.slice Ao91 t459.length co91) (.int .i64 t462) (.int .i64 t463)) (fun _ h_=>h_.1))) hb);have n4_:=a_ (Kd.R_below (by (with_reducible repeat (first|apply Kd.R_alloc|apply Kd.R_drewN|apply Kd.R_drew));exact (Kd.R_mono (rf6_ (g:=gb465) (Kd.R_types HO442.out BK465.out (by decide)) (fun _ hk=>hk.2) (.int .i64 t454) (.int .i64 t455) (.slice Ao89 t456.length co89) (.slice Ao91 t459.length co91) (.int .i64 t462) (.int .i64 t463)) (fun _ h_=>h_.1))) hb);have n5_:=a_ (Kd.R_below (by (with_reducible repeat (first|apply Kd.R_alloc|apply Kd.R_drewN|apply Kd.R_drew));exact (Kd.R_mono (rf6_ (g:=gb465) (Kd.R_types HO445.out BK465.out (by decide)) (fun _ hk=>hk.2) (.int .i64 t454) (.int .i64 t455) (.slice Ao89 t456.length co89) (.slice Ao91 t459.length co91) (.int .i64 t462) (.int .i64 t463)) (fun _ h_=>h_.1))) hb);have n6_:=a_ (Kd.R_below (by (with_reducible repeat (first|apply Kd.R_alloc|apply Kd.R_drewN|apply Kd.R_drew));exact (Kd.R_mono (rf6_ (g:=gb465) (Kd.R_types HO458.out BK465.out (by decide)) (fun _ hk=>hk.2) (.int .i64 t454) (.int .i64 t455) (.slice Ao89 t456.length co89) (.slice Ao91 t459.length co91) (.int .i64 t462) (.int .i64 t463)) (fun _ h_=>h_.1))) hb);have n7_:=a_ (Kd.R_below (by (with_reducible repeat (first|apply Kd.R_alloc|apply Kd.R_drewN|apply Kd.R_drew));exact (Kd.R_mono (rf6_ (g:=gb465) (Kd.R_types HO461.out BK465.out (by decide)) (fun _ hk=>hk.2) (.int .i64 t454) (.int .i64 t455) (.slice Ao89 t456.length co89) (.slice Ao91 t459.length co91) (.int .i64 t462) (.int .i64 t463)) (fun _ h_=>h_.1))) hb);have n8_:=a_ (blk_below (g:=gb407) (o:=.cells #[.int .i64 a0_0,.int .i64 a0_1,.slice A0_2 l0_2.length c0_2,.slice A0_3 l0_3.length c0_3,.int .i64 a0_4,.int .i64 a0_5] 85 (0,0)) (fp1_ NB407_465.out BK407.out) hb);have n9_:=a_ (blk_below (g:=gb408) (o:=.cells #[.int .i64 a1_0,.int .i64 a1_1,.int .i64 a1_2,.int .i64 a1_3,.string a1_4] 34 (0,0)) (fp1_ NB408_465.out BK408.out) hb);have n10_:=a_ (blk_below (g:=gb437) (o:=.cells #[.int .i64 t426,.int .i64 t427,.slice Ao65 t428.length co65,.slice Ao67 t431.length co67,.int .i64 t434,.int .i64 t435] 77 (0,0)) (fp1_ NB437_465.out BK437.out) hb);have n11_:=a_ (blk_below (g:=gb448) (o:=.cells #[.int .i64 t438,.int .i64 t439,.slice Ao79 t440.length co79,.slice Ao80 t443.length co80,.int .i64 t446,.int .i64 t447] 77 (0,0)) (fp1_ NB448_465.out BK448.out) hb);have n12_:=a_ (blk_below (g:=gb465) (o:=.cells #[.int .i64 t454,.int .i64 t455,.slice Ao89 t456.length co89,.slice Ao91 t459.length co91,.int .i64 t462,.int .i64 t463] 77 (0,0)) (k6p_ BK465.out) hb);have n13_:=a_ (bS_ (bel_) hb);clear HO415;clear HO418;clear HO430;clear HO433;clear HO442;clear HO445;clear HO458;clear HO461;clear BK407;clear BK408;clear BK437;clear BK448;clear BK465;clear HB;have HO415:=n0_;have HO418:=n1_;have HO430:=n2_;have HO433:=n3_;have HO442:=n4_;have HO445:=n5_;have HO458:=n6_;have HO461:=n7_;have BK407:=n8_;have BK408:=n9_;have BK437:=n10_;have BK448:=n11_;have BK465:=n12_;have HB:=n13_;clear n0_ n1_ n2_ n3_ n4_ n5_ n6_ n7_ n8_ n9_ n10_ n11_ n12_ n13_;(try clear hb)))
              replace HO415:=a_ (Kd.R_drew HO415.out)
              replace HO418:=a_ (Kd.R_drew HO418.out)
              replace HO430:=a_ (Kd.R_drew HO430.out)
              replace HO433:=a_ (Kd.R_drew HO433.out)
              replace HO442:=a_ (Kd.R_drew HO442.out)
              replace HO445:=a_ (Kd.R_drew HO445.out)
              replace HO458:=a_ (Kd.R_drew HO458.out)
              replace HO461:=a_ (Kd.R_drew HO461.out)
              replace BK407:=a_ (bD_ BK407.out)
              replace BK408:=a_ (bD_ BK408.out)
              replace BK437:=a_ (bD_ BK437.out)
              replace BK448:=a_ (bD_ BK448.out)
              replace BK465:=a_ (bD_ BK465.out)
              replace HB:=a_ (below_drew1 HB.out)
              refine start_ (n:=5) (S:=fun w'=>w'.cell? ⟨gb448,0,none⟩=some (.int .i64 t438)∧w'.cell? ⟨gb448,1,none⟩=some (.int .i64 t439)∧w'.cell? ⟨gb448,2,none⟩=some (.slice Ao79 t440.length co79)∧w'.cell? ⟨gb448,3,none⟩=some (.slice Ao80 t443.length co80)∧w'.cell? ⟨gb448,4,none⟩=some (.int .i64 t446)∧w'.cell? ⟨gb448,5,none⟩=some (.int .i64 t447)∧w'.cell? ⟨gb407,0,none⟩=some (.int .i64 a0_0)∧w'.cell? ⟨gb407,1,none⟩=some (.int .i64 a0_1)∧w'.cell? ⟨gb407,2,none⟩=some (.slice A0_2 l0_2.length c0_2)∧w'.cell? ⟨gb407,3,none⟩=some (.slice A0_3 l0_3.length c0_3)∧w'.cell? ⟨gb407,4,none⟩=some (.int .i64 a0_4)∧w'.cell? ⟨gb407,5,none⟩=some (.int .i64 a0_5)) (ds:=[]) #[false,false,false,false,false] (by kernel_rfl) rfl rfl ⟨(bC_ BK448.out 0).trans rfl,(bC_ BK448.out 1).trans rfl,(bC_ BK448.out 2).trans rfl,(bC_ BK448.out 3).trans rfl,(bC_ BK448.out 4).trans rfl,(bC_ BK448.out 5).trans rfl,(bC_ BK407.out 0).trans rfl,(bC_ BK407.out 1).trans rfl,(bC_ BK407.out 2).trans rfl,(bC_ BK407.out 3).trans rfl,(bC_ BK407.out 4).trans rfl,(bC_ BK407.out 5).trans rfl⟩ (fun hHeld=>?_)
              generalize w102.drew=w103 at HO415 HO418 HO430 HO433 HO442 HO445 HO458 HO461 BK407 BK408 BK437 BK448 BK465 HB hHeld ⊢
              refine take_ (i:=0) (N:=some 52) (v:=?_) (a':=?_) #[true,false,false,false,false] rfl rfl (by kernel_rfl) (fun _ _ _ h=>h) (Or.inl ⟨by rfl,?_⟩) hHeld ?_ ?_
              rotate_left
              ·rintro w' ⟨s0,s1,s2,s3,s4,s5,s6,s7,s8,s9,s10,s11⟩
               go_simp
               with_reducible rfl
              rotate_left
              ·simp only [Act.put,List.setIfInBounds_toArray,List.set_cons_zero,List.set_cons_succ,i64_w,i32_w]
               rfl
              refine take_ (i:=1) (N:=some 53) (v:=?_) (a':=?_) #[true,true,false,false,false] rfl rfl (by kernel_rfl) (fun _ _ _ h=>h) (Or.inl ⟨by rfl,?_⟩) hHeld ?_ ?_
              rotate_left
              ·rintro w' ⟨s0,s1,s2,s3,s4,s5,s6,s7,s8,s9,s10,s11⟩
               go_simp
               with_reducible rfl
              rotate_left
              ·simp only [Act.put,List.setIfInBounds_toArray,List.set_cons_zero,List.set_cons_succ,i64_w,i32_w]
               rfl
              refine one_ (i:=2) (N:=some 54) #[true,true,true,false,false] rfl rfl (by kernel_rfl) (by decide) (fun K hK=>?_)
              refine goes_ Tryd.func64 (by kernel_rfl) rfl #[.agg #[.int .i64 a0_0,.int .i64 a0_1,.slice A0_2 l0_2.length c0_2,.slice A0_3 l0_3.length c0_3,.int .i64 a0_4,.int .i64 a0_5]] (by rfl) rfl rfl ar_ ?_
              with_reducible refine (laws_toClient.calls k a0_0 a0_1 _ _ l0_2 _ _ l0_3 a0_4 a0_5 t467 t468 t469 t472 t475 t476 _ ?side1 ?side2 ?side3 ?side4 A28.out).mono ?_
              (case side1=>exact cp_ HR0_2.out)
              (case side2=>exact HC0_2.out)
              (case side3=>exact cx_ (Kd.C_below HR0_3.out HB.out))
              (case side4=>exact HC0_3.out)
              rintro e w104 ⟨v470,v473,rfl,ho0,ho1,hb⟩
              refine ⟨_,rfl,?_⟩
              have HO471:=a_ (Kd.R_lower (Kd.R_new' (Kd.R_new' (Kd.R_new' (Kd.R_new' ho0 (Kd.R_lt (rp_ HO415.out))) (Kd.R_lt (rp_ HO430.out))) (Kd.R_lt (rp_ HO442.out))) (Kd.R_lt (rp_ HO458.out))) (below_size (bel_)))
              replace HO415:=a_ (Kd.R_elder' (rp_ HO415.out) (Kd.R_base ho0) hb)
              replace HO430:=a_ (Kd.R_elder' (rp_ HO430.out) (Kd.R_base ho0) hb)
              replace HO442:=a_ (Kd.R_elder' (rp_ HO442.out) (Kd.R_base ho0) hb)
              replace HO458:=a_ (Kd.R_elder' (rp_ HO458.out) (Kd.R_base ho0) hb)
              have HO474:=a_ (Kd.R_lower (Kd.R_new' (Kd.R_new' (Kd.R_new' (Kd.R_new' ho1 (Kd.R_lt (rp_ HO418.out))) (Kd.R_lt (rp_ HO433.out))) (Kd.R_lt (rp_ HO445.out))) (Kd.R_lt (rp_ HO461.out))) (below_size (bel_)))
              replace HO418:=a_ (Kd.R_elder' (rp_ HO418.out) (Kd.R_base ho1) hb)
              replace HO433:=a_ (Kd.R_elder' (rp_ HO433.out) (Kd.R_base ho1) hb)
              replace HO445:=a_ (Kd.R_elder' (rp_ HO445.out) (Kd.R_base ho1) hb)
              replace HO461:=a_ (Kd.R_elder' (rp_ HO461.out) (Kd.R_base ho1) hb)
              replace HB:=a_ (bS_ (bel_) hb)
              replace BK407:=a_ (blk_below (g:=gb407) (o:=.cells #[.int .i64 a0_0,.int .i64 a0_1,.slice A0_2 l0_2.length c0_2,.slice A0_3 l0_3.length c0_3,.int .i64 a0_4,.int .i64 a0_5] 85 (0,0)) (bp_ BK407.out) hb)
              replace BK408:=a_ (blk_below (g:=gb408) (o:=.cells #[.int .i64 a1_0,.int .i64 a1_1,.int .i64 a1_2,.int .i64 a1_3,.string a1_4] 34 (0,0)) (bp_ BK408.out) hb)
              replace BK437:=a_ (blk_below (g:=gb437) (o:=.cells #[.int .i64 t426,.int .i64 t427,.slice Ao65 t428.length co65,.slice Ao67 t431.length co67,.int .i64 t434,.int .i64 t435] 77 (0,0)) (bp_ BK437.out) hb)
              replace BK448:=a_ (blk_below (g:=gb448) (o:=.cells #[.int .i64 t438,.int .i64 t439,.slice Ao79 t440.length co79,.slice Ao80 t443.length co80,.int .i64 t446,.int .i64 t447] 77 (0,0)) (bp_ BK448.out) hb)
              replace BK465:=a_ (blk_below (g:=gb465) (o:=.cells #[.int .i64 t454,.int .i64 t455,.slice Ao89 t456.length co89,.slice Ao91 t459.length co91,.int .i64 t462,.int .i64 t463] 77 (0,0)) (bp_ BK465.out) hb)
              try clear hb ho0 ho1
              obtain ⟨Ao105,co105,eo105⟩:=Kd.R_slice HO471.out
              (first|subst eo105|(injection eo105 with f1_ f2_ f3_;have f4_:=f1_.symm;have f5_:=f3_.symm;clear f1_ f2_ f3_;subst f4_;subst f5_))
              obtain ⟨Ao106,co106,eo106⟩:=Kd.R_slice HO474.out
              (first|subst eo106|(injection eo106 with f1_ f2_ f3_;have f4_:=f1_.symm;have f5_:=f3_.symm;clear f1_ f2_ f3_;subst f4_;subst f5_))
              refine hK.out _ _ ⟨(bC_ BK448.out 0).trans rfl,(bC_ BK448.out 1).trans rfl,(bC_ BK448.out 2).trans rfl,(bC_ BK448.out 3).trans rfl,(bC_ BK448.out 4).trans rfl,(bC_ BK448.out 5).trans rfl,(bC_ BK407.out 0).trans rfl,(bC_ BK407.out 1).trans rfl,(bC_ BK407.out 2).trans rfl,(bC_ BK407.out 3).trans rfl,(bC_ BK407.out 4).trans rfl,(bC_ BK407.out 5).trans rfl⟩ (fun hHeld=>?_)
              clear hK K
              refine no_ 54 ?_
              refine one_ (i:=3) (N:=some 55) #[true,true,true,true,false] rfl rfl (by kernel_rfl) (by decide) (fun K hK=>?_)
              refine goes_ Tryd.func65 (by kernel_rfl) rfl #[.agg #[.int .i64 t438,.int .i64 t439,.slice Ao79 t440.length co79,.slice Ao80 t443.length co80,.int .i64 t446,.int .i64 t447],.agg #[.int .i64 t467,.int .i64 t468,.slice Ao105 t469.length co105,.slice Ao106 t472.length co106,.int .i64 t475,.int .i64 t476]] (by rfl) rfl rfl ar_ ?_
              with_reducible refine (laws_eqClient.calls k t438 t439 _ _ t440 _ _ t443 t446 t447 t467 t468 _ _ t469 _ _ t472 t475 t476 true _ ?side1 ?side2 ?side3 ?side4 ?side5 ?side6 ?side7 ?side8 A29.out).mono ?_
              (case side1=>exact cx_ (Kd.R_reads' HO442.out).2.2)
              (case side2=>exact (Kd.R_reads' HO442.out).2.1)
              (case side3=>exact cx_ (Kd.R_reads' HO445.out).2.2)
              (case side4=>exact (Kd.R_reads' HO445.out).2.1)
              (case side5=>exact cx_ (Kd.R_reads' HO471.out).2.2)
              (case side6=>exact (Kd.R_reads' HO471.out).2.1)
              (case side7=>exact cx_ (Kd.R_reads' HO474.out).2.2)
              (case side8=>exact (Kd.R_reads' HO474.out).2.1)
              rintro e w107 ⟨rfl,hb⟩
              refine ⟨_,rfl,?_⟩
              replace HO415:=a_ (Kd.R_below (rp_ HO415.out) hb)
              replace HO418:=a_ (Kd.R_below (rp_ HO418.out) hb)
              replace HO430:=a_ (Kd.R_below (rp_ HO430.out) hb)
              replace HO433:=a_ (Kd.R_below (rp_ HO433.out) hb)
              replace HO442:=a_ (Kd.R_below (rp_ HO442.out) hb)
              replace HO445:=a_ (Kd.R_below (rp_ HO445.out) hb)
              replace HO458:=a_ (Kd.R_below (rp_ HO458.out) hb)
              replace HO461:=a_ (Kd.R_below (rp_ HO461.out) hb)
              replace HO471:=a_ (Kd.R_below (rp_ HO471.out) hb)
              replace HO474:=a_ (Kd.R_below (rp_ HO474.out) hb)
              replace HB:=a_ (bS_ (bel_) hb)
              replace BK407:=a_ (blk_below (g:=gb407) (o:=.cells #[.int .i64 a0_0,.int .i64 a0_1,.slice A0_2 l0_2.length c0_2,.slice A0_3 l0_3.length c0_3,.int .i64 a0_4,.int .i64 a0_5] 85 (0,0)) (bp_ BK407.out) hb)
              replace BK408:=a_ (blk_below (g:=gb408) (o:=.cells #[.int .i64 a1_0,.int .i64 a1_1,.int .i64 a1_2,.int .i64 a1_3,.string a1_4] 34 (0,0)) (bp_ BK408.out) hb)
              replace BK437:=a_ (blk_below (g:=gb437) (o:=.cells #[.int .i64 t426,.int .i64 t427,.slice Ao65 t428.length co65,.slice Ao67 t431.length co67,.int .i64 t434,.int .i64 t435] 77 (0,0)) (bp_ BK437.out) hb)
              replace BK448:=a_ (blk_below (g:=gb448) (o:=.cells #[.int .i64 t438,.int .i64 t439,.slice Ao79 t440.length co79,.slice Ao80 t443.length co80,.int .i64 t446,.int .i64 t447] 77 (0,0)) (bp_ BK448.out) hb)
              replace BK465:=a_ (blk_below (g:=gb465) (o:=.cells #[.int .i64 t454,.int .i64 t455,.slice Ao89 t456.length co89,.slice Ao91 t459.length co91,.int .i64 t462,.int .i64 t463] 77 (0,0)) (bp_ BK465.out) hb)
              try clear hb
              refine hK.out _ _ ⟨(bC_ BK448.out 0).trans rfl,(bC_ BK448.out 1).trans rfl,(bC_ BK448.out 2).trans rfl,(bC_ BK448.out 3).trans rfl,(bC_ BK448.out 4).trans rfl,(bC_ BK448.out 5).trans rfl,(bC_ BK407.out 0).trans rfl,(bC_ BK407.out 1).trans rfl,(bC_ BK407.out 2).trans rfl,(bC_ BK407.out 3).trans rfl,(bC_ BK407.out 4).trans rfl,(bC_ BK407.out 5).trans rfl⟩ (fun hHeld=>?_)
              clear hK K
              refine no_ 55 ?_
              refine pure_ (i:=4) (N:=some 56) (v:=?_) (a':=?_) #[true,true,true,true,true] rfl rfl (by kernel_rfl) (fun _ _ _ h=>h) (Or.inl ⟨by rfl,?_⟩) ?_ ?_
              rotate_left
              ·intro w'
               go_simp
               with_reducible rfl
              rotate_left
              ·simp only [Act.put,List.setIfInBounds_toArray,List.set_cons_zero,List.set_cons_succ,i64_w,i32_w]
               rfl
              refine done_ (by kernel_rfl) ?_
              have Z108_0:=cz_ BK448.out 0 (.int .i64 t438)
              have Z108_1:=cz_ BK448.out 1 (.int .i64 t439)
              have Z108_2:=cz_ BK448.out 2 (.slice Ao79 t440.length co79)
              have Z108_3:=cz_ BK448.out 3 (.slice Ao80 t443.length co80)
              have Z108_4:=cz_ BK448.out 4 (.int .i64 t446)
              have Z108_5:=cz_ BK448.out 5 (.int .i64 t447)
              have Y108_0:=bF_ BK448.out 0
              have Y108_1:=bF_ BK448.out 1
              have Y108_2:=bF_ BK448.out 2
              have Y108_3:=bF_ BK448.out 3
              have Y108_4:=bF_ BK448.out 4
              have Y108_5:=bF_ BK448.out 5
              try go_wp2_with (first|((with_reducible refine gC_ (f:=70) rfl ?_);refine gl_ 59 Tryd.func70 #[.agg #[.int .i64 t438,.int .i64 t439,.slice Ao79 t440.length co79,.slice Ao80 t443.length co80,.int .i64 t446,.int .i64 t447],.int .i64 1] ?_;(with_reducible refine (laws_markClient.calls k t438 t439 (fun k_=>some k_=(.slice Ao79 t440.length co79:Value).ownBlock) (.slice Ao79 t440.length co79) t440 (fun k_=>some k_=(.slice Ao80 t443.length co80:Value).ownBlock) (.slice Ao80 t443.length co80) t443 t446 t447 1 t478 t479 t480 w _ ?side1 ?side2 ?side3 A31.out).mono ?_);(case side1=>exact bel_);(case side2=>exact Kd.R_tight rfl HO442.out);(case side3=>exact Kd.R_tight rfl HO445.out);rintro e w109 ⟨rfl,hy0,hy1,hb,hkp⟩;refine ⟨_,rfl,?_⟩;replace BK407:=a_ (blk_kept (bp_ BK407.out) hkp (fun hs_=>Or.elim hs_ (fun e_=>(fun e_=>(Kd.R_ne HO442.out BK407.out (by decide)) e_) e_) (fun e_=>(fun e_=>(Kd.R_ne HO445.out BK407.out (by decide)) e_) e_)));replace BK408:=a_ (blk_kept (bp_ BK408.out) hkp (fun hs_=>Or.elim hs_ (fun e_=>(fun e_=>(Kd.R_ne HO442.out BK408.out (by decide)) e_) e_) (fun e_=>(fun e_=>(Kd.R_ne HO445.out BK408.out (by decide)) e_) e_)));replace HO415:=a_ (Kd.R_mono (ok':=fun k_=>some k_≠(.slice Ao65 t428.length co65:Value).ownBlock∧some k_≠(.slice Ao79 t440.length co79:Value).ownBlock∧some k_≠(.slice Ao89 t456.length co89:Value).ownBlock∧some k_≠(.slice Ao105 t469.length co105:Value).ownBlock) (Kd.R_keptB ((Kd.R_apart' HO415.out (Kd.R_typed HO445.out) (by decide))) hkp (fun k_ hk_ hs_=>Or.elim hs_ (fun e_=>(hk_.1.1.2.1) e_) (fun e_=>(hk_.2) e_))) (fun k_ hk_=>⟨hk_.1.1.1.1,hk_.1.1.1.2.1,hk_.1.1.1.2.2,hk_.1.1.2⟩));replace HO418:=a_ (Kd.R_mono (ok':=fun k_=>some k_≠(.slice Ao67 t431.length co67:Value).ownBlock∧some k_≠(.slice Ao80 t443.length co80:Value).ownBlock∧some k_≠(.slice Ao91 t459.length co91:Value).ownBlock∧some k_≠(.slice Ao106 t472.length co106:Value).ownBlock) (Kd.R_keptB ((Kd.R_apart' HO418.out (Kd.R_typed HO442.out) (by decide))) hkp (fun k_ hk_ hs_=>Or.elim hs_ (fun e_=>(hk_.2) e_) (fun e_=>(hk_.1.1.2.1) e_))) (fun k_ hk_=>⟨hk_.1.1.1.1,hk_.1.1.1.2.1,hk_.1.1.1.2.2,hk_.1.1.2⟩));replace HO430:=a_ (Kd.R_mono (ok':=fun k_=>some k_≠(v414:Value).ownBlock∧some k_≠(.slice Ao79 t440.length co79:Value).ownBlock∧some k_≠(.slice Ao89 t456.length co89:Value).ownBlock∧some k_≠(.slice Ao105 t469.length co105:Value).ownBlock) (Kd.R_keptB ((Kd.R_apart' HO430.out (Kd.R_typed HO445.out) (by decide))) hkp (fun k_ hk_ hs_=>Or.elim hs_ (fun e_=>(hk_.1.1.2.1) e_) (fun e_=>(hk_.2) e_))) (fun k_ hk_=>⟨hk_.1.1.1.1,hk_.1.1.1.2.1,hk_.1.1.1.2.2,hk_.1.1.2⟩));replace HO433:=a_ (Kd.R_mono (ok':=fun k_=>some k_≠(v417:Value).ownBlock∧some k_≠(.slice Ao80 t443.length co80:Value).ownBlock∧some k_≠(.slice Ao91 t459.length co91:Value).ownBlock∧some k_≠(.slice Ao106 t472.length co106:Value).ownBlock) (Kd.R_keptB ((Kd.R_apart' HO433.out (Kd.R_typed HO442.out) (by decide))) hkp (fun k_ hk_ hs_=>Or.elim hs_ (fun e_=>(hk_.2) e_) (fun e_=>(hk_.1.1.2.1) e_))) (fun k_ hk_=>⟨hk_.1.1.1.1,hk_.1.1.1.2.1,hk_.1.1.1.2.2,hk_.1.1.2⟩));replace BK437:=a_ (blk_kept (bp_ BK437.out) hkp (fun hs_=>Or.elim hs_ (fun e_=>(fun e_=>(Kd.R_ne HO442.out BK437.out (by decide)) e_) e_) (fun e_=>(fun e_=>(Kd.R_ne HO445.out BK437.out (by decide)) e_) e_)));replace BK448:=a_ (blk_kept (bp_ BK448.out) hkp (fun hs_=>Or.elim hs_ (fun e_=>(fun e_=>(Kd.R_ne HO442.out BK448.out (by decide)) e_) e_) (fun e_=>(fun e_=>(Kd.R_ne HO445.out BK448.out (by decide)) e_) e_)));replace HO458:=a_ (Kd.R_mono (ok':=fun k_=>some k_≠(v414:Value).ownBlock∧some k_≠(.slice Ao65 t428.length co65:Value).ownBlock∧some k_≠(.slice Ao79 t440.length co79:Value).ownBlock∧some k_≠(.slice Ao105 t469.length co105:Value).ownBlock) (Kd.R_keptB ((Kd.R_apart' HO458.out (Kd.R_typed HO445.out) (by decide))) hkp (fun k_ hk_ hs_=>Or.elim hs_ (fun e_=>(hk_.1.1.2.2) e_) (fun e_=>(hk_.2) e_))) (fun k_ hk_=>⟨hk_.1.1.1.1,hk_.1.1.1.2.1,hk_.1.1.1.2.2,hk_.1.1.2⟩));replace HO461:=a_ (Kd.R_mono (ok':=fun k_=>some k_≠(v417:Value).ownBlock∧some k_≠(.slice Ao67 t431.length co67:Value).ownBlock∧some k_≠(.slice Ao80 t443.length co80:Value).ownBlock∧some k_≠(.slice Ao106 t472.length co106:Value).ownBlock) (Kd.R_keptB ((Kd.R_apart' HO461.out (Kd.R_typed HO442.out) (by decide))) hkp (fun k_ hk_ hs_=>Or.elim hs_ (fun e_=>(hk_.2) e_) (fun e_=>(hk_.1.1.2.2) e_))) (fun k_ hk_=>⟨hk_.1.1.1.1,hk_.1.1.1.2.1,hk_.1.1.1.2.2,hk_.1.1.2⟩));replace BK465:=a_ (blk_kept (bp_ BK465.out) hkp (fun hs_=>Or.elim hs_ (fun e_=>(fun e_=>(Kd.R_ne HO442.out BK465.out (by decide)) e_) e_) (fun e_=>(fun e_=>(Kd.R_ne HO445.out BK465.out (by decide)) e_) e_)));replace HO471:=a_ (Kd.R_mono (ok':=fun k_=>some k_≠(v414:Value).ownBlock∧some k_≠(.slice Ao65 t428.length co65:Value).ownBlock∧some k_≠(.slice Ao79 t440.length co79:Value).ownBlock∧some k_≠(.slice Ao89 t456.length co89:Value).ownBlock) (Kd.R_keptB ((Kd.R_apart' HO471.out (Kd.R_typed HO445.out) (by decide))) hkp (fun k_ hk_ hs_=>Or.elim hs_ (fun e_=>(hk_.1.1.2) e_) (fun e_=>(hk_.2) e_))) (fun k_ hk_=>⟨hk_.1.1.1.1.1.2,hk_.1.1.1.1.2,hk_.1.1.1.2,hk_.1.1.2⟩));replace HO445:=a_ (Kd.R_reok rfl hy1 (fun k_ e_=>HO445.out.1 k_ e_));replace HO474:=a_ (Kd.R_mono (ok':=fun k_=>some k_≠(v417:Value).ownBlock∧some k_≠(.slice Ao67 t431.length co67:Value).ownBlock∧some k_≠(.slice Ao80 t443.length co80:Value).ownBlock∧some k_≠(.slice Ao91 t459.length co91:Value).ownBlock) (Kd.R_keptB ((Kd.R_apart' HO474.out (Kd.R_typed HO442.out) (by decide))) hkp (fun k_ hk_ hs_=>Or.elim hs_ (fun e_=>(hk_.2) e_) (fun e_=>(hk_.1.1.2) e_))) (fun k_ hk_=>⟨hk_.1.1.1.1.1.2,hk_.1.1.1.1.2,hk_.1.1.1.2,hk_.1.1.2⟩));replace HO442:=a_ (Kd.R_reok rfl hy0 (fun k_ e_=>HO442.out.1 k_ e_));replace HB:=a_ (hb);(try clear hb hkp hy0 hy1);have Z110_0:=cz_ BK465.out 0 (.int .i64 t454);have Z110_1:=cz_ BK465.out 1 (.int .i64 t455);have Z110_2:=cz_ BK465.out 2 (.slice Ao89 t456.length co89);have Z110_3:=cz_ BK465.out 3 (.slice Ao91 t459.length co91);have Z110_4:=cz_ BK465.out 4 (.int .i64 t462);have Z110_5:=cz_ BK465.out 5 (.int .i64 t463);have Y110_0:=bF_ BK465.out 0;have Y110_1:=bF_ BK465.out 1;have Y110_2:=bF_ BK465.out 2;have Y110_3:=bF_ BK465.out 3;have Y110_4:=bF_ BK465.out 4;have Y110_5:=bF_ BK465.out 5;have Z111_0:=cz_ BK437.out 0 (.int .i64 t426);have Z111_1:=cz_ BK437.out 1 (.int .i64 t427);have Z111_2:=cz_ BK437.out 2 (.slice Ao65 t428.length co65);have Z111_3:=cz_ BK437.out 3 (.slice Ao67 t431.length co67);have Z111_4:=cz_ BK437.out 4 (.int .i64 t434);have Z111_5:=cz_ BK437.out 5 (.int .i64 t435);have Y111_0:=bF_ BK437.out 0;have Y111_1:=bF_ BK437.out 1;have Y111_2:=bF_ BK437.out 2;have Y111_3:=bF_ BK437.out 3;have Y111_4:=bF_ BK437.out 4;have Y111_5:=bF_ BK437.out 5)|(go_at_call 65;(with_reducible refine (laws_eqClient.calls k t454 t455 _ _ t456 _ _ t459 t462 t463 t426 t427 _ _ t428 _ _ t431 t434 t435 true _ ?side1 ?side2 ?side3 ?side4 ?side5 ?side6 ?side7 ?side8 A33.out).mono ?_);(case side1=>exact cx_ (Kd.R_reads' HO458.out).2.2);(case side2=>exact (Kd.R_reads' HO458.out).2.1);(case side3=>exact cx_ (Kd.R_reads' HO461.out).2.2);(case side4=>exact (Kd.R_reads' HO461.out).2.1);(case side5=>exact cx_ (Kd.R_reads' HO430.out).2.2);(case side6=>exact (Kd.R_reads' HO430.out).2.1);(case side7=>exact cx_ (Kd.R_reads' HO433.out).2.2);(case side8=>exact (Kd.R_reads' HO433.out).2.1);rintro e w112 ⟨rfl,hb⟩;replace HO415:=a_ (Kd.R_below (rp_ HO415.out) hb);replace HO418:=a_ (Kd.R_below (rp_ HO418.out) hb);replace HO430:=a_ (Kd.R_below (rp_ HO430.out) hb);replace HO433:=a_ (Kd.R_below (rp_ HO433.out) hb);replace HO442:=a_ (Kd.R_below (rp_ HO442.out) hb);replace HO445:=a_ (Kd.R_below (rp_ HO445.out) hb);replace HO458:=a_ (Kd.R_below (rp_ HO458.out) hb);replace HO461:=a_ (Kd.R_below (rp_ HO461.out) hb);replace HO471:=a_ (Kd.R_below (rp_ HO471.out) hb);replace HO474:=a_ (Kd.R_below (rp_ HO474.out) hb);replace HB:=a_ (bS_ (bel_) hb);replace BK407:=a_ (blk_below (g:=gb407) (o:=.cells #[.int .i64 a0_0,.int .i64 a0_1,.slice A0_2 l0_2.length c0_2,.slice A0_3 l0_3.length c0_3,.int .i64 a0_4,.int .i64 a0_5] 85 (0,0)) (bp_ BK407.out) hb);replace BK408:=a_ (blk_below (g:=gb408) (o:=.cells #[.int .i64 a1_0,.int .i64 a1_1,.int .i64 a1_2,.int .i64 a1_3,.string a1_4] 34 (0,0)) (bp_ BK408.out) hb);replace BK437:=a_ (blk_below (g:=gb437) (o:=.cells #[.int .i64 t426,.int .i64 t427,.slice Ao65 t428.length co65,.slice Ao67 t431.length co67,.int .i64 t434,.int .i64 t435] 77 (0,0)) (bp_ BK437.out) hb);replace BK448:=a_ (blk_below (g:=gb448) (o:=.cells #[.int .i64 t438,.int .i64 t439,.slice Ao79 t440.length co79,.slice Ao80 t443.length co80,.int .i64 t446,.int .i64 t447] 77 (0,0)) (bp_ BK448.out) hb);replace BK465:=a_ (blk_below (g:=gb465) (o:=.cells #[.int .i64 t454,.int .i64 t455,.slice Ao89 t456.length co89,.slice Ao91 t459.length co91,.int .i64 t462,.int .i64 t463] 77 (0,0)) (bp_ BK465.out) hb);(try clear hb);have Z113_0:=cz_ BK465.out 0 (.int .i64 t454);have Z113_1:=cz_ BK465.out 1 (.int .i64 t455);have Z113_2:=cz_ BK465.out 2 (.slice Ao89 t456.length co89);have Z113_3:=cz_ BK465.out 3 (.slice Ao91 t459.length co91);have Z113_4:=cz_ BK465.out 4 (.int .i64 t462);have Z113_5:=cz_ BK465.out 5 (.int .i64 t463);have Y113_0:=bF_ BK465.out 0;have Y113_1:=bF_ BK465.out 1;have Y113_2:=bF_ BK465.out 2;have Y113_3:=bF_ BK465.out 3;have Y113_4:=bF_ BK465.out 4;have Y113_5:=bF_ BK465.out 5)|((with_reducible refine gC_ (f:=70) rfl ?_);refine gl_ 75 Tryd.func70 #[.agg #[.int .i64 t454,.int .i64 t455,.slice Ao89 t456.length co89,.slice Ao91 t459.length co91,.int .i64 t462,.int .i64 t463],.int .i64 1] ?_;(with_reducible refine (laws_markClient.calls k t454 t455 (fun k_=>some k_=(.slice Ao89 t456.length co89:Value).ownBlock) (.slice Ao89 t456.length co89) t456 (fun k_=>some k_=(.slice Ao91 t459.length co91:Value).ownBlock) (.slice Ao91 t459.length co91) t459 t462 t463 1 t482 t483 t484 w _ ?side1 ?side2 ?side3 A35.out).mono ?_);(case side1=>exact bel_);(case side2=>exact Kd.R_tight rfl HO458.out);(case side3=>exact Kd.R_tight rfl HO461.out);rintro e w114 ⟨rfl,hy0,hy1,hb,hkp⟩;refine ⟨_,rfl,?_⟩;replace BK407:=a_ (blk_kept (bp_ BK407.out) hkp (fun hs_=>Or.elim hs_ (fun e_=>(fun e_=>(Kd.R_ne HO458.out BK407.out (by decide)) e_) e_) (fun e_=>(fun e_=>(Kd.R_ne HO461.out BK407.out (by decide)) e_) e_)));replace BK408:=a_ (blk_kept (bp_ BK408.out) hkp (fun hs_=>Or.elim hs_ (fun e_=>(fun e_=>(Kd.R_ne HO458.out BK408.out (by decide)) e_) e_) (fun e_=>(fun e_=>(Kd.R_ne HO461.out BK408.out (by decide)) e_) e_)));replace HO415:=a_ (Kd.R_mono (ok':=fun k_=>some k_≠(.slice Ao65 t428.length co65:Value).ownBlock∧some k_≠(.slice Ao79 t440.length co79:Value).ownBlock∧some k_≠(.slice Ao89 t456.length co89:Value).ownBlock∧some k_≠(.slice Ao105 t469.length co105:Value).ownBlock) (Kd.R_keptB ((Kd.R_apart' HO415.out (Kd.R_typed HO461.out) (by decide))) hkp (fun k_ hk_ hs_=>Or.elim hs_ (fun e_=>(hk_.1.2.2.1) e_) (fun e_=>(hk_.2) e_))) (fun k_ hk_=>⟨hk_.1.1.1,hk_.1.1.2.1,hk_.1.1.2.2.1,hk_.1.1.2.2.2⟩));replace HO418:=a_ (Kd.R_mono (ok':=fun k_=>some k_≠(.slice Ao67 t431.length co67:Value).ownBlock∧some k_≠(.slice Ao80 t443.length co80:Value).ownBlock∧some k_≠(.slice Ao91 t459.length co91:Value).ownBlock∧some k_≠(.slice Ao106 t472.length co106:Value).ownBlock) (Kd.R_keptB ((Kd.R_apart' HO418.out (Kd.R_typed HO458.out) (by decide))) hkp (fun k_ hk_ hs_=>Or.elim hs_ (fun e_=>(hk_.2) e_) (fun e_=>(hk_.1.2.2.1) e_))) (fun k_ hk_=>⟨hk_.1.1.1,hk_.1.1.2.1,hk_.1.1.2.2.1,hk_.1.1.2.2.2⟩));replace HO430:=a_ (Kd.R_mono (ok':=fun k_=>some k_≠(v414:Value).ownBlock∧some k_≠(.slice Ao79 t440.length co79:Value).ownBlock∧some k_≠(.slice Ao89 t456.length co89:Value).ownBlock∧some k_≠(.slice Ao105 t469.length co105:Value).ownBlock) (Kd.R_keptB ((Kd.R_apart' HO430.out (Kd.R_typed HO461.out) (by decide))) hkp (fun k_ hk_ hs_=>Or.elim hs_ (fun e_=>(hk_.1.2.2.1) e_) (fun e_=>(hk_.2) e_))) (fun k_ hk_=>⟨hk_.1.1.1,hk_.1.1.2.1,hk_.1.1.2.2.1,hk_.1.1.2.2.2⟩));replace HO433:=a_ (Kd.R_mono (ok':=fun k_=>some k_≠(v417:Value).ownBlock∧some k_≠(.slice Ao80 t443.length co80:Value).ownBlock∧some k_≠(.slice Ao91 t459.length co91:Value).ownBlock∧some k_≠(.slice Ao106 t472.length co106:Value).ownBlock) (Kd.R_keptB ((Kd.R_apart' HO433.out (Kd.R_typed HO458.out) (by decide))) hkp (fun k_ hk_ hs_=>Or.elim hs_ (fun e_=>(hk_.2) e_) (fun e_=>(hk_.1.2.2.1) e_))) (fun k_ hk_=>⟨hk_.1.1.1,hk_.1.1.2.1,hk_.1.1.2.2.1,hk_.1.1.2.2.2⟩));replace BK437:=a_ (blk_kept (bp_ BK437.out) hkp (fun hs_=>Or.elim hs_ (fun e_=>(fun e_=>(Kd.R_ne HO458.out BK437.out (by decide)) e_) e_) (fun e_=>(fun e_=>(Kd.R_ne HO461.out BK437.out (by decide)) e_) e_)));replace HO442:=a_ (Kd.R_mono (ok':=fun k_=>some k_≠(v414:Value).ownBlock∧some k_≠(.slice Ao65 t428.length co65:Value).ownBlock∧some k_≠(.slice Ao89 t456.length co89:Value).ownBlock∧some k_≠(.slice Ao105 t469.length co105:Value).ownBlock) (Kd.R_keptB ((Kd.R_apart' HO442.out (Kd.R_typed HO461.out) (by decide))) hkp (fun k_ hk_ hs_=>Or.elim hs_ (fun e_=>(hk_.1.1.2.2) e_) (fun e_=>(hk_.2) e_))) (fun k_ hk_=>⟨hk_.1.1.1.1,hk_.1.1.1.2.1,hk_.1.1.1.2.2,hk_.1.1.2⟩));replace HO445:=a_ (Kd.R_mono (ok':=fun k_=>some k_≠(v417:Value).ownBlock∧some k_≠(.slice Ao67 t431.length co67:Value).ownBlock∧some k_≠(.slice Ao91 t459.length co91:Value).ownBlock∧some k_≠(.slice Ao106 t472.length co106:Value).ownBlock) (Kd.R_keptB ((Kd.R_apart' HO445.out (Kd.R_typed HO458.out) (by decide))) hkp (fun k_ hk_ hs_=>Or.elim hs_ (fun e_=>(hk_.2) e_) (fun e_=>(hk_.1.1.2.2) e_))) (fun k_ hk_=>⟨hk_.1.1.1.1,hk_.1.1.1.2.1,hk_.1.1.1.2.2,hk_.1.1.2⟩));replace BK448:=a_ (blk_kept (bp_ BK448.out) hkp (fun hs_=>Or.elim hs_ (fun e_=>(fun e_=>(Kd.R_ne HO458.out BK448.out (by decide)) e_) e_) (fun e_=>(fun e_=>(Kd.R_ne HO461.out BK448.out (by decide)) e_) e_)));replace BK465:=a_ (blk_kept (bp_ BK465.out) hkp (fun hs_=>Or.elim hs_ (fun e_=>(fun e_=>(Kd.R_ne HO458.out BK465.out (by decide)) e_) e_) (fun e_=>(fun e_=>(Kd.R_ne HO461.out BK465.out (by decide)) e_) e_)));replace HO471:=a_ (Kd.R_mono (ok':=fun k_=>some k_≠(v414:Value).ownBlock∧some k_≠(.slice Ao65 t428.length co65:Value).ownBlock∧some k_≠(.slice Ao79 t440.length co79:Value).ownBlock∧some k_≠(.slice Ao89 t456.length co89:Value).ownBlock) (Kd.R_keptB ((Kd.R_apart' HO471.out (Kd.R_typed HO461.out) (by decide))) hkp (fun k_ hk_ hs_=>Or.elim hs_ (fun e_=>(hk_.1.2.2.2) e_) (fun e_=>(hk_.2) e_))) (fun k_ hk_=>⟨hk_.1.1.1,hk_.1.1.2.1,hk_.1.1.2.2.1,hk_.1.1.2.2.2⟩));replace HO461:=a_ (Kd.R_reok rfl hy1 (fun k_ e_=>HO461.out.1 k_ e_));replace HO474:=a_ (Kd.R_mono (ok':=fun k_=>some k_≠(v417:Value).ownBlock∧some k_≠(.slice Ao67 t431.length co67:Value).ownBlock∧some k_≠(.slice Ao80 t443.length co80:Value).ownBlock∧some k_≠(.slice Ao91 t459.length co91:Value).ownBlock) (Kd.R_keptB ((Kd.R_apart' HO474.out (Kd.R_typed HO458.out) (by decide))) hkp (fun k_ hk_ hs_=>Or.elim hs_ (fun e_=>(hk_.2) e_) (fun e_=>(hk_.1.2.2.2) e_))) (fun k_ hk_=>⟨hk_.1.1.1,hk_.1.1.2.1,hk_.1.1.2.2.1,hk_.1.1.2.2.2⟩));replace HO458:=a_ (Kd.R_reok rfl hy0 (fun k_ e_=>HO458.out.1 k_ e_));replace HB:=a_ (hb);(try clear hb hkp hy0 hy1);have Z115_0:=cz_ BK465.out 0 (.int .i64 t454);have Z115_1:=cz_ BK465.out 1 (.int .i64 t455);have Z115_2:=cz_ BK465.out 2 (.slice Ao89 t456.length co89);have Z115_3:=cz_ BK465.out 3 (.slice Ao91 t459.length co91);have Z115_4:=cz_ BK465.out 4 (.int .i64 t462);have Z115_5:=cz_ BK465.out 5 (.int .i64 t463);have Y115_0:=bF_ BK465.out 0;have Y115_1:=bF_ BK465.out 1;have Y115_2:=bF_ BK465.out 2;have Y115_3:=bF_ BK465.out 3;have Y115_4:=bF_ BK465.out 4;have Y115_5:=bF_ BK465.out 5)|((with_reducible refine gC_ (f:=71) rfl ?_);refine goesL_ (some 78) rfl rfl Tryd.func71 (by kernel_rfl) rfl #[.agg #[.int .i64 t454,.int .i64 t455,.slice Ao89 t483.length co89,.slice Ao91 t484.length co91,.int .i64 t462,.int .i64 t463],.int .i64 1] rfl (by (try simp only [List.map_toArray,List.map_cons,List.map_nil]);first|done|(rw [show t483.length=t456.length from (Kd.R_reads' HO458.out).1.symm,show t484.length=t459.length from (Kd.R_reads' HO461.out).1.symm] <;> rfl)|rfl|(simp only [List.length_drop,List.length_take];rfl)) ?_;(with_reducible refine (laws_heldClient.calls k t454 t455 _ _ t483 _ _ t484 t462 t463 1 t485 _ ?side1 ?side2 ?side3 ?side4 A36.out).mono ?_);(case side1=>exact cx_ (Kd.R_reads' HO458.out).2.2);(case side2=>rw [show t483.length=t456.length from (Kd.R_reads' HO458.out).1.symm];exact (Kd.R_reads' HO458.out).2.1);(case side3=>exact cx_ (Kd.R_reads' HO461.out).2.2);(case side4=>rw [show t484.length=t459.length from (Kd.R_reads' HO461.out).1.symm];exact (Kd.R_reads' HO461.out).2.1);rintro e w116 ⟨rfl,hb⟩;refine ⟨_,rfl,?_⟩;replace HO415:=a_ (Kd.R_below (rp_ HO415.out) hb);replace HO418:=a_ (Kd.R_below (rp_ HO418.out) hb);replace HO430:=a_ (Kd.R_below (rp_ HO430.out) hb);replace HO433:=a_ (Kd.R_below (rp_ HO433.out) hb);replace HO442:=a_ (Kd.R_below (rp_ HO442.out) hb);replace HO445:=a_ (Kd.R_below (rp_ HO445.out) hb);replace HO458:=a_ (Kd.R_below (rp_ HO458.out) hb);replace HO461:=a_ (Kd.R_below (rp_ HO461.out) hb);replace HO471:=a_ (Kd.R_below (rp_ HO471.out) hb);replace HO474:=a_ (Kd.R_below (rp_ HO474.out) hb);replace HB:=a_ (bS_ (bel_) hb);replace BK407:=a_ (blk_below (g:=gb407) (o:=.cells #[.int .i64 a0_0,.int .i64 a0_1,.slice A0_2 l0_2.length c0_2,.slice A0_3 l0_3.length c0_3,.int .i64 a0_4,.int .i64 a0_5] 85 (0,0)) (bp_ BK407.out) hb);replace BK408:=a_ (blk_below (g:=gb408) (o:=.cells #[.int .i64 a1_0,.int .i64 a1_1,.int .i64 a1_2,.int .i64 a1_3,.string a1_4] 34 (0,0)) (bp_ BK408.out) hb);replace BK437:=a_ (blk_below (g:=gb437) (o:=.cells #[.int .i64 t426,.int .i64 t427,.slice Ao65 t428.length co65,.slice Ao67 t431.length co67,.int .i64 t434,.int .i64 t435] 77 (0,0)) (bp_ BK437.out) hb);replace BK448:=a_ (blk_below (g:=gb448) (o:=.cells #[.int .i64 t438,.int .i64 t439,.slice Ao79 t440.length co79,.slice Ao80 t443.length co80,.int .i64 t446,.int .i64 t447] 77 (0,0)) (bp_ BK448.out) hb);replace BK465:=a_ (blk_below (g:=gb465) (o:=.cells #[.int .i64 t454,.int .i64 t455,.slice Ao89 t456.length co89,.slice Ao91 t459.length co91,.int .i64 t462,.int .i64 t463] 77 (0,0)) (bp_ BK465.out) hb);(try clear hb)))
              replace HO415:=a_ (Kd.R_drew HO415.out)
              replace HO418:=a_ (Kd.R_drew HO418.out)
              replace HO430:=a_ (Kd.R_drew HO430.out)
              replace HO433:=a_ (Kd.R_drew HO433.out)
              replace HO442:=a_ (Kd.R_drew HO442.out)
              replace HO445:=a_ (Kd.R_drew HO445.out)
              replace HO458:=a_ (Kd.R_drew HO458.out)
              replace HO461:=a_ (Kd.R_drew HO461.out)
              replace HO471:=a_ (Kd.R_drew HO471.out)
              replace HO474:=a_ (Kd.R_drew HO474.out)
              replace BK407:=a_ (bD_ BK407.out)
              replace BK408:=a_ (bD_ BK408.out)
              replace BK437:=a_ (bD_ BK437.out)
              replace BK448:=a_ (bD_ BK448.out)
              replace BK465:=a_ (bD_ BK465.out)
              replace HB:=a_ (below_drew1 HB.out)
              refine start_ (n:=11) (S:=fun w'=>w'.cell? ⟨gb407,0,none⟩=some (.int .i64 a0_0)∧w'.cell? ⟨gb407,1,none⟩=some (.int .i64 a0_1)∧w'.cell? ⟨gb407,2,none⟩=some (.slice A0_2 l0_2.length c0_2)∧w'.cell? ⟨gb407,3,none⟩=some (.slice A0_3 l0_3.length c0_3)∧w'.cell? ⟨gb407,4,none⟩=some (.int .i64 a0_4)∧w'.cell? ⟨gb407,5,none⟩=some (.int .i64 a0_5)∧w'.cell? ⟨gb408,0,none⟩=some (.int .i64 a1_0)∧w'.cell? ⟨gb408,1,none⟩=some (.int .i64 a1_1)∧w'.cell? ⟨gb408,2,none⟩=some (.int .i64 a1_2)∧w'.cell? ⟨gb408,3,none⟩=some (.int .i64 a1_3)∧w'.cell? ⟨gb408,4,none⟩=some (.string a1_4)) (ds:=[]) #[false,false,false,false,false,false,false,false,false,false,false] (by kernel_rfl) rfl rfl ⟨(bC_ BK407.out 0).trans rfl,(bC_ BK407.out 1).trans rfl,(bC_ BK407.out 2).trans rfl,(bC_ BK407.out 3).trans rfl,(bC_ BK407.out 4).trans rfl,(bC_ BK407.out 5).trans rfl,(bC_ BK408.out 0).trans rfl,(bC_ BK408.out 1).trans rfl,(bC_ BK408.out 2).trans rfl,(bC_ BK408.out 3).trans rfl,(bC_ BK408.out 4).trans rfl⟩ (fun hHeld=>?_);refine with_tabW laws_FnExactClientDo.tab27 laws_FnExactClientDo.bits27 (fun HT_ HW_=>?_)
              generalize w116.drew=w117 at HO415 HO418 HO430 HO433 HO442 HO445 HO458 HO461 HO471 HO474 BK407 BK408 BK437 BK448 BK465 HB hHeld ⊢
              refine ta11_ 0 85 hHeld ?_
              refine ta11_ 2 87 hHeld ?_
              refine join_ (σ:=Value×Value×Value×Value×Nat) 2 #[true,true,true,true,true,true,true,true,true,false,false] (fun s_=>[(86,.agg #[.int .i64 t486,.int .i64 t487,s_.1,s_.2.1,.int .i64 t494,.int .i64 t495]),(88,.agg #[.int .i64 t496,.int .i64 t497,.int .i64 t498,.int .i64 t499,.string t500]),(89,.tuple #[.agg #[.int .i64 t501,.int .i64 t502,s_.2.2.1,s_.2.2.2.1,.int .i64 t509,.int .i64 t510],.bool t511]),(14,.pointer (some ⟨s_.2.2.2.2,0,none⟩)),(84,.tuple #[.agg #[.int .i64 t501,.int .i64 t502,s_.2.2.1,s_.2.2.2.1,.int .i64 t509,.int .i64 t510],.bool t511]),(90,.agg #[.int .i64 t501,.int .i64 t502,s_.2.2.1,s_.2.2.2.1,.int .i64 t509,.int .i64 t510]),(91,.bool t511)]) (fun s_ w'=>(w'.cell? ⟨gb407,0,none⟩=some (.int .i64 a0_0)∧w'.cell? ⟨gb407,1,none⟩=some (.int .i64 a0_1)∧w'.cell? ⟨gb407,2,none⟩=some (.slice A0_2 l0_2.length c0_2)∧w'.cell? ⟨gb407,3,none⟩=some (.slice A0_3 l0_3.length c0_3)∧w'.cell? ⟨gb407,4,none⟩=some (.int .i64 a0_4)∧w'.cell? ⟨gb407,5,none⟩=some (.int .i64 a0_5)∧w'.cell? ⟨gb408,0,none⟩=some (.int .i64 a1_0)∧w'.cell? ⟨gb408,1,none⟩=some (.int .i64 a1_1)∧w'.cell? ⟨gb408,2,none⟩=some (.int .i64 a1_2)∧w'.cell? ⟨gb408,3,none⟩=some (.int .i64 a1_3)∧w'.cell? ⟨gb408,4,none⟩=some (.string a1_4))∧(Kd.R k69 69 w' w.heap.size (fun k_=>some k_≠(.slice Ao65 t428.length co65:Value).ownBlock∧some k_≠(.slice Ao79 t440.length co79:Value).ownBlock∧some k_≠(.slice Ao89 t456.length co89:Value).ownBlock∧some k_≠(.slice Ao105 t469.length co105:Value).ownBlock∧some k_≠(s_.1:Value).ownBlock∧some k_≠(s_.2.2.1:Value).ownBlock) v414 t413)∧(Kd.R k44 44 w' w.heap.size (fun k_=>some k_≠(.slice Ao67 t431.length co67:Value).ownBlock∧some k_≠(.slice Ao80 t443.length co80:Value).ownBlock∧some k_≠(.slice Ao91 t459.length co91:Value).ownBlock∧some k_≠(.slice Ao106 t472.length co106:Value).ownBlock∧some k_≠(s_.2.1:Value).ownBlock∧some k_≠(s_.2.2.2.1:Value).ownBlock) v417 t416)∧(Kd.R k69 69 w' w.heap.size (fun k_=>some k_≠(v414:Value).ownBlock∧some k_≠(.slice Ao79 t440.length co79:Value).ownBlock∧some k_≠(.slice Ao89 t456.length co89:Value).ownBlock∧some k_≠(.slice Ao105 t469.length co105:Value).ownBlock∧some k_≠(s_.1:Value).ownBlock∧some k_≠(s_.2.2.1:Value).ownBlock) (.slice Ao65 t428.length co65) t428)∧(Kd.R k44 44 w' w.heap.size (fun k_=>some k_≠(v417:Value).ownBlock∧some k_≠(.slice Ao80 t443.length co80:Value).ownBlock∧some k_≠(.slice Ao91 t459.length co91:Value).ownBlock∧some k_≠(.slice Ao106 t472.length co106:Value).ownBlock∧some k_≠(s_.2.1:Value).ownBlock∧some k_≠(s_.2.2.2.1:Value).ownBlock) (.slice Ao67 t431.length co67) t431)∧(Kd.R k69 69 w' w.heap.size (fun k_=>some k_≠(v414:Value).ownBlock∧some k_≠(.slice Ao65 t428.length co65:Value).ownBlock∧some k_≠(.slice Ao89 t456.length co89:Value).ownBlock∧some k_≠(.slice Ao105 t469.length co105:Value).ownBlock∧some k_≠(s_.1:Value).ownBlock∧some k_≠(s_.2.2.1:Value).ownBlock) (.slice Ao79 t440.length co79) t479)∧(Kd.R k44 44 w' w.heap.size (fun k_=>some k_≠(v417:Value).ownBlock∧some k_≠(.slice Ao67 t431.length co67:Value).ownBlock∧some k_≠(.slice Ao91 t459.length co91:Value).ownBlock∧some k_≠(.slice Ao106 t472.length co106:Value).ownBlock∧some k_≠(s_.2.1:Value).ownBlock∧some k_≠(s_.2.2.2.1:Value).ownBlock) (.slice Ao80 t443.length co80) t480)∧(Kd.R k69 69 w' w.heap.size (fun k_=>some k_≠(v414:Value).ownBlock∧some k_≠(.slice Ao65 t428.length co65:Value).ownBlock∧some k_≠(.slice Ao79 t440.length co79:Value).ownBlock∧some k_≠(.slice Ao105 t469.length co105:Value).ownBlock∧some k_≠(s_.1:Value).ownBlock∧some k_≠(s_.2.2.1:Value).ownBlock) (.slice Ao89 t456.length co89) t483)∧(Kd.R k44 44 w' w.heap.size (fun k_=>some k_≠(v417:Value).ownBlock∧some k_≠(.slice Ao67 t431.length co67:Value).ownBlock∧some k_≠(.slice Ao80 t443.length co80:Value).ownBlock∧some k_≠(.slice Ao106 t472.length co106:Value).ownBlock∧some k_≠(s_.2.1:Value).ownBlock∧some k_≠(s_.2.2.2.1:Value).ownBlock) (.slice Ao91 t459.length co91) t484)∧(Kd.R k69 69 w' w.heap.size (fun k_=>some k_≠(v414:Value).ownBlock∧some k_≠(.slice Ao65 t428.length co65:Value).ownBlock∧some k_≠(.slice Ao79 t440.length co79:Value).ownBlock∧some k_≠(.slice Ao89 t456.length co89:Value).ownBlock∧some k_≠(s_.1:Value).ownBlock∧some k_≠(s_.2.2.1:Value).ownBlock) (.slice Ao105 t469.length co105) t469)∧(Kd.R k44 44 w' w.heap.size (fun k_=>some k_≠(v417:Value).ownBlock∧some k_≠(.slice Ao67 t431.length co67:Value).ownBlock∧some k_≠(.slice Ao80 t443.length co80:Value).ownBlock∧some k_≠(.slice Ao91 t459.length co91:Value).ownBlock∧some k_≠(s_.2.1:Value).ownBlock∧some k_≠(s_.2.2.2.1:Value).ownBlock) (.slice Ao106 t472.length co106) t472)∧(Kd.R k69 69 w' w.heap.size (fun k_=>some k_≠(v414:Value).ownBlock∧some k_≠(.slice Ao65 t428.length co65:Value).ownBlock∧some k_≠(.slice Ao79 t440.length co79:Value).ownBlock∧some k_≠(.slice Ao89 t456.length co89:Value).ownBlock∧some k_≠(.slice Ao105 t469.length co105:Value).ownBlock∧some k_≠(s_.2.2.1:Value).ownBlock) s_.1 t488)∧(Kd.R k44 44 w' w.heap.size (fun k_=>some k_≠(v417:Value).ownBlock∧some k_≠(.slice Ao67 t431.length co67:Value).ownBlock∧some k_≠(.slice Ao80 t443.length co80:Value).ownBlock∧some k_≠(.slice Ao91 t459.length co91:Value).ownBlock∧some k_≠(.slice Ao106 t472.length co106:Value).ownBlock∧some k_≠(s_.2.2.2.1:Value).ownBlock) s_.2.1 t491)∧(Kd.R k69 69 w' w.heap.size (fun k_=>some k_≠(v414:Value).ownBlock∧some k_≠(.slice Ao65 t428.length co65:Value).ownBlock∧some k_≠(.slice Ao79 t440.length co79:Value).ownBlock∧some k_≠(.slice Ao89 t456.length co89:Value).ownBlock∧some k_≠(.slice Ao105 t469.length co105:Value).ownBlock∧some k_≠(s_.1:Value).ownBlock) s_.2.2.1 t503)∧(Kd.R k44 44 w' w.heap.size (fun k_=>some k_≠(v417:Value).ownBlock∧some k_≠(.slice Ao67 t431.length co67:Value).ownBlock∧some k_≠(.slice Ao80 t443.length co80:Value).ownBlock∧some k_≠(.slice Ao91 t459.length co91:Value).ownBlock∧some k_≠(.slice Ao106 t472.length co106:Value).ownBlock∧some k_≠(s_.2.1:Value).ownBlock) s_.2.2.2.1 t506)∧(w'.heap[gb407]?=some (.cells #[.int .i64 a0_0,.int .i64 a0_1,.slice A0_2 l0_2.length c0_2,.slice A0_3 l0_3.length c0_3,.int .i64 a0_4,.int .i64 a0_5] 85 (0,0)))∧(w'.heap[gb408]?=some (.cells #[.int .i64 a1_0,.int .i64 a1_1,.int .i64 a1_2,.int .i64 a1_3,.string a1_4] 34 (0,0)))∧(w'.heap[gb437]?=some (.cells #[.int .i64 t426,.int .i64 t427,.slice Ao65 t428.length co65,.slice Ao67 t431.length co67,.int .i64 t434,.int .i64 t435] 77 (0,0)))∧(w'.heap[gb448]?=some (.cells #[.int .i64 t438,.int .i64 t439,.slice Ao79 t440.length co79,.slice Ao80 t443.length co80,.int .i64 t446,.int .i64 t447] 77 (0,0)))∧(w'.heap[gb465]?=some (.cells #[.int .i64 t454,.int .i64 t455,.slice Ao89 t456.length co89,.slice Ao91 t459.length co91,.int .i64 t462,.int .i64 t463] 77 (0,0)))∧(w'.heap[s_.2.2.2.2]?=some (.cells #[.int .i64 0,.int .i64 0,.slice none 0 0,.slice none 0 0,.int .i64 0,.int .i64 0] 77 (0,0)))∧(w.heap.size≤s_.2.2.2.2)∧(w.heap.size≤s_.2.2.2.2)∧(gb407≠s_.2.2.2.2)∧(s_.2.2.2.2≠gb407)∧(gb408≠s_.2.2.2.2)∧(s_.2.2.2.2≠gb408)∧(gb437≠s_.2.2.2.2)∧(s_.2.2.2.2≠gb437)∧(gb448≠s_.2.2.2.2)∧(s_.2.2.2.2≠gb448)∧(gb465≠s_.2.2.2.2)∧(s_.2.2.2.2≠gb465)∧(Below w.heap.size w w')) ?_ ?_
              rotate_left
              ·intro hCont
               refine two_ (i:=1) (j:=8) (Ni:=some 86) (Nj:=some 14) #[true,true,true,false,false,false,false,false,false,false,false] #[true,false,true,false,false,false,false,false,true,false,false] rfl rfl rfl rfl (two_of HT_.out (by kernel_rfl)) (by decide) (by decide) (fun K hK=>?_) (fun K hK=>?_)
               ·skip
                refine goes_ Tryd.func64 (by kernel_rfl) rfl #[.agg #[.int .i64 a0_0,.int .i64 a0_1,.slice A0_2 l0_2.length c0_2,.slice A0_3 l0_3.length c0_3,.int .i64 a0_4,.int .i64 a0_5]] (by rfl) rfl rfl ar_ ?_
                with_reducible refine (laws_toClient.calls k a0_0 a0_1 _ _ l0_2 _ _ l0_3 a0_4 a0_5 t486 t487 t488 t491 t494 t495 _ ?side1 ?side2 ?side3 ?side4 A39.out).mono ?_
                (case side1=>exact cp_ HR0_2.out)
                (case side2=>exact HC0_2.out)
                (case side3=>exact cx_ (Kd.C_below HR0_3.out HB.out))
                (case side4=>exact HC0_3.out)
                rintro e w118 ⟨v489,v492,rfl,ho0,ho1,hb⟩
                refine ⟨_,rfl,?_⟩
                have HO490:=a_ (Kd.R_lower (Kd.R_new' (Kd.R_new' (Kd.R_new' (Kd.R_new' (Kd.R_new' ho0 (Kd.R_lt (rp_ HO415.out))) (Kd.R_lt (rp_ HO430.out))) (Kd.R_lt (rp_ HO442.out))) (Kd.R_lt (rp_ HO458.out))) (Kd.R_lt (rp_ HO471.out))) (below_size (bel_)))
                replace HO415:=a_ (Kd.R_elder' (rp_ HO415.out) (Kd.R_base ho0) hb)
                replace HO430:=a_ (Kd.R_elder' (rp_ HO430.out) (Kd.R_base ho0) hb)
                replace HO442:=a_ (Kd.R_elder' (rp_ HO442.out) (Kd.R_base ho0) hb)
                replace HO458:=a_ (Kd.R_elder' (rp_ HO458.out) (Kd.R_base ho0) hb)
                replace HO471:=a_ (Kd.R_elder' (rp_ HO471.out) (Kd.R_base ho0) hb)
                have HO493:=a_ (Kd.R_lower (Kd.R_new' (Kd.R_new' (Kd.R_new' (Kd.R_new' (Kd.R_new' ho1 (Kd.R_lt (rp_ HO418.out))) (Kd.R_lt (rp_ HO433.out))) (Kd.R_lt (rp_ HO445.out))) (Kd.R_lt (rp_ HO461.out))) (Kd.R_lt (rp_ HO474.out))) (below_size (bel_)))
                replace HO418:=a_ (Kd.R_elder' (rp_ HO418.out) (Kd.R_base ho1) hb)
                replace HO433:=a_ (Kd.R_elder' (rp_ HO433.out) (Kd.R_base ho1) hb)
                replace HO445:=a_ (Kd.R_elder' (rp_ HO445.out) (Kd.R_base ho1) hb)
                replace HO461:=a_ (Kd.R_elder' (rp_ HO461.out) (Kd.R_base ho1) hb)
                replace HO474:=a_ (Kd.R_elder' (rp_ HO474.out) (Kd.R_base ho1) hb)
                replace HB:=a_ (bS_ (bel_) hb)
                replace BK407:=a_ (blk_below (g:=gb407) (o:=.cells #[.int .i64 a0_0,.int .i64 a0_1,.slice A0_2 l0_2.length c0_2,.slice A0_3 l0_3.length c0_3,.int .i64 a0_4,.int .i64 a0_5] 85 (0,0)) (bp_ BK407.out) hb)
                replace BK408:=a_ (blk_below (g:=gb408) (o:=.cells #[.int .i64 a1_0,.int .i64 a1_1,.int .i64 a1_2,.int .i64 a1_3,.string a1_4] 34 (0,0)) (bp_ BK408.out) hb)
                replace BK437:=a_ (blk_below (g:=gb437) (o:=.cells #[.int .i64 t426,.int .i64 t427,.slice Ao65 t428.length co65,.slice Ao67 t431.length co67,.int .i64 t434,.int .i64 t435] 77 (0,0)) (bp_ BK437.out) hb)
                replace BK448:=a_ (blk_below (g:=gb448) (o:=.cells #[.int .i64 t438,.int .i64 t439,.slice Ao79 t440.length co79,.slice Ao80 t443.length co80,.int .i64 t446,.int .i64 t447] 77 (0,0)) (bp_ BK448.out) hb)
                replace BK465:=a_ (blk_below (g:=gb465) (o:=.cells #[.int .i64 t454,.int .i64 t455,.slice Ao89 t456.length co89,.slice Ao91 t459.length co91,.int .i64 t462,.int .i64 t463] 77 (0,0)) (bp_ BK465.out) hb)
                try clear hb ho0 ho1
                refine hK.out _ _ ⟨(bC_ BK407.out 0).trans rfl,(bC_ BK407.out 1).trans rfl,(bC_ BK407.out 2).trans rfl,(bC_ BK407.out 3).trans rfl,(bC_ BK407.out 4).trans rfl,(bC_ BK407.out 5).trans rfl,(bC_ BK408.out 0).trans rfl,(bC_ BK408.out 1).trans rfl,(bC_ BK408.out 2).trans rfl,(bC_ BK408.out 3).trans rfl,(bC_ BK408.out 4).trans rfl⟩ (fun hHeld=>?_)
                clear hK K
                refine no_ 86 ?_
                refine two_ (i:=3) (j:=8) (Ni:=some 88) (Nj:=some 14) #[true,true,true,true,false,false,false,false,false,false,false] #[true,true,true,false,false,false,false,false,true,false,false] rfl rfl rfl rfl (two_of HT_.out (by kernel_rfl)) (by decide) (by decide) (fun K hK=>?_) (fun K hK=>?_)
                ·skip
                 refine goes_ Tryd.func68 (by kernel_rfl) rfl #[.agg #[.int .i64 a1_0,.int .i64 a1_1,.int .i64 a1_2,.int .i64 a1_3,.string a1_4]] (by rfl) rfl rfl ar_ ?_
                 with_reducible refine (laws_toOp.calls a1_0 a1_1 a1_2 a1_3 a1_4 t496 t497 t498 t499 t500 _ A40.out).mono ?_
                 rintro e w119 ⟨rfl,hb⟩
                 refine ⟨_,rfl,?_⟩
                 replace HO415:=a_ (Kd.R_below (rp_ HO415.out) hb)
                 replace HO418:=a_ (Kd.R_below (rp_ HO418.out) hb)
                 replace HO430:=a_ (Kd.R_below (rp_ HO430.out) hb)
                 replace HO433:=a_ (Kd.R_below (rp_ HO433.out) hb)
                 replace HO442:=a_ (Kd.R_below (rp_ HO442.out) hb)
                 replace HO445:=a_ (Kd.R_below (rp_ HO445.out) hb)
                 replace HO458:=a_ (Kd.R_below (rp_ HO458.out) hb)
                 replace HO461:=a_ (Kd.R_below (rp_ HO461.out) hb)
                 replace HO471:=a_ (Kd.R_below (rp_ HO471.out) hb)
                 replace HO474:=a_ (Kd.R_below (rp_ HO474.out) hb)
                 replace HO490:=a_ (Kd.R_below (rp_ HO490.out) hb)
                 replace HO493:=a_ (Kd.R_below (rp_ HO493.out) hb)
                 replace HB:=a_ (bS_ (bel_) hb)
                 replace BK407:=a_ (blk_below (g:=gb407) (o:=.cells #[.int .i64 a0_0,.int .i64 a0_1,.slice A0_2 l0_2.length c0_2,.slice A0_3 l0_3.length c0_3,.int .i64 a0_4,.int .i64 a0_5] 85 (0,0)) (bp_ BK407.out) hb)
                 replace BK408:=a_ (blk_below (g:=gb408) (o:=.cells #[.int .i64 a1_0,.int .i64 a1_1,.int .i64 a1_2,.int .i64 a1_3,.string a1_4] 34 (0,0)) (bp_ BK408.out) hb)
                 replace BK437:=a_ (blk_below (g:=gb437) (o:=.cells #[.int .i64 t426,.int .i64 t427,.slice Ao65 t428.length co65,.slice Ao67 t431.length co67,.int .i64 t434,.int .i64 t435] 77 (0,0)) (bp_ BK437.out) hb)
                 replace BK448:=a_ (blk_below (g:=gb448) (o:=.cells #[.int .i64 t438,.int .i64 t439,.slice Ao79 t440.length co79,.slice Ao80 t443.length co80,.int .i64 t446,.int .i64 t447] 77 (0,0)) (bp_ BK448.out) hb)
                 replace BK465:=a_ (blk_below (g:=gb465) (o:=.cells #[.int .i64 t454,.int .i64 t455,.slice Ao89 t456.length co89,.slice Ao91 t459.length co91,.int .i64 t462,.int .i64 t463] 77 (0,0)) (bp_ BK465.out) hb)
                 try clear hb
                 obtain ⟨Ao120,co120,eo120⟩:=Kd.R_slice HO490.out
                 (first|subst eo120|(injection eo120 with f1_ f2_ f3_;have f4_:=f1_.symm;have f5_:=f3_.symm;clear f1_ f2_ f3_;subst f4_;subst f5_))
                 obtain ⟨Ao121,co121,eo121⟩:=Kd.R_slice HO493.out
                 (first|subst eo121|(injection eo121 with f1_ f2_ f3_;have f4_:=f1_.symm;have f5_:=f3_.symm;clear f1_ f2_ f3_;subst f4_;subst f5_))
                 refine hK.out _ _ ⟨(bC_ BK407.out 0).trans rfl,(bC_ BK407.out 1).trans rfl,(bC_ BK407.out 2).trans rfl,(bC_ BK407.out 3).trans rfl,(bC_ BK407.out 4).trans rfl,(bC_ BK407.out 5).trans rfl,(bC_ BK408.out 0).trans rfl,(bC_ BK408.out 1).trans rfl,(bC_ BK408.out 2).trans rfl,(bC_ BK408.out 3).trans rfl,(bC_ BK408.out 4).trans rfl⟩ (fun hHeld=>?_)
                 clear hK K
                 refine no_ 88 ?_
                 refine two_ (i:=4) (j:=8) (Ni:=some 89) (Nj:=some 14) #[true,true,true,true,true,false,false,false,false,false,false] #[true,true,true,true,false,false,false,false,true,false,false] rfl rfl rfl rfl (two_of HT_.out (by kernel_rfl)) (by decide) (by decide) (fun K hK=>?_) (fun K hK=>?_)
                 ·skip
                  refine goes_ Tryd.func69 (by kernel_rfl) rfl #[.agg #[.int .i64 t486,.int .i64 t487,.slice Ao120 t488.length co120,.slice Ao121 t491.length co121,.int .i64 t494,.int .i64 t495],.agg #[.int .i64 t496,.int .i64 t497,.int .i64 t498,.int .i64 t499,.string t500]] (by rfl) rfl rfl ar_ ?_
                  with_reducible refine (impl_ClientDo.calls k t486 t487 _ _ t488 _ _ t491 t494 t495 t496 t497 t498 t499 t500 t501 t502 t503 t506 t509 t510 t511 _ ?side1 ?side2 ?side3 ?side4 A41.out ?side5).mono ?_
                  (case side1=>exact cx_ (Kd.R_reads' HO490.out).2.2)
                  (case side2=>exact (Kd.R_reads' HO490.out).2.1)
                  (case side3=>exact cx_ (Kd.R_reads' HO493.out).2.2)
                  (case side4=>exact (Kd.R_reads' HO493.out).2.1)
                  (case side5=>exact Glob.below HG.out (bel_))
                  rintro e w122 ⟨v504,v507,rfl,ho0,ho1,hb⟩
                  refine ⟨_,rfl,?_⟩
                  have HO505:=a_ (Kd.R_lower (Kd.R_new' (Kd.R_new' (Kd.R_new' (Kd.R_new' (Kd.R_new' (Kd.R_new' ho0 (Kd.R_lt (rp_ HO415.out))) (Kd.R_lt (rp_ HO430.out))) (Kd.R_lt (rp_ HO442.out))) (Kd.R_lt (rp_ HO458.out))) (Kd.R_lt (rp_ HO471.out))) (Kd.R_lt (rp_ HO490.out))) (below_size (bel_)))
                  replace HO415:=a_ (Kd.R_elder' (rp_ HO415.out) (Kd.R_base ho0) hb)
                  replace HO430:=a_ (Kd.R_elder' (rp_ HO430.out) (Kd.R_base ho0) hb)
                  replace HO442:=a_ (Kd.R_elder' (rp_ HO442.out) (Kd.R_base ho0) hb)
                  replace HO458:=a_ (Kd.R_elder' (rp_ HO458.out) (Kd.R_base ho0) hb)
                  replace HO471:=a_ (Kd.R_elder' (rp_ HO471.out) (Kd.R_base ho0) hb)
                  replace HO490:=a_ (Kd.R_elder' (rp_ HO490.out) (Kd.R_base ho0) hb)
                  have HO508:=a_ (Kd.R_lower (Kd.R_new' (Kd.R_new' (Kd.R_new' (Kd.R_new' (Kd.R_new' (Kd.R_new' ho1 (Kd.R_lt (rp_ HO418.out))) (Kd.R_lt (rp_ HO433.out))) (Kd.R_lt (rp_ HO445.out))) (Kd.R_lt (rp_ HO461.out))) (Kd.R_lt (rp_ HO474.out))) (Kd.R_lt (rp_ HO493.out))) (below_size (bel_)))
                  replace HO418:=a_ (Kd.R_elder' (rp_ HO418.out) (Kd.R_base ho1) hb)
                  replace HO433:=a_ (Kd.R_elder' (rp_ HO433.out) (Kd.R_base ho1) hb)
                  replace HO445:=a_ (Kd.R_elder' (rp_ HO445.out) (Kd.R_base ho1) hb)
                  replace HO461:=a_ (Kd.R_elder' (rp_ HO461.out) (Kd.R_base ho1) hb)
                  replace HO474:=a_ (Kd.R_elder' (rp_ HO474.out) (Kd.R_base ho1) hb)
                  replace HO493:=a_ (Kd.R_elder' (rp_ HO493.out) (Kd.R_base ho1) hb)
                  replace HB:=a_ (bS_ (bel_) hb)
                  replace BK407:=a_ (blk_below (g:=gb407) (o:=.cells #[.int .i64 a0_0,.int .i64 a0_1,.slice A0_2 l0_2.length c0_2,.slice A0_3 l0_3.length c0_3,.int .i64 a0_4,.int .i64 a0_5] 85 (0,0)) (bp_ BK407.out) hb)
                  replace BK408:=a_ (blk_below (g:=gb408) (o:=.cells #[.int .i64 a1_0,.int .i64 a1_1,.int .i64 a1_2,.int .i64 a1_3,.string a1_4] 34 (0,0)) (bp_ BK408.out) hb)
                  replace BK437:=a_ (blk_below (g:=gb437) (o:=.cells #[.int .i64 t426,.int .i64 t427,.slice Ao65 t428.length co65,.slice Ao67 t431.length co67,.int .i64 t434,.int .i64 t435] 77 (0,0)) (bp_ BK437.out) hb)
                  replace BK448:=a_ (blk_below (g:=gb448) (o:=.cells #[.int .i64 t438,.int .i64 t439,.slice Ao79 t440.length co79,.slice Ao80 t443.length co80,.int .i64 t446,.int .i64 t447] 77 (0,0)) (bp_ BK448.out) hb)
                  replace BK465:=a_ (blk_below (g:=gb465) (o:=.cells #[.int .i64 t454,.int .i64 t455,.slice Ao89 t456.length co89,.slice Ao91 t459.length co91,.int .i64 t462,.int .i64 t463] 77 (0,0)) (bp_ BK465.out) hb)
                  try clear hb ho0 ho1
                  refine hK.out _ _ ⟨(bC_ BK407.out 0).trans rfl,(bC_ BK407.out 1).trans rfl,(bC_ BK407.out 2).trans rfl,(bC_ BK407.out 3).trans rfl,(bC_ BK407.out 4).trans rfl,(bC_ BK407.out 5).trans rfl,(bC_ BK408.out 0).trans rfl,(bC_ BK408.out 1).trans rfl,(bC_ BK408.out 2).trans rfl,(bC_ BK408.out 3).trans rfl,(bC_ BK408.out 4).trans rfl⟩ (fun hHeld=>?_)
                  clear hK K
                  refine no_ 89 ?_
                  refine pa_ 5 84 ?_
                  refine pa_ 6 90 ?_
                  refine pa_ 7 91 ?_
                  refine on_ 8 14 (fun K hK=>?_)
                  refine box_step ?hg (N:=14) ?hd (cs:=#[.int .i64 0,.int .i64 0,.slice none 0 0,.slice none 0 0,.int .i64 0,.int .i64 0]) (t:=77) ?hr ?_;(case hd=>rfl);(case hg=>rfl);(case hr=>first|(go_simp;done)|(go_simp;rfl))
                  intro gb512 hg w123 hbox hb
                  replace HO415:=a_ (Kd.R_below (rp_ HO415.out) hb)
                  replace HO418:=a_ (Kd.R_below (rp_ HO418.out) hb)
                  replace HO430:=a_ (Kd.R_below (rp_ HO430.out) hb)
                  replace HO433:=a_ (Kd.R_below (rp_ HO433.out) hb)
                  replace HO442:=a_ (Kd.R_below (rp_ HO442.out) hb)
                  replace HO445:=a_ (Kd.R_below (rp_ HO445.out) hb)
                  replace HO458:=a_ (Kd.R_below (rp_ HO458.out) hb)
                  replace HO461:=a_ (Kd.R_below (rp_ HO461.out) hb)
                  replace HO471:=a_ (Kd.R_below (rp_ HO471.out) hb)
                  replace HO474:=a_ (Kd.R_below (rp_ HO474.out) hb)
                  replace HO490:=a_ (Kd.R_below (rp_ HO490.out) hb)
                  replace HO493:=a_ (Kd.R_below (rp_ HO493.out) hb)
                  replace HO505:=a_ (Kd.R_below (rp_ HO505.out) hb)
                  replace HO508:=a_ (Kd.R_below (rp_ HO508.out) hb)
                  have BK512:=a_ (hbox)
                  have GW512:=a_ ((by rw [hg];exact (below_size (bel_)):w.heap.size≤gb512))
                  have GE512:=a_ ((by rw [hg];exact (below_size (bel_)):w.heap.size≤gb512))
                  replace HB:=a_ (bS_ (bel_) hb)
                  have NB407_512:=a_ ((by rw [hg];exact Nat.ne_of_lt (blk_lt (g:=gb407) (o:=.cells #[.int .i64 a0_0,.int .i64 a0_1,.slice A0_2 l0_2.length c0_2,.slice A0_3 l0_3.length c0_3,.int .i64 a0_4,.int .i64 a0_5] 85 (0,0)) (bp_ BK407.out)):gb407≠gb512))
                  have NB512_407:=a_ ((by rw [hg];exact Nat.ne_of_gt (blk_lt (g:=gb407) (o:=.cells #[.int .i64 a0_0,.int .i64 a0_1,.slice A0_2 l0_2.length c0_2,.slice A0_3 l0_3.length c0_3,.int .i64 a0_4,.int .i64 a0_5] 85 (0,0)) (bp_ BK407.out)):gb512≠gb407))
                  replace BK407:=a_ (blk_below (g:=gb407) (o:=.cells #[.int .i64 a0_0,.int .i64 a0_1,.slice A0_2 l0_2.length c0_2,.slice A0_3 l0_3.length c0_3,.int .i64 a0_4,.int .i64 a0_5] 85 (0,0)) (bp_ BK407.out) hb)
                  have NB408_512:=a_ ((by rw [hg];exact Nat.ne_of_lt (blk_lt (g:=gb408) (o:=.cells #[.int .i64 a1_0,.int .i64 a1_1,.int .i64 a1_2,.int .i64 a1_3,.string a1_4] 34 (0,0)) (bp_ BK408.out)):gb408≠gb512))
                  have NB512_408:=a_ ((by rw [hg];exact Nat.ne_of_gt (blk_lt (g:=gb408) (o:=.cells #[.int .i64 a1_0,.int .i64 a1_1,.int .i64 a1_2,.int .i64 a1_3,.string a1_4] 34 (0,0)) (bp_ BK408.out)):gb512≠gb408))
                  replace BK408:=a_ (blk_below (g:=gb408) (o:=.cells #[.int .i64 a1_0,.int .i64 a1_1,.int .i64 a1_2,.int .i64 a1_3,.string a1_4] 34 (0,0)) (bp_ BK408.out) hb)
                  have NB437_512:=a_ ((by rw [hg];exact Nat.ne_of_lt (blk_lt (g:=gb437) (o:=.cells #[.int .i64 t426,.int .i64 t427,.slice Ao65 t428.length co65,.slice Ao67 t431.length co67,.int .i64 t434,.int .i64 t435] 77 (0,0)) (bp_ BK437.out)):gb437≠gb512))
                  have NB512_437:=a_ ((by rw [hg];exact Nat.ne_of_gt (blk_lt (g:=gb437) (o:=.cells #[.int .i64 t426,.int .i64 t427,.slice Ao65 t428.length co65,.slice Ao67 t431.length co67,.int .i64 t434,.int .i64 t435] 77 (0,0)) (bp_ BK437.out)):gb512≠gb437))
                  replace BK437:=a_ (blk_below (g:=gb437) (o:=.cells #[.int .i64 t426,.int .i64 t427,.slice Ao65 t428.length co65,.slice Ao67 t431.length co67,.int .i64 t434,.int .i64 t435] 77 (0,0)) (bp_ BK437.out) hb)
                  have NB448_512:=a_ ((by rw [hg];exact Nat.ne_of_lt (blk_lt (g:=gb448) (o:=.cells #[.int .i64 t438,.int .i64 t439,.slice Ao79 t440.length co79,.slice Ao80 t443.length co80,.int .i64 t446,.int .i64 t447] 77 (0,0)) (bp_ BK448.out)):gb448≠gb512))
                  have NB512_448:=a_ ((by rw [hg];exact Nat.ne_of_gt (blk_lt (g:=gb448) (o:=.cells #[.int .i64 t438,.int .i64 t439,.slice Ao79 t440.length co79,.slice Ao80 t443.length co80,.int .i64 t446,.int .i64 t447] 77 (0,0)) (bp_ BK448.out)):gb512≠gb448))
                  replace BK448:=a_ (blk_below (g:=gb448) (o:=.cells #[.int .i64 t438,.int .i64 t439,.slice Ao79 t440.length co79,.slice Ao80 t443.length co80,.int .i64 t446,.int .i64 t447] 77 (0,0)) (bp_ BK448.out) hb)
                  have NB465_512:=a_ ((by rw [hg];exact Nat.ne_of_lt (blk_lt (g:=gb465) (o:=.cells #[.int .i64 t454,.int .i64 t455,.slice Ao89 t456.length co89,.slice Ao91 t459.length co91,.int .i64 t462,.int .i64 t463] 77 (0,0)) (bp_ BK465.out)):gb465≠gb512))
                  have NB512_465:=a_ ((by rw [hg];exact Nat.ne_of_gt (blk_lt (g:=gb465) (o:=.cells #[.int .i64 t454,.int .i64 t455,.slice Ao89 t456.length co89,.slice Ao91 t459.length co91,.int .i64 t462,.int .i64 t463] 77 (0,0)) (bp_ BK465.out)):gb512≠gb465))
                  replace BK465:=a_ (blk_below (g:=gb465) (o:=.cells #[.int .i64 t454,.int .i64 t455,.slice Ao89 t456.length co89,.slice Ao91 t459.length co91,.int .i64 t462,.int .i64 t463] 77 (0,0)) (bp_ BK465.out) hb)
                  clear hb hbox hg
                  refine hK.out _ _ ⟨(bC_ BK407.out 0).trans rfl,(bC_ BK407.out 1).trans rfl,(bC_ BK407.out 2).trans rfl,(bC_ BK407.out 3).trans rfl,(bC_ BK407.out 4).trans rfl,(bC_ BK407.out 5).trans rfl,(bC_ BK408.out 0).trans rfl,(bC_ BK408.out 1).trans rfl,(bC_ BK408.out 2).trans rfl,(bC_ BK408.out 3).trans rfl,(bC_ BK408.out 4).trans rfl⟩ (fun hHeld=>?_)
                  clear hK K
                  refine no_ 14 ?_
                  exact norm_ (by simp only [putAll,Act.put,List.setIfInBounds_toArray,List.set_cons_zero,List.set_cons_succ]) (hCont (.slice Ao120 t488.length co120,.slice Ao121 t491.length co121,v504,v507,gb512) _ ⟨hHeld,(by (with_reducible repeat (first|apply Kd.R_alloc|apply Kd.R_drewN|apply Kd.R_drew));exact Kd.R_mono HO415.out (fun _ hk=>⟨hk.1.1.1,⟨hk.1.1.2.1,⟨hk.1.1.2.2.1,⟨hk.1.1.2.2.2,⟨hk.1.2,hk.2⟩⟩⟩⟩⟩)),(by (with_reducible repeat (first|apply Kd.R_alloc|apply Kd.R_drewN|apply Kd.R_drew));exact Kd.R_mono HO418.out (fun _ hk=>⟨hk.1.1.1,⟨hk.1.1.2.1,⟨hk.1.1.2.2.1,⟨hk.1.1.2.2.2,⟨hk.1.2,hk.2⟩⟩⟩⟩⟩)),(by (with_reducible repeat (first|apply Kd.R_alloc|apply Kd.R_drewN|apply Kd.R_drew));exact Kd.R_mono HO430.out (fun _ hk=>⟨hk.1.1.1,⟨hk.1.1.2.1,⟨hk.1.1.2.2.1,⟨hk.1.1.2.2.2,⟨hk.1.2,hk.2⟩⟩⟩⟩⟩)),(by (with_reducible repeat (first|apply Kd.R_alloc|apply Kd.R_drewN|apply Kd.R_drew));exact Kd.R_mono HO433.out (fun _ hk=>⟨hk.1.1.1,⟨hk.1.1.2.1,⟨hk.1.1.2.2.1,⟨hk.1.1.2.2.2,⟨hk.1.2,hk.2⟩⟩⟩⟩⟩)),(by (with_reducible repeat (first|apply Kd.R_alloc|apply Kd.R_drewN|apply Kd.R_drew));exact Kd.R_mono HO442.out (fun _ hk=>⟨hk.1.1.1,⟨hk.1.1.2.1,⟨hk.1.1.2.2.1,⟨hk.1.1.2.2.2,⟨hk.1.2,hk.2⟩⟩⟩⟩⟩)),(by (with_reducible repeat (first|apply Kd.R_alloc|apply Kd.R_drewN|apply Kd.R_drew));exact Kd.R_mono HO445.out (fun _ hk=>⟨hk.1.1.1,⟨hk.1.1.2.1,⟨hk.1.1.2.2.1,⟨hk.1.1.2.2.2,⟨hk.1.2,hk.2⟩⟩⟩⟩⟩)),(by (with_reducible repeat (first|apply Kd.R_alloc|apply Kd.R_drewN|apply Kd.R_drew));exact Kd.R_mono HO458.out (fun _ hk=>⟨hk.1.1.1,⟨hk.1.1.2.1,⟨hk.1.1.2.2.1,⟨hk.1.1.2.2.2,⟨hk.1.2,hk.2⟩⟩⟩⟩⟩)),(by (with_reducible repeat (first|apply Kd.R_alloc|apply Kd.R_drewN|apply Kd.R_drew));exact Kd.R_mono HO461.out (fun _ hk=>⟨hk.1.1.1,⟨hk.1.1.2.1,⟨hk.1.1.2.2.1,⟨hk.1.1.2.2.2,⟨hk.1.2,hk.2⟩⟩⟩⟩⟩)),(by (with_reducible repeat (first|apply Kd.R_alloc|apply Kd.R_drewN|apply Kd.R_drew));exact Kd.R_mono HO471.out (fun _ hk=>⟨hk.1.1.1,⟨hk.1.1.2.1,⟨hk.1.1.2.2.1,⟨hk.1.1.2.2.2,⟨hk.1.2,hk.2⟩⟩⟩⟩⟩)),(by (with_reducible repeat (first|apply Kd.R_alloc|apply Kd.R_drewN|apply Kd.R_drew));exact Kd.R_mono HO474.out (fun _ hk=>⟨hk.1.1.1,⟨hk.1.1.2.1,⟨hk.1.1.2.2.1,⟨hk.1.1.2.2.2,⟨hk.1.2,hk.2⟩⟩⟩⟩⟩)),(by (with_reducible repeat (first|apply Kd.R_alloc|apply Kd.R_drewN|apply Kd.R_drew));exact Kd.R_mono HO490.out (fun _ hk=>⟨hk.1.1.1.1.1.2,⟨hk.1.1.1.1.2,⟨hk.1.1.1.2,⟨hk.1.1.2,⟨hk.1.2,hk.2⟩⟩⟩⟩⟩)),(by (with_reducible repeat (first|apply Kd.R_alloc|apply Kd.R_drewN|apply Kd.R_drew));exact Kd.R_mono HO493.out (fun _ hk=>⟨hk.1.1.1.1.1.2,⟨hk.1.1.1.1.2,⟨hk.1.1.1.2,⟨hk.1.1.2,⟨hk.1.2,hk.2⟩⟩⟩⟩⟩)),(by (with_reducible repeat (first|apply Kd.R_alloc|apply Kd.R_drewN|apply Kd.R_drew));exact Kd.R_mono HO505.out (fun _ hk=>⟨hk.1.1.1.1.1.2,⟨hk.1.1.1.1.2,⟨hk.1.1.1.2,⟨hk.1.1.2,⟨hk.1.2,hk.2⟩⟩⟩⟩⟩)),(by (with_reducible repeat (first|apply Kd.R_alloc|apply Kd.R_drewN|apply Kd.R_drew));exact Kd.R_mono HO508.out (fun _ hk=>⟨hk.1.1.1.1.1.2,⟨hk.1.1.1.1.2,⟨hk.1.1.1.2,⟨hk.1.1.2,⟨hk.1.2,hk.2⟩⟩⟩⟩⟩)),(bp_ BK407.out),(bp_ BK408.out),(bp_ BK437.out),(bp_ BK448.out),(bp_ BK465.out),(bp_ BK512.out),GW512.out,GE512.out,NB407_512.out,NB512_407.out,NB408_512.out,NB512_408.out,NB437_512.out,NB512_437.out,NB448_512.out,NB512_448.out,NB465_512.out,NB512_465.out,(bel_)⟩)
                 ·skip
                  refine box_step ?hg (N:=14) ?hd (cs:=#[.int .i64 0,.int .i64 0,.slice none 0 0,.slice none 0 0,.int .i64 0,.int .i64 0]) (t:=77) ?hr ?_;(case hd=>rfl);(case hg=>rfl);(case hr=>first|(go_simp;done)|(go_simp;rfl))
                  intro gb512 hg w120 hbox hb
                  replace HO415:=a_ (Kd.R_below (rp_ HO415.out) hb)
                  replace HO418:=a_ (Kd.R_below (rp_ HO418.out) hb)
                  replace HO430:=a_ (Kd.R_below (rp_ HO430.out) hb)
                  replace HO433:=a_ (Kd.R_below (rp_ HO433.out) hb)
                  replace HO442:=a_ (Kd.R_below (rp_ HO442.out) hb)
                  replace HO445:=a_ (Kd.R_below (rp_ HO445.out) hb)
                  replace HO458:=a_ (Kd.R_below (rp_ HO458.out) hb)
                  replace HO461:=a_ (Kd.R_below (rp_ HO461.out) hb)
                  replace HO471:=a_ (Kd.R_below (rp_ HO471.out) hb)
                  replace HO474:=a_ (Kd.R_below (rp_ HO474.out) hb)
                  replace HO490:=a_ (Kd.R_below (rp_ HO490.out) hb)
                  replace HO493:=a_ (Kd.R_below (rp_ HO493.out) hb)
                  have BK512:=a_ (hbox)
                  have GW512:=a_ ((by rw [hg];exact (below_size (bel_)):w.heap.size≤gb512))
                  have GE512:=a_ ((by rw [hg];exact (below_size (bel_)):w.heap.size≤gb512))
                  replace HB:=a_ (bS_ (bel_) hb)
                  have NB407_512:=a_ ((by rw [hg];exact Nat.ne_of_lt (blk_lt (g:=gb407) (o:=.cells #[.int .i64 a0_0,.int .i64 a0_1,.slice A0_2 l0_2.length c0_2,.slice A0_3 l0_3.length c0_3,.int .i64 a0_4,.int .i64 a0_5] 85 (0,0)) (bp_ BK407.out)):gb407≠gb512))
                  have NB512_407:=a_ ((by rw [hg];exact Nat.ne_of_gt (blk_lt (g:=gb407) (o:=.cells #[.int .i64 a0_0,.int .i64 a0_1,.slice A0_2 l0_2.length c0_2,.slice A0_3 l0_3.length c0_3,.int .i64 a0_4,.int .i64 a0_5] 85 (0,0)) (bp_ BK407.out)):gb512≠gb407))
                  replace BK407:=a_ (blk_below (g:=gb407) (o:=.cells #[.int .i64 a0_0,.int .i64 a0_1,.slice A0_2 l0_2.length c0_2,.slice A0_3 l0_3.length c0_3,.int .i64 a0_4,.int .i64 a0_5] 85 (0,0)) (bp_ BK407.out) hb)
                  have NB408_512:=a_ ((by rw [hg];exact Nat.ne_of_lt (blk_lt (g:=gb408) (o:=.cells #[.int .i64 a1_0,.int .i64 a1_1,.int .i64 a1_2,.int .i64 a1_3,.string a1_4] 34 (0,0)) (bp_ BK408.out)):gb408≠gb512))
                  have NB512_408:=a_ ((by rw [hg];exact Nat.ne_of_gt (blk_lt (g:=gb408) (o:=.cells #[.int .i64 a1_0,.int .i64 a1_1,.int .i64 a1_2,.int .i64 a1_3,.string a1_4] 34 (0,0)) (bp_ BK408.out)):gb512≠gb408))
                  replace BK408:=a_ (blk_below (g:=gb408) (o:=.cells #[.int .i64 a1_0,.int .i64 a1_1,.int .i64 a1_2,.int .i64 a1_3,.string a1_4] 34 (0,0)) (bp_ BK408.out) hb)
                  have NB437_512:=a_ ((by rw [hg];exact Nat.ne_of_lt (blk_lt (g:=gb437) (o:=.cells #[.int .i64 t426,.int .i64 t427,.slice Ao65 t428.length co65,.slice Ao67 t431.length co67,.int .i64 t434,.int .i64 t435] 77 (0,0)) (bp_ BK437.out)):gb437≠gb512))
                  have NB512_437:=a_ ((by rw [hg];exact Nat.ne_of_gt (blk_lt (g:=gb437) (o:=.cells #[.int .i64 t426,.int .i64 t427,.slice Ao65 t428.length co65,.slice Ao67 t431.length co67,.int .i64 t434,.int .i64 t435] 77 (0,0)) (bp_ BK437.out)):gb512≠gb437))
                  replace BK437:=a_ (blk_below (g:=gb437) (o:=.cells #[.int .i64 t426,.int .i64 t427,.slice Ao65 t428.length co65,.slice Ao67 t431.length co67,.int .i64 t434,.int .i64 t435] 77 (0,0)) (bp_ BK437.out) hb)
                  have NB448_512:=a_ ((by rw [hg];exact Nat.ne_of_lt (blk_lt (g:=gb448) (o:=.cells #[.int .i64 t438,.int .i64 t439,.slice Ao79 t440.length co79,.slice Ao80 t443.length co80,.int .i64 t446,.int .i64 t447] 77 (0,0)) (bp_ BK448.out)):gb448≠gb512))
                  have NB512_448:=a_ ((by rw [hg];exact Nat.ne_of_gt (blk_lt (g:=gb448) (o:=.cells #[.int .i64 t438,.int .i64 t439,.slice Ao79 t440.length co79,.slice Ao80 t443.length co80,.int .i64 t446,.int .i64 t447] 77 (0,0)) (bp_ BK448.out)):gb512≠gb448))
                  replace BK448:=a_ (blk_below (g:=gb448) (o:=.cells #[.int .i64 t438,.int .i64 t439,.slice Ao79 t440.length co79,.slice Ao80 t443.length co80,.int .i64 t446,.int .i64 t447] 77 (0,0)) (bp_ BK448.out) hb)
                  have NB465_512:=a_ ((by rw [hg];exact Nat.ne_of_lt (blk_lt (g:=gb465) (o:=.cells #[.int .i64 t454,.int .i64 t455,.slice Ao89 t456.length co89,.slice Ao91 t459.length co91,.int .i64 t462,.int .i64 t463] 77 (0,0)) (bp_ BK465.out)):gb465≠gb512))
                  have NB512_465:=a_ ((by rw [hg];exact Nat.ne_of_gt (blk_lt (g:=gb465) (o:=.cells #[.int .i64 t454,.int .i64 t455,.slice Ao89 t456.length co89,.slice Ao91 t459.length co91,.int .i64 t462,.int .i64 t463] 77 (0,0)) (bp_ BK465.out)):gb512≠gb465))
                  replace BK465:=a_ (blk_below (g:=gb465) (o:=.cells #[.int .i64 t454,.int .i64 t455,.slice Ao89 t456.length co89,.slice Ao91 t459.length co91,.int .i64 t462,.int .i64 t463] 77 (0,0)) (bp_ BK465.out) hb)
                  clear hb hbox hg
                  obtain ⟨Ao121,co121,eo121⟩:=Kd.R_slice HO490.out
                  (first|subst eo121|(injection eo121 with f1_ f2_ f3_;have f4_:=f1_.symm;have f5_:=f3_.symm;clear f1_ f2_ f3_;subst f4_;subst f5_))
                  obtain ⟨Ao122,co122,eo122⟩:=Kd.R_slice HO493.out
                  (first|subst eo122|(injection eo122 with f1_ f2_ f3_;have f4_:=f1_.symm;have f5_:=f3_.symm;clear f1_ f2_ f3_;subst f4_;subst f5_))
                  refine hK.out _ _ ⟨(bC_ BK407.out 0).trans rfl,(bC_ BK407.out 1).trans rfl,(bC_ BK407.out 2).trans rfl,(bC_ BK407.out 3).trans rfl,(bC_ BK407.out 4).trans rfl,(bC_ BK407.out 5).trans rfl,(bC_ BK408.out 0).trans rfl,(bC_ BK408.out 1).trans rfl,(bC_ BK408.out 2).trans rfl,(bC_ BK408.out 3).trans rfl,(bC_ BK408.out 4).trans rfl⟩ (fun hHeld=>?_)
                  clear hK K
                  refine no_ 14 ?_
                  refine on_ 4 89 (fun K hK=>?_)
                  refine goes_ Tryd.func69 (by kernel_rfl) rfl #[.agg #[.int .i64 t486,.int .i64 t487,.slice Ao121 t488.length co121,.slice Ao122 t491.length co122,.int .i64 t494,.int .i64 t495],.agg #[.int .i64 t496,.int .i64 t497,.int .i64 t498,.int .i64 t499,.string t500]] (by rfl) rfl rfl ar_ ?_
                  with_reducible refine (impl_ClientDo.calls k t486 t487 _ _ t488 _ _ t491 t494 t495 t496 t497 t498 t499 t500 t501 t502 t503 t506 t509 t510 t511 _ ?side1 ?side2 ?side3 ?side4 A41.out ?side5).mono ?_
                  (case side1=>exact cx_ (Kd.R_reads' HO490.out).2.2)
                  (case side2=>exact (Kd.R_reads' HO490.out).2.1)
                  (case side3=>exact cx_ (Kd.R_reads' HO493.out).2.2)
                  (case side4=>exact (Kd.R_reads' HO493.out).2.1)
                  (case side5=>exact Glob.below HG.out (bel_))
                  rintro e w123 ⟨v504,v507,rfl,ho0,ho1,hb⟩
                  refine ⟨_,rfl,?_⟩
                  have HO505:=a_ (Kd.R_lower (Kd.R_new' (Kd.R_new' (Kd.R_new' (Kd.R_new' (Kd.R_new' (Kd.R_new' ho0 (Kd.R_lt (rp_ HO415.out))) (Kd.R_lt (rp_ HO430.out))) (Kd.R_lt (rp_ HO442.out))) (Kd.R_lt (rp_ HO458.out))) (Kd.R_lt (rp_ HO471.out))) (Kd.R_lt (rp_ HO490.out))) (below_size (bel_)))
                  replace HO415:=a_ (Kd.R_elder' (rp_ HO415.out) (Kd.R_base ho0) hb)
                  replace HO430:=a_ (Kd.R_elder' (rp_ HO430.out) (Kd.R_base ho0) hb)
                  replace HO442:=a_ (Kd.R_elder' (rp_ HO442.out) (Kd.R_base ho0) hb)
                  replace HO458:=a_ (Kd.R_elder' (rp_ HO458.out) (Kd.R_base ho0) hb)
                  replace HO471:=a_ (Kd.R_elder' (rp_ HO471.out) (Kd.R_base ho0) hb)
                  replace HO490:=a_ (Kd.R_elder' (rp_ HO490.out) (Kd.R_base ho0) hb)
                  have HO508:=a_ (Kd.R_lower (Kd.R_new' (Kd.R_new' (Kd.R_new' (Kd.R_new' (Kd.R_new' (Kd.R_new' ho1 (Kd.R_lt (rp_ HO418.out))) (Kd.R_lt (rp_ HO433.out))) (Kd.R_lt (rp_ HO445.out))) (Kd.R_lt (rp_ HO461.out))) (Kd.R_lt (rp_ HO474.out))) (Kd.R_lt (rp_ HO493.out))) (below_size (bel_)))
                  replace HO418:=a_ (Kd.R_elder' (rp_ HO418.out) (Kd.R_base ho1) hb)
                  replace HO433:=a_ (Kd.R_elder' (rp_ HO433.out) (Kd.R_base ho1) hb)
                  replace HO445:=a_ (Kd.R_elder' (rp_ HO445.out) (Kd.R_base ho1) hb)
                  replace HO461:=a_ (Kd.R_elder' (rp_ HO461.out) (Kd.R_base ho1) hb)
                  replace HO474:=a_ (Kd.R_elder' (rp_ HO474.out) (Kd.R_base ho1) hb)
                  replace HO493:=a_ (Kd.R_elder' (rp_ HO493.out) (Kd.R_base ho1) hb)
                  replace HB:=a_ (bS_ (bel_) hb)
                  replace BK407:=a_ (blk_below (g:=gb407) (o:=.cells #[.int .i64 a0_0,.int .i64 a0_1,.slice A0_2 l0_2.length c0_2,.slice A0_3 l0_3.length c0_3,.int .i64 a0_4,.int .i64 a0_5] 85 (0,0)) (bp_ BK407.out) hb)
                  replace BK408:=a_ (blk_below (g:=gb408) (o:=.cells #[.int .i64 a1_0,.int .i64 a1_1,.int .i64 a1_2,.int .i64 a1_3,.string a1_4] 34 (0,0)) (bp_ BK408.out) hb)
                  replace BK437:=a_ (blk_below (g:=gb437) (o:=.cells #[.int .i64 t426,.int .i64 t427,.slice Ao65 t428.length co65,.slice Ao67 t431.length co67,.int .i64 t434,.int .i64 t435] 77 (0,0)) (bp_ BK437.out) hb)
                  replace BK448:=a_ (blk_below (g:=gb448) (o:=.cells #[.int .i64 t438,.int .i64 t439,.slice Ao79 t440.length co79,.slice Ao80 t443.length co80,.int .i64 t446,.int .i64 t447] 77 (0,0)) (bp_ BK448.out) hb)
                  replace BK465:=a_ (blk_below (g:=gb465) (o:=.cells #[.int .i64 t454,.int .i64 t455,.slice Ao89 t456.length co89,.slice Ao91 t459.length co91,.int .i64 t462,.int .i64 t463] 77 (0,0)) (bp_ BK465.out) hb)
                  replace BK512:=a_ (blk_below (g:=gb512) (o:=.cells #[.int .i64 0,.int .i64 0,.slice none 0 0,.slice none 0 0,.int .i64 0,.int .i64 0] 77 (0,0)) (bp_ BK512.out) hb)
                  try clear hb ho0 ho1
                  refine hK.out _ _ ⟨(bC_ BK407.out 0).trans rfl,(bC_ BK407.out 1).trans rfl,(bC_ BK407.out 2).trans rfl,(bC_ BK407.out 3).trans rfl,(bC_ BK407.out 4).trans rfl,(bC_ BK407.out 5).trans rfl,(bC_ BK408.out 0).trans rfl,(bC_ BK408.out 1).trans rfl,(bC_ BK408.out 2).trans rfl,(bC_ BK408.out 3).trans rfl,(bC_ BK408.out 4).trans rfl⟩ (fun hHeld=>?_)
                  clear hK K
                  refine no_ 89 ?_
                  refine pa_ 5 84 ?_
                  refine pa_ 6 90 ?_
                  refine pa_ 7 91 ?_
                  exact norm_ (by simp only [putAll,Act.put,List.setIfInBounds_toArray,List.set_cons_zero,List.set_cons_succ]) (hCont (.slice Ao121 t488.length co121,.slice Ao122 t491.length co122,v504,v507,gb512) _ ⟨hHeld,(by (with_reducible repeat (first|apply Kd.R_alloc|apply Kd.R_drewN|apply Kd.R_drew));exact Kd.R_mono HO415.out (fun _ hk=>⟨hk.1.1.1,⟨hk.1.1.2.1,⟨hk.1.1.2.2.1,⟨hk.1.1.2.2.2,⟨hk.1.2,hk.2⟩⟩⟩⟩⟩)),(by (with_reducible repeat (first|apply Kd.R_alloc|apply Kd.R_drewN|apply Kd.R_drew));exact Kd.R_mono HO418.out (fun _ hk=>⟨hk.1.1.1,⟨hk.1.1.2.1,⟨hk.1.1.2.2.1,⟨hk.1.1.2.2.2,⟨hk.1.2,hk.2⟩⟩⟩⟩⟩)),(by (with_reducible repeat (first|apply Kd.R_alloc|apply Kd.R_drewN|apply Kd.R_drew));exact Kd.R_mono HO430.out (fun _ hk=>⟨hk.1.1.1,⟨hk.1.1.2.1,⟨hk.1.1.2.2.1,⟨hk.1.1.2.2.2,⟨hk.1.2,hk.2⟩⟩⟩⟩⟩)),(by (with_reducible repeat (first|apply Kd.R_alloc|apply Kd.R_drewN|apply Kd.R_drew));exact Kd.R_mono HO433.out (fun _ hk=>⟨hk.1.1.1,⟨hk.1.1.2.1,⟨hk.1.1.2.2.1,⟨hk.1.1.2.2.2,⟨hk.1.2,hk.2⟩⟩⟩⟩⟩)),(by (with_reducible repeat (first|apply Kd.R_alloc|apply Kd.R_drewN|apply Kd.R_drew));exact Kd.R_mono HO442.out (fun _ hk=>⟨hk.1.1.1,⟨hk.1.1.2.1,⟨hk.1.1.2.2.1,⟨hk.1.1.2.2.2,⟨hk.1.2,hk.2⟩⟩⟩⟩⟩)),(by (with_reducible repeat (first|apply Kd.R_alloc|apply Kd.R_drewN|apply Kd.R_drew));exact Kd.R_mono HO445.out (fun _ hk=>⟨hk.1.1.1,⟨hk.1.1.2.1,⟨hk.1.1.2.2.1,⟨hk.1.1.2.2.2,⟨hk.1.2,hk.2⟩⟩⟩⟩⟩)),(by (with_reducible repeat (first|apply Kd.R_alloc|apply Kd.R_drewN|apply Kd.R_drew));exact Kd.R_mono HO458.out (fun _ hk=>⟨hk.1.1.1,⟨hk.1.1.2.1,⟨hk.1.1.2.2.1,⟨hk.1.1.2.2.2,⟨hk.1.2,hk.2⟩⟩⟩⟩⟩)),(by (with_reducible repeat (first|apply Kd.R_alloc|apply Kd.R_drewN|apply Kd.R_drew));exact Kd.R_mono HO461.out (fun _ hk=>⟨hk.1.1.1,⟨hk.1.1.2.1,⟨hk.1.1.2.2.1,⟨hk.1.1.2.2.2,⟨hk.1.2,hk.2⟩⟩⟩⟩⟩)),(by (with_reducible repeat (first|apply Kd.R_alloc|apply Kd.R_drewN|apply Kd.R_drew));exact Kd.R_mono HO471.out (fun _ hk=>⟨hk.1.1.1,⟨hk.1.1.2.1,⟨hk.1.1.2.2.1,⟨hk.1.1.2.2.2,⟨hk.1.2,hk.2⟩⟩⟩⟩⟩)),(by (with_reducible repeat (first|apply Kd.R_alloc|apply Kd.R_drewN|apply Kd.R_drew));exact Kd.R_mono HO474.out (fun _ hk=>⟨hk.1.1.1,⟨hk.1.1.2.1,⟨hk.1.1.2.2.1,⟨hk.1.1.2.2.2,⟨hk.1.2,hk.2⟩⟩⟩⟩⟩)),(by (with_reducible repeat (first|apply Kd.R_alloc|apply Kd.R_drewN|apply Kd.R_drew));exact Kd.R_mono HO490.out (fun _ hk=>⟨hk.1.1.1.1.1.2,⟨hk.1.1.1.1.2,⟨hk.1.1.1.2,⟨hk.1.1.2,⟨hk.1.2,hk.2⟩⟩⟩⟩⟩)),(by (with_reducible repeat (first|apply Kd.R_alloc|apply Kd.R_drewN|apply Kd.R_drew));exact Kd.R_mono HO493.out (fun _ hk=>⟨hk.1.1.1.1.1.2,⟨hk.1.1.1.1.2,⟨hk.1.1.1.2,⟨hk.1.1.2,⟨hk.1.2,hk.2⟩⟩⟩⟩⟩)),(by (with_reducible repeat (first|apply Kd.R_alloc|apply Kd.R_drewN|apply Kd.R_drew));exact Kd.R_mono HO505.out (fun _ hk=>⟨hk.1.1.1.1.1.2,⟨hk.1.1.1.1.2,⟨hk.1.1.1.2,⟨hk.1.1.2,⟨hk.1.2,hk.2⟩⟩⟩⟩⟩)),(by (with_reducible repeat (first|apply Kd.R_alloc|apply Kd.R_drewN|apply Kd.R_drew));exact Kd.R_mono HO508.out (fun _ hk=>⟨hk.1.1.1.1.1.2,⟨hk.1.1.1.1.2,⟨hk.1.1.1.2,⟨hk.1.1.2,⟨hk.1.2,hk.2⟩⟩⟩⟩⟩)),(bp_ BK407.out),(bp_ BK408.out),(bp_ BK437.out),(bp_ BK448.out),(bp_ BK465.out),(bp_ BK512.out),GW512.out,GE512.out,NB407_512.out,NB512_407.out,NB408_512.out,NB512_408.out,NB437_512.out,NB512_437.out,NB448_512.out,NB512_448.out,NB465_512.out,NB512_465.out,(bel_)⟩)
                ·skip
                 refine box_step ?hg (N:=14) ?hd (cs:=#[.int .i64 0,.int .i64 0,.slice none 0 0,.slice none 0 0,.int .i64 0,.int .i64 0]) (t:=77) ?hr ?_;(case hd=>rfl);(case hg=>rfl);(case hr=>first|(go_simp;done)|(go_simp;rfl))
                 intro gb512 hg w119 hbox hb
                 replace HO415:=a_ (Kd.R_below (rp_ HO415.out) hb)
                 replace HO418:=a_ (Kd.R_below (rp_ HO418.out) hb)
                 replace HO430:=a_ (Kd.R_below (rp_ HO430.out) hb)
                 replace HO433:=a_ (Kd.R_below (rp_ HO433.out) hb)
                 replace HO442:=a_ (Kd.R_below (rp_ HO442.out) hb)
                 replace HO445:=a_ (Kd.R_below (rp_ HO445.out) hb)
                 replace HO458:=a_ (Kd.R_below (rp_ HO458.out) hb)
                 replace HO461:=a_ (Kd.R_below (rp_ HO461.out) hb)
                 replace HO471:=a_ (Kd.R_below (rp_ HO471.out) hb)
                 replace HO474:=a_ (Kd.R_below (rp_ HO474.out) hb)
                 replace HO490:=a_ (Kd.R_below (rp_ HO490.out) hb)
                 replace HO493:=a_ (Kd.R_below (rp_ HO493.out) hb)
                 have BK512:=a_ (hbox)
                 have GW512:=a_ ((by rw [hg];exact (below_size (bel_)):w.heap.size≤gb512))
                 have GE512:=a_ ((by rw [hg];exact (below_size (bel_)):w.heap.size≤gb512))
                 replace HB:=a_ (bS_ (bel_) hb)
                 have NB407_512:=a_ ((by rw [hg];exact Nat.ne_of_lt (blk_lt (g:=gb407) (o:=.cells #[.int .i64 a0_0,.int .i64 a0_1,.slice A0_2 l0_2.length c0_2,.slice A0_3 l0_3.length c0_3,.int .i64 a0_4,.int .i64 a0_5] 85 (0,0)) (bp_ BK407.out)):gb407≠gb512))
                 have NB512_407:=a_ ((by rw [hg];exact Nat.ne_of_gt (blk_lt (g:=gb407) (o:=.cells #[.int .i64 a0_0,.int .i64 a0_1,.slice A0_2 l0_2.length c0_2,.slice A0_3 l0_3.length c0_3,.int .i64 a0_4,.int .i64 a0_5] 85 (0,0)) (bp_ BK407.out)):gb512≠gb407))
                 replace BK407:=a_ (blk_below (g:=gb407) (o:=.cells #[.int .i64 a0_0,.int .i64 a0_1,.slice A0_2 l0_2.length c0_2,.slice A0_3 l0_3.length c0_3,.int .i64 a0_4,.int .i64 a0_5] 85 (0,0)) (bp_ BK407.out) hb)
                 have NB408_512:=a_ ((by rw [hg];exact Nat.ne_of_lt (blk_lt (g:=gb408) (o:=.cells #[.int .i64 a1_0,.int .i64 a1_1,.int .i64 a1_2,.int .i64 a1_3,.string a1_4] 34 (0,0)) (bp_ BK408.out)):gb408≠gb512))
                 have NB512_408:=a_ ((by rw [hg];exact Nat.ne_of_gt (blk_lt (g:=gb408) (o:=.cells #[.int .i64 a1_0,.int .i64 a1_1,.int .i64 a1_2,.int .i64 a1_3,.string a1_4] 34 (0,0)) (bp_ BK408.out)):gb512≠gb408))
                 replace BK408:=a_ (blk_below (g:=gb408) (o:=.cells #[.int .i64 a1_0,.int .i64 a1_1,.int .i64 a1_2,.int .i64 a1_3,.string a1_4] 34 (0,0)) (bp_ BK408.out) hb)
                 have NB437_512:=a_ ((by rw [hg];exact Nat.ne_of_lt (blk_lt (g:=gb437) (o:=.cells #[.int .i64 t426,.int .i64 t427,.slice Ao65 t428.length co65,.slice Ao67 t431.length co67,.int .i64 t434,.int .i64 t435] 77 (0,0)) (bp_ BK437.out)):gb437≠gb512))
                 have NB512_437:=a_ ((by rw [hg];exact Nat.ne_of_gt (blk_lt (g:=gb437) (o:=.cells #[.int .i64 t426,.int .i64 t427,.slice Ao65 t428.length co65,.slice Ao67 t431.length co67,.int .i64 t434,.int .i64 t435] 77 (0,0)) (bp_ BK437.out)):gb512≠gb437))
                 replace BK437:=a_ (blk_below (g:=gb437) (o:=.cells #[.int .i64 t426,.int .i64 t427,.slice Ao65 t428.length co65,.slice Ao67 t431.length co67,.int .i64 t434,.int .i64 t435] 77 (0,0)) (bp_ BK437.out) hb)
                 have NB448_512:=a_ ((by rw [hg];exact Nat.ne_of_lt (blk_lt (g:=gb448) (o:=.cells #[.int .i64 t438,.int .i64 t439,.slice Ao79 t440.length co79,.slice Ao80 t443.length co80,.int .i64 t446,.int .i64 t447] 77 (0,0)) (bp_ BK448.out)):gb448≠gb512))
                 have NB512_448:=a_ ((by rw [hg];exact Nat.ne_of_gt (blk_lt (g:=gb448) (o:=.cells #[.int .i64 t438,.int .i64 t439,.slice Ao79 t440.length co79,.slice Ao80 t443.length co80,.int .i64 t446,.int .i64 t447] 77 (0,0)) (bp_ BK448.out)):gb512≠gb448))
                 replace BK448:=a_ (blk_below (g:=gb448) (o:=.cells #[.int .i64 t438,.int .i64 t439,.slice Ao79 t440.length co79,.slice Ao80 t443.length co80,.int .i64 t446,.int .i64 t447] 77 (0,0)) (bp_ BK448.out) hb)
                 have NB465_512:=a_ ((by rw [hg];exact Nat.ne_of_lt (blk_lt (g:=gb465) (o:=.cells #[.int .i64 t454,.int .i64 t455,.slice Ao89 t456.length co89,.slice Ao91 t459.length co91,.int .i64 t462,.int .i64 t463] 77 (0,0)) (bp_ BK465.out)):gb465≠gb512))
                 have NB512_465:=a_ ((by rw [hg];exact Nat.ne_of_gt (blk_lt (g:=gb465) (o:=.cells #[.int .i64 t454,.int .i64 t455,.slice Ao89 t456.length co89,.slice Ao91 t459.length co91,.int .i64 t462,.int .i64 t463] 77 (0,0)) (bp_ BK465.out)):gb512≠gb465))
                 replace BK465:=a_ (blk_below (g:=gb465) (o:=.cells #[.int .i64 t454,.int .i64 t455,.slice Ao89 t456.length co89,.slice Ao91 t459.length co91,.int .i64 t462,.int .i64 t463] 77 (0,0)) (bp_ BK465.out) hb)
                 clear hb hbox hg
                 refine hK.out _ _ ⟨(bC_ BK407.out 0).trans rfl,(bC_ BK407.out 1).trans rfl,(bC_ BK407.out 2).trans rfl,(bC_ BK407.out 3).trans rfl,(bC_ BK407.out 4).trans rfl,(bC_ BK407.out 5).trans rfl,(bC_ BK408.out 0).trans rfl,(bC_ BK408.out 1).trans rfl,(bC_ BK408.out 2).trans rfl,(bC_ BK408.out 3).trans rfl,(bC_ BK408.out 4).trans rfl⟩ (fun hHeld=>?_)
                 clear hK K
                 refine no_ 14 ?_
                 refine on_ 3 88 (fun K hK=>?_)
                 refine goes_ Tryd.func68 (by kernel_rfl) rfl #[.agg #[.int .i64 a1_0,.int .i64 a1_1,.int .i64 a1_2,.int .i64 a1_3,.string a1_4]] (by rfl) rfl rfl ar_ ?_
                 with_reducible refine (laws_toOp.calls a1_0 a1_1 a1_2 a1_3 a1_4 t496 t497 t498 t499 t500 _ A40.out).mono ?_
                 rintro e w120 ⟨rfl,hb⟩
                 refine ⟨_,rfl,?_⟩
                 replace HO415:=a_ (Kd.R_below (rp_ HO415.out) hb)
                 replace HO418:=a_ (Kd.R_below (rp_ HO418.out) hb)
                 replace HO430:=a_ (Kd.R_below (rp_ HO430.out) hb)
                 replace HO433:=a_ (Kd.R_below (rp_ HO433.out) hb)
                 replace HO442:=a_ (Kd.R_below (rp_ HO442.out) hb)
                 replace HO445:=a_ (Kd.R_below (rp_ HO445.out) hb)
                 replace HO458:=a_ (Kd.R_below (rp_ HO458.out) hb)
                 replace HO461:=a_ (Kd.R_below (rp_ HO461.out) hb)
                 replace HO471:=a_ (Kd.R_below (rp_ HO471.out) hb)
                 replace HO474:=a_ (Kd.R_below (rp_ HO474.out) hb)
                 replace HO490:=a_ (Kd.R_below (rp_ HO490.out) hb)
                 replace HO493:=a_ (Kd.R_below (rp_ HO493.out) hb)
                 replace HB:=a_ (bS_ (bel_) hb)
                 replace BK407:=a_ (blk_below (g:=gb407) (o:=.cells #[.int .i64 a0_0,.int .i64 a0_1,.slice A0_2 l0_2.length c0_2,.slice A0_3 l0_3.length c0_3,.int .i64 a0_4,.int .i64 a0_5] 85 (0,0)) (bp_ BK407.out) hb)
                 replace BK408:=a_ (blk_below (g:=gb408) (o:=.cells #[.int .i64 a1_0,.int .i64 a1_1,.int .i64 a1_2,.int .i64 a1_3,.string a1_4] 34 (0,0)) (bp_ BK408.out) hb)
                 replace BK437:=a_ (blk_below (g:=gb437) (o:=.cells #[.int .i64 t426,.int .i64 t427,.slice Ao65 t428.length co65,.slice Ao67 t431.length co67,.int .i64 t434,.int .i64 t435] 77 (0,0)) (bp_ BK437.out) hb)
                 replace BK448:=a_ (blk_below (g:=gb448) (o:=.cells #[.int .i64 t438,.int .i64 t439,.slice Ao79 t440.length co79,.slice Ao80 t443.length co80,.int .i64 t446,.int .i64 t447] 77 (0,0)) (bp_ BK448.out) hb)
                 replace BK465:=a_ (blk_below (g:=gb465) (o:=.cells #[.int .i64 t454,.int .i64 t455,.slice Ao89 t456.length co89,.slice Ao91 t459.length co91,.int .i64 t462,.int .i64 t463] 77 (0,0)) (bp_ BK465.out) hb)
                 replace BK512:=a_ (blk_below (g:=gb512) (o:=.cells #[.int .i64 0,.int .i64 0,.slice none 0 0,.slice none 0 0,.int .i64 0,.int .i64 0] 77 (0,0)) (bp_ BK512.out) hb)
                 try clear hb
                 obtain ⟨Ao121,co121,eo121⟩:=Kd.R_slice HO490.out
                 (first|subst eo121|(injection eo121 with f1_ f2_ f3_;have f4_:=f1_.symm;have f5_:=f3_.symm;clear f1_ f2_ f3_;subst f4_;subst f5_))
                 obtain ⟨Ao122,co122,eo122⟩:=Kd.R_slice HO493.out
                 (first|subst eo122|(injection eo122 with f1_ f2_ f3_;have f4_:=f1_.symm;have f5_:=f3_.symm;clear f1_ f2_ f3_;subst f4_;subst f5_))
                 refine hK.out _ _ ⟨(bC_ BK407.out 0).trans rfl,(bC_ BK407.out 1).trans rfl,(bC_ BK407.out 2).trans rfl,(bC_ BK407.out 3).trans rfl,(bC_ BK407.out 4).trans rfl,(bC_ BK407.out 5).trans rfl,(bC_ BK408.out 0).trans rfl,(bC_ BK408.out 1).trans rfl,(bC_ BK408.out 2).trans rfl,(bC_ BK408.out 3).trans rfl,(bC_ BK408.out 4).trans rfl⟩ (fun hHeld=>?_)
                 clear hK K
                 refine no_ 88 ?_
                 refine on_ 4 89 (fun K hK=>?_)
                 refine goes_ Tryd.func69 (by kernel_rfl) rfl #[.agg #[.int .i64 t486,.int .i64 t487,.slice Ao121 t488.length co121,.slice Ao122 t491.length co122,.int .i64 t494,.int .i64 t495],.agg #[.int .i64 t496,.int .i64 t497,.int .i64 t498,.int .i64 t499,.string t500]] (by rfl) rfl rfl ar_ ?_
                 with_reducible refine (impl_ClientDo.calls k t486 t487 _ _ t488 _ _ t491 t494 t495 t496 t497 t498 t499 t500 t501 t502 t503 t506 t509 t510 t511 _ ?side1 ?side2 ?side3 ?side4 A41.out ?side5).mono ?_
                 (case side1=>exact cx_ (Kd.R_reads' HO490.out).2.2)
                 (case side2=>exact (Kd.R_reads' HO490.out).2.1)
                 (case side3=>exact cx_ (Kd.R_reads' HO493.out).2.2)
                 (case side4=>exact (Kd.R_reads' HO493.out).2.1)
                 (case side5=>exact Glob.below HG.out (bel_))
                 rintro e w123 ⟨v504,v507,rfl,ho0,ho1,hb⟩
                 refine ⟨_,rfl,?_⟩
                 have HO505:=a_ (Kd.R_lower (Kd.R_new' (Kd.R_new' (Kd.R_new' (Kd.R_new' (Kd.R_new' (Kd.R_new' ho0 (Kd.R_lt (rp_ HO415.out))) (Kd.R_lt (rp_ HO430.out))) (Kd.R_lt (rp_ HO442.out))) (Kd.R_lt (rp_ HO458.out))) (Kd.R_lt (rp_ HO471.out))) (Kd.R_lt (rp_ HO490.out))) (below_size (bel_)))
                 replace HO415:=a_ (Kd.R_elder' (rp_ HO415.out) (Kd.R_base ho0) hb)
                 replace HO430:=a_ (Kd.R_elder' (rp_ HO430.out) (Kd.R_base ho0) hb)
                 replace HO442:=a_ (Kd.R_elder' (rp_ HO442.out) (Kd.R_base ho0) hb)
                 replace HO458:=a_ (Kd.R_elder' (rp_ HO458.out) (Kd.R_base ho0) hb)
                 replace HO471:=a_ (Kd.R_elder' (rp_ HO471.out) (Kd.R_base ho0) hb)
                 replace HO490:=a_ (Kd.R_elder' (rp_ HO490.out) (Kd.R_base ho0) hb)
                 have HO508:=a_ (Kd.R_lower (Kd.R_new' (Kd.R_new' (Kd.R_new' (Kd.R_new' (Kd.R_new' (Kd.R_new' ho1 (Kd.R_lt (rp_ HO418.out))) (Kd.R_lt (rp_ HO433.out))) (Kd.R_lt (rp_ HO445.out))) (Kd.R_lt (rp_ HO461.out))) (Kd.R_lt (rp_ HO474.out))) (Kd.R_lt (rp_ HO493.out))) (below_size (bel_)))
                 replace HO418:=a_ (Kd.R_elder' (rp_ HO418.out) (Kd.R_base ho1) hb)
                 replace HO433:=a_ (Kd.R_elder' (rp_ HO433.out) (Kd.R_base ho1) hb)
                 replace HO445:=a_ (Kd.R_elder' (rp_ HO445.out) (Kd.R_base ho1) hb)
                 replace HO461:=a_ (Kd.R_elder' (rp_ HO461.out) (Kd.R_base ho1) hb)
                 replace HO474:=a_ (Kd.R_elder' (rp_ HO474.out) (Kd.R_base ho1) hb)
                 replace HO493:=a_ (Kd.R_elder' (rp_ HO493.out) (Kd.R_base ho1) hb)
                 replace HB:=a_ (bS_ (bel_) hb)
                 replace BK407:=a_ (blk_below (g:=gb407) (o:=.cells #[.int .i64 a0_0,.int .i64 a0_1,.slice A0_2 l0_2.length c0_2,.slice A0_3 l0_3.length c0_3,.int .i64 a0_4,.int .i64 a0_5] 85 (0,0)) (bp_ BK407.out) hb)
                 replace BK408:=a_ (blk_below (g:=gb408) (o:=.cells #[.int .i64 a1_0,.int .i64 a1_1,.int .i64 a1_2,.int .i64 a1_3,.string a1_4] 34 (0,0)) (bp_ BK408.out) hb)
                 replace BK437:=a_ (blk_below (g:=gb437) (o:=.cells #[.int .i64 t426,.int .i64 t427,.slice Ao65 t428.length co65,.slice Ao67 t431.length co67,.int .i64 t434,.int .i64 t435] 77 (0,0)) (bp_ BK437.out) hb)
                 replace BK448:=a_ (blk_below (g:=gb448) (o:=.cells #[.int .i64 t438,.int .i64 t439,.slice Ao79 t440.length co79,.slice Ao80 t443.length co80,.int .i64 t446,.int .i64 t447] 77 (0,0)) (bp_ BK448.out) hb)
                 replace BK465:=a_ (blk_below (g:=gb465) (o:=.cells #[.int .i64 t454,.int .i64 t455,.slice Ao89 t456.length co89,.slice Ao91 t459.length co91,.int .i64 t462,.int .i64 t463] 77 (0,0)) (bp_ BK465.out) hb)
                 replace BK512:=a_ (blk_below (g:=gb512) (o:=.cells #[.int .i64 0,.int .i64 0,.slice none 0 0,.slice none 0 0,.int .i64 0,.int .i64 0] 77 (0,0)) (bp_ BK512.out) hb)
                 try clear hb ho0 ho1
                 refine hK.out _ _ ⟨(bC_ BK407.out 0).trans rfl,(bC_ BK407.out 1).trans rfl,(bC_ BK407.out 2).trans rfl,(bC_ BK407.out 3).trans rfl,(bC_ BK407.out 4).trans rfl,(bC_ BK407.out 5).trans rfl,(bC_ BK408.out 0).trans rfl,(bC_ BK408.out 1).trans rfl,(bC_ BK408.out 2).trans rfl,(bC_ BK408.out 3).trans rfl,(bC_ BK408.out 4).trans rfl⟩ (fun hHeld=>?_)
                 clear hK K
                 refine no_ 89 ?_
                 refine pa_ 5 84 ?_
                 refine pa_ 6 90 ?_
                 refine pa_ 7 91 ?_
                 exact norm_ (by simp only [putAll,Act.put,List.setIfInBounds_toArray,List.set_cons_zero,List.set_cons_succ]) (hCont (.slice Ao121 t488.length co121,.slice Ao122 t491.length co122,v504,v507,gb512) _ ⟨hHeld,(by (with_reducible repeat (first|apply Kd.R_alloc|apply Kd.R_drewN|apply Kd.R_drew));exact Kd.R_mono HO415.out (fun _ hk=>⟨hk.1.1.1,⟨hk.1.1.2.1,⟨hk.1.1.2.2.1,⟨hk.1.1.2.2.2,⟨hk.1.2,hk.2⟩⟩⟩⟩⟩)),(by (with_reducible repeat (first|apply Kd.R_alloc|apply Kd.R_drewN|apply Kd.R_drew));exact Kd.R_mono HO418.out (fun _ hk=>⟨hk.1.1.1,⟨hk.1.1.2.1,⟨hk.1.1.2.2.1,⟨hk.1.1.2.2.2,⟨hk.1.2,hk.2⟩⟩⟩⟩⟩)),(by (with_reducible repeat (first|apply Kd.R_alloc|apply Kd.R_drewN|apply Kd.R_drew));exact Kd.R_mono HO430.out (fun _ hk=>⟨hk.1.1.1,⟨hk.1.1.2.1,⟨hk.1.1.2.2.1,⟨hk.1.1.2.2.2,⟨hk.1.2,hk.2⟩⟩⟩⟩⟩)),(by (with_reducible repeat (first|apply Kd.R_alloc|apply Kd.R_drewN|apply Kd.R_drew));exact Kd.R_mono HO433.out (fun _ hk=>⟨hk.1.1.1,⟨hk.1.1.2.1,⟨hk.1.1.2.2.1,⟨hk.1.1.2.2.2,⟨hk.1.2,hk.2⟩⟩⟩⟩⟩)),(by (with_reducible repeat (first|apply Kd.R_alloc|apply Kd.R_drewN|apply Kd.R_drew));exact Kd.R_mono HO442.out (fun _ hk=>⟨hk.1.1.1,⟨hk.1.1.2.1,⟨hk.1.1.2.2.1,⟨hk.1.1.2.2.2,⟨hk.1.2,hk.2⟩⟩⟩⟩⟩)),(by (with_reducible repeat (first|apply Kd.R_alloc|apply Kd.R_drewN|apply Kd.R_drew));exact Kd.R_mono HO445.out (fun _ hk=>⟨hk.1.1.1,⟨hk.1.1.2.1,⟨hk.1.1.2.2.1,⟨hk.1.1.2.2.2,⟨hk.1.2,hk.2⟩⟩⟩⟩⟩)),(by (with_reducible repeat (first|apply Kd.R_alloc|apply Kd.R_drewN|apply Kd.R_drew));exact Kd.R_mono HO458.out (fun _ hk=>⟨hk.1.1.1,⟨hk.1.1.2.1,⟨hk.1.1.2.2.1,⟨hk.1.1.2.2.2,⟨hk.1.2,hk.2⟩⟩⟩⟩⟩)),(by (with_reducible repeat (first|apply Kd.R_alloc|apply Kd.R_drewN|apply Kd.R_drew));exact Kd.R_mono HO461.out (fun _ hk=>⟨hk.1.1.1,⟨hk.1.1.2.1,⟨hk.1.1.2.2.1,⟨hk.1.1.2.2.2,⟨hk.1.2,hk.2⟩⟩⟩⟩⟩)),(by (with_reducible repeat (first|apply Kd.R_alloc|apply Kd.R_drewN|apply Kd.R_drew));exact Kd.R_mono HO471.out (fun _ hk=>⟨hk.1.1.1,⟨hk.1.1.2.1,⟨hk.1.1.2.2.1,⟨hk.1.1.2.2.2,⟨hk.1.2,hk.2⟩⟩⟩⟩⟩)),(by (with_reducible repeat (first|apply Kd.R_alloc|apply Kd.R_drewN|apply Kd.R_drew));exact Kd.R_mono HO474.out (fun _ hk=>⟨hk.1.1.1,⟨hk.1.1.2.1,⟨hk.1.1.2.2.1,⟨hk.1.1.2.2.2,⟨hk.1.2,hk.2⟩⟩⟩⟩⟩)),(by (with_reducible repeat (first|apply Kd.R_alloc|apply Kd.R_drewN|apply Kd.R_drew));exact Kd.R_mono HO490.out (fun _ hk=>⟨hk.1.1.1.1.1.2,⟨hk.1.1.1.1.2,⟨hk.1.1.1.2,⟨hk.1.1.2,⟨hk.1.2,hk.2⟩⟩⟩⟩⟩)),(by (with_reducible repeat (first|apply Kd.R_alloc|apply Kd.R_drewN|apply Kd.R_drew));exact Kd.R_mono HO493.out (fun _ hk=>⟨hk.1.1.1.1.1.2,⟨hk.1.1.1.1.2,⟨hk.1.1.1.2,⟨hk.1.1.2,⟨hk.1.2,hk.2⟩⟩⟩⟩⟩)),(by (with_reducible repeat (first|apply Kd.R_alloc|apply Kd.R_drewN|apply Kd.R_drew));exact Kd.R_mono HO505.out (fun _ hk=>⟨hk.1.1.1.1.1.2,⟨hk.1.1.1.1.2,⟨hk.1.1.1.2,⟨hk.1.1.2,⟨hk.1.2,hk.2⟩⟩⟩⟩⟩)),(by (with_reducible repeat (first|apply Kd.R_alloc|apply Kd.R_drewN|apply Kd.R_drew));exact Kd.R_mono HO508.out (fun _ hk=>⟨hk.1.1.1.1.1.2,⟨hk.1.1.1.1.2,⟨hk.1.1.1.2,⟨hk.1.1.2,⟨hk.1.2,hk.2⟩⟩⟩⟩⟩)),(bp_ BK407.out),(bp_ BK408.out),(bp_ BK437.out),(bp_ BK448.out),(bp_ BK465.out),(bp_ BK512.out),GW512.out,GE512.out,NB407_512.out,NB512_407.out,NB408_512.out,NB512_408.out,NB437_512.out,NB512_437.out,NB448_512.out,NB512_448.out,NB465_512.out,NB512_465.out,(bel_)⟩)
               ·skip
                refine box_step ?hg (N:=14) ?hd (cs:=#[.int .i64 0,.int .i64 0,.slice none 0 0,.slice none 0 0,.int .i64 0,.int .i64 0]) (t:=77) ?hr ?_;(case hd=>rfl);(case hg=>rfl);(case hr=>first|(go_simp;done)|(go_simp;rfl))
                intro gb512 hg w118 hbox hb
                replace HO415:=a_ (Kd.R_below (rp_ HO415.out) hb)
                replace HO418:=a_ (Kd.R_below (rp_ HO418.out) hb)
                replace HO430:=a_ (Kd.R_below (rp_ HO430.out) hb)
                replace HO433:=a_ (Kd.R_below (rp_ HO433.out) hb)
                replace HO442:=a_ (Kd.R_below (rp_ HO442.out) hb)
                replace HO445:=a_ (Kd.R_below (rp_ HO445.out) hb)
                replace HO458:=a_ (Kd.R_below (rp_ HO458.out) hb)
                replace HO461:=a_ (Kd.R_below (rp_ HO461.out) hb)
                replace HO471:=a_ (Kd.R_below (rp_ HO471.out) hb)
                replace HO474:=a_ (Kd.R_below (rp_ HO474.out) hb)
                have BK512:=a_ (hbox)
                have GW512:=a_ ((by rw [hg];exact (below_size (bel_)):w.heap.size≤gb512))
                have GE512:=a_ ((by rw [hg];exact (below_size (bel_)):w.heap.size≤gb512))
                replace HB:=a_ (bS_ (bel_) hb)
                have NB407_512:=a_ ((by rw [hg];exact Nat.ne_of_lt (blk_lt (g:=gb407) (o:=.cells #[.int .i64 a0_0,.int .i64 a0_1,.slice A0_2 l0_2.length c0_2,.slice A0_3 l0_3.length c0_3,.int .i64 a0_4,.int .i64 a0_5] 85 (0,0)) (bp_ BK407.out)):gb407≠gb512))
                have NB512_407:=a_ ((by rw [hg];exact Nat.ne_of_gt (blk_lt (g:=gb407) (o:=.cells #[.int .i64 a0_0,.int .i64 a0_1,.slice A0_2 l0_2.length c0_2,.slice A0_3 l0_3.length c0_3,.int .i64 a0_4,.int .i64 a0_5] 85 (0,0)) (bp_ BK407.out)):gb512≠gb407))
                replace BK407:=a_ (blk_below (g:=gb407) (o:=.cells #[.int .i64 a0_0,.int .i64 a0_1,.slice A0_2 l0_2.length c0_2,.slice A0_3 l0_3.length c0_3,.int .i64 a0_4,.int .i64 a0_5] 85 (0,0)) (bp_ BK407.out) hb)
                have NB408_512:=a_ ((by rw [hg];exact Nat.ne_of_lt (blk_lt (g:=gb408) (o:=.cells #[.int .i64 a1_0,.int .i64 a1_1,.int .i64 a1_2,.int .i64 a1_3,.string a1_4] 34 (0,0)) (bp_ BK408.out)):gb408≠gb512))
                have NB512_408:=a_ ((by rw [hg];exact Nat.ne_of_gt (blk_lt (g:=gb408) (o:=.cells #[.int .i64 a1_0,.int .i64 a1_1,.int .i64 a1_2,.int .i64 a1_3,.string a1_4] 34 (0,0)) (bp_ BK408.out)):gb512≠gb408))
                replace BK408:=a_ (blk_below (g:=gb408) (o:=.cells #[.int .i64 a1_0,.int .i64 a1_1,.int .i64 a1_2,.int .i64 a1_3,.string a1_4] 34 (0,0)) (bp_ BK408.out) hb)
                have NB437_512:=a_ ((by rw [hg];exact Nat.ne_of_lt (blk_lt (g:=gb437) (o:=.cells #[.int .i64 t426,.int .i64 t427,.slice Ao65 t428.length co65,.slice Ao67 t431.length co67,.int .i64 t434,.int .i64 t435] 77 (0,0)) (bp_ BK437.out)):gb437≠gb512))
                have NB512_437:=a_ ((by rw [hg];exact Nat.ne_of_gt (blk_lt (g:=gb437) (o:=.cells #[.int .i64 t426,.int .i64 t427,.slice Ao65 t428.length co65,.slice Ao67 t431.length co67,.int .i64 t434,.int .i64 t435] 77 (0,0)) (bp_ BK437.out)):gb512≠gb437))
                replace BK437:=a_ (blk_below (g:=gb437) (o:=.cells #[.int .i64 t426,.int .i64 t427,.slice Ao65 t428.length co65,.slice Ao67 t431.length co67,.int .i64 t434,.int .i64 t435] 77 (0,0)) (bp_ BK437.out) hb)
                have NB448_512:=a_ ((by rw [hg];exact Nat.ne_of_lt (blk_lt (g:=gb448) (o:=.cells #[.int .i64 t438,.int .i64 t439,.slice Ao79 t440.length co79,.slice Ao80 t443.length co80,.int .i64 t446,.int .i64 t447] 77 (0,0)) (bp_ BK448.out)):gb448≠gb512))
                have NB512_448:=a_ ((by rw [hg];exact Nat.ne_of_gt (blk_lt (g:=gb448) (o:=.cells #[.int .i64 t438,.int .i64 t439,.slice Ao79 t440.length co79,.slice Ao80 t443.length co80,.int .i64 t446,.int .i64 t447] 77 (0,0)) (bp_ BK448.out)):gb512≠gb448))
                replace BK448:=a_ (blk_below (g:=gb448) (o:=.cells #[.int .i64 t438,.int .i64 t439,.slice Ao79 t440.length co79,.slice Ao80 t443.length co80,.int .i64 t446,.int .i64 t447] 77 (0,0)) (bp_ BK448.out) hb)
                have NB465_512:=a_ ((by rw [hg];exact Nat.ne_of_lt (blk_lt (g:=gb465) (o:=.cells #[.int .i64 t454,.int .i64 t455,.slice Ao89 t456.length co89,.slice Ao91 t459.length co91,.int .i64 t462,.int .i64 t463] 77 (0,0)) (bp_ BK465.out)):gb465≠gb512))
                have NB512_465:=a_ ((by rw [hg];exact Nat.ne_of_gt (blk_lt (g:=gb465) (o:=.cells #[.int .i64 t454,.int .i64 t455,.slice Ao89 t456.length co89,.slice Ao91 t459.length co91,.int .i64 t462,.int .i64 t463] 77 (0,0)) (bp_ BK465.out)):gb512≠gb465))
                replace BK465:=a_ (blk_below (g:=gb465) (o:=.cells #[.int .i64 t454,.int .i64 t455,.slice Ao89 t456.length co89,.slice Ao91 t459.length co91,.int .i64 t462,.int .i64 t463] 77 (0,0)) (bp_ BK465.out) hb)
                clear hb hbox hg
                refine hK.out _ _ ⟨(bC_ BK407.out 0).trans rfl,(bC_ BK407.out 1).trans rfl,(bC_ BK407.out 2).trans rfl,(bC_ BK407.out 3).trans rfl,(bC_ BK407.out 4).trans rfl,(bC_ BK407.out 5).trans rfl,(bC_ BK408.out 0).trans rfl,(bC_ BK408.out 1).trans rfl,(bC_ BK408.out 2).trans rfl,(bC_ BK408.out 3).trans rfl,(bC_ BK408.out 4).trans rfl⟩ (fun hHeld=>?_)
                clear hK K
                refine no_ 14 ?_
                refine on_ 1 86 (fun K hK=>?_)
                refine goes_ Tryd.func64 (by kernel_rfl) rfl #[.agg #[.int .i64 a0_0,.int .i64 a0_1,.slice A0_2 l0_2.length c0_2,.slice A0_3 l0_3.length c0_3,.int .i64 a0_4,.int .i64 a0_5]] (by rfl) rfl rfl ar_ ?_
                with_reducible refine (laws_toClient.calls k a0_0 a0_1 _ _ l0_2 _ _ l0_3 a0_4 a0_5 t486 t487 t488 t491 t494 t495 _ ?side1 ?side2 ?side3 ?side4 A39.out).mono ?_
                (case side1=>exact cp_ HR0_2.out)
                (case side2=>exact HC0_2.out)
                (case side3=>exact cx_ (Kd.C_below HR0_3.out HB.out))
                (case side4=>exact HC0_3.out)
                rintro e w119 ⟨v489,v492,rfl,ho0,ho1,hb⟩
                refine ⟨_,rfl,?_⟩
                have HO490:=a_ (Kd.R_lower (Kd.R_new' (Kd.R_new' (Kd.R_new' (Kd.R_new' (Kd.R_new' ho0 (Kd.R_lt (rp_ HO415.out))) (Kd.R_lt (rp_ HO430.out))) (Kd.R_lt (rp_ HO442.out))) (Kd.R_lt (rp_ HO458.out))) (Kd.R_lt (rp_ HO471.out))) (below_size (bel_)))
                replace HO415:=a_ (Kd.R_elder' (rp_ HO415.out) (Kd.R_base ho0) hb)
                replace HO430:=a_ (Kd.R_elder' (rp_ HO430.out) (Kd.R_base ho0) hb)
                replace HO442:=a_ (Kd.R_elder' (rp_ HO442.out) (Kd.R_base ho0) hb)
                replace HO458:=a_ (Kd.R_elder' (rp_ HO458.out) (Kd.R_base ho0) hb)
                replace HO471:=a_ (Kd.R_elder' (rp_ HO471.out) (Kd.R_base ho0) hb)
                have HO493:=a_ (Kd.R_lower (Kd.R_new' (Kd.R_new' (Kd.R_new' (Kd.R_new' (Kd.R_new' ho1 (Kd.R_lt (rp_ HO418.out))) (Kd.R_lt (rp_ HO433.out))) (Kd.R_lt (rp_ HO445.out))) (Kd.R_lt (rp_ HO461.out))) (Kd.R_lt (rp_ HO474.out))) (below_size (bel_)))
                replace HO418:=a_ (Kd.R_elder' (rp_ HO418.out) (Kd.R_base ho1) hb)
                replace HO433:=a_ (Kd.R_elder' (rp_ HO433.out) (Kd.R_base ho1) hb)
                replace HO445:=a_ (Kd.R_elder' (rp_ HO445.out) (Kd.R_base ho1) hb)
                replace HO461:=a_ (Kd.R_elder' (rp_ HO461.out) (Kd.R_base ho1) hb)
                replace HO474:=a_ (Kd.R_elder' (rp_ HO474.out) (Kd.R_base ho1) hb)
                replace HB:=a_ (bS_ (bel_) hb)
                replace BK407:=a_ (blk_below (g:=gb407) (o:=.cells #[.int .i64 a0_0,.int .i64 a0_1,.slice A0_2 l0_2.length c0_2,.slice A0_3 l0_3.length c0_3,.int .i64 a0_4,.int .i64 a0_5] 85 (0,0)) (bp_ BK407.out) hb)
                replace BK408:=a_ (blk_below (g:=gb408) (o:=.cells #[.int .i64 a1_0,.int .i64 a1_1,.int .i64 a1_2,.int .i64 a1_3,.string a1_4] 34 (0,0)) (bp_ BK408.out) hb)
                replace BK437:=a_ (blk_below (g:=gb437) (o:=.cells #[.int .i64 t426,.int .i64 t427,.slice Ao65 t428.length co65,.slice Ao67 t431.length co67,.int .i64 t434,.int .i64 t435] 77 (0,0)) (bp_ BK437.out) hb)
                replace BK448:=a_ (blk_below (g:=gb448) (o:=.cells #[.int .i64 t438,.int .i64 t439,.slice Ao79 t440.length co79,.slice Ao80 t443.length co80,.int .i64 t446,.int .i64 t447] 77 (0,0)) (bp_ BK448.out) hb)
                replace BK465:=a_ (blk_below (g:=gb465) (o:=.cells #[.int .i64 t454,.int .i64 t455,.slice Ao89 t456.length co89,.slice Ao91 t459.length co91,.int .i64 t462,.int .i64 t463] 77 (0,0)) (bp_ BK465.out) hb)
                replace BK512:=a_ (blk_below (g:=gb512) (o:=.cells #[.int .i64 0,.int .i64 0,.slice none 0 0,.slice none 0 0,.int .i64 0,.int .i64 0] 77 (0,0)) (bp_ BK512.out) hb)
                try clear hb ho0 ho1
                refine hK.out _ _ ⟨(bC_ BK407.out 0).trans rfl,(bC_ BK407.out 1).trans rfl,(bC_ BK407.out 2).trans rfl,(bC_ BK407.out 3).trans rfl,(bC_ BK407.out 4).trans rfl,(bC_ BK407.out 5).trans rfl,(bC_ BK408.out 0).trans rfl,(bC_ BK408.out 1).trans rfl,(bC_ BK408.out 2).trans rfl,(bC_ BK408.out 3).trans rfl,(bC_ BK408.out 4).trans rfl⟩ (fun hHeld=>?_)
                clear hK K
                refine no_ 86 ?_
                refine on_ 3 88 (fun K hK=>?_)
                refine goes_ Tryd.func68 (by kernel_rfl) rfl #[.agg #[.int .i64 a1_0,.int .i64 a1_1,.int .i64 a1_2,.int .i64 a1_3,.string a1_4]] (by rfl) rfl rfl ar_ ?_
                with_reducible refine (laws_toOp.calls a1_0 a1_1 a1_2 a1_3 a1_4 t496 t497 t498 t499 t500 _ A40.out).mono ?_
                rintro e w120 ⟨rfl,hb⟩
                refine ⟨_,rfl,?_⟩
                replace HO415:=a_ (Kd.R_below (rp_ HO415.out) hb)
                replace HO418:=a_ (Kd.R_below (rp_ HO418.out) hb)
                replace HO430:=a_ (Kd.R_below (rp_ HO430.out) hb)
                replace HO433:=a_ (Kd.R_below (rp_ HO433.out) hb)
                replace HO442:=a_ (Kd.R_below (rp_ HO442.out) hb)
                replace HO445:=a_ (Kd.R_below (rp_ HO445.out) hb)
                replace HO458:=a_ (Kd.R_below (rp_ HO458.out) hb)
                replace HO461:=a_ (Kd.R_below (rp_ HO461.out) hb)
                replace HO471:=a_ (Kd.R_below (rp_ HO471.out) hb)
                replace HO474:=a_ (Kd.R_below (rp_ HO474.out) hb)
                replace HO490:=a_ (Kd.R_below (rp_ HO490.out) hb)
                replace HO493:=a_ (Kd.R_below (rp_ HO493.out) hb)
                replace HB:=a_ (bS_ (bel_) hb)
                replace BK407:=a_ (blk_below (g:=gb407) (o:=.cells #[.int .i64 a0_0,.int .i64 a0_1,.slice A0_2 l0_2.length c0_2,.slice A0_3 l0_3.length c0_3,.int .i64 a0_4,.int .i64 a0_5] 85 (0,0)) (bp_ BK407.out) hb)
                replace BK408:=a_ (blk_below (g:=gb408) (o:=.cells #[.int .i64 a1_0,.int .i64 a1_1,.int .i64 a1_2,.int .i64 a1_3,.string a1_4] 34 (0,0)) (bp_ BK408.out) hb)
                replace BK437:=a_ (blk_below (g:=gb437) (o:=.cells #[.int .i64 t426,.int .i64 t427,.slice Ao65 t428.length co65,.slice Ao67 t431.length co67,.int .i64 t434,.int .i64 t435] 77 (0,0)) (bp_ BK437.out) hb)
                replace BK448:=a_ (blk_below (g:=gb448) (o:=.cells #[.int .i64 t438,.int .i64 t439,.slice Ao79 t440.length co79,.slice Ao80 t443.length co80,.int .i64 t446,.int .i64 t447] 77 (0,0)) (bp_ BK448.out) hb)
                replace BK465:=a_ (blk_below (g:=gb465) (o:=.cells #[.int .i64 t454,.int .i64 t455,.slice Ao89 t456.length co89,.slice Ao91 t459.length co91,.int .i64 t462,.int .i64 t463] 77 (0,0)) (bp_ BK465.out) hb)
                replace BK512:=a_ (blk_below (g:=gb512) (o:=.cells #[.int .i64 0,.int .i64 0,.slice none 0 0,.slice none 0 0,.int .i64 0,.int .i64 0] 77 (0,0)) (bp_ BK512.out) hb)
                try clear hb
                obtain ⟨Ao121,co121,eo121⟩:=Kd.R_slice HO490.out
                (first|subst eo121|(injection eo121 with f1_ f2_ f3_;have f4_:=f1_.symm;have f5_:=f3_.symm;clear f1_ f2_ f3_;subst f4_;subst f5_))
                obtain ⟨Ao122,co122,eo122⟩:=Kd.R_slice HO493.out
                (first|subst eo122|(injection eo122 with f1_ f2_ f3_;have f4_:=f1_.symm;have f5_:=f3_.symm;clear f1_ f2_ f3_;subst f4_;subst f5_))
                refine hK.out _ _ ⟨(bC_ BK407.out 0).trans rfl,(bC_ BK407.out 1).trans rfl,(bC_ BK407.out 2).trans rfl,(bC_ BK407.out 3).trans rfl,(bC_ BK407.out 4).trans rfl,(bC_ BK407.out 5).trans rfl,(bC_ BK408.out 0).trans rfl,(bC_ BK408.out 1).trans rfl,(bC_ BK408.out 2).trans rfl,(bC_ BK408.out 3).trans rfl,(bC_ BK408.out 4).trans rfl⟩ (fun hHeld=>?_)
                clear hK K
                refine no_ 88 ?_
                refine on_ 4 89 (fun K hK=>?_)
                refine goes_ Tryd.func69 (by kernel_rfl) rfl #[.agg #[.int .i64 t486,.int .i64 t487,.slice Ao121 t488.length co121,.slice Ao122 t491.length co122,.int .i64 t494,.int .i64 t495],.agg #[.int .i64 t496,.int .i64 t497,.int .i64 t498,.int .i64 t499,.string t500]] (by rfl) rfl rfl ar_ ?_
                with_reducible refine (impl_ClientDo.calls k t486 t487 _ _ t488 _ _ t491 t494 t495 t496 t497 t498 t499 t500 t501 t502 t503 t506 t509 t510 t511 _ ?side1 ?side2 ?side3 ?side4 A41.out ?side5).mono ?_
                (case side1=>exact cx_ (Kd.R_reads' HO490.out).2.2)
                (case side2=>exact (Kd.R_reads' HO490.out).2.1)
                (case side3=>exact cx_ (Kd.R_reads' HO493.out).2.2)
                (case side4=>exact (Kd.R_reads' HO493.out).2.1)
                (case side5=>exact Glob.below HG.out (bel_))
                rintro e w123 ⟨v504,v507,rfl,ho0,ho1,hb⟩
                refine ⟨_,rfl,?_⟩
                have HO505:=a_ (Kd.R_lower (Kd.R_new' (Kd.R_new' (Kd.R_new' (Kd.R_new' (Kd.R_new' (Kd.R_new' ho0 (Kd.R_lt (rp_ HO415.out))) (Kd.R_lt (rp_ HO430.out))) (Kd.R_lt (rp_ HO442.out))) (Kd.R_lt (rp_ HO458.out))) (Kd.R_lt (rp_ HO471.out))) (Kd.R_lt (rp_ HO490.out))) (below_size (bel_)))
                replace HO415:=a_ (Kd.R_elder' (rp_ HO415.out) (Kd.R_base ho0) hb)
                replace HO430:=a_ (Kd.R_elder' (rp_ HO430.out) (Kd.R_base ho0) hb)
                replace HO442:=a_ (Kd.R_elder' (rp_ HO442.out) (Kd.R_base ho0) hb)
                replace HO458:=a_ (Kd.R_elder' (rp_ HO458.out) (Kd.R_base ho0) hb)
                replace HO471:=a_ (Kd.R_elder' (rp_ HO471.out) (Kd.R_base ho0) hb)
                replace HO490:=a_ (Kd.R_elder' (rp_ HO490.out) (Kd.R_base ho0) hb)
                have HO508:=a_ (Kd.R_lower (Kd.R_new' (Kd.R_new' (Kd.R_new' (Kd.R_new' (Kd.R_new' (Kd.R_new' ho1 (Kd.R_lt (rp_ HO418.out))) (Kd.R_lt (rp_ HO433.out))) (Kd.R_lt (rp_ HO445.out))) (Kd.R_lt (rp_ HO461.out))) (Kd.R_lt (rp_ HO474.out))) (Kd.R_lt (rp_ HO493.out))) (below_size (bel_)))
                replace HO418:=a_ (Kd.R_elder' (rp_ HO418.out) (Kd.R_base ho1) hb)
                replace HO433:=a_ (Kd.R_elder' (rp_ HO433.out) (Kd.R_base ho1) hb)
                replace HO445:=a_ (Kd.R_elder' (rp_ HO445.out) (Kd.R_base ho1) hb)
                replace HO461:=a_ (Kd.R_elder' (rp_ HO461.out) (Kd.R_base ho1) hb)
                replace HO474:=a_ (Kd.R_elder' (rp_ HO474.out) (Kd.R_base ho1) hb)
                replace HO493:=a_ (Kd.R_elder' (rp_ HO493.out) (Kd.R_base ho1) hb)
                replace HB:=a_ (bS_ (bel_) hb)
                replace BK407:=a_ (blk_below (g:=gb407) (o:=.cells #[.int .i64 a0_0,.int .i64 a0_1,.slice A0_2 l0_2.length c0_2,.slice A0_3 l0_3.length c0_3,.int .i64 a0_4,.int .i64 a0_5] 85 (0,0)) (bp_ BK407.out) hb)
                replace BK408:=a_ (blk_below (g:=gb408) (o:=.cells #[.int .i64 a1_0,.int .i64 a1_1,.int .i64 a1_2,.int .i64 a1_3,.string a1_4] 34 (0,0)) (bp_ BK408.out) hb)
                replace BK437:=a_ (blk_below (g:=gb437) (o:=.cells #[.int .i64 t426,.int .i64 t427,.slice Ao65 t428.length co65,.slice Ao67 t431.length co67,.int .i64 t434,.int .i64 t435] 77 (0,0)) (bp_ BK437.out) hb)
                replace BK448:=a_ (blk_below (g:=gb448) (o:=.cells #[.int .i64 t438,.int .i64 t439,.slice Ao79 t440.length co79,.slice Ao80 t443.length co80,.int .i64 t446,.int .i64 t447] 77 (0,0)) (bp_ BK448.out) hb)
                replace BK465:=a_ (blk_below (g:=gb465) (o:=.cells #[.int .i64 t454,.int .i64 t455,.slice Ao89 t456.length co89,.slice Ao91 t459.length co91,.int .i64 t462,.int .i64 t463] 77 (0,0)) (bp_ BK465.out) hb)
                replace BK512:=a_ (blk_below (g:=gb512) (o:=.cells #[.int .i64 0,.int .i64 0,.slice none 0 0,.slice none 0 0,.int .i64 0,.int .i64 0] 77 (0,0)) (bp_ BK512.out) hb)
                try clear hb ho0 ho1
                refine hK.out _ _ ⟨(bC_ BK407.out 0).trans rfl,(bC_ BK407.out 1).trans rfl,(bC_ BK407.out 2).trans rfl,(bC_ BK407.out 3).trans rfl,(bC_ BK407.out 4).trans rfl,(bC_ BK407.out 5).trans rfl,(bC_ BK408.out 0).trans rfl,(bC_ BK408.out 1).trans rfl,(bC_ BK408.out 2).trans rfl,(bC_ BK408.out 3).trans rfl,(bC_ BK408.out 4).trans rfl⟩ (fun hHeld=>?_)
                clear hK K
                refine no_ 89 ?_
                refine pa_ 5 84 ?_
                refine pa_ 6 90 ?_
                refine pa_ 7 91 ?_
                exact norm_ (by simp only [putAll,Act.put,List.setIfInBounds_toArray,List.set_cons_zero,List.set_cons_succ]) (hCont (.slice Ao121 t488.length co121,.slice Ao122 t491.length co122,v504,v507,gb512) _ ⟨hHeld,(by (with_reducible repeat (first|apply Kd.R_alloc|apply Kd.R_drewN|apply Kd.R_drew));exact Kd.R_mono HO415.out (fun _ hk=>⟨hk.1.1.1,⟨hk.1.1.2.1,⟨hk.1.1.2.2.1,⟨hk.1.1.2.2.2,⟨hk.1.2,hk.2⟩⟩⟩⟩⟩)),(by (with_reducible repeat (first|apply Kd.R_alloc|apply Kd.R_drewN|apply Kd.R_drew));exact Kd.R_mono HO418.out (fun _ hk=>⟨hk.1.1.1,⟨hk.1.1.2.1,⟨hk.1.1.2.2.1,⟨hk.1.1.2.2.2,⟨hk.1.2,hk.2⟩⟩⟩⟩⟩)),(by (with_reducible repeat (first|apply Kd.R_alloc|apply Kd.R_drewN|apply Kd.R_drew));exact Kd.R_mono HO430.out (fun _ hk=>⟨hk.1.1.1,⟨hk.1.1.2.1,⟨hk.1.1.2.2.1,⟨hk.1.1.2.2.2,⟨hk.1.2,hk.2⟩⟩⟩⟩⟩)),(by (with_reducible repeat (first|apply Kd.R_alloc|apply Kd.R_drewN|apply Kd.R_drew));exact Kd.R_mono HO433.out (fun _ hk=>⟨hk.1.1.1,⟨hk.1.1.2.1,⟨hk.1.1.2.2.1,⟨hk.1.1.2.2.2,⟨hk.1.2,hk.2⟩⟩⟩⟩⟩)),(by (with_reducible repeat (first|apply Kd.R_alloc|apply Kd.R_drewN|apply Kd.R_drew));exact Kd.R_mono HO442.out (fun _ hk=>⟨hk.1.1.1,⟨hk.1.1.2.1,⟨hk.1.1.2.2.1,⟨hk.1.1.2.2.2,⟨hk.1.2,hk.2⟩⟩⟩⟩⟩)),(by (with_reducible repeat (first|apply Kd.R_alloc|apply Kd.R_drewN|apply Kd.R_drew));exact Kd.R_mono HO445.out (fun _ hk=>⟨hk.1.1.1,⟨hk.1.1.2.1,⟨hk.1.1.2.2.1,⟨hk.1.1.2.2.2,⟨hk.1.2,hk.2⟩⟩⟩⟩⟩)),(by (with_reducible repeat (first|apply Kd.R_alloc|apply Kd.R_drewN|apply Kd.R_drew));exact Kd.R_mono HO458.out (fun _ hk=>⟨hk.1.1.1,⟨hk.1.1.2.1,⟨hk.1.1.2.2.1,⟨hk.1.1.2.2.2,⟨hk.1.2,hk.2⟩⟩⟩⟩⟩)),(by (with_reducible repeat (first|apply Kd.R_alloc|apply Kd.R_drewN|apply Kd.R_drew));exact Kd.R_mono HO461.out (fun _ hk=>⟨hk.1.1.1,⟨hk.1.1.2.1,⟨hk.1.1.2.2.1,⟨hk.1.1.2.2.2,⟨hk.1.2,hk.2⟩⟩⟩⟩⟩)),(by (with_reducible repeat (first|apply Kd.R_alloc|apply Kd.R_drewN|apply Kd.R_drew));exact Kd.R_mono HO471.out (fun _ hk=>⟨hk.1.1.1,⟨hk.1.1.2.1,⟨hk.1.1.2.2.1,⟨hk.1.1.2.2.2,⟨hk.1.2,hk.2⟩⟩⟩⟩⟩)),(by (with_reducible repeat (first|apply Kd.R_alloc|apply Kd.R_drewN|apply Kd.R_drew));exact Kd.R_mono HO474.out (fun _ hk=>⟨hk.1.1.1,⟨hk.1.1.2.1,⟨hk.1.1.2.2.1,⟨hk.1.1.2.2.2,⟨hk.1.2,hk.2⟩⟩⟩⟩⟩)),(by (with_reducible repeat (first|apply Kd.R_alloc|apply Kd.R_drewN|apply Kd.R_drew));exact Kd.R_mono HO490.out (fun _ hk=>⟨hk.1.1.1.1.1.2,⟨hk.1.1.1.1.2,⟨hk.1.1.1.2,⟨hk.1.1.2,⟨hk.1.2,hk.2⟩⟩⟩⟩⟩)),(by (with_reducible repeat (first|apply Kd.R_alloc|apply Kd.R_drewN|apply Kd.R_drew));exact Kd.R_mono HO493.out (fun _ hk=>⟨hk.1.1.1.1.1.2,⟨hk.1.1.1.1.2,⟨hk.1.1.1.2,⟨hk.1.1.2,⟨hk.1.2,hk.2⟩⟩⟩⟩⟩)),(by (with_reducible repeat (first|apply Kd.R_alloc|apply Kd.R_drewN|apply Kd.R_drew));exact Kd.R_mono HO505.out (fun _ hk=>⟨hk.1.1.1.1.1.2,⟨hk.1.1.1.1.2,⟨hk.1.1.1.2,⟨hk.1.1.2,⟨hk.1.2,hk.2⟩⟩⟩⟩⟩)),(by (with_reducible repeat (first|apply Kd.R_alloc|apply Kd.R_drewN|apply Kd.R_drew));exact Kd.R_mono HO508.out (fun _ hk=>⟨hk.1.1.1.1.1.2,⟨hk.1.1.1.1.2,⟨hk.1.1.1.2,⟨hk.1.1.2,⟨hk.1.2,hk.2⟩⟩⟩⟩⟩)),(bp_ BK407.out),(bp_ BK408.out),(bp_ BK437.out),(bp_ BK448.out),(bp_ BK465.out),(bp_ BK512.out),GW512.out,GE512.out,NB407_512.out,NB512_407.out,NB408_512.out,NB512_408.out,NB437_512.out,NB512_437.out,NB448_512.out,NB512_448.out,NB465_512.out,NB512_465.out,(bel_)⟩)
              rintro ⟨v489,v492,v504,v507,gb512⟩ w124 ⟨hS_,h0_,h1_,h2_,h3_,h4_,h5_,h6_,h7_,h8_,h9_,h10_,h11_,h12_,h13_,h14_,h15_,h16_,h17_,h18_,h19_,h20_,h21_,h22_,h23_,h24_,h25_,h26_,h27_,h28_,h29_,h30_,h31_,h32_⟩
              replace HO415:Aside0 (Kd.R k69 69 w124 w.heap.size (fun k_=>some k_≠(.slice Ao65 t428.length co65:Value).ownBlock∧some k_≠(.slice Ao79 t440.length co79:Value).ownBlock∧some k_≠(.slice Ao89 t456.length co89:Value).ownBlock∧some k_≠(.slice Ao105 t469.length co105:Value).ownBlock∧some k_≠(v489:Value).ownBlock∧some k_≠(v504:Value).ownBlock) v414 t413):=⟨h0_⟩
              replace HO418:Aside0 (Kd.R k44 44 w124 w.heap.size (fun k_=>some k_≠(.slice Ao67 t431.length co67:Value).ownBlock∧some k_≠(.slice Ao80 t443.length co80:Value).ownBlock∧some k_≠(.slice Ao91 t459.length co91:Value).ownBlock∧some k_≠(.slice Ao106 t472.length co106:Value).ownBlock∧some k_≠(v492:Value).ownBlock∧some k_≠(v507:Value).ownBlock) v417 t416):=⟨h1_⟩
              replace HO430:Aside0 (Kd.R k69 69 w124 w.heap.size (fun k_=>some k_≠(v414:Value).ownBlock∧some k_≠(.slice Ao79 t440.length co79:Value).ownBlock∧some k_≠(.slice Ao89 t456.length co89:Value).ownBlock∧some k_≠(.slice Ao105 t469.length co105:Value).ownBlock∧some k_≠(v489:Value).ownBlock∧some k_≠(v504:Value).ownBlock) (.slice Ao65 t428.length co65) t428):=⟨h2_⟩
              replace HO433:Aside0 (Kd.R k44 44 w124 w.heap.size (fun k_=>some k_≠(v417:Value).ownBlock∧some k_≠(.slice Ao80 t443.length co80:Value).ownBlock∧some k_≠(.slice Ao91 t459.length co91:Value).ownBlock∧some k_≠(.slice Ao106 t472.length co106:Value).ownBlock∧some k_≠(v492:Value).ownBlock∧some k_≠(v507:Value).ownBlock) (.slice Ao67 t431.length co67) t431):=⟨h3_⟩
              replace HO442:Aside0 (Kd.R k69 69 w124 w.heap.size (fun k_=>some k_≠(v414:Value).ownBlock∧some k_≠(.slice Ao65 t428.length co65:Value).ownBlock∧some k_≠(.slice Ao89 t456.length co89:Value).ownBlock∧some k_≠(.slice Ao105 t469.length co105:Value).ownBlock∧some k_≠(v489:Value).ownBlock∧some k_≠(v504:Value).ownBlock) (.slice Ao79 t440.length co79) t479):=⟨h4_⟩
              replace HO445:Aside0 (Kd.R k44 44 w124 w.heap.size (fun k_=>some k_≠(v417:Value).ownBlock∧some k_≠(.slice Ao67 t431.length co67:Value).ownBlock∧some k_≠(.slice Ao91 t459.length co91:Value).ownBlock∧some k_≠(.slice Ao106 t472.length co106:Value).ownBlock∧some k_≠(v492:Value).ownBlock∧some k_≠(v507:Value).ownBlock) (.slice Ao80 t443.length co80) t480):=⟨h5_⟩
              replace HO458:Aside0 (Kd.R k69 69 w124 w.heap.size (fun k_=>some k_≠(v414:Value).ownBlock∧some k_≠(.slice Ao65 t428.length co65:Value).ownBlock∧some k_≠(.slice Ao79 t440.length co79:Value).ownBlock∧some k_≠(.slice Ao105 t469.length co105:Value).ownBlock∧some k_≠(v489:Value).ownBlock∧some k_≠(v504:Value).ownBlock) (.slice Ao89 t456.length co89) t483):=⟨h6_⟩
              replace HO461:Aside0 (Kd.R k44 44 w124 w.heap.size (fun k_=>some k_≠(v417:Value).ownBlock∧some k_≠(.slice Ao67 t431.length co67:Value).ownBlock∧some k_≠(.slice Ao80 t443.length co80:Value).ownBlock∧some k_≠(.slice Ao106 t472.length co106:Value).ownBlock∧some k_≠(v492:Value).ownBlock∧some k_≠(v507:Value).ownBlock) (.slice Ao91 t459.length co91) t484):=⟨h7_⟩
              replace HO471:Aside0 (Kd.R k69 69 w124 w.heap.size (fun k_=>some k_≠(v414:Value).ownBlock∧some k_≠(.slice Ao65 t428.length co65:Value).ownBlock∧some k_≠(.slice Ao79 t440.length co79:Value).ownBlock∧some k_≠(.slice Ao89 t456.length co89:Value).ownBlock∧some k_≠(v489:Value).ownBlock∧some k_≠(v504:Value).ownBlock) (.slice Ao105 t469.length co105) t469):=⟨h8_⟩
              replace HO474:Aside0 (Kd.R k44 44 w124 w.heap.size (fun k_=>some k_≠(v417:Value).ownBlock∧some k_≠(.slice Ao67 t431.length co67:Value).ownBlock∧some k_≠(.slice Ao80 t443.length co80:Value).ownBlock∧some k_≠(.slice Ao91 t459.length co91:Value).ownBlock∧some k_≠(v492:Value).ownBlock∧some k_≠(v507:Value).ownBlock) (.slice Ao106 t472.length co106) t472):=⟨h9_⟩
              have HO490:Aside0 (Kd.R k69 69 w124 w.heap.size (fun k_=>some k_≠(v414:Value).ownBlock∧some k_≠(.slice Ao65 t428.length co65:Value).ownBlock∧some k_≠(.slice Ao79 t440.length co79:Value).ownBlock∧some k_≠(.slice Ao89 t456.length co89:Value).ownBlock∧some k_≠(.slice Ao105 t469.length co105:Value).ownBlock∧some k_≠(v504:Value).ownBlock) v489 t488):=⟨h10_⟩
              have HO493:Aside0 (Kd.R k44 44 w124 w.heap.size (fun k_=>some k_≠(v417:Value).ownBlock∧some k_≠(.slice Ao67 t431.length co67:Value).ownBlock∧some k_≠(.slice Ao80 t443.length co80:Value).ownBlock∧some k_≠(.slice Ao91 t459.length co91:Value).ownBlock∧some k_≠(.slice Ao106 t472.length co106:Value).ownBlock∧some k_≠(v507:Value).ownBlock) v492 t491):=⟨h11_⟩
              have HO505:Aside0 (Kd.R k69 69 w124 w.heap.size (fun k_=>some k_≠(v414:Value).ownBlock∧some k_≠(.slice Ao65 t428.length co65:Value).ownBlock∧some k_≠(.slice Ao79 t440.length co79:Value).ownBlock∧some k_≠(.slice Ao89 t456.length co89:Value).ownBlock∧some k_≠(.slice Ao105 t469.length co105:Value).ownBlock∧some k_≠(v489:Value).ownBlock) v504 t503):=⟨h12_⟩
              have HO508:Aside0 (Kd.R k44 44 w124 w.heap.size (fun k_=>some k_≠(v417:Value).ownBlock∧some k_≠(.slice Ao67 t431.length co67:Value).ownBlock∧some k_≠(.slice Ao80 t443.length co80:Value).ownBlock∧some k_≠(.slice Ao91 t459.length co91:Value).ownBlock∧some k_≠(.slice Ao106 t472.length co106:Value).ownBlock∧some k_≠(v492:Value).ownBlock) v507 t506):=⟨h13_⟩
              replace BK407:Aside0 (w124.heap[gb407]?=some (.cells #[.int .i64 a0_0,.int .i64 a0_1,.slice A0_2 l0_2.length c0_2,.slice A0_3 l0_3.length c0_3,.int .i64 a0_4,.int .i64 a0_5] 85 (0,0))):=⟨h14_⟩
              replace BK408:Aside0 (w124.heap[gb408]?=some (.cells #[.int .i64 a1_0,.int .i64 a1_1,.int .i64 a1_2,.int .i64 a1_3,.string a1_4] 34 (0,0))):=⟨h15_⟩
              replace BK437:Aside0 (w124.heap[gb437]?=some (.cells #[.int .i64 t426,.int .i64 t427,.slice Ao65 t428.length co65,.slice Ao67 t431.length co67,.int .i64 t434,.int .i64 t435] 77 (0,0))):=⟨h16_⟩
              replace BK448:Aside0 (w124.heap[gb448]?=some (.cells #[.int .i64 t438,.int .i64 t439,.slice Ao79 t440.length co79,.slice Ao80 t443.length co80,.int .i64 t446,.int .i64 t447] 77 (0,0))):=⟨h17_⟩
              replace BK465:Aside0 (w124.heap[gb465]?=some (.cells #[.int .i64 t454,.int .i64 t455,.slice Ao89 t456.length co89,.slice Ao91 t459.length co91,.int .i64 t462,.int .i64 t463] 77 (0,0))):=⟨h18_⟩
              have BK512:Aside0 (w124.heap[gb512]?=some (.cells #[.int .i64 0,.int .i64 0,.slice none 0 0,.slice none 0 0,.int .i64 0,.int .i64 0] 77 (0,0))):=⟨h19_⟩
              have GW512:Aside0 (w.heap.size≤gb512):=⟨h20_⟩
              have GE512:Aside0 (w.heap.size≤gb512):=⟨h21_⟩
              have NB407_512:Aside0 (gb407≠gb512):=⟨h22_⟩
              have NB512_407:Aside0 (gb512≠gb407):=⟨h23_⟩
              have NB408_512:Aside0 (gb408≠gb512):=⟨h24_⟩
              have NB512_408:Aside0 (gb512≠gb408):=⟨h25_⟩
              have NB437_512:Aside0 (gb437≠gb512):=⟨h26_⟩
              have NB512_437:Aside0 (gb512≠gb437):=⟨h27_⟩
              have NB448_512:Aside0 (gb448≠gb512):=⟨h28_⟩
              have NB512_448:Aside0 (gb512≠gb448):=⟨h29_⟩
              have NB465_512:Aside0 (gb465≠gb512):=⟨h30_⟩
              have NB512_465:Aside0 (gb512≠gb465):=⟨h31_⟩
              replace HB:Aside0 (Below w.heap.size w w124):=⟨h32_⟩
              clear h0_ h1_ h2_ h3_ h4_ h5_ h6_ h7_ h8_ h9_ h10_ h11_ h12_ h13_ h14_ h15_ h16_ h17_ h18_ h19_ h20_ h21_ h22_ h23_ h24_ h25_ h26_ h27_ h28_ h29_ h30_ h31_ h32_
              have hHeld:w124.cell? ⟨gb407,0,none⟩=some (.int .i64 a0_0)∧w124.cell? ⟨gb407,1,none⟩=some (.int .i64 a0_1)∧w124.cell? ⟨gb407,2,none⟩=some (.slice A0_2 l0_2.length c0_2)∧w124.cell? ⟨gb407,3,none⟩=some (.slice A0_3 l0_3.length c0_3)∧w124.cell? ⟨gb407,4,none⟩=some (.int .i64 a0_4)∧w124.cell? ⟨gb407,5,none⟩=some (.int .i64 a0_5)∧w124.cell? ⟨gb408,0,none⟩=some (.int .i64 a1_0)∧w124.cell? ⟨gb408,1,none⟩=some (.int .i64 a1_1)∧w124.cell? ⟨gb408,2,none⟩=some (.int .i64 a1_2)∧w124.cell? ⟨gb408,3,none⟩=some (.int .i64 a1_3)∧w124.cell? ⟨gb408,4,none⟩=some (.string a1_4):=hS_
              obtain ⟨Ao127,co127,eo127⟩:=Kd.R_slice HO505.out
              (first|subst eo127|(injection eo127 with f1_ f2_ f3_;have f4_:=f1_.symm;have f5_:=f3_.symm;clear f1_ f2_ f3_;subst f4_;subst f5_))
              obtain ⟨Ao129,co129,eo129⟩:=Kd.R_slice HO508.out
              (first|subst eo129|(injection eo129 with f1_ f2_ f3_;have f4_:=f1_.symm;have f5_:=f3_.symm;clear f1_ f2_ f3_;subst f4_;subst f5_))
              refine norm_ (a':=?_) ?_ ?_
              rotate_left
              ·simp only [putAll,Act.put,List.setIfInBounds_toArray,List.set_cons_zero,List.set_cons_succ]
               rfl
              refine one_ (i:=9) (N:=none) #[true,true,true,true,true,true,true,true,true,true,false] rfl rfl (one_of HT_.out (by kernel_rfl)) (by decide) (fun K hK=>?_)
              have hs125:w124.cell? ⟨gb512,0,none⟩=some (.int .i64 0):=(bC_ BK512.out 0).trans rfl
              have hfs125:=bF_ BK512.out 0
              have hns125_0:=NB407_512.out
              have hns125_1:=NB408_512.out
              have hns125_2:=NB437_512.out
              have hns125_3:=NB448_512.out
              have hns125_4:=NB465_512.out
              have hms125_0:=NB512_407.out
              have hms125_1:=NB512_408.out
              have hms125_2:=NB512_437.out
              have hms125_3:=NB512_448.out
              have hms125_4:=NB512_465.out
              have hs126:w124.cell? ⟨gb512,1,none⟩=some (.int .i64 0):=(bC_ BK512.out 1).trans rfl
              have hfs126:=bF_ BK512.out 1
              have hns126_0:=NB407_512.out
              have hns126_1:=NB408_512.out
              have hns126_2:=NB437_512.out
              have hns126_3:=NB448_512.out
              have hns126_4:=NB465_512.out
              have hms126_0:=NB512_407.out
              have hms126_1:=NB512_408.out
              have hms126_2:=NB512_437.out
              have hms126_3:=NB512_448.out
              have hms126_4:=NB512_465.out
              have hs128:w124.cell? ⟨gb512,2,none⟩=some (.slice none 0 0):=(bC_ BK512.out 2).trans rfl
              have hfs128:=bF_ BK512.out 2
              have hns128_0:=NB407_512.out
              have hns128_1:=NB408_512.out
              have hns128_2:=NB437_512.out
              have hns128_3:=NB448_512.out
              have hns128_4:=NB465_512.out
              have hms128_0:=NB512_407.out
              have hms128_1:=NB512_408.out
              have hms128_2:=NB512_437.out
              have hms128_3:=NB512_448.out
              have hms128_4:=NB512_465.out
              have hs130:w124.cell? ⟨gb512,3,none⟩=some (.slice none 0 0):=(bC_ BK512.out 3).trans rfl
              have hfs130:=bF_ BK512.out 3
              have hns130_0:=NB407_512.out
              have hns130_1:=NB408_512.out
              have hns130_2:=NB437_512.out
              have hns130_3:=NB448_512.out
              have hns130_4:=NB465_512.out
              have hms130_0:=NB512_407.out
              have hms130_1:=NB512_408.out
              have hms130_2:=NB512_437.out
              have hms130_3:=NB512_448.out
              have hms130_4:=NB512_465.out
              have hs131:w124.cell? ⟨gb512,4,none⟩=some (.int .i64 0):=(bC_ BK512.out 4).trans rfl
              have hfs131:=bF_ BK512.out 4
              have hns131_0:=NB407_512.out
              have hns131_1:=NB408_512.out
              have hns131_2:=NB437_512.out
              have hns131_3:=NB448_512.out
              have hns131_4:=NB465_512.out
              have hms131_0:=NB512_407.out
              have hms131_1:=NB512_408.out
              have hms131_2:=NB512_437.out
              have hms131_3:=NB512_448.out
              have hms131_4:=NB512_465.out
              have hs132:w124.cell? ⟨gb512,5,none⟩=some (.int .i64 0):=(bC_ BK512.out 5).trans rfl
              have hfs132:=bF_ BK512.out 5
              have hns132_0:=NB407_512.out
              have hns132_1:=NB408_512.out
              have hns132_2:=NB437_512.out
              have hns132_3:=NB448_512.out
              have hns132_4:=NB465_512.out
              have hms132_0:=NB512_407.out
              have hms132_1:=NB512_408.out
              have hms132_2:=NB512_437.out
              have hms132_3:=NB512_448.out
              have hms132_4:=NB512_465.out
              refine skip_ (w1:=?_) (by rfl) rfl ?_ ?_
              rotate_left
              ·go_simp
               rfl
              refine hK.out _ _ ⟨(cf6_ (g:=gb512) NB407_512.out (hHeld.1)),(cf6_ (g:=gb512) NB407_512.out (hHeld.2.1)),(cf6_ (g:=gb512) NB407_512.out (hHeld.2.2.1)),(cf6_ (g:=gb512) NB407_512.out (hHeld.2.2.2.1)),(cf6_ (g:=gb512) NB407_512.out (hHeld.2.2.2.2.1)),(cf6_ (g:=gb512) NB407_512.out (hHeld.2.2.2.2.2.1)),(cf6_ (g:=gb512) NB408_512.out (hHeld.2.2.2.2.2.2.1)),(cf6_ (g:=gb512) NB408_512.out (hHeld.2.2.2.2.2.2.2.1)),(cf6_ (g:=gb512) NB408_512.out (hHeld.2.2.2.2.2.2.2.2.1)),(cf6_ (g:=gb512) NB408_512.out (hHeld.2.2.2.2.2.2.2.2.2.1)),(cf6_ (g:=gb512) NB408_512.out (hHeld.2.2.2.2.2.2.2.2.2.2))⟩ (fun hHeld=>?_)
              clear hK K
              refine pa_ 10 15 ?_
              refine done_ (done_of HT_.out (by kernel_rfl)) ?_
              have hnb133:=NB512_407.out
              have hnc133:=NB407_512.out
              have hnb134:=NB512_408.out
              have hnc134:=NB408_512.out
              have hnb135:=NB512_437.out
              have hnc135:=NB437_512.out
              have hnb136:=NB512_448.out
              have hnc136:=NB448_512.out
              have hnb137:=NB512_465.out
              have hnc137:=NB465_512.out
              have Z138_0:=cz_ BK512.out 0 (.int .i64 0)
              have Z138_1:=cz_ BK512.out 1 (.int .i64 0)
              have Z138_2:=cz_ BK512.out 2 (.slice none 0 0)
              have Z138_3:=cz_ BK512.out 3 (.slice none 0 0)
              have Z138_4:=cz_ BK512.out 4 (.int .i64 0)
              have Z138_5:=cz_ BK512.out 5 (.int .i64 0)
              have Y138_0:=bF_ BK512.out 0
              have Y138_1:=bF_ BK512.out 1
              have Y138_2:=bF_ BK512.out 2
              have Y138_3:=bF_ BK512.out 3
              have Y138_4:=bF_ BK512.out 4
              have Y138_5:=bF_ BK512.out 5
              have Z139_0:=cz_ BK437.out 0 (.int .i64 t426)
              have Z139_1:=cz_ BK437.out 1 (.int .i64 t427)
              have Z139_2:=cz_ BK437.out 2 (.slice Ao65 t428.length co65)
              have Z139_3:=cz_ BK437.out 3 (.slice Ao67 t431.length co67)
              have Z139_4:=cz_ BK437.out 4 (.int .i64 t434)
              have Z139_5:=cz_ BK437.out 5 (.int .i64 t435)
              have Y139_0:=bF_ BK437.out 0
              have Y139_1:=bF_ BK437.out 1
              have Y139_2:=bF_ BK437.out 2
              have Y139_3:=bF_ BK437.out 3
              have Y139_4:=bF_ BK437.out 4
              have Y139_5:=bF_ BK437.out 5
              try go_wp2_with (first|((with_reducible refine gC_ (f:=65) rfl ?_);refine gl_ 94 Tryd.func65 #[.agg #[.int .i64 t501,.int .i64 t502,.slice Ao127 t503.length co127,.slice Ao129 t506.length co129,.int .i64 t509,.int .i64 t510],.agg #[.int .i64 t426,.int .i64 t427,.slice Ao65 t428.length co65,.slice Ao67 t431.length co67,.int .i64 t434,.int .i64 t435]] ?_;(with_reducible refine (laws_eqClient.calls k t501 t502 _ _ t503 _ _ t506 t509 t510 t426 t427 _ _ t428 _ _ t431 t434 t435 true _ ?side1 ?side2 ?side3 ?side4 ?side5 ?side6 ?side7 ?side8 A42.out).mono ?_);(case side1=>refine (Kd.R_reads' (e:=69) (base:=w.heap.size) (ok:=fun k_=>(some k_≠(v414:Value).ownBlock∧(some k_≠(.slice Ao65 t428.length co65:Value).ownBlock∧(some k_≠(.slice Ao79 t440.length co79:Value).ownBlock∧(some k_≠(.slice Ao89 t456.length co89:Value).ownBlock∧(some k_≠(.slice Ao105 t469.length co105:Value).ownBlock∧some k_≠(v489:Value).ownBlock)))))) (n:=t503.length) (c:=co127) ?_).2.2;exact (by (with_reducible repeat (first|apply Kd.R_alloc|apply Kd.R_drewN|apply Kd.R_drew));exact (Kd.R_mono (rf6_ (g:=gb512) (Kd.R_types HO505.out BK512.out (by decide)) (fun _ hk=>hk.2) (.int .i64 t501) (.int .i64 t502) (.slice Ao127 t503.length co127) (.slice Ao129 t506.length co129) (.int .i64 t509) (.int .i64 t510)) (fun _ h_=>h_.1))));(case side2=>exact (Kd.R_reads' HO505.out).2.1);(case side3=>refine (Kd.R_reads' (e:=44) (base:=w.heap.size) (ok:=fun k_=>(some k_≠(v417:Value).ownBlock∧(some k_≠(.slice Ao67 t431.length co67:Value).ownBlock∧(some k_≠(.slice Ao80 t443.length co80:Value).ownBlock∧(some k_≠(.slice Ao91 t459.length co91:Value).ownBlock∧(some k_≠(.slice Ao106 t472.length co106:Value).ownBlock∧some k_≠(v492:Value).ownBlock)))))) (n:=t506.length) (c:=co129) ?_).2.2;exact (by (with_reducible repeat (first|apply Kd.R_alloc|apply Kd.R_drewN|apply Kd.R_drew));exact (Kd.R_mono (rf6_ (g:=gb512) (Kd.R_types HO508.out BK512.out (by decide)) (fun _ hk=>hk.2) (.int .i64 t501) (.int .i64 t502) (.slice Ao127 t503.length co127) (.slice Ao129 t506.length co129) (.int .i64 t509) (.int .i64 t510)) (fun _ h_=>h_.1))));(case side4=>exact (Kd.R_reads' HO508.out).2.1);(case side5=>refine (Kd.R_reads' (e:=69) (base:=w.heap.size) (ok:=fun k_=>(some k_≠(v414:Value).ownBlock∧(some k_≠(.slice Ao79 t440.length co79:Value).ownBlock∧(some k_≠(.slice Ao89 t456.length co89:Value).ownBlock∧(some k_≠(.slice Ao105 t469.length co105:Value).ownBlock∧(some k_≠(v489:Value).ownBlock∧some k_≠(.slice Ao127 t503.length co127:Value).ownBlock)))))) (n:=t428.length) (c:=co65) ?_).2.2;exact (by (with_reducible repeat (first|apply Kd.R_alloc|apply Kd.R_drewN|apply Kd.R_drew));exact (Kd.R_mono (rf6_ (g:=gb512) (Kd.R_types HO430.out BK512.out (by decide)) (fun _ hk=>hk.2) (.int .i64 t501) (.int .i64 t502) (.slice Ao127 t503.length co127) (.slice Ao129 t506.length co129) (.int .i64 t509) (.int .i64 t510)) (fun _ h_=>h_.1))));(case side6=>exact (Kd.R_reads' HO430.out).2.1);(case side7=>refine (Kd.R_reads' (e:=44) (base:=w.heap.size) (ok:=fun k_=>(some k_≠(v417:Value).ownBlock∧(some k_≠(.slice Ao80 t443.length co80:Value).ownBlock∧(some k_≠(.slice Ao91 t459.length co91:Value).ownBlock∧(some k_≠(.slice Ao106 t472.length co106:Value).ownBlock∧(some k_≠(v492:Value).ownBlock∧some k_≠(.slice Ao129 t506.length co129:Value).ownBlock)))))) (n:=t431.length) (c:=co67) ?_).2.2;exact (by (with_reducible repeat (first|apply Kd.R_alloc|apply Kd.R_drewN|apply Kd.R_drew));exact (Kd.R_mono (rf6_ (g:=gb512) (Kd.R_types HO433.out BK512.out (by decide)) (fun _ hk=>hk.2) (.int .i64 t501) (.int .i64 t502) (.slice Ao127 t503.length co127) (.slice Ao129 t506.length co129) (.int .i64 t509) (.int .i64 t510)) (fun _ h_=>h_.1))));(case side8=>exact (Kd.R_reads' HO433.out).2.1);rintro e w140 ⟨rfl,hb⟩;refine ⟨_,rfl,?_⟩;have n0_:=a_ (Kd.R_below (by (with_reducible repeat (first|apply Kd.R_alloc|apply Kd.R_drewN|apply Kd.R_drew));exact (Kd.R_mono (rf6_ (g:=gb512) (Kd.R_types HO415.out BK512.out (by decide)) (fun _ hk=>hk.2) (.int .i64 t501) (.int .i64 t502) (.slice Ao127 t503.length co127) (.slice Ao129 t506.length co129) (.int .i64 t509) (.int .i64 t510)) (fun _ h_=>h_.1))) hb);have n1_:=a_ (Kd.R_below (by (with_reducible repeat (first|apply Kd.R_alloc|apply Kd.R_drewN|apply Kd.R_drew));exact (Kd.R_mono (rf6_ (g:=gb512) (Kd.R_types HO418.out BK512.out (by decide)) (fun _ hk=>hk.2) (.int .i64 t501) (.int .i64 t502) (.slice Ao127 t503.length co127) (.slice Ao129 t506.length co129) (.int .i64 t509) (.int .i64 t510)) (fun _ h_=>h_.1))) hb);have n2_:=a_ (Kd.R_below (by (with_reducible repeat (first|apply Kd.R_alloc|apply Kd.R_drewN|apply Kd.R_drew));exact (Kd.R_mono (rf6_ (g:=gb512) (Kd.R_types HO430.out BK512.out (by decide)) (fun _ hk=>hk.2) (.int .i64 t501) (.int .i64 t502) (.slice Ao127 t503.length co127) (.slice Ao129 t506.length co129) (.int .i64 t509) (.int .i64 t510)) (fun _ h_=>h_.1))) hb);have n3_:=a_ (Kd.R_below (by (with_reducible repeat (first|apply Kd.R_alloc|apply Kd.R_drewN|apply Kd.R_drew));exact (Kd.R_mono (rf6_ (g:=gb512) (Kd.R_types HO433.out BK512.out (by decide)) (fun _ hk=>hk.2) (.int .i64 t501) (.int .i64 t502) (.slice Ao127 t503.length co127) (.slice Ao129 t506.length co129) (.int .i64 t509) (.int .i64 t510)) (fun _ h_=>h_.1))) hb);have n4_:=a_ (Kd.R_below (by (with_reducible repeat (first|apply Kd.R_alloc|apply Kd.R_drewN|apply Kd.R_drew));exact (Kd.R_mono (rf6_ (g:=gb512) (Kd.R_types HO442.out BK512.out (by decide)) (fun _ hk=>hk.2) (.int .i64 t501) (.int .i64 t502) (.slice Ao127 t503.length co127) (.slice Ao129 t506.length co129) (.int .i64 t509) (.int .i64 t510)) (fun _ h_=>h_.1))) hb);have n5_:=a_ (Kd.R_below (by (with_reducible repeat (first|apply Kd.R_alloc|apply Kd.R_drewN|apply Kd.R_drew));exact (Kd.R_mono (rf6_ (g:=gb512) (Kd.R_types HO445.out BK512.out (by decide)) (fun _ hk=>hk.2) (.int .i64 t501) (.int .i64 t502) (.slice Ao127 t503.length co127) (.slice Ao129 t506.length co129) (.int .i64 t509) (.int .i64 t510)) (fun _ h_=>h_.1))) hb);have n6_:=a_ (Kd.R_below (by (with_reducible repeat (first|apply Kd.R_alloc|apply Kd.R_drewN|apply Kd.R_drew));exact (Kd.R_mono (rf6_ (g:=gb512) (Kd.R_types HO458.out BK512.out (by decide)) (fun _ hk=>hk.2) (.int .i64 t501) (.int .i64 t502) (.slice Ao127 t503.length co127) (.slice Ao129 t506.length co129) (.int .i64 t509) (.int .i64 t510)) (fun _ h_=>h_.1))) hb);have n7_:=a_ (Kd.R_below (by (with_reducible repeat (first|apply Kd.R_alloc|apply Kd.R_drewN|apply Kd.R_drew));exact (Kd.R_mono (rf6_ (g:=gb512) (Kd.R_types HO461.out BK512.out (by decide)) (fun _ hk=>hk.2) (.int .i64 t501) (.int .i64 t502) (.slice Ao127 t503.length co127) (.slice Ao129 t506.length co129) (.int .i64 t509) (.int .i64 t510)) (fun _ h_=>h_.1))) hb);have n8_:=a_ (Kd.R_below (by (with_reducible repeat (first|apply Kd.R_alloc|apply Kd.R_drewN|apply Kd.R_drew));exact (Kd.R_mono (rf6_ (g:=gb512) (Kd.R_types HO471.out BK512.out (by decide)) (fun _ hk=>hk.2) (.int .i64 t501) (.int .i64 t502) (.slice Ao127 t503.length co127) (.slice Ao129 t506.length co129) (.int .i64 t509) (.int .i64 t510)) (fun _ h_=>h_.1))) hb);have n9_:=a_ (Kd.R_below (by (with_reducible repeat (first|apply Kd.R_alloc|apply Kd.R_drewN|apply Kd.R_drew));exact (Kd.R_mono (rf6_ (g:=gb512) (Kd.R_types HO474.out BK512.out (by decide)) (fun _ hk=>hk.2) (.int .i64 t501) (.int .i64 t502) (.slice Ao127 t503.length co127) (.slice Ao129 t506.length co129) (.int .i64 t509) (.int .i64 t510)) (fun _ h_=>h_.1))) hb);have n10_:=a_ (Kd.R_below (by (with_reducible repeat (first|apply Kd.R_alloc|apply Kd.R_drewN|apply Kd.R_drew));exact (Kd.R_mono (rf6_ (g:=gb512) (Kd.R_types HO490.out BK512.out (by decide)) (fun _ hk=>hk.2) (.int .i64 t501) (.int .i64 t502) (.slice Ao127 t503.length co127) (.slice Ao129 t506.length co129) (.int .i64 t509) (.int .i64 t510)) (fun _ h_=>h_.1))) hb);have n11_:=a_ (Kd.R_below (by (with_reducible repeat (first|apply Kd.R_alloc|apply Kd.R_drewN|apply Kd.R_drew));exact (Kd.R_mono (rf6_ (g:=gb512) (Kd.R_types HO493.out BK512.out (by decide)) (fun _ hk=>hk.2) (.int .i64 t501) (.int .i64 t502) (.slice Ao127 t503.length co127) (.slice Ao129 t506.length co129) (.int .i64 t509) (.int .i64 t510)) (fun _ h_=>h_.1))) hb);have n12_:=a_ (Kd.R_below (by (with_reducible repeat (first|apply Kd.R_alloc|apply Kd.R_drewN|apply Kd.R_drew));exact (Kd.R_mono (rf6_ (g:=gb512) (Kd.R_types HO505.out BK512.out (by decide)) (fun _ hk=>hk.2) (.int .i64 t501) (.int .i64 t502) (.slice Ao127 t503.length co127) (.slice Ao129 t506.length co129) (.int .i64 t509) (.int .i64 t510)) (fun _ h_=>h_.1))) hb);have n13_:=a_ (Kd.R_below (by (with_reducible repeat (first|apply Kd.R_alloc|apply Kd.R_drewN|apply Kd.R_drew));exact (Kd.R_mono (rf6_ (g:=gb512) (Kd.R_types HO508.out BK512.out (by decide)) (fun _ hk=>hk.2) (.int .i64 t501) (.int .i64 t502) (.slice Ao127 t503.length co127) (.slice Ao129 t506.length co129) (.int .i64 t509) (.int .i64 t510)) (fun _ h_=>h_.1))) hb);have n14_:=a_ (blk_below (g:=gb407) (o:=.cells #[.int .i64 a0_0,.int .i64 a0_1,.slice A0_2 l0_2.length c0_2,.slice A0_3 l0_3.length c0_3,.int .i64 a0_4,.int .i64 a0_5] 85 (0,0)) (fp1_ NB407_512.out BK407.out) hb);have n15_:=a_ (blk_below (g:=gb408) (o:=.cells #[.int .i64 a1_0,.int .i64 a1_1,.int .i64 a1_2,.int .i64 a1_3,.string a1_4] 34 (0,0)) (fp1_ NB408_512.out BK408.out) hb);have n16_:=a_ (blk_below (g:=gb437) (o:=.cells #[.int .i64 t426,.int .i64 t427,.slice Ao65 t428.length co65,.slice Ao67 t431.length co67,.int .i64 t434,.int .i64 t435] 77 (0,0)) (fp1_ NB437_512.out BK437.out) hb);have n17_:=a_ (blk_below (g:=gb448) (o:=.cells #[.int .i64 t438,.int .i64 t439,.slice Ao79 t440.length co79,.slice Ao80 t443.length co80,.int .i64 t446,.int .i64 t447] 77 (0,0)) (fp1_ NB448_512.out BK448.out) hb);have n18_:=a_ (blk_below (g:=gb465) (o:=.cells #[.int .i64 t454,.int .i64 t455,.slice Ao89 t456.length co89,.slice Ao91 t459.length co91,.int .i64 t462,.int .i64 t463] 77 (0,0)) (fp1_ NB465_512.out BK465.out) hb);have n19_:=a_ (blk_below (g:=gb512) (o:=.cells #[.int .i64 t501,.int .i64 t502,.slice Ao127 t503.length co127,.slice Ao129 t506.length co129,.int .i64 t509,.int .i64 t510] 77 (0,0)) (k6p_ BK512.out) hb);have n20_:=a_ (bS_ (bel_) hb);clear HO415;clear HO418;clear HO430;clear HO433;clear HO442;clear HO445;clear HO458;clear HO461;clear HO471;clear HO474;clear HO490;clear HO493;clear HO505;clear HO508;clear BK407;clear BK408;clear BK437;clear BK448;clear BK465;clear BK512;clear HB;have HO415:=n0_;have HO418:=n1_;have HO430:=n2_;have HO433:=n3_;have HO442:=n4_;have HO445:=n5_;have HO458:=n6_;have HO461:=n7_;have HO471:=n8_;have HO474:=n9_;have HO490:=n10_;have HO493:=n11_;have HO505:=n12_;have HO508:=n13_;have BK407:=n14_;have BK408:=n15_;have BK437:=n16_;have BK448:=n17_;have BK465:=n18_;have BK512:=n19_;have HB:=n20_;clear n0_ n1_ n2_ n3_ n4_ n5_ n6_ n7_ n8_ n9_ n10_ n11_ n12_ n13_ n14_ n15_ n16_ n17_ n18_ n19_ n20_;(try clear hb);have Z141_0:=cz_ BK465.out 0 (.int .i64 t454);have Z141_1:=cz_ BK465.out 1 (.int .i64 t455);have Z141_2:=cz_ BK465.out 2 (.slice Ao89 t456.length co89);have Z141_3:=cz_ BK465.out 3 (.slice Ao91 t459.length co91);have Z141_4:=cz_ BK465.out 4 (.int .i64 t462);have Z141_5:=cz_ BK465.out 5 (.int .i64 t463);have Y141_0:=bF_ BK465.out 0;have Y141_1:=bF_ BK465.out 1;have Y141_2:=bF_ BK465.out 2;have Y141_3:=bF_ BK465.out 3;have Y141_4:=bF_ BK465.out 4;have Y141_5:=bF_ BK465.out 5)|((with_reducible refine gC_ (f:=71) rfl ?_);refine goesL_ (some 103) rfl rfl Tryd.func71 (by kernel_rfl) rfl #[.agg #[.int .i64 t454,.int .i64 t455,.slice Ao89 t483.length co89,.slice Ao91 t484.length co91,.int .i64 t462,.int .i64 t463],.int .i64 1] rfl (by (try simp only [List.map_toArray,List.map_cons,List.map_nil]);first|done|(rw [show t483.length=t456.length from (Kd.R_reads' HO458.out).1.symm,show t484.length=t459.length from (Kd.R_reads' HO461.out).1.symm] <;> rfl)|rfl|(simp only [List.length_drop,List.length_take];rfl)) ?_;(with_reducible refine (laws_heldClient.calls k t454 t455 _ _ t483 _ _ t484 t462 t463 1 t514 _ ?side1 ?side2 ?side3 ?side4 A45.out).mono ?_);(case side1=>exact cx_ (Kd.R_reads' HO458.out).2.2);(case side2=>rw [show t483.length=t456.length from (Kd.R_reads' HO458.out).1.symm];exact (Kd.R_reads' HO458.out).2.1);(case side3=>exact cx_ (Kd.R_reads' HO461.out).2.2);(case side4=>rw [show t484.length=t459.length from (Kd.R_reads' HO461.out).1.symm];exact (Kd.R_reads' HO461.out).2.1);rintro e w142 ⟨rfl,hb⟩;refine ⟨_,rfl,?_⟩;replace HO415:=a_ (Kd.R_below (rp_ HO415.out) hb);replace HO418:=a_ (Kd.R_below (rp_ HO418.out) hb);replace HO430:=a_ (Kd.R_below (rp_ HO430.out) hb);replace HO433:=a_ (Kd.R_below (rp_ HO433.out) hb);replace HO442:=a_ (Kd.R_below (rp_ HO442.out) hb);replace HO445:=a_ (Kd.R_below (rp_ HO445.out) hb);replace HO458:=a_ (Kd.R_below (rp_ HO458.out) hb);replace HO461:=a_ (Kd.R_below (rp_ HO461.out) hb);replace HO471:=a_ (Kd.R_below (rp_ HO471.out) hb);replace HO474:=a_ (Kd.R_below (rp_ HO474.out) hb);replace HO490:=a_ (Kd.R_below (rp_ HO490.out) hb);replace HO493:=a_ (Kd.R_below (rp_ HO493.out) hb);replace HO505:=a_ (Kd.R_below (rp_ HO505.out) hb);replace HO508:=a_ (Kd.R_below (rp_ HO508.out) hb);replace HB:=a_ (bS_ (bel_) hb);replace BK407:=a_ (blk_below (g:=gb407) (o:=.cells #[.int .i64 a0_0,.int .i64 a0_1,.slice A0_2 l0_2.length c0_2,.slice A0_3 l0_3.length c0_3,.int .i64 a0_4,.int .i64 a0_5] 85 (0,0)) (bp_ BK407.out) hb);replace BK408:=a_ (blk_below (g:=gb408) (o:=.cells #[.int .i64 a1_0,.int .i64 a1_1,.int .i64 a1_2,.int .i64 a1_3,.string a1_4] 34 (0,0)) (bp_ BK408.out) hb);replace BK437:=a_ (blk_below (g:=gb437) (o:=.cells #[.int .i64 t426,.int .i64 t427,.slice Ao65 t428.length co65,.slice Ao67 t431.length co67,.int .i64 t434,.int .i64 t435] 77 (0,0)) (bp_ BK437.out) hb);replace BK448:=a_ (blk_below (g:=gb448) (o:=.cells #[.int .i64 t438,.int .i64 t439,.slice Ao79 t440.length co79,.slice Ao80 t443.length co80,.int .i64 t446,.int .i64 t447] 77 (0,0)) (bp_ BK448.out) hb);replace BK465:=a_ (blk_below (g:=gb465) (o:=.cells #[.int .i64 t454,.int .i64 t455,.slice Ao89 t456.length co89,.slice Ao91 t459.length co91,.int .i64 t462,.int .i64 t463] 77 (0,0)) (bp_ BK465.out) hb);replace BK512:=a_ (blk_below (g:=gb512) (o:=.cells #[.int .i64 t501,.int .i64 t502,.slice Ao127 t503.length co127,.slice Ao129 t506.length co129,.int .i64 t509,.int .i64 t510] 77 (0,0)) (bp_ BK512.out) hb);(try clear hb)))
              go_ret
              exact ⟨fi_,bel_⟩
             ·rw [if_neg c47] at H
              exact absurd H (by simp)
          ·replace c43:=Bool.eq_false_iff.mpr c43
           subst c43
           have H1:(none)=some r:=by rw [if_neg (show ¬ (false=true) by decide)] at H;exact H
           clear H
           have H:=H1
           clear H1
           exact absurd H (by simp)
         ·rw [if_neg c38] at H
          exact absurd H (by simp)
       ·replace c34:=Bool.eq_false_iff.mpr c34
        subst c34
        have H1:(none)=some r:=by rw [if_neg (show ¬ (false=true) by decide)] at H;exact H
        clear H
        have H:=H1
        clear H1
        exact absurd H (by simp)
     ·replace c30:=Bool.eq_false_iff.mpr c30
      subst c30
      have H1:(none)=some r:=by rw [if_neg (show ¬ (false=true) by decide)] at H;exact H
      clear H
      have H:=H1
      clear H1
      exact absurd H (by simp)
   ·replace c26:=Bool.eq_false_iff.mpr c26
    subst c26
    have H1:(none)=some r:=by rw [if_neg (show ¬ (false=true) by decide)] at H;exact H
    clear H
    have H:=H1
    clear H1
    exact absurd H (by simp)

end Go.Proofs.YtdpklbomhdpimaaDoor.P
