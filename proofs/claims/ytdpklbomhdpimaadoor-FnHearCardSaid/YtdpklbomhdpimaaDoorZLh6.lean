/- Joined by a program (wip/shake.py): the declarations that 'YtdpklbomhdpimaaDoorCardFnHear' reaches. -/
import Derived.Test.YtdpklbomhdpimaaDoorZLh5
set_option linter.unusedVariables false
set_option linter.unusedSimpArgs false
set_option linter.unusedSectionVars false
set_option maxHeartbeats 8000000
set_option maxRecDepth 100000
namespace Go.Proofs.YtdpklbomhdpimaaDoor.P
open Go.RowKit Go.Proofs.YtdpklbomhdpimaaDoorW.PrintWords Go.Proofs.YtdpklbomhdpimaaDoorW.PrintLast
theorem spec_ServerHear.calls (k:Nat) (A0_0:Option Addr) (c0_0:Nat) (l0_0:List (S44)) (a0_1:Int) (a0_2:Bool) (a1_0:Int) (a1_1:Int) (a1_2:Int) (a1_3:Int) (a1_4:Int) (a1_5:Int) (a1_6:ByteArray) (r1:List (S44)) (r2:Int) (r3:Bool) (r4:Bool) (w:World) (hr0_0:Kd.C k44 w A0_0 l0_0.length l0_0) (hc0_0:l0_0.length≤c0_0) (h:spec_ServerHear.f k l0_0 a0_1 a0_2 a1_0 a1_1 a1_2 a1_3 a1_4 a1_5 a1_6=some (r1,r2,r3,r4)) :
  Calls Tryd.prog 21 #[.agg #[.slice A0_0 l0_0.length c0_0,.int .i64 a0_1,.bool a0_2],.agg #[.int .i64 a1_0,.int .i64 a1_1,.int .i64 a1_2,.int .i64 a1_3,.int .i64 a1_4,.int .i64 a1_5,.string a1_6]] w fun e w'=>∃ v0_:Value,e=.returned (.tuple #[.agg #[v0_,.int .i64 r2,.bool r3],.bool r4])∧Kd.R k44 44 w' w.heap.size (fun _=>True) v0_ r1∧Below w.heap.size w w':=by
 have hu25:=Tryd.underlying25
 have hu44:=Tryd.underlying44
 have HR0_0:=a_ hr0_0
 have HC0_0:=a_ hc0_0
 clear hr0_0 hc0_0
 have HB:=a_ (Below.refl w.heap.size w)
 unfold spec_ServerHear.f at h
 have H:=h
 clear h
 have HC3:=a_ H
 clear H
 go_enter Tryd.func21,Tryd.ntmps21
 go_upto_region 1 with (first|((with_reducible refine gD_ (N:=2) rfl ?_);refine bx_ 2 (#[.slice A0_0 l0_0.length c0_0,.int .i64 a0_1,.bool a0_2]) 25 ?_;intro gb494 hg w4 hbox hb;have n0_:=a_ (bS_ (bel_) hb);have n1_:=a_ (hbox);have n2_:=a_ ((by rw [hg];exact (below_size (bel_)):w.heap.size≤gb494));have n3_:=a_ ((by rw [hg];exact (below_size (bel_)):w.heap.size≤gb494));clear HB;have HB:=n0_;have BK494:=n1_;have GW494:=n2_;have GE494:=n3_;clear n0_ n1_ n2_ n3_;clear hb hbox hg)|((with_reducible refine gD_ (N:=3) rfl ?_);refine bx_ 3 (#[.int .i64 a1_0,.int .i64 a1_1,.int .i64 a1_2,.int .i64 a1_3,.int .i64 a1_4,.int .i64 a1_5,.string a1_6]) 44 ?_;intro gb495 hg w5 hbox hb;have n0_:=a_ (bb_ BK494.out hb);have n1_:=a_ (bS_ (bel_) hb);have n2_:=a_ (hbox);have n3_:=a_ ((by rw [hg];exact (below_size (bel_)):w.heap.size≤gb495));have n4_:=a_ ((by rw [hg];exact (below_size (bel_)):w.heap.size≤gb495));have n5_:=a_ ((by rw [hg];exact Nat.ne_of_lt (blk_lt (g:=gb494) (o:=.cells #[.slice A0_0 l0_0.length c0_0,.int .i64 a0_1,.bool a0_2] 25 (0,0)) (bp_ BK494.out)):gb494≠gb495));have n6_:=a_ ((by rw [hg];exact Nat.ne_of_gt (blk_lt (g:=gb494) (o:=.cells #[.slice A0_0 l0_0.length c0_0,.int .i64 a0_1,.bool a0_2] 25 (0,0)) (bp_ BK494.out)):gb495≠gb494));clear BK494;clear HB;have BK494:=n0_;have HB:=n1_;have BK495:=n2_;have GW495:=n3_;have GE495:=n4_;have NB494_495:=n5_;have NB495_494:=n6_;clear n0_ n1_ n2_ n3_ n4_ n5_ n6_;clear hb hbox hg)|((with_reducible refine gD_ (N:=4) rfl ?_);refine bx_ 4 (#[.slice none 0 0,.int .i64 0,.bool false]) 25 ?_;intro gb496 hg w6 hbox hb;have n0_:=a_ (bb_ BK494.out hb);have n1_:=a_ (bb_ BK495.out hb);have n2_:=a_ (bS_ (bel_) hb);have n3_:=a_ (hbox);have n4_:=a_ ((by rw [hg];exact (below_size (bel_)):w.heap.size≤gb496));have n5_:=a_ ((by rw [hg];exact (below_size (bel_)):w.heap.size≤gb496));have n6_:=a_ ((by rw [hg];exact Nat.ne_of_lt (blk_lt (g:=gb494) (o:=.cells #[.slice A0_0 l0_0.length c0_0,.int .i64 a0_1,.bool a0_2] 25 (0,0)) (bp_ BK494.out)):gb494≠gb496));have n7_:=a_ ((by rw [hg];exact Nat.ne_of_gt (blk_lt (g:=gb494) (o:=.cells #[.slice A0_0 l0_0.length c0_0,.int .i64 a0_1,.bool a0_2] 25 (0,0)) (bp_ BK494.out)):gb496≠gb494));have n8_:=a_ ((by rw [hg];exact Nat.ne_of_lt (blk_lt (g:=gb495) (o:=.cells #[.int .i64 a1_0,.int .i64 a1_1,.int .i64 a1_2,.int .i64 a1_3,.int .i64 a1_4,.int .i64 a1_5,.string a1_6] 44 (0,0)) (bp_ BK495.out)):gb495≠gb496));have n9_:=a_ ((by rw [hg];exact Nat.ne_of_gt (blk_lt (g:=gb495) (o:=.cells #[.int .i64 a1_0,.int .i64 a1_1,.int .i64 a1_2,.int .i64 a1_3,.int .i64 a1_4,.int .i64 a1_5,.string a1_6] 44 (0,0)) (bp_ BK495.out)):gb496≠gb495));clear BK494;clear BK495;clear HB;have BK494:=n0_;have BK495:=n1_;have HB:=n2_;have BK496:=n3_;have GW496:=n4_;have GE496:=n5_;have NB494_496:=n6_;have NB496_494:=n7_;have NB495_496:=n8_;have NB496_495:=n9_;clear n0_ n1_ n2_ n3_ n4_ n5_ n6_ n7_ n8_ n9_;clear hb hbox hg))
 (try simp only [Act.put,List.setIfInBounds_toArray,List.set_cons_zero,List.set_cons_succ])
 go_cut [13] (fun v13 wc=>∃ (kq:Nat) (x13_2:Bool),v13=.bool x13_2∧Aside0 (spec_ServerHear.j0 kq x13_2 l0_0 a0_1 a0_2 a1_0 a1_1 a1_2 a1_3 a1_4 a1_5 a1_6=some (r1,r2,r3,r4))∧Aside0 (kq≤k)∧Aside0 (wc.heap[gb494]?=some (.cells #[(.slice A0_0 l0_0.length c0_0),.int .i64 a0_1,.bool a0_2] 25 (0,0)))∧Aside0 (wc.heap[gb495]?=some (.cells #[.int .i64 a1_0,.int .i64 a1_1,.int .i64 a1_2,.int .i64 a1_3,.int .i64 a1_4,.int .i64 a1_5,.string a1_6] 44 (0,0)))∧Aside0 (wc.heap[gb496]?=some (.cells #[(.slice none 0 0),.int .i64 0,.bool false] 25 (0,0)))∧Aside0 (Below w.heap.size w wc))
 case first =>
  have H:=HC3.out
  clear HC3
  replace H:=bs_ H
  obtain ⟨t497,A70,H⟩:=H
  try dsimp only at H
  have A7:=a_ A70
  clear A70
  by_cases c8:t497=true
  ·subst c8
   have H1:((spec_EntryOk.f k a1_0 a1_1 a1_2 a1_3 a1_4 a1_5 a1_6).bind fun t498=>(spec_ServerHear.j0 k (!t498) l0_0 a0_1 a0_2 a1_0 a1_1 a1_2 a1_3 a1_4 a1_5 a1_6))=some (r1,r2,r3,r4):=by rw [if_pos rfl] at H;exact H
   clear H
   have H:=H1
   clear H1
   replace H:=bs_ H
   obtain ⟨t498,A90,H⟩:=H
   try dsimp only at H
   have A9:=a_ A90
   clear A90
   have H':=a_ H
   clear H
   have hnb10:=NB494_495.out
   have hnc10:=NB495_494.out
   have hnb11:=NB494_496.out
   have hnc11:=NB496_494.out
   have Z12_0:=cz_ BK494.out 0 (.slice A0_0 l0_0.length c0_0)
   have Z12_1:=cz_ BK494.out 1 (.int .i64 a0_1)
   have Z12_2:=cz_ BK494.out 2 (.bool a0_2)
   have Y12_0:=bF_ BK494.out 0
   have Y12_1:=bF_ BK494.out 1
   have Y12_2:=bF_ BK494.out 2
   go_wp2_with (first|((with_reducible refine gC_ (f:=17) rfl ?_);refine gl_ 7 Tryd.func17 #[.agg #[.slice A0_0 l0_0.length c0_0,.int .i64 a0_1,.bool a0_2]] ?_;(with_reducible refine (spec_ServerOk.calls k _ _ l0_0 a0_1 a0_2 true _ ?side1 ?side2 A7.out).mono ?_);(case side1=>exact cp_ HR0_0.out);(case side2=>exact HC0_0.out);rintro e w13 ⟨rfl,hb⟩;refine ⟨_,rfl,?_⟩;replace HB:=a_ (bS_ (bel_) hb);replace BK494:=a_ (bb_ BK494.out hb);replace BK495:=a_ (bb_ BK495.out hb);replace BK496:=a_ (bb_ BK496.out hb);(try clear hb);have hnb14:=NB495_496.out;have hnc14:=NB496_495.out;have Z15_0:=cz_ BK495.out 0 (.int .i64 a1_0);have Z15_1:=cz_ BK495.out 1 (.int .i64 a1_1);have Z15_2:=cz_ BK495.out 2 (.int .i64 a1_2);have Z15_3:=cz_ BK495.out 3 (.int .i64 a1_3);have Z15_4:=cz_ BK495.out 4 (.int .i64 a1_4);have Z15_5:=cz_ BK495.out 5 (.int .i64 a1_5);have Z15_6:=cz_ BK495.out 6 (.string a1_6);have Y15_0:=bF_ BK495.out 0;have Y15_1:=bF_ BK495.out 1;have Y15_2:=bF_ BK495.out 2;have Y15_3:=bF_ BK495.out 3;have Y15_4:=bF_ BK495.out 4;have Y15_5:=bF_ BK495.out 5;have Y15_6:=bF_ BK495.out 6)|(go_at_call 30;(with_reducible refine (spec_EntryOk.calls k a1_0 a1_1 a1_2 a1_3 a1_4 a1_5 a1_6 t498 _ A9.out).mono ?_);rintro e w16 ⟨rfl,hb⟩;replace HB:=a_ (bS_ (bel_) hb);replace BK494:=a_ (bb_ BK494.out hb);replace BK495:=a_ (bb_ BK495.out hb);replace BK496:=a_ (bb_ BK496.out hb);(try clear hb)))
   go_meet
   case rel=>exact ⟨_,(!t498),(si_),H',⟨by first|omega|exact Nat.le_refl _⟩,⟨by (with_reducible repeat (first|refine bN_ ?_ _|refine bD_ ?_|refine bA_ ?_ _));exact BK494.out⟩,⟨by (with_reducible repeat (first|refine bN_ ?_ _|refine bD_ ?_|refine bA_ ?_ _));exact BK495.out⟩,⟨by (with_reducible repeat (first|refine bN_ ?_ _|refine bD_ ?_|refine bA_ ?_ _));exact BK496.out⟩,⟨bel_⟩⟩
  ·replace c8:=Bool.eq_false_iff.mpr c8
   subst c8
   have H1:(spec_ServerHear.j0 k true l0_0 a0_1 a0_2 a1_0 a1_1 a1_2 a1_3 a1_4 a1_5 a1_6)=some (r1,r2,r3,r4):=by rw [if_neg (show ¬ (false=true) by decide)] at H;exact H
   clear H
   have H:=H1
   clear H1
   have H':=a_ H
   clear H
   have hnb17:=NB494_495.out
   have hnc17:=NB495_494.out
   have hnb18:=NB494_496.out
   have hnc18:=NB496_494.out
   have Z19_0:=cz_ BK494.out 0 (.slice A0_0 l0_0.length c0_0)
   have Z19_1:=cz_ BK494.out 1 (.int .i64 a0_1)
   have Z19_2:=cz_ BK494.out 2 (.bool a0_2)
   have Y19_0:=bF_ BK494.out 0
   have Y19_1:=bF_ BK494.out 1
   have Y19_2:=bF_ BK494.out 2
   go_wp2_with (first|((with_reducible refine gC_ (f:=17) rfl ?_);refine gl_ 7 Tryd.func17 #[.agg #[.slice A0_0 l0_0.length c0_0,.int .i64 a0_1,.bool a0_2]] ?_;(with_reducible refine (spec_ServerOk.calls k _ _ l0_0 a0_1 a0_2 false _ ?side1 ?side2 A7.out).mono ?_);(case side1=>exact cp_ HR0_0.out);(case side2=>exact HC0_0.out);rintro e w20 ⟨rfl,hb⟩;refine ⟨_,rfl,?_⟩;replace HB:=a_ (bS_ (bel_) hb);replace BK494:=a_ (bb_ BK494.out hb);replace BK495:=a_ (bb_ BK495.out hb);replace BK496:=a_ (bb_ BK496.out hb);(try clear hb)))
   go_meet
   case rel=>exact ⟨_,(true),(si_),H',⟨by first|omega|exact Nat.le_refl _⟩,⟨by (with_reducible repeat (first|refine bN_ ?_ _|refine bD_ ?_|refine bA_ ?_ _));exact BK494.out⟩,⟨by (with_reducible repeat (first|refine bN_ ?_ _|refine bD_ ?_|refine bA_ ?_ _));exact BK495.out⟩,⟨by (with_reducible repeat (first|refine bN_ ?_ _|refine bD_ ?_|refine bA_ ?_ _));exact BK496.out⟩,⟨bel_⟩⟩
 case rest =>
  clear HC3
  try clear c1
  try clear c2
  try clear p2
  try clear c8
  try clear c10
  try clear c11
  try clear c14
  try clear c17
  try clear c18
  try clear Z12_0
  try clear Z12_1
  try clear Z12_2
  try clear Z15_0
  try clear Z15_1
  try clear Z15_2
  try clear Z15_3
  try clear Z15_4
  try clear Z15_5
  try clear Z15_6
  try clear Z19_0
  try clear Z19_1
  try clear Z19_2
  try clear Y12_0
  try clear Y12_1
  try clear Y12_2
  try clear Y15_0
  try clear Y15_1
  try clear Y15_2
  try clear Y15_3
  try clear Y15_4
  try clear Y15_5
  try clear Y15_6
  try clear Y19_0
  try clear Y19_1
  try clear Y19_2
  obtain ⟨kq,x13_2,rfl,HA,HJ2,BK494,BK495,BK496,HB⟩:=hcut
  cases kq with
  | zero=>exact absurd HA.out (by simp [spec_ServerHear.j0])
  | succ kj2 =>
   have H:=HA.out
   clear HA
   simp only [spec_ServerHear.j0] at H
   by_cases c21:x13_2=true
   ·subst c21
    have H1:(some (([]:List (S44)),0,false,false))=some (r1,r2,r3,r4):=by rw [if_pos rfl] at H;exact H
    clear H
    have H:=H1
    clear H1
    simp only [Option.some.injEq,Prod.mk.injEq] at H
    obtain ⟨rfl,rfl,rfl,rfl⟩:=H
    have hnb22:=NB496_494.out
    have hnc22:=NB494_496.out
    have hnb23:=NB496_495.out
    have hnc23:=NB495_496.out
    have Z24_0:wc.cell? ⟨gb496,0,none⟩=some (.slice none 0 0):=(bC_ BK496.out 0).trans rfl
    have Z24_1:wc.cell? ⟨gb496,1,none⟩=some (.int .i64 0):=(bC_ BK496.out 1).trans rfl
    have Z24_2:wc.cell? ⟨gb496,2,none⟩=some (.bool false):=(bC_ BK496.out 2).trans rfl
    have Y24_0:=bF_ BK496.out 0
    have Y24_1:=bF_ BK496.out 1
    have Y24_2:=bF_ BK496.out 2
    go_wp2
    refine bodyPost_ret (results_ct rfl _ _ gb496 25 #[.slice none 0 0,.int .i64 0,.bool false] (0,0) _ rfl (by (with_reducible repeat (first|refine bN_ ?_ _|refine bD_ ?_|refine bA_ ?_ _));refine blk_put (cs:=#[.slice none 0 0,.int .i64 0,.bool false]) ?_ 2 _ rfl;(with_reducible repeat (first|refine bN_ ?_ _|refine bD_ ?_|refine bA_ ?_ _));refine blk_put (cs:=#[.slice none 0 0,.int .i64 0,.bool false]) ?_ 1 _ rfl;(with_reducible repeat (first|refine bN_ ?_ _|refine bD_ ?_|refine bA_ ?_ _));refine blk_put (cs:=#[.slice none 0 0,.int .i64 0,.bool false]) ?_ 0 _ rfl;(with_reducible repeat (first|refine bN_ ?_ _|refine bD_ ?_|refine bA_ ?_ _));exact BK496.out) Tryd.underlying25 rfl (by kernel_rfl)) rfl ?_
    exact ⟨_,fi_,by first|exact Kd.R_nil _ _ _ _ _|exact Kd.N_nil _ _ _ _ _|exact Kd.V_nil _ _ _ _ _|exact Kd.Q_nil _ _ _ _ _|exact Kd.S_nil _ _ _ _ _,bel_⟩
   ·replace c21:=Bool.eq_false_iff.mpr c21
    subst c21
    have H1:((spec_l13Copy.f l0_0 a0_1 a0_2).bind fun bt499=>((spec_l13Hear.f kj2 bt499.1 bt499.2.1 bt499.2.2 a1_0 a1_1 a1_2 a1_3 a1_4 a1_5 a1_6).bind fun bt504=>(some (bt504.1,bt504.2.1,bt504.2.2.1,bt504.2.2.2))))=some (r1,r2,r3,r4):=by rw [if_neg (show ¬ (false=true) by decide)] at H;exact H
    clear H
    have H:=H1
    clear H1
    replace H:=bs_ H
    obtain ⟨⟨t499,t502,t503⟩,A250,H⟩:=H
    try dsimp only at H
    have A25:=a_ A250
    clear A250
    replace H:=bs_ H
    obtain ⟨⟨t504,t507,t508,t509⟩,A260,H⟩:=H
    try dsimp only at H
    have A26:=a_ A260
    clear A260
    simp only [Option.some.injEq,Prod.mk.injEq] at H
    obtain ⟨rfl,rfl,rfl,rfl⟩:=H
    try go_wp2
    have n0_:=a_ (bD_ BK494.out)
    have n1_:=a_ (bD_ BK495.out)
    have n2_:=a_ (bD_ BK496.out)
    have n3_:=a_ (below_drew1 HB.out)
    clear BK494
    clear BK495
    clear BK496
    clear HB
    have BK494:=n0_
    have BK495:=n1_
    have BK496:=n2_
    have HB:=n3_
    clear n0_ n1_ n2_ n3_
    refine start_ (n:=8) (S:=fun w'=>w'.cell? ⟨gb494,0,none⟩=some (.slice A0_0 l0_0.length c0_0)∧w'.cell? ⟨gb494,1,none⟩=some (.int .i64 a0_1)∧w'.cell? ⟨gb494,2,none⟩=some (.bool a0_2)∧w'.cell? ⟨gb495,0,none⟩=some (.int .i64 a1_0)∧w'.cell? ⟨gb495,1,none⟩=some (.int .i64 a1_1)∧w'.cell? ⟨gb495,2,none⟩=some (.int .i64 a1_2)∧w'.cell? ⟨gb495,3,none⟩=some (.int .i64 a1_3)∧w'.cell? ⟨gb495,4,none⟩=some (.int .i64 a1_4)∧w'.cell? ⟨gb495,5,none⟩=some (.int .i64 a1_5)∧w'.cell? ⟨gb495,6,none⟩=some (.string a1_6)) (ds:=[]) #[false,false,false,false,false,false,false,false] (by kernel_rfl) rfl rfl ⟨(bC_ BK494.out 0).trans rfl,(bC_ BK494.out 1).trans rfl,(bC_ BK494.out 2).trans rfl,(bC_ BK495.out 0).trans rfl,(bC_ BK495.out 1).trans rfl,(bC_ BK495.out 2).trans rfl,(bC_ BK495.out 3).trans rfl,(bC_ BK495.out 4).trans rfl,(bC_ BK495.out 5).trans rfl,(bC_ BK495.out 6).trans rfl⟩ (fun hHeld=>?_);refine with_tabW spec_ServerHear.tab3 spec_ServerHear.bits3 (fun HT_ HW_=>?_)
    generalize wc.drew=w27 at BK494 BK495 BK496 HB hHeld ⊢
    refine ta10_ 0 15 hHeld ?_
    refine ta10_ 2 17 hHeld ?_
    refine on_ 1 16 (fun K hK=>?_)
    refine goes_ Tryd.func77 (by kernel_rfl) rfl #[.agg #[.slice A0_0 l0_0.length c0_0,.int .i64 a0_1,.bool a0_2]] (by rfl) rfl rfl ar_ ?_
    with_reducible refine (spec_l13Copy.calls _ _ l0_0 a0_1 a0_2 t499 t502 t503 _ ?side1 ?side2 A25.out).mono ?_
    (case side1=>exact cp_ HR0_0.out)
    (case side2=>exact HC0_0.out)
    rintro e w28 ⟨v500,rfl,ho0,hb⟩
    refine ⟨_,rfl,?_⟩
    have n0_:=a_ (Kd.R_lower (Kd.R_newB ho0 (g:=gb495) (o:=.cells #[.int .i64 a1_0,.int .i64 a1_1,.int .i64 a1_2,.int .i64 a1_3,.int .i64 a1_4,.int .i64 a1_5,.string a1_6] 44 (0,0)) (bp_ BK495.out)) (below_size (bel_)))
    have n1_:=a_ (bb_ BK494.out hb)
    have n2_:=a_ (bb_ BK495.out hb)
    have n3_:=a_ (bb_ BK496.out hb)
    have n4_:=a_ (bS_ (bel_) hb)
    clear BK494
    clear BK495
    clear BK496
    clear HB
    have HO501:=n0_
    have BK494:=n1_
    have BK495:=n2_
    have BK496:=n3_
    have HB:=n4_
    clear n0_ n1_ n2_ n3_ n4_
    (try clear hb)
    (try clear hb2)
    (try clear hk)
    (try clear hi)
    (try clear ho0)
    obtain ⟨Ao29,co29,eo29⟩:=Kd.R_slice HO501.out
    (first|subst eo29|(injection eo29 with f1_ f2_ f3_;have f4_:=f1_.symm;have f5_:=f3_.symm;clear f1_ f2_ f3_;subst f4_;subst f5_))
    refine hK.out _ _ ⟨(bC_ BK494.out 0).trans rfl,(bC_ BK494.out 1).trans rfl,(bC_ BK494.out 2).trans rfl,(bC_ BK495.out 0).trans rfl,(bC_ BK495.out 1).trans rfl,(bC_ BK495.out 2).trans rfl,(bC_ BK495.out 3).trans rfl,(bC_ BK495.out 4).trans rfl,(bC_ BK495.out 5).trans rfl,(bC_ BK495.out 6).trans rfl⟩ (fun hHeld=>?_)
    clear hK K
    refine no_ 16 ?_
    refine on_ 3 18 (fun K hK=>?_)
    refine goes_ Tryd.func76 (by kernel_rfl) rfl #[.agg #[.slice Ao29 t499.length co29,.int .i64 t502,.bool t503],.agg #[.int .i64 a1_0,.int .i64 a1_1,.int .i64 a1_2,.int .i64 a1_3,.int .i64 a1_4,.int .i64 a1_5,.string a1_6]] (by rfl) rfl rfl ar_ ?_
    with_reducible refine (spec_l13Hear.calls kj2 _ _ t499 t502 t503 a1_0 a1_1 a1_2 a1_3 a1_4 a1_5 a1_6 t504 t507 t508 t509 _ ?side1 ?side2 A26.out).mono ?_
    (case side1=>exact cx_ (Kd.R_reads' HO501.out).2.2)
    (case side2=>exact (Kd.R_reads' HO501.out).2.1)
    rintro e w30 ⟨v505,rfl,ho0,hb⟩
    refine ⟨_,rfl,?_⟩
    have n0_:=a_ True.intro
    have n1_:=a_ (ho0.own (rp_ HO501.out) hb (below_size (bel_)))
    have n2_:=a_ (bb_ BK494.out hb)
    have n3_:=a_ (bb_ BK495.out hb)
    have n4_:=a_ (bb_ BK496.out hb)
    have n5_:=a_ (bS_ (bel_) hb)
    clear HO501
    clear BK494
    clear BK495
    clear BK496
    clear HB
    have HO501:=n0_
    have HO506:=n1_
    have BK494:=n2_
    have BK495:=n3_
    have BK496:=n4_
    have HB:=n5_
    clear n0_ n1_ n2_ n3_ n4_ n5_
    (try clear hb)
    (try clear hb2)
    (try clear hk)
    (try clear hi)
    (try clear ho0)
    obtain ⟨Ao31,co31,eo31⟩:=Kd.R_slice HO506.out
    (first|subst eo31|(injection eo31 with f1_ f2_ f3_;have f4_:=f1_.symm;have f5_:=f3_.symm;clear f1_ f2_ f3_;subst f4_;subst f5_))
    refine hK.out _ _ ⟨(bC_ BK494.out 0).trans rfl,(bC_ BK494.out 1).trans rfl,(bC_ BK494.out 2).trans rfl,(bC_ BK495.out 0).trans rfl,(bC_ BK495.out 1).trans rfl,(bC_ BK495.out 2).trans rfl,(bC_ BK495.out 3).trans rfl,(bC_ BK495.out 4).trans rfl,(bC_ BK495.out 5).trans rfl,(bC_ BK495.out 6).trans rfl⟩ (fun hHeld=>?_)
    clear hK K
    refine no_ 18 ?_
    refine pa_ 4 19 ?_
    refine pa_ 5 20 ?_
    refine one_ (i:=6) (N:=none) #[true,true,true,true,true,true,true,false] rfl rfl (one_of HT_.out (by kernel_rfl)) (by decide) (fun K hK=>?_)
    have hs32:w30.cell? ⟨gb496,0,none⟩=some (.slice none 0 0):=(bC_ BK496.out 0).trans rfl
    have hfs32:=bF_ BK496.out 0
    have hns32_0:=NB494_496.out
    have hns32_1:=NB495_496.out
    have hms32_0:=NB496_494.out
    have hms32_1:=NB496_495.out
    have hs33:w30.cell? ⟨gb496,1,none⟩=some (.int .i64 0):=(bC_ BK496.out 1).trans rfl
    have hfs33:=bF_ BK496.out 1
    have hns33_0:=NB494_496.out
    have hns33_1:=NB495_496.out
    have hms33_0:=NB496_494.out
    have hms33_1:=NB496_495.out
    have hs34:w30.cell? ⟨gb496,2,none⟩=some (.bool false):=(bC_ BK496.out 2).trans rfl
    have hfs34:=bF_ BK496.out 2
    have hns34_0:=NB494_496.out
    have hns34_1:=NB495_496.out
    have hms34_0:=NB496_494.out
    have hms34_1:=NB496_495.out
    refine skip_ (w1:=?_) (by rfl) rfl ?_ ?_
    rotate_left
    ·go_simp
     rfl
    refine hK.out _ _ ⟨((cF_ (p:=⟨gb496,_,none⟩) NB494_496.out _).trans (((cF_ (p:=⟨gb496,_,none⟩) NB494_496.out _).trans (((cF_ (p:=⟨gb496,_,none⟩) NB494_496.out _).trans (hHeld.1)))))),((cF_ (p:=⟨gb496,_,none⟩) NB494_496.out _).trans (((cF_ (p:=⟨gb496,_,none⟩) NB494_496.out _).trans (((cF_ (p:=⟨gb496,_,none⟩) NB494_496.out _).trans (hHeld.2.1)))))),((cF_ (p:=⟨gb496,_,none⟩) NB494_496.out _).trans (((cF_ (p:=⟨gb496,_,none⟩) NB494_496.out _).trans (((cF_ (p:=⟨gb496,_,none⟩) NB494_496.out _).trans (hHeld.2.2.1)))))),((cF_ (p:=⟨gb496,_,none⟩) NB495_496.out _).trans (((cF_ (p:=⟨gb496,_,none⟩) NB495_496.out _).trans (((cF_ (p:=⟨gb496,_,none⟩) NB495_496.out _).trans (hHeld.2.2.2.1)))))),((cF_ (p:=⟨gb496,_,none⟩) NB495_496.out _).trans (((cF_ (p:=⟨gb496,_,none⟩) NB495_496.out _).trans (((cF_ (p:=⟨gb496,_,none⟩) NB495_496.out _).trans (hHeld.2.2.2.2.1)))))),((cF_ (p:=⟨gb496,_,none⟩) NB495_496.out _).trans (((cF_ (p:=⟨gb496,_,none⟩) NB495_496.out _).trans (((cF_ (p:=⟨gb496,_,none⟩) NB495_496.out _).trans (hHeld.2.2.2.2.2.1)))))),((cF_ (p:=⟨gb496,_,none⟩) NB495_496.out _).trans (((cF_ (p:=⟨gb496,_,none⟩) NB495_496.out _).trans (((cF_ (p:=⟨gb496,_,none⟩) NB495_496.out _).trans (hHeld.2.2.2.2.2.2.1)))))),((cF_ (p:=⟨gb496,_,none⟩) NB495_496.out _).trans (((cF_ (p:=⟨gb496,_,none⟩) NB495_496.out _).trans (((cF_ (p:=⟨gb496,_,none⟩) NB495_496.out _).trans (hHeld.2.2.2.2.2.2.2.1)))))),((cF_ (p:=⟨gb496,_,none⟩) NB495_496.out _).trans (((cF_ (p:=⟨gb496,_,none⟩) NB495_496.out _).trans (((cF_ (p:=⟨gb496,_,none⟩) NB495_496.out _).trans (hHeld.2.2.2.2.2.2.2.2.1)))))),((cF_ (p:=⟨gb496,_,none⟩) NB495_496.out _).trans (((cF_ (p:=⟨gb496,_,none⟩) NB495_496.out _).trans (((cF_ (p:=⟨gb496,_,none⟩) NB495_496.out _).trans (hHeld.2.2.2.2.2.2.2.2.2))))))⟩ (fun hHeld=>?_)
    clear hK K
    refine pa_ 7 5 ?_
    refine done_ (done_of HT_.out (by kernel_rfl)) ?_
    try go_wp2
    refine bodyPost_ret (results_ct rfl _ _ gb496 25 #[.slice Ao31 t504.length co31,.int .i64 t507,.bool t508] (0,0) _ rfl (by (with_reducible repeat (first|refine bN_ ?_ _|refine bD_ ?_|refine bA_ ?_ _));refine blk_put (cs:=#[.slice Ao31 t504.length co31,.int .i64 t507,.bool false]) ?_ 2 _ rfl;(with_reducible repeat (first|refine bN_ ?_ _|refine bD_ ?_|refine bA_ ?_ _));refine blk_put (cs:=#[.slice Ao31 t504.length co31,.int .i64 0,.bool false]) ?_ 1 _ rfl;(with_reducible repeat (first|refine bN_ ?_ _|refine bD_ ?_|refine bA_ ?_ _));refine blk_put (cs:=#[.slice none 0 0,.int .i64 0,.bool false]) ?_ 0 _ rfl;(with_reducible repeat (first|refine bN_ ?_ _|refine bD_ ?_|refine bA_ ?_ _));exact BK496.out) Tryd.underlying25 rfl (by kernel_rfl)) rfl ?_
    exact ⟨_,fi_,by (with_reducible repeat (first|apply Kd.R_alloc|apply Kd.R_drewN|apply Kd.R_drew));exact Kd.R_mono (Kd.R_far (p:=⟨gb496,2,none⟩) (Kd.R_far (p:=⟨gb496,1,none⟩) (Kd.R_far (p:=⟨gb496,0,none⟩) (Kd.R_types HO506.out BK496.out (by decide)) (fun _ hk=>hk.2) (.slice Ao31 t504.length co31)) (fun _ hk=>hk.2) (.int .i64 t507)) (fun _ hk=>hk.2) (.bool t508)) (fun _ hk=>trivial),bel_⟩

mutual
def spec_DrawEntryOk.j0:Nat→Bool→List Int→Int→Int→Int→Int→Int→Int→Int→ByteArray→Option (Int×Int×Int×Int×Int×Int×ByteArray)
 | 0,_,_,_,_,_,_,_,_,_,_=>none
 | k+1,x24,x668000,x668001,x679000,x679001,x679002,x679003,x679004,x679005,x679006=>if x24=true then (spec_DrawEntryOk.j1 k x668000 x668001 (wrap64 (Int.tdiv x679003 10)) x679001 x679002 x679003 x679004 x679005 x679006) else (spec_DrawEntryOk.j1 k x668000 x668001 x679000 x679001 x679002 x679003 x679004 x679005 x679006)
def spec_DrawEntryOk.j1:Nat→List Int→Int→Int→Int→Int→Int→Int→Int→ByteArray→Option (Int×Int×Int×Int×Int×Int×ByteArray)
 | 0,_,_,_,_,_,_,_,_,_=>none
 | k+1,x668000,x668001,x679000,x679001,x679002,x679003,x679004,x679005,x679006=>(spec_l6Rd_pick.f k x668000 x668001 12).bind fun bt681=>(if bt681.1=0 then ((spec_l6Rd_pick.f k x668000 bt681.2 6).bind fun bt683=>(some (wrap64 (bt683.1 - 1),x679001,x679002,x679003,x679004,x679005,x679006))) else (if bt681.1=1 then ((some (([0,40,41]:List Int):List Int)).bind fun y685=>((spec_l6Rd_pick.f k x668000 bt681.2 3).bind fun bt688=>(if 0≤bt688.1 then (if bt688.1 < (y685.length:Int) then (some (x679000,rd y685 bt688.1,x679002,x679003,x679004,x679005,x679006)) else (none)) else (none)))) else (some (x679000,x679001,x679002,x679003,x679004,x679005,x679006))))
end
def spec_DrawEntryOk.f (k:Nat) (l0:List Int):Option (Int×Int×Int×Int×Int×Int×ByteArray):=(spec_l6Open.f l0).bind fun bt665=>((spec_l6Rd_pick.f k bt665.1 bt665.2 3).bind fun bt668=>((spec_l6Rd_pick.f k bt665.1 bt668.2 9).bind fun bt670=>((spec_l71Op.f k bt665.1 bt670.2).bind fun bt672=>(if bt672.1=1 then ((spec_l6Rd_pick.f k bt665.1 bt672.2.2.2.2.2 4).bind fun bt679=>(spec_DrawEntryOk.j0 k (decide (bt679.1 > 0)) bt665.1 bt679.2 (wrap64 (1+bt668.1)) (wrap64 (1+bt670.1)) bt672.1 bt672.2.1 bt672.2.2.1 bt672.2.2.2.1 bt672.2.2.2.2.1)) else (spec_DrawEntryOk.j0 k false bt665.1 bt672.2.2.2.2.2 (wrap64 (1+bt668.1)) (wrap64 (1+bt670.1)) bt672.1 bt672.2.1 bt672.2.2.1 bt672.2.2.2.1 bt672.2.2.2.2.1)))))
theorem spec_DrawEntryOk.mono_l:∀ k,(∀ y0 y1 y2 y3 y4 y5 y6 y7 y8 y9,LeO (spec_DrawEntryOk.j0 k y0 y1 y2 y3 y4 y5 y6 y7 y8 y9) (spec_DrawEntryOk.j0 (k+1) y0 y1 y2 y3 y4 y5 y6 y7 y8 y9))∧(∀ y0 y1 y2 y3 y4 y5 y6 y7 y8,LeO (spec_DrawEntryOk.j1 k y0 y1 y2 y3 y4 y5 y6 y7 y8) (spec_DrawEntryOk.j1 (k+1) y0 y1 y2 y3 y4 y5 y6 y7 y8))
 | 0=>⟨fun _ _ _ _ _ _ _ _ _ _ r h=>by simp [spec_DrawEntryOk.j0] at h,fun _ _ _ _ _ _ _ _ _ r h=>by simp [spec_DrawEntryOk.j1] at h⟩
 | k+1=>by
  obtain ⟨ih0,ih1⟩:=spec_DrawEntryOk.mono_l k
  refine ⟨?_,?_⟩
  all_goals intros
  all_goals first|unfold spec_DrawEntryOk.j0|unfold spec_DrawEntryOk.j1
  all_goals repeat' first
  | (with_reducible exact ih0 _ _ _ _ _ _ _ _ _ _)
  | (with_reducible exact ih1 _ _ _ _ _ _ _ _ _)
  | (with_reducible exact spec_l6Rd_pick.mono _ _ _ _)
  | (with_reducible exact spec_l71Op.mono _ _ _)
  | (with_reducible exact LeO.refl _)
  | (with_reducible exact LeO.none _)
  | (with_reducible refine LeO.ite ?_ ?_)
  | (with_reducible refine LeO.bind ?_ (fun _=>?_))
  | exact ih0 _ _ _ _ _ _ _ _ _ _
  | exact ih1 _ _ _ _ _ _ _ _ _
  | exact spec_l6Rd_pick.mono _ _ _ _
  | exact spec_l71Op.mono _ _ _
  | exact LeO.none _
  | refine LeO.ite ?_ ?_
  | refine LeO.bind ?_ (fun _=>?_)
theorem spec_DrawEntryOk.mono:∀ a0 k,LeO (spec_DrawEntryOk.f k a0) (spec_DrawEntryOk.f (k+1) a0):=by
 intro a0 k
 obtain ⟨ih0,ih1⟩:=spec_DrawEntryOk.mono_l k
 unfold spec_DrawEntryOk.f
 repeat' first
   | (with_reducible exact ih0 _ _ _ _ _ _ _ _ _ _)
   | (with_reducible exact ih1 _ _ _ _ _ _ _ _ _)
   | (with_reducible exact spec_l6Rd_pick.mono _ _ _ _)
   | (with_reducible exact spec_l71Op.mono _ _ _)
   | (with_reducible exact LeO.refl _)
   | (with_reducible exact LeO.none _)
   | (with_reducible refine LeO.ite ?_ ?_)
   | (with_reducible refine LeO.bind ?_ (fun _=>?_))
   | exact ih0 _ _ _ _ _ _ _ _ _ _
   | exact ih1 _ _ _ _ _ _ _ _ _
   | exact spec_l6Rd_pick.mono _ _ _ _
   | exact spec_l71Op.mono _ _ _
   | exact LeO.none _
   | refine LeO.ite ?_ ?_
   | refine LeO.bind ?_ (fun _=>?_)
theorem spec_DrawEntryOk.calls (k:Nat) (A0:Option Addr) (c0:Nat) (l0:List Int) (r1:Int) (r2:Int) (r3:Int) (r4:Int) (r5:Int) (r6:Int) (r7:ByteArray) (w:World) (hr0:Kd.C (Kd.int .u8) w A0 l0.length l0) (hc0:l0.length≤c0) (h:spec_DrawEntryOk.f k l0=some (r1,r2,r3,r4,r5,r6,r7)) :
  Calls Tryd.prog 89 #[.slice A0 l0.length c0] w fun e w'=>e=.returned (.agg #[.int .i64 r1,.int .i64 r2,.int .i64 r3,.int .i64 r4,.int .i64 r5,.int .i64 r6,.string r7])∧Below w.heap.size w w':=by
 have hu44:=Tryd.underlying44
 have HR0:=a_ hr0
 have HC0:=a_ hc0
 clear hr0 hc0
 have HB:=a_ (Below.refl w.heap.size w)
 unfold spec_DrawEntryOk.f at h
 have H:=h
 clear h
 replace H:=bs_ H
 obtain ⟨⟨t665,t666⟩,A20,H⟩:=H
 try dsimp only at H
 have A2:=a_ A20
 clear A20
 replace H:=bs_ H
 obtain ⟨⟨t668,t669⟩,A30,H⟩:=H
 try dsimp only at H
 have A3:=a_ A30
 clear A30
 replace H:=bs_ H
 obtain ⟨⟨t670,t671⟩,A40,H⟩:=H
 try dsimp only at H
 have A4:=a_ A40
 clear A40
 replace H:=bs_ H
 obtain ⟨⟨t672,t673,t674,t675,t676,t677⟩,A50,H⟩:=H
 try dsimp only at H
 have A5:=a_ A50
 clear A50
 have HC6:=a_ H
 clear H
 go_enter Tryd.func89,Tryd.ntmps89
 go_upto_region 3 with (first|((with_reducible refine gD_ (N:=2) rfl ?_);refine bx_ 2 (#[.int .i64 0,.int .i64 0,.int .i64 0,.int .i64 0,.int .i64 0,.int .i64 0,.string (⟨#[]⟩:ByteArray)]) 44 ?_;intro gb664 hg w7 hbox hb;have n0_:=a_ (bS_ (bel_) hb);have n1_:=a_ (hbox);have n2_:=a_ ((by rw [hg];exact (below_size (bel_)):w.heap.size≤gb664));have n3_:=a_ ((by rw [hg];exact (below_size (bel_)):w.heap.size≤gb664));clear HB;have HB:=n0_;have BK664:=n1_;have GW664:=n2_;have GE664:=n3_;clear n0_ n1_ n2_ n3_;clear hb hbox hg)|((with_reducible refine gC_ (f:=72) rfl ?_);refine gl_ 6 Tryd.func72 #[.slice A0 l0.length c0] ?_;(with_reducible refine (spec_l6Open.calls _ _ l0 t665 t666 w _ ?side1 ?side2 ?side3 A2.out).mono ?_);(case side1=>exact bel_);(case side2=>exact HR0.out);(case side3=>exact HC0.out);rintro e w8 ⟨g667,rfl,hi,hb,hb2⟩;refine ⟨_,rfl,?_⟩;replace HB:=a_ (hb);have HI667:=a_ (hi);have NB667_664:=a_ (IsS145.ne_blk hi (bb_ BK664.out hb2) (by decide));have NB664_667:=a_ (Ne.symm (IsS145.ne_blk hi (bb_ BK664.out hb2) (by decide)));replace BK664:=a_ (bb_ BK664.out hb2);(try clear hb hb2 hi))|((with_reducible refine gC_ (f:=74) rfl ?_);refine gl_ 8 Tryd.func74 #[.pointer (some ⟨g667,0,none⟩),.int .i64 3] ?_;(with_reducible refine (spec_l6Rd_pick.calls k g667 t665 t666 3 t668 t669 w _ ?side1 ?side2 A3.out).mono ?_);(case side1=>exact is_HI667);(case side2=>exact bel_);rintro e w9 ⟨rfl,hi,hb,hk⟩;refine ⟨_,rfl,?_⟩;replace BK664:=a_ (kb_ hk BK664.out NB664_667.out);replace HB:=a_ (hb);replace HI667:=a_ (hi);(try clear hb hk hi))|((with_reducible refine gC_ (f:=74) rfl ?_);refine gl_ 11 Tryd.func74 #[.pointer (some ⟨g667,0,none⟩),.int .i64 9] ?_;(with_reducible refine (spec_l6Rd_pick.calls k g667 t665 t669 9 t670 t671 w _ ?side1 ?side2 A4.out).mono ?_);(case side1=>exact is_HI667);(case side2=>exact bel_);rintro e w10 ⟨rfl,hi,hb,hk⟩;refine ⟨_,rfl,?_⟩;replace BK664:=a_ (kb_ hk BK664.out NB664_667.out);replace HB:=a_ (hb);replace HI667:=a_ (hi);(try clear hb hk hi))|((with_reducible refine gC_ (f:=96) rfl ?_);refine gl_ 14 Tryd.func96 #[.pointer (some ⟨g667,0,none⟩)] ?_;(with_reducible refine (spec_l71Op.calls k g667 t665 t671 t672 t673 t674 t675 t676 t677 w _ ?side1 ?side2 A5.out).mono ?_);(case side1=>exact is_HI667);(case side2=>exact bel_);rintro e w11 ⟨rfl,hi,hb,hk⟩;refine ⟨_,rfl,?_⟩;replace BK664:=a_ (kb_ hk BK664.out NB664_667.out);replace HB:=a_ (hb);replace HI667:=a_ (hi);(try clear hb hk hi))|((with_reducible refine gD_ (N:=4) rfl ?_);refine bx_ 4 (#[.int .i64 0,.int .i64 0,.int .i64 0,.int .i64 0,.int .i64 0,.int .i64 0,.string (⟨#[]⟩:ByteArray)]) 44 ?_;intro gb678 hg w12 hbox hb;have n0_:=a_ (bb_ BK664.out hb);have n1_:=a_ (IsS145.below (is_HI667) hb);have n2_:=a_ (bS_ (bel_) hb);have n3_:=a_ (hbox);have n4_:=a_ ((by rw [hg];exact (below_size (bel_)):w.heap.size≤gb678));have n5_:=a_ ((by rw [hg];exact (below_size (bel_)):w.heap.size≤gb678));have n6_:=a_ ((by rw [hg];exact Nat.ne_of_lt (blk_lt (g:=gb664) (o:=.cells #[.int .i64 0,.int .i64 0,.int .i64 0,.int .i64 0,.int .i64 0,.int .i64 0,.string (⟨#[]⟩:ByteArray)] 44 (0,0)) (bp_ BK664.out)):gb664≠gb678));have n7_:=a_ ((by rw [hg];exact Nat.ne_of_gt (blk_lt (g:=gb664) (o:=.cells #[.int .i64 0,.int .i64 0,.int .i64 0,.int .i64 0,.int .i64 0,.int .i64 0,.string (⟨#[]⟩:ByteArray)] 44 (0,0)) (bp_ BK664.out)):gb678≠gb664));have n8_:=a_ ((by rw [hg];exact Nat.ne_of_lt (IsS145.lt (show IsS145 w _ g667 t665 t677 from is_HI667)):g667≠gb678));have n9_:=a_ ((by rw [hg];exact Nat.ne_of_gt (IsS145.lt (show IsS145 w _ g667 t665 t677 from is_HI667)):gb678≠g667));clear BK664;clear HI667;clear HB;have BK664:=n0_;have HI667:=n1_;have HB:=n2_;have BK678:=n3_;have GW678:=n4_;have GE678:=n5_;have NB664_678:=n6_;have NB678_664:=n7_;have NB667_678:=n8_;have NB678_667:=n9_;clear n0_ n1_ n2_ n3_ n4_ n5_ n6_ n7_ n8_ n9_;clear hb hbox hg;have hnb13:=NB678_664.out;have hnc13:=NB664_678.out;have hnb14:=NB678_667.out;have hnc14:=NB667_678.out;have Z15_0:=cz_ BK678.out 0 (.int .i64 0);have Z15_1:=cz_ BK678.out 1 (.int .i64 0);have Z15_2:=cz_ BK678.out 2 (.int .i64 0);have Z15_3:=cz_ BK678.out 3 (.int .i64 0);have Z15_4:=cz_ BK678.out 4 (.int .i64 0);have Z15_5:=cz_ BK678.out 5 (.int .i64 0);have Z15_6:=cz_ BK678.out 6 (.string (⟨#[]⟩:ByteArray));have Y15_0:=bF_ BK678.out 0;have Y15_1:=bF_ BK678.out 1;have Y15_2:=bF_ BK678.out 2;have Y15_3:=bF_ BK678.out 3;have Y15_4:=bF_ BK678.out 4;have Y15_5:=bF_ BK678.out 5;have Y15_6:=bF_ BK678.out 6))
 (try simp only [Act.put,List.setIfInBounds_toArray,List.set_cons_zero,List.set_cons_succ])
 go_cut [24] (fun v24 wc=>∃ (kq:Nat) (x24_5:Bool) (x668001_5:Int),v24=.bool x24_5∧Aside0 (spec_DrawEntryOk.j0 kq x24_5 t665 x668001_5 (wrap64 (1+t668)) (wrap64 (1+t670)) t672 t673 t674 t675 t676=some (r1,r2,r3,r4,r5,r6,r7))∧Aside0 (kq≤k)∧Aside0 (wc.heap[gb664]?=some (.cells #[.int .i64 0,.int .i64 0,.int .i64 0,.int .i64 0,.int .i64 0,.int .i64 0,.string (⟨#[]⟩:ByteArray)] 44 (0,0)))∧Aside0 (wc.heap[gb678]?=some (.cells #[.int .i64 (wrap64 (1+t668)),.int .i64 (wrap64 (1+t670)),.int .i64 t672,.int .i64 t673,.int .i64 t674,.int .i64 t675,.string t676] 44 (0,0)))∧Aside0 (IsS145 w wc g667 t665 x668001_5)∧Aside0 (Below w.heap.size w wc))
 case first =>
  have H:=HC6.out
  clear HC6
  by_cases c16:t672=1
  ·rw [if_pos c16] at H
   have c16b0:(t672==1)=true:=beq_iff_eq.mpr c16
   have c16b1:(t672 != 1)=false:=be_ c16
   clear c16
   (first|rw [c16b0]|(simp only [i64_w,i32_w];rw [c16b0])|skip)
   replace H:=bs_ H
   obtain ⟨⟨t679,t680⟩,A170,H⟩:=H
   try dsimp only at H
   have A17:=a_ A170
   clear A170
   have H':=a_ H
   clear H
   have hnb18:=NB678_664.out
   have hnc18:=NB664_678.out
   have hnb19:=NB678_667.out
   have hnc19:=NB667_678.out
   have Z20_0:=cz_ BK678.out 0 (.int .i64 0)
   have Z20_1:=cz_ BK678.out 1 (.int .i64 0)
   have Z20_2:=cz_ BK678.out 2 (.int .i64 0)
   have Z20_3:=cz_ BK678.out 3 (.int .i64 0)
   have Z20_4:=cz_ BK678.out 4 (.int .i64 0)
   have Z20_5:=cz_ BK678.out 5 (.int .i64 0)
   have Z20_6:=cz_ BK678.out 6 (.string (⟨#[]⟩:ByteArray))
   have Y20_0:=bF_ BK678.out 0
   have Y20_1:=bF_ BK678.out 1
   have Y20_2:=bF_ BK678.out 2
   have Y20_3:=bF_ BK678.out 3
   have Y20_4:=bF_ BK678.out 4
   have Y20_5:=bF_ BK678.out 5
   have Y20_6:=bF_ BK678.out 6
   go_wp2_with (first|(go_at_call 74;(with_reducible refine (spec_l6Rd_pick.calls k g667 t665 t677 4 t679 t680 w _ ?side1 ?side2 A17.out).mono ?_);(case side1=>exact is_HI667);(case side2=>exact bel_);rintro e w21 ⟨rfl,hi,hb,hk⟩;have n0_:=a_ (KeepBut.blk hk (g':=gb664) (o:=.cells #[.int .i64 0,.int .i64 0,.int .i64 0,.int .i64 0,.int .i64 0,.int .i64 0,.string (⟨#[]⟩:ByteArray)] 44 (0,0)) (by (with_reducible repeat (first|refine bN_ ?_ _|refine bD_ ?_|refine bA_ ?_ _));refine blk_far ?_ NB664_678.out _;(with_reducible repeat (first|refine bN_ ?_ _|refine bD_ ?_|refine bA_ ?_ _));refine blk_far ?_ NB664_678.out _;(with_reducible repeat (first|refine bN_ ?_ _|refine bD_ ?_|refine bA_ ?_ _));refine blk_far ?_ NB664_678.out _;(with_reducible repeat (first|refine bN_ ?_ _|refine bD_ ?_|refine bA_ ?_ _));refine blk_far ?_ NB664_678.out _;(with_reducible repeat (first|refine bN_ ?_ _|refine bD_ ?_|refine bA_ ?_ _));refine blk_far ?_ NB664_678.out _;(with_reducible repeat (first|refine bN_ ?_ _|refine bD_ ?_|refine bA_ ?_ _));refine blk_far ?_ NB664_678.out _;(with_reducible repeat (first|refine bN_ ?_ _|refine bD_ ?_|refine bA_ ?_ _));refine blk_far ?_ NB664_678.out _;(with_reducible repeat (first|refine bN_ ?_ _|refine bD_ ?_|refine bA_ ?_ _));exact BK664.out) NB664_667.out (by simp));have n1_:=a_ (KeepBut.blk hk (g':=gb678) (o:=.cells #[.int .i64 (wrap64 (1+t668)),.int .i64 (wrap64 (1+t670)),.int .i64 t672,.int .i64 t673,.int .i64 t674,.int .i64 t675,.string t676] 44 (0,0)) (by (with_reducible repeat (first|refine bN_ ?_ _|refine bD_ ?_|refine bA_ ?_ _));refine blk_put (cs:=#[.int .i64 (wrap64 (1+t668)),.int .i64 (wrap64 (1+t670)),.int .i64 t672,.int .i64 t673,.int .i64 t674,.int .i64 t675,.string (⟨#[]⟩:ByteArray)]) ?_ 6 _ rfl;(with_reducible repeat (first|refine bN_ ?_ _|refine bD_ ?_|refine bA_ ?_ _));refine blk_put (cs:=#[.int .i64 (wrap64 (1+t668)),.int .i64 (wrap64 (1+t670)),.int .i64 t672,.int .i64 t673,.int .i64 t674,.int .i64 0,.string (⟨#[]⟩:ByteArray)]) ?_ 5 _ rfl;(with_reducible repeat (first|refine bN_ ?_ _|refine bD_ ?_|refine bA_ ?_ _));refine blk_put (cs:=#[.int .i64 (wrap64 (1+t668)),.int .i64 (wrap64 (1+t670)),.int .i64 t672,.int .i64 t673,.int .i64 0,.int .i64 0,.string (⟨#[]⟩:ByteArray)]) ?_ 4 _ rfl;(with_reducible repeat (first|refine bN_ ?_ _|refine bD_ ?_|refine bA_ ?_ _));refine blk_put (cs:=#[.int .i64 (wrap64 (1+t668)),.int .i64 (wrap64 (1+t670)),.int .i64 t672,.int .i64 0,.int .i64 0,.int .i64 0,.string (⟨#[]⟩:ByteArray)]) ?_ 3 _ rfl;(with_reducible repeat (first|refine bN_ ?_ _|refine bD_ ?_|refine bA_ ?_ _));refine blk_put (cs:=#[.int .i64 (wrap64 (1+t668)),.int .i64 (wrap64 (1+t670)),.int .i64 0,.int .i64 0,.int .i64 0,.int .i64 0,.string (⟨#[]⟩:ByteArray)]) ?_ 2 _ rfl;(with_reducible repeat (first|refine bN_ ?_ _|refine bD_ ?_|refine bA_ ?_ _));refine blk_put (cs:=#[.int .i64 (wrap64 (1+t668)),.int .i64 0,.int .i64 0,.int .i64 0,.int .i64 0,.int .i64 0,.string (⟨#[]⟩:ByteArray)]) ?_ 1 _ rfl;(with_reducible repeat (first|refine bN_ ?_ _|refine bD_ ?_|refine bA_ ?_ _));refine blk_put (cs:=#[.int .i64 0,.int .i64 0,.int .i64 0,.int .i64 0,.int .i64 0,.int .i64 0,.string (⟨#[]⟩:ByteArray)]) ?_ 0 _ rfl;(with_reducible repeat (first|refine bN_ ?_ _|refine bD_ ?_|refine bA_ ?_ _));exact BK678.out) NB678_667.out (by simp));have n2_:=a_ (hb);have n3_:=a_ (hi);clear BK664;clear BK678;clear HB;clear HI667;have BK664:=n0_;have BK678:=n1_;have HB:=n2_;have HI667:=n3_;clear n0_ n1_ n2_ n3_;(try clear hb hk hi)))
   go_meet
   case rel=>exact ⟨_,(decide (t679 > 0)),(t680),(si_),H',⟨by first|omega|exact Nat.le_refl _⟩,⟨by (with_reducible repeat (first|refine bN_ ?_ _|refine bD_ ?_|refine bA_ ?_ _));exact BK664.out⟩,⟨by (with_reducible repeat (first|refine bN_ ?_ _|refine bD_ ?_|refine bA_ ?_ _));exact BK678.out⟩,⟨is_HI667⟩,⟨bel_⟩⟩
  ·rw [if_neg c16] at H
   have c16b0:(t672==1)=false:=bn_ c16
   have c16b1:(t672 != 1)=true:=bne_iff_ne.mpr c16
   (first|rw [c16b0]|(simp only [i64_w,i32_w];rw [c16b0])|skip)
   have H':=a_ H
   clear H
   have hnb22:=NB678_664.out
   have hnc22:=NB664_678.out
   have hnb23:=NB678_667.out
   have hnc23:=NB667_678.out
   have Z24_0:=cz_ BK678.out 0 (.int .i64 0)
   have Z24_1:=cz_ BK678.out 1 (.int .i64 0)
   have Z24_2:=cz_ BK678.out 2 (.int .i64 0)
   have Z24_3:=cz_ BK678.out 3 (.int .i64 0)
   have Z24_4:=cz_ BK678.out 4 (.int .i64 0)
   have Z24_5:=cz_ BK678.out 5 (.int .i64 0)
   have Z24_6:=cz_ BK678.out 6 (.string (⟨#[]⟩:ByteArray))
   have Y24_0:=bF_ BK678.out 0
   have Y24_1:=bF_ BK678.out 1
   have Y24_2:=bF_ BK678.out 2
   have Y24_3:=bF_ BK678.out 3
   have Y24_4:=bF_ BK678.out 4
   have Y24_5:=bF_ BK678.out 5
   have Y24_6:=bF_ BK678.out 6
   go_wp2
   go_meet
   case rel=>exact ⟨_,(false),(t677),(si_),H',⟨by first|omega|exact Nat.le_refl _⟩,⟨by (with_reducible repeat (first|refine bN_ ?_ _|refine bD_ ?_|refine bA_ ?_ _));refine blk_far ?_ NB664_678.out _;(with_reducible repeat (first|refine bN_ ?_ _|refine bD_ ?_|refine bA_ ?_ _));refine blk_far ?_ NB664_678.out _;(with_reducible repeat (first|refine bN_ ?_ _|refine bD_ ?_|refine bA_ ?_ _));refine blk_far ?_ NB664_678.out _;(with_reducible repeat (first|refine bN_ ?_ _|refine bD_ ?_|refine bA_ ?_ _));refine blk_far ?_ NB664_678.out _;(with_reducible repeat (first|refine bN_ ?_ _|refine bD_ ?_|refine bA_ ?_ _));refine blk_far ?_ NB664_678.out _;(with_reducible repeat (first|refine bN_ ?_ _|refine bD_ ?_|refine bA_ ?_ _));refine blk_far ?_ NB664_678.out _;(with_reducible repeat (first|refine bN_ ?_ _|refine bD_ ?_|refine bA_ ?_ _));refine blk_far ?_ NB664_678.out _;(with_reducible repeat (first|refine bN_ ?_ _|refine bD_ ?_|refine bA_ ?_ _));exact BK664.out⟩,⟨by (with_reducible repeat (first|refine bN_ ?_ _|refine bD_ ?_|refine bA_ ?_ _));refine blk_put (cs:=#[.int .i64 (wrap64 (1+t668)),.int .i64 (wrap64 (1+t670)),.int .i64 t672,.int .i64 t673,.int .i64 t674,.int .i64 t675,.string (⟨#[]⟩:ByteArray)]) ?_ 6 _ rfl;(with_reducible repeat (first|refine bN_ ?_ _|refine bD_ ?_|refine bA_ ?_ _));refine blk_put (cs:=#[.int .i64 (wrap64 (1+t668)),.int .i64 (wrap64 (1+t670)),.int .i64 t672,.int .i64 t673,.int .i64 t674,.int .i64 0,.string (⟨#[]⟩:ByteArray)]) ?_ 5 _ rfl;(with_reducible repeat (first|refine bN_ ?_ _|refine bD_ ?_|refine bA_ ?_ _));refine blk_put (cs:=#[.int .i64 (wrap64 (1+t668)),.int .i64 (wrap64 (1+t670)),.int .i64 t672,.int .i64 t673,.int .i64 0,.int .i64 0,.string (⟨#[]⟩:ByteArray)]) ?_ 4 _ rfl;(with_reducible repeat (first|refine bN_ ?_ _|refine bD_ ?_|refine bA_ ?_ _));refine blk_put (cs:=#[.int .i64 (wrap64 (1+t668)),.int .i64 (wrap64 (1+t670)),.int .i64 t672,.int .i64 0,.int .i64 0,.int .i64 0,.string (⟨#[]⟩:ByteArray)]) ?_ 3 _ rfl;(with_reducible repeat (first|refine bN_ ?_ _|refine bD_ ?_|refine bA_ ?_ _));refine blk_put (cs:=#[.int .i64 (wrap64 (1+t668)),.int .i64 (wrap64 (1+t670)),.int .i64 0,.int .i64 0,.int .i64 0,.int .i64 0,.string (⟨#[]⟩:ByteArray)]) ?_ 2 _ rfl;(with_reducible repeat (first|refine bN_ ?_ _|refine bD_ ?_|refine bA_ ?_ _));refine blk_put (cs:=#[.int .i64 (wrap64 (1+t668)),.int .i64 0,.int .i64 0,.int .i64 0,.int .i64 0,.int .i64 0,.string (⟨#[]⟩:ByteArray)]) ?_ 1 _ rfl;(with_reducible repeat (first|refine bN_ ?_ _|refine bD_ ?_|refine bA_ ?_ _));refine blk_put (cs:=#[.int .i64 0,.int .i64 0,.int .i64 0,.int .i64 0,.int .i64 0,.int .i64 0,.string (⟨#[]⟩:ByteArray)]) ?_ 0 _ rfl;(with_reducible repeat (first|refine bN_ ?_ _|refine bD_ ?_|refine bA_ ?_ _));exact BK678.out⟩,⟨is_HI667⟩,⟨bel_⟩⟩
 case rest =>
  clear HC6
  try clear c1
  try clear c2
  try clear p2
  try clear p6
  try clear c7
  try clear c8
  try clear c9
  try clear c13
  try clear c14
  try clear c16
  try clear c16b0
  try clear c16b1
  try clear c18
  try clear c19
  try clear c22
  try clear c23
  try clear Z15_0
  try clear Z15_1
  try clear Z15_2
  try clear Z15_3
  try clear Z15_4
  try clear Z15_5
  try clear Z15_6
  try clear Z20_0
  try clear Z20_1
  try clear Z20_2
  try clear Z20_3
  try clear Z20_4
  try clear Z20_5
  try clear Z20_6
  try clear Z24_0
  try clear Z24_1
  try clear Z24_2
  try clear Z24_3
  try clear Z24_4
  try clear Z24_5
  try clear Z24_6
  try clear Y15_0
  try clear Y15_1
  try clear Y15_2
  try clear Y15_3
  try clear Y15_4
  try clear Y15_5
  try clear Y15_6
  try clear Y20_0
  try clear Y20_1
  try clear Y20_2
  try clear Y20_3
  try clear Y20_4
  try clear Y20_5
  try clear Y20_6
  try clear Y24_0
  try clear Y24_1
  try clear Y24_2
  try clear Y24_3
  try clear Y24_4
  try clear Y24_5
  try clear Y24_6
  obtain ⟨kq,x24_5,x668001_5,rfl,HA,HJ5,BK664,BK678,HI667,HB⟩:=hcut
  cases kq with
  | zero=>exact absurd HA.out (by simp [spec_DrawEntryOk.j0])
  | succ kj5 =>
   have H:=HA.out
   clear HA
   simp only [spec_DrawEntryOk.j0] at H
   have HC25:=a_ H
   clear H
   go_upto_if 24 with (fail)
   go_cut [] (fun wc=>∃ (kq:Nat) (x679000_24:Int),Aside0 (spec_DrawEntryOk.j1 kq t665 x668001_5 x679000_24 (wrap64 (1+t670)) t672 t673 t674 t675 t676=some (r1,r2,r3,r4,r5,r6,r7))∧Aside0 (kq≤kj5)∧Aside0 (wc.heap[gb664]?=some (.cells #[.int .i64 0,.int .i64 0,.int .i64 0,.int .i64 0,.int .i64 0,.int .i64 0,.string (⟨#[]⟩:ByteArray)] 44 (0,0)))∧Aside0 (wc.heap[gb678]?=some (.cells #[.int .i64 x679000_24,.int .i64 (wrap64 (1+t670)),.int .i64 t672,.int .i64 t673,.int .i64 t674,.int .i64 t675,.string t676] 44 (0,0)))∧Aside0 (IsS145 w wc g667 t665 x668001_5)∧Aside0 (Below w.heap.size w wc))
   case first =>
    have H:=HC25.out
    clear HC25
    by_cases c26:x24_5=true
    ·subst c26
     have H1:(spec_DrawEntryOk.j1 kj5 t665 x668001_5 (wrap64 (Int.tdiv t673 10)) (wrap64 (1+t670)) t672 t673 t674 t675 t676)=some (r1,r2,r3,r4,r5,r6,r7):=by rw [if_pos rfl] at H;exact H
     clear H
     have H:=H1
     clear H1
     have H':=a_ H
     clear H
     have hnb27:=NB678_664.out
     have hnc27:=NB664_678.out
     have hnb28:=NB678_667.out
     have hnc28:=NB667_678.out
     have Z29_0:wc.cell? ⟨gb678,0,none⟩=some (.int .i64 (wrap64 (1+t668))):=(bC_ BK678.out 0).trans rfl
     have Z29_1:wc.cell? ⟨gb678,1,none⟩=some (.int .i64 (wrap64 (1+t670))):=(bC_ BK678.out 1).trans rfl
     have Z29_2:wc.cell? ⟨gb678,2,none⟩=some (.int .i64 t672):=(bC_ BK678.out 2).trans rfl
     have Z29_3:wc.cell? ⟨gb678,3,none⟩=some (.int .i64 t673):=(bC_ BK678.out 3).trans rfl
     have Z29_4:wc.cell? ⟨gb678,4,none⟩=some (.int .i64 t674):=(bC_ BK678.out 4).trans rfl
     have Z29_5:wc.cell? ⟨gb678,5,none⟩=some (.int .i64 t675):=(bC_ BK678.out 5).trans rfl
     have Z29_6:wc.cell? ⟨gb678,6,none⟩=some (.string t676):=(bC_ BK678.out 6).trans rfl
     have Y29_0:=bF_ BK678.out 0
     have Y29_1:=bF_ BK678.out 1
     have Y29_2:=bF_ BK678.out 2
     have Y29_3:=bF_ BK678.out 3
     have Y29_4:=bF_ BK678.out 4
     have Y29_5:=bF_ BK678.out 5
     have Y29_6:=bF_ BK678.out 6
     go_wp2
     go_meet
     case rel=>exact ⟨_,(wrap64 (Int.tdiv t673 10)),H',⟨by have:=HJ5.out;first|omega|exact Nat.le_refl _⟩,⟨by (with_reducible repeat (first|refine bN_ ?_ _|refine bD_ ?_|refine bA_ ?_ _));refine blk_far ?_ NB664_678.out _;(with_reducible repeat (first|refine bN_ ?_ _|refine bD_ ?_|refine bA_ ?_ _));exact BK664.out⟩,⟨by (with_reducible repeat (first|refine bN_ ?_ _|refine bD_ ?_|refine bA_ ?_ _));refine blk_put (cs:=#[.int .i64 (wrap64 (1+t668)),.int .i64 (wrap64 (1+t670)),.int .i64 t672,.int .i64 t673,.int .i64 t674,.int .i64 t675,.string t676]) ?_ 0 _ rfl;(with_reducible repeat (first|refine bN_ ?_ _|refine bD_ ?_|refine bA_ ?_ _));exact BK678.out⟩,⟨is_HI667⟩,⟨bel_⟩⟩
    ·replace c26:=Bool.eq_false_iff.mpr c26
     subst c26
     have H1:(spec_DrawEntryOk.j1 kj5 t665 x668001_5 (wrap64 (1+t668)) (wrap64 (1+t670)) t672 t673 t674 t675 t676)=some (r1,r2,r3,r4,r5,r6,r7):=by rw [if_neg (show ¬ (false=true) by decide)] at H;exact H
     clear H
     have H:=H1
     clear H1
     have H':=a_ H
     clear H
     go_wp2
     go_meet
     case rel=>exact ⟨_,((wrap64 (1+t668))),H',⟨by have:=HJ5.out;first|omega|exact Nat.le_refl _⟩,⟨by (with_reducible repeat (first|refine bN_ ?_ _|refine bD_ ?_|refine bA_ ?_ _));exact BK664.out⟩,⟨by (with_reducible repeat (first|refine bN_ ?_ _|refine bD_ ?_|refine bA_ ?_ _));exact BK678.out⟩,⟨is_HI667⟩,⟨bel_⟩⟩
   case rest =>
    clear HC25
    try clear c1
    try clear c2
    try clear p2
    try clear p6
    try clear c7
    try clear c8
    try clear c9
    try clear c13
    try clear c14
    try clear c16
    try clear c16b0
    try clear c16b1
    try clear c18
    try clear c19
    try clear c22
    try clear c23
    try clear c26
    try clear c27
    try clear c28
    try clear Z15_0
    try clear Z15_1
    try clear Z15_2
    try clear Z15_3
    try clear Z15_4
    try clear Z15_5
    try clear Z15_6
    try clear Z20_0
    try clear Z20_1
    try clear Z20_2
    try clear Z20_3
    try clear Z20_4
    try clear Z20_5
    try clear Z20_6
    try clear Z24_0
    try clear Z24_1
    try clear Z24_2
    try clear Z24_3
    try clear Z24_4
    try clear Z24_5
    try clear Z24_6
    try clear Z29_0
    try clear Z29_1
    try clear Z29_2
    try clear Z29_3
    try clear Z29_4
    try clear Z29_5
    try clear Z29_6
    try clear Y15_0
    try clear Y15_1
    try clear Y15_2
    try clear Y15_3
    try clear Y15_4
    try clear Y15_5
    try clear Y15_6
    try clear Y20_0
    try clear Y20_1
    try clear Y20_2
    try clear Y20_3
    try clear Y20_4
    try clear Y20_5
    try clear Y20_6
    try clear Y24_0
    try clear Y24_1
    try clear Y24_2
    try clear Y24_3
    try clear Y24_4
    try clear Y24_5
    try clear Y24_6
    try clear Y29_0
    try clear Y29_1
    try clear Y29_2
    try clear Y29_3
    try clear Y29_4
    try clear Y29_5
    try clear Y29_6
    try clear p2
    try clear p6
    obtain ⟨kq,x679000_24,HA,HJ24,BK664,BK678,HI667,HB⟩:=hcut
    cases kq with
    | zero=>exact absurd HA.out (by simp [spec_DrawEntryOk.j1])
    | succ kj24 =>
     have H:=HA.out
     clear HA
     simp only [spec_DrawEntryOk.j1] at H
     replace H:=bs_ H
     obtain ⟨⟨t681,t682⟩,A300,H⟩:=H
     try dsimp only at H
     have A30:=a_ A300
     clear A300
     by_cases c31:t681=0
     ·rw [if_pos c31] at H
      have c31b0:(t681==0)=true:=beq_iff_eq.mpr c31
      have c31b1:(t681 != 0)=false:=be_ c31
      clear c31
      replace H:=bs_ H
      obtain ⟨⟨t683,t684⟩,A320,H⟩:=H
      try dsimp only at H
      have A32:=a_ A320
      clear A320
      simp only [Option.some.injEq,Prod.mk.injEq] at H
      obtain ⟨rfl,rfl,rfl,rfl,rfl,rfl,rfl⟩:=H
      go_wp2_with (first|((with_reducible refine gC_ (f:=74) rfl ?_);refine gl_ 31 Tryd.func74 #[.pointer (some ⟨g667,0,none⟩),.int .i64 12] ?_;(with_reducible refine (spec_l6Rd_pick.calls kj24 g667 t665 x668001_5 12 t681 t682 w _ ?side1 ?side2 A30.out).mono ?_);(case side1=>exact is_HI667);(case side2=>exact bel_);rintro e w33 ⟨rfl,hi,hb,hk⟩;refine ⟨_,rfl,?_⟩;replace BK664:=a_ (kb_ hk BK664.out NB664_667.out);replace BK678:=a_ (kb_ hk BK678.out NB678_667.out);replace HB:=a_ (hb);replace HI667:=a_ (hi);(try clear hb hk hi))|((with_reducible refine gC_ (f:=74) rfl ?_);refine gl_ 35 Tryd.func74 #[.pointer (some ⟨g667,0,none⟩),.int .i64 6] ?_;(with_reducible refine (spec_l6Rd_pick.calls kj24 g667 t665 t682 6 t683 t684 w _ ?side1 ?side2 A32.out).mono ?_);(case side1=>exact is_HI667);(case side2=>exact bel_);rintro e w34 ⟨rfl,hi,hb,hk⟩;refine ⟨_,rfl,?_⟩;replace BK664:=a_ (kb_ hk BK664.out NB664_667.out);replace BK678:=a_ (kb_ hk BK678.out NB678_667.out);replace HB:=a_ (hb);replace HI667:=a_ (hi);(try clear hb hk hi);have hnb35:=NB678_664.out;have hnc35:=NB664_678.out;have hnb36:=NB678_667.out;have hnc36:=NB667_678.out;have Z37_0:=cz_ BK678.out 0 (.int .i64 x679000_24);have Z37_1:=cz_ BK678.out 1 (.int .i64 (wrap64 (1+t670)));have Z37_2:=cz_ BK678.out 2 (.int .i64 t672);have Z37_3:=cz_ BK678.out 3 (.int .i64 t673);have Z37_4:=cz_ BK678.out 4 (.int .i64 t674);have Z37_5:=cz_ BK678.out 5 (.int .i64 t675);have Z37_6:=cz_ BK678.out 6 (.string t676);have Y37_0:=bF_ BK678.out 0;have Y37_1:=bF_ BK678.out 1;have Y37_2:=bF_ BK678.out 2;have Y37_3:=bF_ BK678.out 3;have Y37_4:=bF_ BK678.out 4;have Y37_5:=bF_ BK678.out 5;have Y37_6:=bF_ BK678.out 6;have hnb38:=NB664_667.out;have hnc38:=NB667_664.out;have Z39_0:=cz_ BK664.out 0 (.int .i64 0);have Z39_1:=cz_ BK664.out 1 (.int .i64 0);have Z39_2:=cz_ BK664.out 2 (.int .i64 0);have Z39_3:=cz_ BK664.out 3 (.int .i64 0);have Z39_4:=cz_ BK664.out 4 (.int .i64 0);have Z39_5:=cz_ BK664.out 5 (.int .i64 0);have Z39_6:=cz_ BK664.out 6 (.string (⟨#[]⟩:ByteArray));have Y39_0:=bF_ BK664.out 0;have Y39_1:=bF_ BK664.out 1;have Y39_2:=bF_ BK664.out 2;have Y39_3:=bF_ BK664.out 3;have Y39_4:=bF_ BK664.out 4;have Y39_5:=bF_ BK664.out 5;have Y39_6:=bF_ BK664.out 6))
      refine bodyPost_ret (results_cell_row rfl _ _ gb664 44 #[.int .i64 (wrap64 (t683 - 1)),.int .i64 (wrap64 (1+t670)),.int .i64 t672,.int .i64 t673,.int .i64 t674,.int .i64 t675,.string t676] (0,0) _ rfl (by (with_reducible repeat (first|refine bN_ ?_ _|refine bD_ ?_|refine bA_ ?_ _));refine blk_put (cs:=#[.int .i64 (wrap64 (t683 - 1)),.int .i64 (wrap64 (1+t670)),.int .i64 t672,.int .i64 t673,.int .i64 t674,.int .i64 t675,.string (⟨#[]⟩:ByteArray)]) ?_ 6 _ rfl;(with_reducible repeat (first|refine bN_ ?_ _|refine bD_ ?_|refine bA_ ?_ _));refine blk_put (cs:=#[.int .i64 (wrap64 (t683 - 1)),.int .i64 (wrap64 (1+t670)),.int .i64 t672,.int .i64 t673,.int .i64 t674,.int .i64 0,.string (⟨#[]⟩:ByteArray)]) ?_ 5 _ rfl;(with_reducible repeat (first|refine bN_ ?_ _|refine bD_ ?_|refine bA_ ?_ _));refine blk_put (cs:=#[.int .i64 (wrap64 (t683 - 1)),.int .i64 (wrap64 (1+t670)),.int .i64 t672,.int .i64 t673,.int .i64 0,.int .i64 0,.string (⟨#[]⟩:ByteArray)]) ?_ 4 _ rfl;(with_reducible repeat (first|refine bN_ ?_ _|refine bD_ ?_|refine bA_ ?_ _));refine blk_put (cs:=#[.int .i64 (wrap64 (t683 - 1)),.int .i64 (wrap64 (1+t670)),.int .i64 t672,.int .i64 0,.int .i64 0,.int .i64 0,.string (⟨#[]⟩:ByteArray)]) ?_ 3 _ rfl;(with_reducible repeat (first|refine bN_ ?_ _|refine bD_ ?_|refine bA_ ?_ _));refine blk_put (cs:=#[.int .i64 (wrap64 (t683 - 1)),.int .i64 (wrap64 (1+t670)),.int .i64 0,.int .i64 0,.int .i64 0,.int .i64 0,.string (⟨#[]⟩:ByteArray)]) ?_ 2 _ rfl;(with_reducible repeat (first|refine bN_ ?_ _|refine bD_ ?_|refine bA_ ?_ _));refine blk_put (cs:=#[.int .i64 (wrap64 (t683 - 1)),.int .i64 0,.int .i64 0,.int .i64 0,.int .i64 0,.int .i64 0,.string (⟨#[]⟩:ByteArray)]) ?_ 1 _ rfl;(with_reducible repeat (first|refine bN_ ?_ _|refine bD_ ?_|refine bA_ ?_ _));refine blk_put (cs:=#[.int .i64 0,.int .i64 0,.int .i64 0,.int .i64 0,.int .i64 0,.int .i64 0,.string (⟨#[]⟩:ByteArray)]) ?_ 0 _ rfl;(with_reducible repeat (first|refine bN_ ?_ _|refine bD_ ?_|refine bA_ ?_ _));refine blk_far ?_ NB664_678.out _;(with_reducible repeat (first|refine bN_ ?_ _|refine bD_ ?_|refine bA_ ?_ _));exact BK664.out) Tryd.underlying44 rfl (by kernel_rfl)) rfl ?_
      exact ⟨fi_,bel_⟩
     ·rw [if_neg c31] at H
      have c31b0:(t681==0)=false:=bn_ c31
      have c31b1:(t681 != 0)=true:=bne_iff_ne.mpr c31
      by_cases c40:t681=1
      ·rw [if_pos c40] at H
       have c40b0:(t681==1)=true:=beq_iff_eq.mpr c40
       have c40b1:(t681 != 1)=false:=be_ c40
       clear c40
       obtain ⟨y685,hy685⟩:∃ y_:List Int,y_=(([0,40,41]:List Int)):=⟨_,rfl⟩
       replace H:((spec_l6Rd_pick.f kj24 t665 t682 3).bind fun bt688=>(if 0≤bt688.1 then (if bt688.1 < (y685.length:Int) then (some (x679000_24,rd y685 bt688.1,t672,t673,t674,t675,t676)) else (none)) else (none)))=some (r1,r2,r3,r4,r5,r6,r7):=by first|(rw [hy685];with_reducible exact H)|(have H2_:=(Option.bind_some _ _).symm.trans H;rw [hy685];with_reducible exact H2_)|(have H2_:=(Option.bind_some _ _).symm.trans H;with_reducible exact H2_)|with_reducible exact H|(rw [hy685];exact H)|exact H
       have Ny685:=a_ hy685
       clear hy685
       replace H:=bs_ H
       obtain ⟨⟨t688,t689⟩,A410,H⟩:=H
       try dsimp only at H
       have A41:=a_ A410
       clear A410
       by_cases c42:0≤t688
       ·rw [if_pos c42] at H
        have c42b0:decide (0≤t688)=true:=dt_ c42
        clear c42
        by_cases c43:t688 < (y685.length:Int)
        ·rw [if_pos c43] at H
         have c43b0:decide (t688 < (y685.length:Int))=true:=dt_ c43
         clear c43
         simp only [Option.some.injEq,Prod.mk.injEq] at H
         obtain ⟨rfl,rfl,rfl,rfl,rfl,rfl,rfl⟩:=H
         go_wp2_with (first|((with_reducible refine gC_ (f:=74) rfl ?_);refine gl_ 31 Tryd.func74 #[.pointer (some ⟨g667,0,none⟩),.int .i64 12] ?_;(with_reducible refine (spec_l6Rd_pick.calls kj24 g667 t665 x668001_5 12 t681 t682 w _ ?side1 ?side2 A30.out).mono ?_);(case side1=>exact is_HI667);(case side2=>exact bel_);rintro e w44 ⟨rfl,hi,hb,hk⟩;refine ⟨_,rfl,?_⟩;replace BK664:=a_ (kb_ hk BK664.out NB664_667.out);replace BK678:=a_ (kb_ hk BK678.out NB678_667.out);replace HB:=a_ (hb);replace HI667:=a_ (hi);(try clear hb hk hi))|((with_reducible refine gD_ (N:=40) rfl ?_);refine Kd.R_lit (Kd.int .i64) _ 3 ?hg (N:=40) ?hd (xs:=([0,40,41]:List Int)) (inner:=[.int .i64 0,.int .i64 40,.int .i64 41]) (ok:=fun _=>True) (okp:=fun _=>True) ?hr ?hp (fun _ hk=>hk) trivial (Below.refl _ _) (Nat.le_refl _) (by simp) ?_;(case hd=>rfl);(case hg=>rfl);(case hr=>first|(go_simp;done)|(go_simp;rfl));(case hp=>exact (Reps.one (show Kd.M (Kd.int .i64) _ _ _ 0 [.int .i64 0] from rfl) (Reps.one (show Kd.M (Kd.int .i64) _ _ _ 40 [.int .i64 40] from rfl) (Reps.one (show Kd.M (Kd.int .i64) _ _ _ 41 [.int .i64 41] from rfl) (Reps.none _ _)))));intro v686 w45 ho46 hb hg_ hnew_;clear hg_ hnew_;(first|rw [←Ny685.out] at ho46|(simp only [Int.reduceToNat] at ho46;rw [←Ny685.out] at ho46));have HO687:=a_ (Kd.R_lower ho46 (below_size (bel_)));replace HB:=a_ (bS_ (bel_) hb);replace BK664:=a_ (bb_ BK664.out hb);replace BK678:=a_ (bb_ BK678.out hb);replace HI667:=a_ (IsS145.below (is_HI667) hb);clear hb ho46)|((with_reducible refine gC_ (f:=74) rfl ?_);refine gl_ 42 Tryd.func74 #[.pointer (some ⟨g667,0,none⟩),.int .i64 3] ?_;(with_reducible refine (spec_l6Rd_pick.calls kj24 g667 t665 t682 3 t688 t689 w _ ?side1 ?side2 A41.out).mono ?_);(case side1=>exact is_HI667);(case side2=>exact bel_);rintro e w47 ⟨rfl,hi,hb,hk⟩;refine ⟨_,rfl,?_⟩;replace BK664:=a_ (kb_ hk BK664.out NB664_667.out);replace BK678:=a_ (kb_ hk BK678.out NB678_667.out);replace HO687:=a_ (Kd.R_mono (Kd.R_keep (IsS145.apart (show IsS145 w _ g667 t665 t682 from is_HI667) (rp_ HO687.out) (by decide)) hk (fun _ h=>h.2)) (fun _ h=>h.1));replace HB:=a_ (hb);replace HI667:=a_ (hi);(try clear hb hk hi);obtain ⟨Ao48,co48,eo48⟩:=Kd.R_slice HO687.out;subst eo48;have p690:0≤(t688:Int):=od_;have q690:t688 < (y685.length:Int):=od_;obtain ⟨ad690,e690,hx690_0⟩:=Kd.at_int (Kd.R_reads' HO687.out).2.2 t688 p690 q690;cases e690;replace p690:=eq_true p690;replace q690:=eq_true q690;have hnb49:=NB678_664.out;have hnc49:=NB664_678.out;have hnb50:=NB678_667.out;have hnc50:=NB667_678.out;have Z51_0:=cz_ BK678.out 0 (.int .i64 x679000_24);have Z51_1:=cz_ BK678.out 1 (.int .i64 (wrap64 (1+t670)));have Z51_2:=cz_ BK678.out 2 (.int .i64 t672);have Z51_3:=cz_ BK678.out 3 (.int .i64 t673);have Z51_4:=cz_ BK678.out 4 (.int .i64 t674);have Z51_5:=cz_ BK678.out 5 (.int .i64 t675);have Z51_6:=cz_ BK678.out 6 (.string t676);have Y51_0:=bF_ BK678.out 0;have Y51_1:=bF_ BK678.out 1;have Y51_2:=bF_ BK678.out 2;have Y51_3:=bF_ BK678.out 3;have Y51_4:=bF_ BK678.out 4;have Y51_5:=bF_ BK678.out 5;have Y51_6:=bF_ BK678.out 6;have hnb52:=NB664_667.out;have hnc52:=NB667_664.out;have Z53_0:=cz_ BK664.out 0 (.int .i64 0);have Z53_1:=cz_ BK664.out 1 (.int .i64 0);have Z53_2:=cz_ BK664.out 2 (.int .i64 0);have Z53_3:=cz_ BK664.out 3 (.int .i64 0);have Z53_4:=cz_ BK664.out 4 (.int .i64 0);have Z53_5:=cz_ BK664.out 5 (.int .i64 0);have Z53_6:=cz_ BK664.out 6 (.string (⟨#[]⟩:ByteArray));have Y53_0:=bF_ BK664.out 0;have Y53_1:=bF_ BK664.out 1;have Y53_2:=bF_ BK664.out 2;have Y53_3:=bF_ BK664.out 3;have Y53_4:=bF_ BK664.out 4;have Y53_5:=bF_ BK664.out 5;have Y53_6:=bF_ BK664.out 6))
         refine bodyPost_ret (results_cell_row rfl _ _ gb664 44 #[.int .i64 x679000_24,.int .i64 (rd y685 t688),.int .i64 t672,.int .i64 t673,.int .i64 t674,.int .i64 t675,.string t676] (0,0) _ rfl (by (with_reducible repeat (first|refine bN_ ?_ _|refine bD_ ?_|refine bA_ ?_ _));refine blk_put (cs:=#[.int .i64 x679000_24,.int .i64 (rd y685 t688),.int .i64 t672,.int .i64 t673,.int .i64 t674,.int .i64 t675,.string (⟨#[]⟩:ByteArray)]) ?_ 6 _ rfl;(with_reducible repeat (first|refine bN_ ?_ _|refine bD_ ?_|refine bA_ ?_ _));refine blk_put (cs:=#[.int .i64 x679000_24,.int .i64 (rd y685 t688),.int .i64 t672,.int .i64 t673,.int .i64 t674,.int .i64 0,.string (⟨#[]⟩:ByteArray)]) ?_ 5 _ rfl;(with_reducible repeat (first|refine bN_ ?_ _|refine bD_ ?_|refine bA_ ?_ _));refine blk_put (cs:=#[.int .i64 x679000_24,.int .i64 (rd y685 t688),.int .i64 t672,.int .i64 t673,.int .i64 0,.int .i64 0,.string (⟨#[]⟩:ByteArray)]) ?_ 4 _ rfl;(with_reducible repeat (first|refine bN_ ?_ _|refine bD_ ?_|refine bA_ ?_ _));refine blk_put (cs:=#[.int .i64 x679000_24,.int .i64 (rd y685 t688),.int .i64 t672,.int .i64 0,.int .i64 0,.int .i64 0,.string (⟨#[]⟩:ByteArray)]) ?_ 3 _ rfl;(with_reducible repeat (first|refine bN_ ?_ _|refine bD_ ?_|refine bA_ ?_ _));refine blk_put (cs:=#[.int .i64 x679000_24,.int .i64 (rd y685 t688),.int .i64 0,.int .i64 0,.int .i64 0,.int .i64 0,.string (⟨#[]⟩:ByteArray)]) ?_ 2 _ rfl;(with_reducible repeat (first|refine bN_ ?_ _|refine bD_ ?_|refine bA_ ?_ _));refine blk_put (cs:=#[.int .i64 x679000_24,.int .i64 0,.int .i64 0,.int .i64 0,.int .i64 0,.int .i64 0,.string (⟨#[]⟩:ByteArray)]) ?_ 1 _ rfl;(with_reducible repeat (first|refine bN_ ?_ _|refine bD_ ?_|refine bA_ ?_ _));refine blk_put (cs:=#[.int .i64 0,.int .i64 0,.int .i64 0,.int .i64 0,.int .i64 0,.int .i64 0,.string (⟨#[]⟩:ByteArray)]) ?_ 0 _ rfl;(with_reducible repeat (first|refine bN_ ?_ _|refine bD_ ?_|refine bA_ ?_ _));refine blk_far ?_ NB664_678.out _;(with_reducible repeat (first|refine bN_ ?_ _|refine bD_ ?_|refine bA_ ?_ _));exact BK664.out) Tryd.underlying44 rfl (by kernel_rfl)) rfl ?_
         exact ⟨fi_,bel_⟩
        ·rw [if_neg c43] at H
         exact absurd H (by simp)
       ·rw [if_neg c42] at H
        exact absurd H (by simp)
      ·rw [if_neg c40] at H
       have c40b0:(t681==1)=false:=bn_ c40
       have c40b1:(t681 != 1)=true:=bne_iff_ne.mpr c40
       simp only [Option.some.injEq,Prod.mk.injEq] at H
       obtain ⟨rfl,rfl,rfl,rfl,rfl,rfl,rfl⟩:=H
       go_wp2_with (first|((with_reducible refine gC_ (f:=74) rfl ?_);refine gl_ 31 Tryd.func74 #[.pointer (some ⟨g667,0,none⟩),.int .i64 12] ?_;(with_reducible refine (spec_l6Rd_pick.calls kj24 g667 t665 x668001_5 12 t681 t682 w _ ?side1 ?side2 A30.out).mono ?_);(case side1=>exact is_HI667);(case side2=>exact bel_);rintro e w54 ⟨rfl,hi,hb,hk⟩;refine ⟨_,rfl,?_⟩;replace BK664:=a_ (kb_ hk BK664.out NB664_667.out);replace BK678:=a_ (kb_ hk BK678.out NB678_667.out);replace HB:=a_ (hb);replace HI667:=a_ (hi);(try clear hb hk hi);have hnb55:=NB678_664.out;have hnc55:=NB664_678.out;have hnb56:=NB678_667.out;have hnc56:=NB667_678.out;have Z57_0:=cz_ BK678.out 0 (.int .i64 x679000_24);have Z57_1:=cz_ BK678.out 1 (.int .i64 (wrap64 (1+t670)));have Z57_2:=cz_ BK678.out 2 (.int .i64 t672);have Z57_3:=cz_ BK678.out 3 (.int .i64 t673);have Z57_4:=cz_ BK678.out 4 (.int .i64 t674);have Z57_5:=cz_ BK678.out 5 (.int .i64 t675);have Z57_6:=cz_ BK678.out 6 (.string t676);have Y57_0:=bF_ BK678.out 0;have Y57_1:=bF_ BK678.out 1;have Y57_2:=bF_ BK678.out 2;have Y57_3:=bF_ BK678.out 3;have Y57_4:=bF_ BK678.out 4;have Y57_5:=bF_ BK678.out 5;have Y57_6:=bF_ BK678.out 6;have hnb58:=NB664_667.out;have hnc58:=NB667_664.out;have Z59_0:=cz_ BK664.out 0 (.int .i64 0);have Z59_1:=cz_ BK664.out 1 (.int .i64 0);have Z59_2:=cz_ BK664.out 2 (.int .i64 0);have Z59_3:=cz_ BK664.out 3 (.int .i64 0);have Z59_4:=cz_ BK664.out 4 (.int .i64 0);have Z59_5:=cz_ BK664.out 5 (.int .i64 0);have Z59_6:=cz_ BK664.out 6 (.string (⟨#[]⟩:ByteArray));have Y59_0:=bF_ BK664.out 0;have Y59_1:=bF_ BK664.out 1;have Y59_2:=bF_ BK664.out 2;have Y59_3:=bF_ BK664.out 3;have Y59_4:=bF_ BK664.out 4;have Y59_5:=bF_ BK664.out 5;have Y59_6:=bF_ BK664.out 6))
       refine bodyPost_ret (results_cell_row rfl _ _ gb664 44 #[.int .i64 x679000_24,.int .i64 (wrap64 (1+t670)),.int .i64 t672,.int .i64 t673,.int .i64 t674,.int .i64 t675,.string t676] (0,0) _ rfl (by (with_reducible repeat (first|refine bN_ ?_ _|refine bD_ ?_|refine bA_ ?_ _));refine blk_put (cs:=#[.int .i64 x679000_24,.int .i64 (wrap64 (1+t670)),.int .i64 t672,.int .i64 t673,.int .i64 t674,.int .i64 t675,.string (⟨#[]⟩:ByteArray)]) ?_ 6 _ rfl;(with_reducible repeat (first|refine bN_ ?_ _|refine bD_ ?_|refine bA_ ?_ _));refine blk_put (cs:=#[.int .i64 x679000_24,.int .i64 (wrap64 (1+t670)),.int .i64 t672,.int .i64 t673,.int .i64 t674,.int .i64 0,.string (⟨#[]⟩:ByteArray)]) ?_ 5 _ rfl;(with_reducible repeat (first|refine bN_ ?_ _|refine bD_ ?_|refine bA_ ?_ _));refine blk_put (cs:=#[.int .i64 x679000_24,.int .i64 (wrap64 (1+t670)),.int .i64 t672,.int .i64 t673,.int .i64 0,.int .i64 0,.string (⟨#[]⟩:ByteArray)]) ?_ 4 _ rfl;(with_reducible repeat (first|refine bN_ ?_ _|refine bD_ ?_|refine bA_ ?_ _));refine blk_put (cs:=#[.int .i64 x679000_24,.int .i64 (wrap64 (1+t670)),.int .i64 t672,.int .i64 0,.int .i64 0,.int .i64 0,.string (⟨#[]⟩:ByteArray)]) ?_ 3 _ rfl;(with_reducible repeat (first|refine bN_ ?_ _|refine bD_ ?_|refine bA_ ?_ _));refine blk_put (cs:=#[.int .i64 x679000_24,.int .i64 (wrap64 (1+t670)),.int .i64 0,.int .i64 0,.int .i64 0,.int .i64 0,.string (⟨#[]⟩:ByteArray)]) ?_ 2 _ rfl;(with_reducible repeat (first|refine bN_ ?_ _|refine bD_ ?_|refine bA_ ?_ _));refine blk_put (cs:=#[.int .i64 x679000_24,.int .i64 0,.int .i64 0,.int .i64 0,.int .i64 0,.int .i64 0,.string (⟨#[]⟩:ByteArray)]) ?_ 1 _ rfl;(with_reducible repeat (first|refine bN_ ?_ _|refine bD_ ?_|refine bA_ ?_ _));refine blk_put (cs:=#[.int .i64 0,.int .i64 0,.int .i64 0,.int .i64 0,.int .i64 0,.int .i64 0,.string (⟨#[]⟩:ByteArray)]) ?_ 0 _ rfl;(with_reducible repeat (first|refine bN_ ?_ _|refine bD_ ?_|refine bA_ ?_ _));exact BK664.out) Tryd.underlying44 rfl (by kernel_rfl)) rfl ?_
       exact ⟨fi_,bel_⟩

def spec_DrawLogAdd.j0:Nat→List Int→List (S44)→Bool→List Int→Int→Option ((List (S44))×Int×Int×Int×Int×Int×Int×ByteArray)
 | 0,_,_,_,_,_=>none
 | k+1,x0,x5,x18,x695000,x695001=>if x18=true then ((spec_l6Rd_pick.f k x695000 x695001 (x5.length:Int)).bind fun bt701=>(if 0≤bt701.1 then (if bt701.1 < (x5.length:Int) then (some (x5,(rd_T44 x5 bt701.1).f0,(rd_T44 x5 bt701.1).f1,(rd_T44 x5 bt701.1).f2.f0,(rd_T44 x5 bt701.1).f2.f1,(rd_T44 x5 bt701.1).f2.f2,(rd_T44 x5 bt701.1).f2.f3,(rd_T44 x5 bt701.1).f2.f4)) else (none)) else (none))) else ((spec_DrawEntryOk.f k x0).bind fun bt704=>((spec_l6Rd_pick.f k x695000 x695001 6).bind fun bt712=>(if bt712.1 > 0 then ((spec_l12Seq.f k x5 bt704.1).bind fun t714=>(some (x5,bt704.1,wrap64 (t714+1),bt704.2.2.1,bt704.2.2.2.1,bt704.2.2.2.2.1,bt704.2.2.2.2.2.1,bt704.2.2.2.2.2.2))) else (some (x5,bt704.1,bt704.2.1,bt704.2.2.1,bt704.2.2.2.1,bt704.2.2.2.2.1,bt704.2.2.2.2.2.1,bt704.2.2.2.2.2.2)))))
def spec_DrawLogAdd.f (k:Nat) (l0:List Int):Option ((List (S44))×Int×Int×Int×Int×Int×Int×ByteArray):=(spec_l6Open.f l0).bind fun bt692=>((spec_l72Log.f k bt692.1 bt692.2).bind fun bt695=>(if (bt695.1.length:Int) > 0 then ((spec_l6Rd_pick.f k bt692.1 bt695.2 4).bind fun bt699=>(spec_DrawLogAdd.j0 k l0 bt695.1 (bt699.1==0) bt692.1 bt699.2)) else (spec_DrawLogAdd.j0 k l0 bt695.1 false bt692.1 bt695.2)))
theorem spec_DrawLogAdd.mono_l:∀ k,(∀ y0 y1 y2 y3 y4,LeO (spec_DrawLogAdd.j0 k y0 y1 y2 y3 y4) (spec_DrawLogAdd.j0 (k+1) y0 y1 y2 y3 y4))
 | 0=>fun _ _ _ _ _ r h=>by simp [spec_DrawLogAdd.j0] at h
 | k+1=>by
  have ih0:=spec_DrawLogAdd.mono_l k
  ·intro y0 y1 y2 y3 y4
   unfold spec_DrawLogAdd.j0
   repeat' first
   | (with_reducible exact ih0 _ _ _ _ _)
   | (with_reducible exact spec_DrawEntryOk.mono _ _)
   | (with_reducible exact spec_l12Seq.mono _ _ _)
   | (with_reducible exact spec_l6Rd_pick.mono _ _ _ _)
   | (with_reducible exact spec_l72Log.mono _ _ _)
   | (with_reducible exact LeO.refl _)
   | (with_reducible exact LeO.none _)
   | (with_reducible refine LeO.ite ?_ ?_)
   | (with_reducible refine LeO.bind ?_ (fun _=>?_))
   | exact ih0 _ _ _ _ _
   | exact spec_DrawEntryOk.mono _ _
   | exact spec_l12Seq.mono _ _ _
   | exact spec_l6Rd_pick.mono _ _ _ _
   | exact spec_l72Log.mono _ _ _
   | exact LeO.none _
   | refine LeO.ite ?_ ?_
   | refine LeO.bind ?_ (fun _=>?_)
theorem spec_DrawLogAdd.mono:∀ a0 k,LeO (spec_DrawLogAdd.f k a0) (spec_DrawLogAdd.f (k+1) a0):=by
 intro a0 k
 have ih0:=spec_DrawLogAdd.mono_l k
 unfold spec_DrawLogAdd.f
 repeat' first
   | (with_reducible exact ih0 _ _ _ _ _)
   | (with_reducible exact spec_DrawEntryOk.mono _ _)
   | (with_reducible exact spec_l12Seq.mono _ _ _)
   | (with_reducible exact spec_l6Rd_pick.mono _ _ _ _)
   | (with_reducible exact spec_l72Log.mono _ _ _)
   | (with_reducible exact LeO.refl _)
   | (with_reducible exact LeO.none _)
   | (with_reducible refine LeO.ite ?_ ?_)
   | (with_reducible refine LeO.bind ?_ (fun _=>?_))
   | exact ih0 _ _ _ _ _
   | exact spec_DrawEntryOk.mono _ _
   | exact spec_l12Seq.mono _ _ _
   | exact spec_l6Rd_pick.mono _ _ _ _
   | exact spec_l72Log.mono _ _ _
   | exact LeO.none _
   | refine LeO.ite ?_ ?_
   | refine LeO.bind ?_ (fun _=>?_)
def spec_DrawLogAdd.T4:Bool×List (List Nat×List Nat):=(true,[([],[]),([],[]),([],[]),([],[]),([3],[3]),([2,4],[2,4]),([1,5],[1,5]),([6],[6]),([0,5,0],[0]),([7,8,0,1,2,3,4,5,6,7,8],[7])])
def spec_DrawLogAdd.B4:List Nat:=[0,0,0,0,8,28,62,126,61,511]
theorem spec_DrawLogAdd.tab4:rtab .any (opsOf Tryd.f36 4)=spec_DrawLogAdd.T4:=by kernel_rfl
theorem spec_DrawLogAdd.bits4:waitsOk spec_DrawLogAdd.T4.2 spec_DrawLogAdd.B4=true:=by kernel_rfl
theorem spec_DrawLogAdd.calls (k:Nat) (A0:Option Addr) (c0:Nat) (l0:List Int) (r1:List (S44)) (r2:Int) (r3:Int) (r4:Int) (r5:Int) (r6:Int) (r7:Int) (r8:ByteArray) (w:World) (hr0:Kd.C (Kd.int .u8) w A0 l0.length l0) (hc0:l0.length≤c0) (h:spec_DrawLogAdd.f k l0=some (r1,r2,r3,r4,r5,r6,r7,r8)) :
  Calls Tryd.prog 36 #[.slice A0 l0.length c0] w fun e w'=>∃ v0_:Value,e=.returned (.tuple #[v0_,.agg #[.int .i64 r2,.int .i64 r3,.int .i64 r4,.int .i64 r5,.int .i64 r6,.int .i64 r7,.string r8]])∧Kd.R k44 44 w' w.heap.size (fun _=>True) v0_ r1∧Below w.heap.size w w':=by
 have hu44:=Tryd.underlying44
 have HR0:=a_ hr0
 have HC0:=a_ hc0
 clear hr0 hc0
 have HB:=a_ (Below.refl w.heap.size w)
 unfold spec_DrawLogAdd.f at h
 have H:=h
 clear h
 replace H:=bs_ H
 obtain ⟨⟨t692,t693⟩,A20,H⟩:=H
 try dsimp only at H
 have A2:=a_ A20
 clear A20
 replace H:=bs_ H
 obtain ⟨⟨t695,t698⟩,A30,H⟩:=H
 try dsimp only at H
 have A3:=a_ A30
 clear A30
 have HC4:=a_ H
 clear H
 go_enter Tryd.func36,Tryd.ntmps36
 go_upto_region 3 with (first|((with_reducible refine gD_ (N:=3) rfl ?_);refine bx_ 3 (#[.int .i64 0,.int .i64 0,.int .i64 0,.int .i64 0,.int .i64 0,.int .i64 0,.string (⟨#[]⟩:ByteArray)]) 44 ?_;intro gb691 hg w5 hbox hb;have n0_:=a_ (bS_ (bel_) hb);have n1_:=a_ (hbox);have n2_:=a_ ((by rw [hg];exact (below_size (bel_)):w.heap.size≤gb691));have n3_:=a_ ((by rw [hg];exact (below_size (bel_)):w.heap.size≤gb691));clear HB;have HB:=n0_;have BK691:=n1_;have GW691:=n2_;have GE691:=n3_;clear n0_ n1_ n2_ n3_;clear hb hbox hg)|((with_reducible refine gC_ (f:=72) rfl ?_);refine gl_ 8 Tryd.func72 #[.slice A0 l0.length c0] ?_;(with_reducible refine (spec_l6Open.calls _ _ l0 t692 t693 w _ ?side1 ?side2 ?side3 A2.out).mono ?_);(case side1=>exact bel_);(case side2=>exact HR0.out);(case side3=>exact HC0.out);rintro e w6 ⟨g694,rfl,hi,hb,hb2⟩;refine ⟨_,rfl,?_⟩;replace HB:=a_ (hb);have HI694:=a_ (hi);have NB694_691:=a_ (IsS145.ne_blk hi (bb_ BK691.out hb2) (by decide));have NB691_694:=a_ (Ne.symm (IsS145.ne_blk hi (bb_ BK691.out hb2) (by decide)));replace BK691:=a_ (bb_ BK691.out hb2);(try clear hb hb2 hi))|((with_reducible refine gC_ (f:=88) rfl ?_);refine gl_ 10 Tryd.func88 #[.pointer (some ⟨g694,0,none⟩)] ?_;(with_reducible refine (spec_l72Log.calls k g694 t692 t693 t695 t698 w _ ?side1 ?side2 A3.out).mono ?_);(case side1=>exact is_HI694);(case side2=>exact bel_);rintro e w7 ⟨v696,rfl,ho0,hi,hb,hk⟩;refine ⟨_,rfl,?_⟩;have HO697:=a_ (Kd.R_lower (Kd.R_newB ho0 (g:=gb691) (o:=.cells #[.int .i64 0,.int .i64 0,.int .i64 0,.int .i64 0,.int .i64 0,.int .i64 0,.string (⟨#[]⟩:ByteArray)] 44 (0,0)) (bp_ BK691.out)) (below_size (bel_)));replace BK691:=a_ (kb_ hk BK691.out NB691_694.out);replace HB:=a_ (hb);replace HI694:=a_ (hi);(try clear hb hk hi ho0)))
 (try simp only [Act.put,List.setIfInBounds_toArray,List.set_cons_zero,List.set_cons_succ])
 go_cut [18] (fun v18 wc=>∃ (kq:Nat) (x18_3:Bool) (x695001_3:Int),v18=.bool x18_3∧Aside0 (spec_DrawLogAdd.j0 kq l0 t695 x18_3 t692 x695001_3=some (r1,r2,r3,r4,r5,r6,r7,r8))∧Aside0 (kq≤k)∧Aside0 (Kd.R k44 44 wc w.heap.size (fun k_=>k_≠gb691) v696 t695)∧Aside0 (wc.heap[gb691]?=some (.cells #[.int .i64 0,.int .i64 0,.int .i64 0,.int .i64 0,.int .i64 0,.int .i64 0,.string (⟨#[]⟩:ByteArray)] 44 (0,0)))∧Aside0 (IsS145 w wc g694 t692 x695001_3)∧Aside0 (Below w.heap.size w wc))
 case first =>
  have H:=HC4.out
  clear HC4
  by_cases c8:(t695.length:Int) > 0
  ·rw [if_pos c8] at H
   have c8b0:decide (0 < (t695.length:Int))=true:=dt_ c8
   have c8b1:decide (0 < t695.length)=true:=dt_ (by omega)
   clear c8
   (first|rw [c8b0]|(simp only [i64_w,i32_w];rw [c8b0])|skip)
   replace H:=bs_ H
   obtain ⟨⟨t699,t700⟩,A90,H⟩:=H
   try dsimp only at H
   have A9:=a_ A90
   clear A90
   have H':=a_ H
   clear H
   obtain ⟨Ao10,co10,eo10⟩:=Kd.R_slice HO697.out
   subst eo10
   go_wp2_with (first|(go_at_call 74;(with_reducible refine (spec_l6Rd_pick.calls k g694 t692 t698 4 t699 t700 w _ ?side1 ?side2 A9.out).mono ?_);(case side1=>exact is_HI694);(case side2=>exact bel_);rintro e w11 ⟨rfl,hi,hb,hk⟩;replace BK691:=a_ (kb_ hk BK691.out NB691_694.out);replace HO697:=a_ (Kd.R_mono (Kd.R_keep (IsS145.apart (show IsS145 w _ g694 t692 t698 from is_HI694) (rp_ HO697.out) (by decide)) hk (fun _ h=>h.2)) (fun _ h=>h.1));replace HB:=a_ (hb);replace HI694:=a_ (hi);(try clear hb hk hi)))
   go_meet
   case rel=>exact ⟨_,((t699==0)),(t700),(si_),H',⟨by first|omega|exact Nat.le_refl _⟩,⟨by (with_reducible repeat (first|apply Kd.R_alloc|apply Kd.R_drewN|apply Kd.R_drew));exact Kd.R_mono HO697.out (fun _ hk=>hk.2)⟩,⟨by (with_reducible repeat (first|refine bN_ ?_ _|refine bD_ ?_|refine bA_ ?_ _));exact BK691.out⟩,⟨is_HI694⟩,⟨bel_⟩⟩
  ·rw [if_neg c8] at H
   have c8b0:decide (0 < (t695.length:Int))=false:=df_ c8
   have c8b1:decide (0 < t695.length)=false:=df_ (by omega)
   clear c8
   (first|rw [c8b0]|(simp only [i64_w,i32_w];rw [c8b0])|skip)
   have H':=a_ H
   clear H
   obtain ⟨Ao12,co12,eo12⟩:=Kd.R_slice HO697.out
   subst eo12
   go_wp2
   go_meet
   case rel=>exact ⟨_,(false),(t698),(si_),H',⟨by first|omega|exact Nat.le_refl _⟩,⟨by (with_reducible repeat (first|apply Kd.R_alloc|apply Kd.R_drewN|apply Kd.R_drew));exact Kd.R_mono HO697.out (fun _ hk=>hk.2)⟩,⟨by (with_reducible repeat (first|refine bN_ ?_ _|refine bD_ ?_|refine bA_ ?_ _));exact BK691.out⟩,⟨is_HI694⟩,⟨bel_⟩⟩
 case rest =>
  clear HC4
  try clear p2
  try clear c3
  try clear c7
  try clear c8
  try clear c8b0
  try clear c8b1
  obtain ⟨kq,x18_3,x695001_3,rfl,HA,HJ3,HO_5,BK691,HI694,HB⟩:=hcut
  cases kq with
  | zero=>exact absurd HA.out (by simp [spec_DrawLogAdd.j0])
  | succ kj3 =>
   have H:=HA.out
   clear HA
   simp only [spec_DrawLogAdd.j0] at H
   by_cases c13:x18_3=true
   ·subst c13
    have H1:((spec_l6Rd_pick.f kj3 t692 x695001_3 (t695.length:Int)).bind fun bt701=>(if 0≤bt701.1 then (if bt701.1 < (t695.length:Int) then (some (t695,(rd_T44 t695 bt701.1).f0,(rd_T44 t695 bt701.1).f1,(rd_T44 t695 bt701.1).f2.f0,(rd_T44 t695 bt701.1).f2.f1,(rd_T44 t695 bt701.1).f2.f2,(rd_T44 t695 bt701.1).f2.f3,(rd_T44 t695 bt701.1).f2.f4)) else (none)) else (none)))=some (r1,r2,r3,r4,r5,r6,r7,r8):=by rw [if_pos rfl] at H;exact H
    clear H
    have H:=H1
    clear H1
    replace H:=bs_ H
    obtain ⟨⟨t701,t702⟩,A140,H⟩:=H
    try dsimp only at H
    have A14:=a_ A140
    clear A140
    by_cases c15:0≤t701
    ·rw [if_pos c15] at H
     have c15b0:decide (0≤t701)=true:=dt_ c15
     clear c15
     by_cases c16:t701 < (t695.length:Int)
     ·rw [if_pos c16] at H
      have c16b0:decide (t701 < (t695.length:Int))=true:=dt_ c16
      clear c16
      simp only [Option.some.injEq,Prod.mk.injEq] at H
      obtain ⟨rfl,rfl,rfl,rfl,rfl,rfl,rfl,rfl⟩:=H
      try go_wp2
      have n0_:=a_ (Kd.R_drew HO_5.out)
      have n1_:=a_ (bD_ BK691.out)
      have n2_:=a_ (IsS145.drew HI694.out)
      have n3_:=a_ (below_drew1 HB.out)
      clear HO_5
      clear BK691
      clear HI694
      clear HB
      have HO_5:=n0_
      have BK691:=n1_
      have HI694:=n2_
      have HB:=n3_
      clear n0_ n1_ n2_ n3_
      obtain ⟨Ao18,co18,eo18⟩:=Kd.R_slice HO_5.out
      (first|subst eo18|(injection eo18 with f1_ f2_ f3_;have f4_:=f1_.symm;have f5_:=f3_.symm;clear f1_ f2_ f3_;subst f4_;subst f5_))
      have p703:0≤(t701:Int):=od_
      have q703:t701 < (t695.length:Int):=od_
      obtain ⟨ad703,e703,hx703_0,hx703_1,hx703_2,hx703_3,hx703_4,hx703_5,hx703_6⟩:=at_T44 (Kd.R_reads' HO_5.out).2.2 t701 p703 q703
      cases e703
      replace p703:=eq_true p703
      replace q703:=eq_true q703
      refine start_ (n:=10) (S:=fun w'=>w'.cell? (ad703.add ((t701).toNat * 7))=some (.int .i64 ((rd_T44 t695 t701).f0))∧w'.cell? ⟨(ad703.add ((t701).toNat * 7)).block,(ad703.add ((t701).toNat * 7)).off+1,none⟩=some (.int .i64 ((rd_T44 t695 t701).f1))∧w'.cell? ⟨(ad703.add ((t701).toNat * 7)).block,(ad703.add ((t701).toNat * 7)).off+2,none⟩=some (.int .i64 ((rd_T44 t695 t701).f2.f0))∧w'.cell? ⟨(ad703.add ((t701).toNat * 7)).block,(ad703.add ((t701).toNat * 7)).off+3,none⟩=some (.int .i64 ((rd_T44 t695 t701).f2.f1))∧w'.cell? ⟨(ad703.add ((t701).toNat * 7)).block,(ad703.add ((t701).toNat * 7)).off+4,none⟩=some (.int .i64 ((rd_T44 t695 t701).f2.f2))∧w'.cell? ⟨(ad703.add ((t701).toNat * 7)).block,(ad703.add ((t701).toNat * 7)).off+5,none⟩=some (.int .i64 ((rd_T44 t695 t701).f2.f3))∧w'.cell? ⟨(ad703.add ((t701).toNat * 7)).block,(ad703.add ((t701).toNat * 7)).off+6,none⟩=some (.string ((rd_T44 t695 t701).f2.f4))) (ds:=[]) #[false,false,false,false,false,false,false,false,false,false] (by kernel_rfl) rfl rfl ⟨hx703_0,hx703_1,hx703_2,hx703_3,hx703_4,hx703_5,hx703_6⟩ (fun hHeld=>?_);refine with_tabW spec_DrawLogAdd.tab4 spec_DrawLogAdd.bits4 (fun HT_ HW_=>?_)
      generalize wc.drew=w17 at HO_5 BK691 HI694 HB hx703_0 hx703_1 hx703_2 hx703_3 hx703_4 hx703_5 hx703_6 hHeld ⊢
      refine pa_ 0 19 ?_
      refine pa_ 1 20 ?_
      refine pa_ 2 21 ?_
      refine pa_ 3 22 ?_
      refine pa_ 4 23 ?_
      refine on_ 5 24 (fun K hK=>?_)
      refine goes_ Tryd.func74 (by kernel_rfl) rfl #[.pointer (some ⟨g694,0,none⟩),.int .i64 (t695.length:Int)] (by rfl) rfl rfl ar_ ?_
      with_reducible refine (spec_l6Rd_pick.calls kj3 g694 t692 x695001_3 (t695.length:Int) t701 t702 w _ ?side1 ?side2 A14.out).mono ?_
      (case side1=>exact is_HI694)
      (case side2=>exact bel_)
      rintro e w19 ⟨rfl,hi,hb,hk⟩
      have HS0_:=keep_cell hk (hHeld.1) (by first|(rw [add_block];exact Kd.own_blk (IsS145.own_ne HI694.out HO_5.out (by decide)))|(show (Addr.add _ _).block≠_;rw [add_block];exact Kd.own_blk (IsS145.own_ne HI694.out HO_5.out (by decide)))|exact Kd.own_blk (IsS145.own_ne HI694.out HO_5.out (by decide)))
      have HS1_:=keep_cell hk (hHeld.2.1) (by first|(rw [add_block];exact Kd.own_blk (IsS145.own_ne HI694.out HO_5.out (by decide)))|(show (Addr.add _ _).block≠_;rw [add_block];exact Kd.own_blk (IsS145.own_ne HI694.out HO_5.out (by decide)))|exact Kd.own_blk (IsS145.own_ne HI694.out HO_5.out (by decide)))
      have HS2_:=keep_cell hk (hHeld.2.2.1) (by first|(rw [add_block];exact Kd.own_blk (IsS145.own_ne HI694.out HO_5.out (by decide)))|(show (Addr.add _ _).block≠_;rw [add_block];exact Kd.own_blk (IsS145.own_ne HI694.out HO_5.out (by decide)))|exact Kd.own_blk (IsS145.own_ne HI694.out HO_5.out (by decide)))
      have HS3_:=keep_cell hk (hHeld.2.2.2.1) (by first|(rw [add_block];exact Kd.own_blk (IsS145.own_ne HI694.out HO_5.out (by decide)))|(show (Addr.add _ _).block≠_;rw [add_block];exact Kd.own_blk (IsS145.own_ne HI694.out HO_5.out (by decide)))|exact Kd.own_blk (IsS145.own_ne HI694.out HO_5.out (by decide)))
      have HS4_:=keep_cell hk (hHeld.2.2.2.2.1) (by first|(rw [add_block];exact Kd.own_blk (IsS145.own_ne HI694.out HO_5.out (by decide)))|(show (Addr.add _ _).block≠_;rw [add_block];exact Kd.own_blk (IsS145.own_ne HI694.out HO_5.out (by decide)))|exact Kd.own_blk (IsS145.own_ne HI694.out HO_5.out (by decide)))
      have HS5_:=keep_cell hk (hHeld.2.2.2.2.2.1) (by first|(rw [add_block];exact Kd.own_blk (IsS145.own_ne HI694.out HO_5.out (by decide)))|(show (Addr.add _ _).block≠_;rw [add_block];exact Kd.own_blk (IsS145.own_ne HI694.out HO_5.out (by decide)))|exact Kd.own_blk (IsS145.own_ne HI694.out HO_5.out (by decide)))
      have HS6_:=keep_cell hk (hHeld.2.2.2.2.2.2) (by first|(rw [add_block];exact Kd.own_blk (IsS145.own_ne HI694.out HO_5.out (by decide)))|(show (Addr.add _ _).block≠_;rw [add_block];exact Kd.own_blk (IsS145.own_ne HI694.out HO_5.out (by decide)))|exact Kd.own_blk (IsS145.own_ne HI694.out HO_5.out (by decide)))
      refine ⟨_,rfl,?_⟩
      have n0_:=a_ (Kd.R_mono (Kd.R_keep (IsS145.apart (show IsS145 w _ g694 t692 x695001_3 from is_HI694) (rp_ HO_5.out) (by decide)) hk (fun _ h=>h.2)) (fun _ h=>h.1))
      have n1_:=a_ (kb_ hk BK691.out NB691_694.out)
      have n2_:=a_ (hb)
      have n3_:=a_ (hi)
      clear HO_5
      clear BK691
      clear HB
      clear HI694
      have HO_5:=n0_
      have BK691:=n1_
      have HB:=n2_
      have HI694:=n3_
      clear n0_ n1_ n2_ n3_
      (try clear hb)
      (try clear hb2)
      (try clear hk)
      (try clear hi)
      refine hK.out _ _ ⟨HS0_,HS1_,HS2_,HS3_,HS4_,HS5_,HS6_⟩ (fun hHeld=>?_)
      clear hK K
      refine no_ 24 ?_
      refine pa_ 6 25 ?_
      refine pa_ 8 2 ?_
      refine ta7_ 7 26 hHeld ?_
      refine one_ (i:=9) (N:=none) #[true,true,true,true,true,true,true,true,true,true] rfl rfl (one_of HT_.out (by kernel_rfl)) (by decide) (fun K hK=>?_)
      have hs20:w19.cell? ⟨gb691,0,none⟩=some (.int .i64 0):=(bC_ BK691.out 0).trans rfl
      have hfs20:=bF_ BK691.out 0
      have hs21:w19.cell? ⟨gb691,1,none⟩=some (.int .i64 0):=(bC_ BK691.out 1).trans rfl
      have hfs21:=bF_ BK691.out 1
      have hs22:w19.cell? ⟨gb691,2,none⟩=some (.int .i64 0):=(bC_ BK691.out 2).trans rfl
      have hfs22:=bF_ BK691.out 2
      have hs23:w19.cell? ⟨gb691,3,none⟩=some (.int .i64 0):=(bC_ BK691.out 3).trans rfl
      have hfs23:=bF_ BK691.out 3
      have hs24:w19.cell? ⟨gb691,4,none⟩=some (.int .i64 0):=(bC_ BK691.out 4).trans rfl
      have hfs24:=bF_ BK691.out 4
      have hs25:w19.cell? ⟨gb691,5,none⟩=some (.int .i64 0):=(bC_ BK691.out 5).trans rfl
      have hfs25:=bF_ BK691.out 5
      have hs26:w19.cell? ⟨gb691,6,none⟩=some (.string (⟨#[]⟩:ByteArray)):=(bC_ BK691.out 6).trans rfl
      have hfs26:=bF_ BK691.out 6
      refine skip_ (w1:=?_) (by rfl) rfl ?_ ?_
      rotate_left
      ·go_simp
       rfl
      refine hK.out _ _ ⟨((cF_ (p:=⟨gb691,_,none⟩) (by first|exact Kd.own_blk (Kd.R_away HO_5.out (fun _ hk=>hk))|(rw [add_block];exact Kd.own_blk (Kd.R_away HO_5.out (fun _ hk=>hk)))|(show (Addr.add _ _).block≠_;rw [add_block];exact Kd.own_blk (Kd.R_away HO_5.out (fun _ hk=>hk)))|(dsimp only;exact Kd.own_blk (Kd.R_away HO_5.out (fun _ hk=>hk)))) _).trans (((cF_ (p:=⟨gb691,_,none⟩) (by first|exact Kd.own_blk (Kd.R_away HO_5.out (fun _ hk=>hk))|(rw [add_block];exact Kd.own_blk (Kd.R_away HO_5.out (fun _ hk=>hk)))|(show (Addr.add _ _).block≠_;rw [add_block];exact Kd.own_blk (Kd.R_away HO_5.out (fun _ hk=>hk)))|(dsimp only;exact Kd.own_blk (Kd.R_away HO_5.out (fun _ hk=>hk)))) _).trans (((cF_ (p:=⟨gb691,_,none⟩) (by first|exact Kd.own_blk (Kd.R_away HO_5.out (fun _ hk=>hk))|(rw [add_block];exact Kd.own_blk (Kd.R_away HO_5.out (fun _ hk=>hk)))|(show (Addr.add _ _).block≠_;rw [add_block];exact Kd.own_blk (Kd.R_away HO_5.out (fun _ hk=>hk)))|(dsimp only;exact Kd.own_blk (Kd.R_away HO_5.out (fun _ hk=>hk)))) _).trans (((cF_ (p:=⟨gb691,_,none⟩) (by first|exact Kd.own_blk (Kd.R_away HO_5.out (fun _ hk=>hk))|(rw [add_block];exact Kd.own_blk (Kd.R_away HO_5.out (fun _ hk=>hk)))|(show (Addr.add _ _).block≠_;rw [add_block];exact Kd.own_blk (Kd.R_away HO_5.out (fun _ hk=>hk)))|(dsimp only;exact Kd.own_blk (Kd.R_away HO_5.out (fun _ hk=>hk)))) _).trans (((cF_ (p:=⟨gb691,_,none⟩) (by first|exact Kd.own_blk (Kd.R_away HO_5.out (fun _ hk=>hk))|(rw [add_block];exact Kd.own_blk (Kd.R_away HO_5.out (fun _ hk=>hk)))|(show (Addr.add _ _).block≠_;rw [add_block];exact Kd.own_blk (Kd.R_away HO_5.out (fun _ hk=>hk)))|(dsimp only;exact Kd.own_blk (Kd.R_away HO_5.out (fun _ hk=>hk)))) _).trans (((cF_ (p:=⟨gb691,_,none⟩) (by first|exact Kd.own_blk (Kd.R_away HO_5.out (fun _ hk=>hk))|(rw [add_block];exact Kd.own_blk (Kd.R_away HO_5.out (fun _ hk=>hk)))|(show (Addr.add _ _).block≠_;rw [add_block];exact Kd.own_blk (Kd.R_away HO_5.out (fun _ hk=>hk)))|(dsimp only;exact Kd.own_blk (Kd.R_away HO_5.out (fun _ hk=>hk)))) _).trans (((cF_ (p:=⟨gb691,_,none⟩) (by first|exact Kd.own_blk (Kd.R_away HO_5.out (fun _ hk=>hk))|(rw [add_block];exact Kd.own_blk (Kd.R_away HO_5.out (fun _ hk=>hk)))|(show (Addr.add _ _).block≠_;rw [add_block];exact Kd.own_blk (Kd.R_away HO_5.out (fun _ hk=>hk)))|(dsimp only;exact Kd.own_blk (Kd.R_away HO_5.out (fun _ hk=>hk)))) _).trans (hHeld.1)))))))))))))),((cF_ (p:=⟨gb691,_,none⟩) (by first|exact Kd.own_blk (Kd.R_away HO_5.out (fun _ hk=>hk))|(rw [add_block];exact Kd.own_blk (Kd.R_away HO_5.out (fun _ hk=>hk)))|(show (Addr.add _ _).block≠_;rw [add_block];exact Kd.own_blk (Kd.R_away HO_5.out (fun _ hk=>hk)))|(dsimp only;exact Kd.own_blk (Kd.R_away HO_5.out (fun _ hk=>hk)))) _).trans (((cF_ (p:=⟨gb691,_,none⟩) (by first|exact Kd.own_blk (Kd.R_away HO_5.out (fun _ hk=>hk))|(rw [add_block];exact Kd.own_blk (Kd.R_away HO_5.out (fun _ hk=>hk)))|(show (Addr.add _ _).block≠_;rw [add_block];exact Kd.own_blk (Kd.R_away HO_5.out (fun _ hk=>hk)))|(dsimp only;exact Kd.own_blk (Kd.R_away HO_5.out (fun _ hk=>hk)))) _).trans (((cF_ (p:=⟨gb691,_,none⟩) (by first|exact Kd.own_blk (Kd.R_away HO_5.out (fun _ hk=>hk))|(rw [add_block];exact Kd.own_blk (Kd.R_away HO_5.out (fun _ hk=>hk)))|(show (Addr.add _ _).block≠_;rw [add_block];exact Kd.own_blk (Kd.R_away HO_5.out (fun _ hk=>hk)))|(dsimp only;exact Kd.own_blk (Kd.R_away HO_5.out (fun _ hk=>hk)))) _).trans (((cF_ (p:=⟨gb691,_,none⟩) (by first|exact Kd.own_blk (Kd.R_away HO_5.out (fun _ hk=>hk))|(rw [add_block];exact Kd.own_blk (Kd.R_away HO_5.out (fun _ hk=>hk)))|(show (Addr.add _ _).block≠_;rw [add_block];exact Kd.own_blk (Kd.R_away HO_5.out (fun _ hk=>hk)))|(dsimp only;exact Kd.own_blk (Kd.R_away HO_5.out (fun _ hk=>hk)))) _).trans (((cF_ (p:=⟨gb691,_,none⟩) (by first|exact Kd.own_blk (Kd.R_away HO_5.out (fun _ hk=>hk))|(rw [add_block];exact Kd.own_blk (Kd.R_away HO_5.out (fun _ hk=>hk)))|(show (Addr.add _ _).block≠_;rw [add_block];exact Kd.own_blk (Kd.R_away HO_5.out (fun _ hk=>hk)))|(dsimp only;exact Kd.own_blk (Kd.R_away HO_5.out (fun _ hk=>hk)))) _).trans (((cF_ (p:=⟨gb691,_,none⟩) (by first|exact Kd.own_blk (Kd.R_away HO_5.out (fun _ hk=>hk))|(rw [add_block];exact Kd.own_blk (Kd.R_away HO_5.out (fun _ hk=>hk)))|(show (Addr.add _ _).block≠_;rw [add_block];exact Kd.own_blk (Kd.R_away HO_5.out (fun _ hk=>hk)))|(dsimp only;exact Kd.own_blk (Kd.R_away HO_5.out (fun _ hk=>hk)))) _).trans (((cF_ (p:=⟨gb691,_,none⟩) (by first|exact Kd.own_blk (Kd.R_away HO_5.out (fun _ hk=>hk))|(rw [add_block];exact Kd.own_blk (Kd.R_away HO_5.out (fun _ hk=>hk)))|(show (Addr.add _ _).block≠_;rw [add_block];exact Kd.own_blk (Kd.R_away HO_5.out (fun _ hk=>hk)))|(dsimp only;exact Kd.own_blk (Kd.R_away HO_5.out (fun _ hk=>hk)))) _).trans (hHeld.2.1)))))))))))))),((cF_ (p:=⟨gb691,_,none⟩) (by first|exact Kd.own_blk (Kd.R_away HO_5.out (fun _ hk=>hk))|(rw [add_block];exact Kd.own_blk (Kd.R_away HO_5.out (fun _ hk=>hk)))|(show (Addr.add _ _).block≠_;rw [add_block];exact Kd.own_blk (Kd.R_away HO_5.out (fun _ hk=>hk)))|(dsimp only;exact Kd.own_blk (Kd.R_away HO_5.out (fun _ hk=>hk)))) _).trans (((cF_ (p:=⟨gb691,_,none⟩) (by first|exact Kd.own_blk (Kd.R_away HO_5.out (fun _ hk=>hk))|(rw [add_block];exact Kd.own_blk (Kd.R_away HO_5.out (fun _ hk=>hk)))|(show (Addr.add _ _).block≠_;rw [add_block];exact Kd.own_blk (Kd.R_away HO_5.out (fun _ hk=>hk)))|(dsimp only;exact Kd.own_blk (Kd.R_away HO_5.out (fun _ hk=>hk)))) _).trans (((cF_ (p:=⟨gb691,_,none⟩) (by first|exact Kd.own_blk (Kd.R_away HO_5.out (fun _ hk=>hk))|(rw [add_block];exact Kd.own_blk (Kd.R_away HO_5.out (fun _ hk=>hk)))|(show (Addr.add _ _).block≠_;rw [add_block];exact Kd.own_blk (Kd.R_away HO_5.out (fun _ hk=>hk)))|(dsimp only;exact Kd.own_blk (Kd.R_away HO_5.out (fun _ hk=>hk)))) _).trans (((cF_ (p:=⟨gb691,_,none⟩) (by first|exact Kd.own_blk (Kd.R_away HO_5.out (fun _ hk=>hk))|(rw [add_block];exact Kd.own_blk (Kd.R_away HO_5.out (fun _ hk=>hk)))|(show (Addr.add _ _).block≠_;rw [add_block];exact Kd.own_blk (Kd.R_away HO_5.out (fun _ hk=>hk)))|(dsimp only;exact Kd.own_blk (Kd.R_away HO_5.out (fun _ hk=>hk)))) _).trans (((cF_ (p:=⟨gb691,_,none⟩) (by first|exact Kd.own_blk (Kd.R_away HO_5.out (fun _ hk=>hk))|(rw [add_block];exact Kd.own_blk (Kd.R_away HO_5.out (fun _ hk=>hk)))|(show (Addr.add _ _).block≠_;rw [add_block];exact Kd.own_blk (Kd.R_away HO_5.out (fun _ hk=>hk)))|(dsimp only;exact Kd.own_blk (Kd.R_away HO_5.out (fun _ hk=>hk)))) _).trans (((cF_ (p:=⟨gb691,_,none⟩) (by first|exact Kd.own_blk (Kd.R_away HO_5.out (fun _ hk=>hk))|(rw [add_block];exact Kd.own_blk (Kd.R_away HO_5.out (fun _ hk=>hk)))|(show (Addr.add _ _).block≠_;rw [add_block];exact Kd.own_blk (Kd.R_away HO_5.out (fun _ hk=>hk)))|(dsimp only;exact Kd.own_blk (Kd.R_away HO_5.out (fun _ hk=>hk)))) _).trans (((cF_ (p:=⟨gb691,_,none⟩) (by first|exact Kd.own_blk (Kd.R_away HO_5.out (fun _ hk=>hk))|(rw [add_block];exact Kd.own_blk (Kd.R_away HO_5.out (fun _ hk=>hk)))|(show (Addr.add _ _).block≠_;rw [add_block];exact Kd.own_blk (Kd.R_away HO_5.out (fun _ hk=>hk)))|(dsimp only;exact Kd.own_blk (Kd.R_away HO_5.out (fun _ hk=>hk)))) _).trans (hHeld.2.2.1)))))))))))))),((cF_ (p:=⟨gb691,_,none⟩) (by first|exact Kd.own_blk (Kd.R_away HO_5.out (fun _ hk=>hk))|(rw [add_block];exact Kd.own_blk (Kd.R_away HO_5.out (fun _ hk=>hk)))|(show (Addr.add _ _).block≠_;rw [add_block];exact Kd.own_blk (Kd.R_away HO_5.out (fun _ hk=>hk)))|(dsimp only;exact Kd.own_blk (Kd.R_away HO_5.out (fun _ hk=>hk)))) _).trans (((cF_ (p:=⟨gb691,_,none⟩) (by first|exact Kd.own_blk (Kd.R_away HO_5.out (fun _ hk=>hk))|(rw [add_block];exact Kd.own_blk (Kd.R_away HO_5.out (fun _ hk=>hk)))|(show (Addr.add _ _).block≠_;rw [add_block];exact Kd.own_blk (Kd.R_away HO_5.out (fun _ hk=>hk)))|(dsimp only;exact Kd.own_blk (Kd.R_away HO_5.out (fun _ hk=>hk)))) _).trans (((cF_ (p:=⟨gb691,_,none⟩) (by first|exact Kd.own_blk (Kd.R_away HO_5.out (fun _ hk=>hk))|(rw [add_block];exact Kd.own_blk (Kd.R_away HO_5.out (fun _ hk=>hk)))|(show (Addr.add _ _).block≠_;rw [add_block];exact Kd.own_blk (Kd.R_away HO_5.out (fun _ hk=>hk)))|(dsimp only;exact Kd.own_blk (Kd.R_away HO_5.out (fun _ hk=>hk)))) _).trans (((cF_ (p:=⟨gb691,_,none⟩) (by first|exact Kd.own_blk (Kd.R_away HO_5.out (fun _ hk=>hk))|(rw [add_block];exact Kd.own_blk (Kd.R_away HO_5.out (fun _ hk=>hk)))|(show (Addr.add _ _).block≠_;rw [add_block];exact Kd.own_blk (Kd.R_away HO_5.out (fun _ hk=>hk)))|(dsimp only;exact Kd.own_blk (Kd.R_away HO_5.out (fun _ hk=>hk)))) _).trans (((cF_ (p:=⟨gb691,_,none⟩) (by first|exact Kd.own_blk (Kd.R_away HO_5.out (fun _ hk=>hk))|(rw [add_block];exact Kd.own_blk (Kd.R_away HO_5.out (fun _ hk=>hk)))|(show (Addr.add _ _).block≠_;rw [add_block];exact Kd.own_blk (Kd.R_away HO_5.out (fun _ hk=>hk)))|(dsimp only;exact Kd.own_blk (Kd.R_away HO_5.out (fun _ hk=>hk)))) _).trans (((cF_ (p:=⟨gb691,_,none⟩) (by first|exact Kd.own_blk (Kd.R_away HO_5.out (fun _ hk=>hk))|(rw [add_block];exact Kd.own_blk (Kd.R_away HO_5.out (fun _ hk=>hk)))|(show (Addr.add _ _).block≠_;rw [add_block];exact Kd.own_blk (Kd.R_away HO_5.out (fun _ hk=>hk)))|(dsimp only;exact Kd.own_blk (Kd.R_away HO_5.out (fun _ hk=>hk)))) _).trans (((cF_ (p:=⟨gb691,_,none⟩) (by first|exact Kd.own_blk (Kd.R_away HO_5.out (fun _ hk=>hk))|(rw [add_block];exact Kd.own_blk (Kd.R_away HO_5.out (fun _ hk=>hk)))|(show (Addr.add _ _).block≠_;rw [add_block];exact Kd.own_blk (Kd.R_away HO_5.out (fun _ hk=>hk)))|(dsimp only;exact Kd.own_blk (Kd.R_away HO_5.out (fun _ hk=>hk)))) _).trans (hHeld.2.2.2.1)))))))))))))),((cF_ (p:=⟨gb691,_,none⟩) (by first|exact Kd.own_blk (Kd.R_away HO_5.out (fun _ hk=>hk))|(rw [add_block];exact Kd.own_blk (Kd.R_away HO_5.out (fun _ hk=>hk)))|(show (Addr.add _ _).block≠_;rw [add_block];exact Kd.own_blk (Kd.R_away HO_5.out (fun _ hk=>hk)))|(dsimp only;exact Kd.own_blk (Kd.R_away HO_5.out (fun _ hk=>hk)))) _).trans (((cF_ (p:=⟨gb691,_,none⟩) (by first|exact Kd.own_blk (Kd.R_away HO_5.out (fun _ hk=>hk))|(rw [add_block];exact Kd.own_blk (Kd.R_away HO_5.out (fun _ hk=>hk)))|(show (Addr.add _ _).block≠_;rw [add_block];exact Kd.own_blk (Kd.R_away HO_5.out (fun _ hk=>hk)))|(dsimp only;exact Kd.own_blk (Kd.R_away HO_5.out (fun _ hk=>hk)))) _).trans (((cF_ (p:=⟨gb691,_,none⟩) (by first|exact Kd.own_blk (Kd.R_away HO_5.out (fun _ hk=>hk))|(rw [add_block];exact Kd.own_blk (Kd.R_away HO_5.out (fun _ hk=>hk)))|(show (Addr.add _ _).block≠_;rw [add_block];exact Kd.own_blk (Kd.R_away HO_5.out (fun _ hk=>hk)))|(dsimp only;exact Kd.own_blk (Kd.R_away HO_5.out (fun _ hk=>hk)))) _).trans (((cF_ (p:=⟨gb691,_,none⟩) (by first|exact Kd.own_blk (Kd.R_away HO_5.out (fun _ hk=>hk))|(rw [add_block];exact Kd.own_blk (Kd.R_away HO_5.out (fun _ hk=>hk)))|(show (Addr.add _ _).block≠_;rw [add_block];exact Kd.own_blk (Kd.R_away HO_5.out (fun _ hk=>hk)))|(dsimp only;exact Kd.own_blk (Kd.R_away HO_5.out (fun _ hk=>hk)))) _).trans (((cF_ (p:=⟨gb691,_,none⟩) (by first|exact Kd.own_blk (Kd.R_away HO_5.out (fun _ hk=>hk))|(rw [add_block];exact Kd.own_blk (Kd.R_away HO_5.out (fun _ hk=>hk)))|(show (Addr.add _ _).block≠_;rw [add_block];exact Kd.own_blk (Kd.R_away HO_5.out (fun _ hk=>hk)))|(dsimp only;exact Kd.own_blk (Kd.R_away HO_5.out (fun _ hk=>hk)))) _).trans (((cF_ (p:=⟨gb691,_,none⟩) (by first|exact Kd.own_blk (Kd.R_away HO_5.out (fun _ hk=>hk))|(rw [add_block];exact Kd.own_blk (Kd.R_away HO_5.out (fun _ hk=>hk)))|(show (Addr.add _ _).block≠_;rw [add_block];exact Kd.own_blk (Kd.R_away HO_5.out (fun _ hk=>hk)))|(dsimp only;exact Kd.own_blk (Kd.R_away HO_5.out (fun _ hk=>hk)))) _).trans (((cF_ (p:=⟨gb691,_,none⟩) (by first|exact Kd.own_blk (Kd.R_away HO_5.out (fun _ hk=>hk))|(rw [add_block];exact Kd.own_blk (Kd.R_away HO_5.out (fun _ hk=>hk)))|(show (Addr.add _ _).block≠_;rw [add_block];exact Kd.own_blk (Kd.R_away HO_5.out (fun _ hk=>hk)))|(dsimp only;exact Kd.own_blk (Kd.R_away HO_5.out (fun _ hk=>hk)))) _).trans (hHeld.2.2.2.2.1)))))))))))))),((cF_ (p:=⟨gb691,_,none⟩) (by first|exact Kd.own_blk (Kd.R_away HO_5.out (fun _ hk=>hk))|(rw [add_block];exact Kd.own_blk (Kd.R_away HO_5.out (fun _ hk=>hk)))|(show (Addr.add _ _).block≠_;rw [add_block];exact Kd.own_blk (Kd.R_away HO_5.out (fun _ hk=>hk)))|(dsimp only;exact Kd.own_blk (Kd.R_away HO_5.out (fun _ hk=>hk)))) _).trans (((cF_ (p:=⟨gb691,_,none⟩) (by first|exact Kd.own_blk (Kd.R_away HO_5.out (fun _ hk=>hk))|(rw [add_block];exact Kd.own_blk (Kd.R_away HO_5.out (fun _ hk=>hk)))|(show (Addr.add _ _).block≠_;rw [add_block];exact Kd.own_blk (Kd.R_away HO_5.out (fun _ hk=>hk)))|(dsimp only;exact Kd.own_blk (Kd.R_away HO_5.out (fun _ hk=>hk)))) _).trans (((cF_ (p:=⟨gb691,_,none⟩) (by first|exact Kd.own_blk (Kd.R_away HO_5.out (fun _ hk=>hk))|(rw [add_block];exact Kd.own_blk (Kd.R_away HO_5.out (fun _ hk=>hk)))|(show (Addr.add _ _).block≠_;rw [add_block];exact Kd.own_blk (Kd.R_away HO_5.out (fun _ hk=>hk)))|(dsimp only;exact Kd.own_blk (Kd.R_away HO_5.out (fun _ hk=>hk)))) _).trans (((cF_ (p:=⟨gb691,_,none⟩) (by first|exact Kd.own_blk (Kd.R_away HO_5.out (fun _ hk=>hk))|(rw [add_block];exact Kd.own_blk (Kd.R_away HO_5.out (fun _ hk=>hk)))|(show (Addr.add _ _).block≠_;rw [add_block];exact Kd.own_blk (Kd.R_away HO_5.out (fun _ hk=>hk)))|(dsimp only;exact Kd.own_blk (Kd.R_away HO_5.out (fun _ hk=>hk)))) _).trans (((cF_ (p:=⟨gb691,_,none⟩) (by first|exact Kd.own_blk (Kd.R_away HO_5.out (fun _ hk=>hk))|(rw [add_block];exact Kd.own_blk (Kd.R_away HO_5.out (fun _ hk=>hk)))|(show (Addr.add _ _).block≠_;rw [add_block];exact Kd.own_blk (Kd.R_away HO_5.out (fun _ hk=>hk)))|(dsimp only;exact Kd.own_blk (Kd.R_away HO_5.out (fun _ hk=>hk)))) _).trans (((cF_ (p:=⟨gb691,_,none⟩) (by first|exact Kd.own_blk (Kd.R_away HO_5.out (fun _ hk=>hk))|(rw [add_block];exact Kd.own_blk (Kd.R_away HO_5.out (fun _ hk=>hk)))|(show (Addr.add _ _).block≠_;rw [add_block];exact Kd.own_blk (Kd.R_away HO_5.out (fun _ hk=>hk)))|(dsimp only;exact Kd.own_blk (Kd.R_away HO_5.out (fun _ hk=>hk)))) _).trans (((cF_ (p:=⟨gb691,_,none⟩) (by first|exact Kd.own_blk (Kd.R_away HO_5.out (fun _ hk=>hk))|(rw [add_block];exact Kd.own_blk (Kd.R_away HO_5.out (fun _ hk=>hk)))|(show (Addr.add _ _).block≠_;rw [add_block];exact Kd.own_blk (Kd.R_away HO_5.out (fun _ hk=>hk)))|(dsimp only;exact Kd.own_blk (Kd.R_away HO_5.out (fun _ hk=>hk)))) _).trans (hHeld.2.2.2.2.2.1)))))))))))))),((cF_ (p:=⟨gb691,_,none⟩) (by first|exact Kd.own_blk (Kd.R_away HO_5.out (fun _ hk=>hk))|(rw [add_block];exact Kd.own_blk (Kd.R_away HO_5.out (fun _ hk=>hk)))|(show (Addr.add _ _).block≠_;rw [add_block];exact Kd.own_blk (Kd.R_away HO_5.out (fun _ hk=>hk)))|(dsimp only;exact Kd.own_blk (Kd.R_away HO_5.out (fun _ hk=>hk)))) _).trans (((cF_ (p:=⟨gb691,_,none⟩) (by first|exact Kd.own_blk (Kd.R_away HO_5.out (fun _ hk=>hk))|(rw [add_block];exact Kd.own_blk (Kd.R_away HO_5.out (fun _ hk=>hk)))|(show (Addr.add _ _).block≠_;rw [add_block];exact Kd.own_blk (Kd.R_away HO_5.out (fun _ hk=>hk)))|(dsimp only;exact Kd.own_blk (Kd.R_away HO_5.out (fun _ hk=>hk)))) _).trans (((cF_ (p:=⟨gb691,_,none⟩) (by first|exact Kd.own_blk (Kd.R_away HO_5.out (fun _ hk=>hk))|(rw [add_block];exact Kd.own_blk (Kd.R_away HO_5.out (fun _ hk=>hk)))|(show (Addr.add _ _).block≠_;rw [add_block];exact Kd.own_blk (Kd.R_away HO_5.out (fun _ hk=>hk)))|(dsimp only;exact Kd.own_blk (Kd.R_away HO_5.out (fun _ hk=>hk)))) _).trans (((cF_ (p:=⟨gb691,_,none⟩) (by first|exact Kd.own_blk (Kd.R_away HO_5.out (fun _ hk=>hk))|(rw [add_block];exact Kd.own_blk (Kd.R_away HO_5.out (fun _ hk=>hk)))|(show (Addr.add _ _).block≠_;rw [add_block];exact Kd.own_blk (Kd.R_away HO_5.out (fun _ hk=>hk)))|(dsimp only;exact Kd.own_blk (Kd.R_away HO_5.out (fun _ hk=>hk)))) _).trans (((cF_ (p:=⟨gb691,_,none⟩) (by first|exact Kd.own_blk (Kd.R_away HO_5.out (fun _ hk=>hk))|(rw [add_block];exact Kd.own_blk (Kd.R_away HO_5.out (fun _ hk=>hk)))|(show (Addr.add _ _).block≠_;rw [add_block];exact Kd.own_blk (Kd.R_away HO_5.out (fun _ hk=>hk)))|(dsimp only;exact Kd.own_blk (Kd.R_away HO_5.out (fun _ hk=>hk)))) _).trans (((cF_ (p:=⟨gb691,_,none⟩) (by first|exact Kd.own_blk (Kd.R_away HO_5.out (fun _ hk=>hk))|(rw [add_block];exact Kd.own_blk (Kd.R_away HO_5.out (fun _ hk=>hk)))|(show (Addr.add _ _).block≠_;rw [add_block];exact Kd.own_blk (Kd.R_away HO_5.out (fun _ hk=>hk)))|(dsimp only;exact Kd.own_blk (Kd.R_away HO_5.out (fun _ hk=>hk)))) _).trans (((cF_ (p:=⟨gb691,_,none⟩) (by first|exact Kd.own_blk (Kd.R_away HO_5.out (fun _ hk=>hk))|(rw [add_block];exact Kd.own_blk (Kd.R_away HO_5.out (fun _ hk=>hk)))|(show (Addr.add _ _).block≠_;rw [add_block];exact Kd.own_blk (Kd.R_away HO_5.out (fun _ hk=>hk)))|(dsimp only;exact Kd.own_blk (Kd.R_away HO_5.out (fun _ hk=>hk)))) _).trans (hHeld.2.2.2.2.2.2))))))))))))))⟩ (fun hHeld=>?_)
      clear hK K
      refine done_ (done_of HT_.out (by kernel_rfl)) ?_
      try go_wp2
      refine bodyPost_ret (results_tc rfl _ _ gb691 44 #[.int .i64 ((rd_T44 t695 t701).f0),.int .i64 ((rd_T44 t695 t701).f1),.int .i64 ((rd_T44 t695 t701).f2.f0),.int .i64 ((rd_T44 t695 t701).f2.f1),.int .i64 ((rd_T44 t695 t701).f2.f2),.int .i64 ((rd_T44 t695 t701).f2.f3),.string ((rd_T44 t695 t701).f2.f4)] (0,0) _ rfl (by (with_reducible repeat (first|refine bN_ ?_ _|refine bD_ ?_|refine bA_ ?_ _));refine blk_put (cs:=#[.int .i64 ((rd_T44 t695 t701).f0),.int .i64 ((rd_T44 t695 t701).f1),.int .i64 ((rd_T44 t695 t701).f2.f0),.int .i64 ((rd_T44 t695 t701).f2.f1),.int .i64 ((rd_T44 t695 t701).f2.f2),.int .i64 ((rd_T44 t695 t701).f2.f3),.string (⟨#[]⟩:ByteArray)]) ?_ 6 _ rfl;(with_reducible repeat (first|refine bN_ ?_ _|refine bD_ ?_|refine bA_ ?_ _));refine blk_put (cs:=#[.int .i64 ((rd_T44 t695 t701).f0),.int .i64 ((rd_T44 t695 t701).f1),.int .i64 ((rd_T44 t695 t701).f2.f0),.int .i64 ((rd_T44 t695 t701).f2.f1),.int .i64 ((rd_T44 t695 t701).f2.f2),.int .i64 0,.string (⟨#[]⟩:ByteArray)]) ?_ 5 _ rfl;(with_reducible repeat (first|refine bN_ ?_ _|refine bD_ ?_|refine bA_ ?_ _));refine blk_put (cs:=#[.int .i64 ((rd_T44 t695 t701).f0),.int .i64 ((rd_T44 t695 t701).f1),.int .i64 ((rd_T44 t695 t701).f2.f0),.int .i64 ((rd_T44 t695 t701).f2.f1),.int .i64 0,.int .i64 0,.string (⟨#[]⟩:ByteArray)]) ?_ 4 _ rfl;(with_reducible repeat (first|refine bN_ ?_ _|refine bD_ ?_|refine bA_ ?_ _));refine blk_put (cs:=#[.int .i64 ((rd_T44 t695 t701).f0),.int .i64 ((rd_T44 t695 t701).f1),.int .i64 ((rd_T44 t695 t701).f2.f0),.int .i64 0,.int .i64 0,.int .i64 0,.string (⟨#[]⟩:ByteArray)]) ?_ 3 _ rfl;(with_reducible repeat (first|refine bN_ ?_ _|refine bD_ ?_|refine bA_ ?_ _));refine blk_put (cs:=#[.int .i64 ((rd_T44 t695 t701).f0),.int .i64 ((rd_T44 t695 t701).f1),.int .i64 0,.int .i64 0,.int .i64 0,.int .i64 0,.string (⟨#[]⟩:ByteArray)]) ?_ 2 _ rfl;(with_reducible repeat (first|refine bN_ ?_ _|refine bD_ ?_|refine bA_ ?_ _));refine blk_put (cs:=#[.int .i64 ((rd_T44 t695 t701).f0),.int .i64 0,.int .i64 0,.int .i64 0,.int .i64 0,.int .i64 0,.string (⟨#[]⟩:ByteArray)]) ?_ 1 _ rfl;(with_reducible repeat (first|refine bN_ ?_ _|refine bD_ ?_|refine bA_ ?_ _));refine blk_put (cs:=#[.int .i64 0,.int .i64 0,.int .i64 0,.int .i64 0,.int .i64 0,.int .i64 0,.string (⟨#[]⟩:ByteArray)]) ?_ 0 _ rfl;(with_reducible repeat (first|refine bN_ ?_ _|refine bD_ ?_|refine bA_ ?_ _));exact BK691.out) Tryd.underlying44 rfl (by kernel_rfl)) rfl ?_
      exact ⟨_,fi_,by (with_reducible repeat (first|apply Kd.R_alloc|apply Kd.R_drewN|apply Kd.R_drew));exact Kd.R_mono (Kd.R_far (p:=⟨gb691,6,none⟩) (Kd.R_far (p:=⟨gb691,5,none⟩) (Kd.R_far (p:=⟨gb691,4,none⟩) (Kd.R_far (p:=⟨gb691,3,none⟩) (Kd.R_far (p:=⟨gb691,2,none⟩) (Kd.R_far (p:=⟨gb691,1,none⟩) (Kd.R_far (p:=⟨gb691,0,none⟩) (Kd.R_mono HO_5.out (fun k_ hk=>(⟨hk,hk⟩:_∧k_≠gb691))) (fun _ hk=>hk.2) (.int .i64 ((rd_T44 t695 t701).f0))) (fun _ hk=>hk.2) (.int .i64 ((rd_T44 t695 t701).f1))) (fun _ hk=>hk.2) (.int .i64 ((rd_T44 t695 t701).f2.f0))) (fun _ hk=>hk.2) (.int .i64 ((rd_T44 t695 t701).f2.f1))) (fun _ hk=>hk.2) (.int .i64 ((rd_T44 t695 t701).f2.f2))) (fun _ hk=>hk.2) (.int .i64 ((rd_T44 t695 t701).f2.f3))) (fun _ hk=>hk.2) (.string ((rd_T44 t695 t701).f2.f4))) (fun _ hk=>trivial),bel_⟩
     ·rw [if_neg c16] at H
      exact absurd H (by simp)
    ·rw [if_neg c15] at H
     exact absurd H (by simp)
   ·replace c13:=Bool.eq_false_iff.mpr c13
    subst c13
    have H1:((spec_DrawEntryOk.f kj3 l0).bind fun bt704=>((spec_l6Rd_pick.f kj3 t692 x695001_3 6).bind fun bt712=>(if bt712.1 > 0 then ((spec_l12Seq.f kj3 t695 bt704.1).bind fun t714=>(some (t695,bt704.1,wrap64 (t714+1),bt704.2.2.1,bt704.2.2.2.1,bt704.2.2.2.2.1,bt704.2.2.2.2.2.1,bt704.2.2.2.2.2.2))) else (some (t695,bt704.1,bt704.2.1,bt704.2.2.1,bt704.2.2.2.1,bt704.2.2.2.2.1,bt704.2.2.2.2.2.1,bt704.2.2.2.2.2.2)))))=some (r1,r2,r3,r4,r5,r6,r7,r8):=by rw [if_neg (show ¬ (false=true) by decide)] at H;exact H
    clear H
    have H:=H1
    clear H1
    replace H:=bs_ H
    obtain ⟨⟨t704,t705,t706,t707,t708,t709,t710⟩,A270,H⟩:=H
    try dsimp only at H
    have A27:=a_ A270
    clear A270
    replace H:=bs_ H
    obtain ⟨⟨t712,t713⟩,A280,H⟩:=H
    try dsimp only at H
    have A28:=a_ A280
    clear A280
    by_cases c29:t712 > 0
    ·rw [if_pos c29] at H
     have c29b0:decide (0 < t712)=true:=dt_ c29
     clear c29
     replace H:=bs_ H
     obtain ⟨t714,A300,H⟩:=H
     try dsimp only at H
     have A30:=a_ A300
     clear A300
     simp only [Option.some.injEq,Prod.mk.injEq] at H
     obtain ⟨rfl,rfl,rfl,rfl,rfl,rfl,rfl,rfl⟩:=H
     try go_wp2_with (first|((with_reducible refine gC_ (f:=89) rfl ?_);refine gl_ 28 Tryd.func89 #[.slice A0 l0.length c0] ?_;(with_reducible refine (spec_DrawEntryOk.calls kj3 _ _ l0 t704 t705 t706 t707 t708 t709 t710 _ ?side1 ?side2 A27.out).mono ?_);(case side1=>exact cp_ HR0.out);(case side2=>exact HC0.out);rintro e w31 ⟨rfl,hb⟩;refine ⟨_,rfl,?_⟩;replace HO_5:=a_ (Kd.R_below (rp_ HO_5.out) hb);replace HB:=a_ (bS_ (bel_) hb);replace BK691:=a_ (bb_ BK691.out hb);replace HI694:=a_ (IsS145.below (is_HI694) hb);(try clear hb))|((with_reducible refine gD_ (N:=6) rfl ?_);refine bx_ 6 (#[.int .i64 0,.int .i64 0,.int .i64 0,.int .i64 0,.int .i64 0,.int .i64 0,.string (⟨#[]⟩:ByteArray)]) 44 ?_;intro gb711 hg w32 hbox hb;have n0_:=a_ (Kd.R_below (Kd.R_elderB (rp_ HO_5.out) gb711 (Nat.le_of_eq hg.symm)) hb);have n1_:=a_ (bb_ BK691.out hb);have n2_:=a_ (IsS145.below (is_HI694) hb);have n3_:=a_ (bS_ (bel_) hb);have n4_:=a_ (hbox);have n5_:=a_ ((by rw [hg];exact (below_size (bel_)):w.heap.size≤gb711));have n6_:=a_ ((by rw [hg];exact (below_size (bel_)):w.heap.size≤gb711));have n7_:=a_ ((by rw [hg];exact Nat.ne_of_lt (blk_lt (g:=gb691) (o:=.cells #[.int .i64 0,.int .i64 0,.int .i64 0,.int .i64 0,.int .i64 0,.int .i64 0,.string (⟨#[]⟩:ByteArray)] 44 (0,0)) (bp_ BK691.out)):gb691≠gb711));have n8_:=a_ ((by rw [hg];exact Nat.ne_of_gt (blk_lt (g:=gb691) (o:=.cells #[.int .i64 0,.int .i64 0,.int .i64 0,.int .i64 0,.int .i64 0,.int .i64 0,.string (⟨#[]⟩:ByteArray)] 44 (0,0)) (bp_ BK691.out)):gb711≠gb691));have n9_:=a_ ((by rw [hg];exact Nat.ne_of_lt (IsS145.lt (show IsS145 w _ g694 t692 x695001_3 from is_HI694)):g694≠gb711));have n10_:=a_ ((by rw [hg];exact Nat.ne_of_gt (IsS145.lt (show IsS145 w _ g694 t692 x695001_3 from is_HI694)):gb711≠g694));clear HO_5;clear BK691;clear HI694;clear HB;have HO_5:=n0_;have BK691:=n1_;have HI694:=n2_;have HB:=n3_;have BK711:=n4_;have GW711:=n5_;have GE711:=n6_;have NB691_711:=n7_;have NB711_691:=n8_;have NB694_711:=n9_;have NB711_694:=n10_;clear n0_ n1_ n2_ n3_ n4_ n5_ n6_ n7_ n8_ n9_ n10_;clear hb hbox hg;have hnb33:=NB711_691.out;have hnc33:=NB691_711.out;have hnb34:=NB711_694.out;have hnc34:=NB694_711.out;have Z35_0:=cz_ BK711.out 0 (.int .i64 0);have Z35_1:=cz_ BK711.out 1 (.int .i64 0);have Z35_2:=cz_ BK711.out 2 (.int .i64 0);have Z35_3:=cz_ BK711.out 3 (.int .i64 0);have Z35_4:=cz_ BK711.out 4 (.int .i64 0);have Z35_5:=cz_ BK711.out 5 (.int .i64 0);have Z35_6:=cz_ BK711.out 6 (.string (⟨#[]⟩:ByteArray));have Y35_0:=bF_ BK711.out 0;have Y35_1:=bF_ BK711.out 1;have Y35_2:=bF_ BK711.out 2;have Y35_3:=bF_ BK711.out 3;have Y35_4:=bF_ BK711.out 4;have Y35_5:=bF_ BK711.out 5;have Y35_6:=bF_ BK711.out 6)|((with_reducible refine gC_ (f:=74) rfl ?_);refine gl_ 30 Tryd.func74 #[.pointer (some ⟨g694,0,none⟩),.int .i64 6] ?_;(with_reducible refine (spec_l6Rd_pick.calls kj3 g694 t692 x695001_3 6 t712 t713 w _ ?side1 ?side2 A28.out).mono ?_);(case side1=>exact is_HI694);(case side2=>exact bel_);rintro e w36 ⟨rfl,hi,hb,hk⟩;refine ⟨_,rfl,?_⟩;have n0_:=a_ (Kd.R_mono (Kd.R_keep (IsS145.apart (show IsS145 w _ g694 t692 x695001_3 from is_HI694) (by (with_reducible repeat (first|apply Kd.R_alloc|apply Kd.R_drewN|apply Kd.R_drew));exact (Kd.R_mono (Kd.R_far (p:=⟨gb711,6,none⟩) (Kd.R_far (p:=⟨gb711,5,none⟩) (Kd.R_far (p:=⟨gb711,4,none⟩) (Kd.R_far (p:=⟨gb711,3,none⟩) (Kd.R_far (p:=⟨gb711,2,none⟩) (Kd.R_far (p:=⟨gb711,1,none⟩) (Kd.R_far (p:=⟨gb711,0,none⟩) (Kd.R_mono HO_5.out (fun k_ hk=>(⟨hk,hk.2⟩:_∧k_≠gb711))) (fun _ hk=>hk.2) (.int .i64 t704)) (fun _ hk=>hk.2) (.int .i64 t705)) (fun _ hk=>hk.2) (.int .i64 t706)) (fun _ hk=>hk.2) (.int .i64 t707)) (fun _ hk=>hk.2) (.int .i64 t708)) (fun _ hk=>hk.2) (.int .i64 t709)) (fun _ hk=>hk.2) (.string t710)) (fun _ h_=>h_.1))) (by decide)) hk (fun _ h=>h.2)) (fun _ h=>h.1));have n1_:=a_ (KeepBut.blk hk (g':=gb691) (o:=.cells #[.int .i64 0,.int .i64 0,.int .i64 0,.int .i64 0,.int .i64 0,.int .i64 0,.string (⟨#[]⟩:ByteArray)] 44 (0,0)) (by (with_reducible repeat (first|refine bN_ ?_ _|refine bD_ ?_|refine bA_ ?_ _));refine blk_far ?_ NB691_711.out _;(with_reducible repeat (first|refine bN_ ?_ _|refine bD_ ?_|refine bA_ ?_ _));refine blk_far ?_ NB691_711.out _;(with_reducible repeat (first|refine bN_ ?_ _|refine bD_ ?_|refine bA_ ?_ _));refine blk_far ?_ NB691_711.out _;(with_reducible repeat (first|refine bN_ ?_ _|refine bD_ ?_|refine bA_ ?_ _));refine blk_far ?_ NB691_711.out _;(with_reducible repeat (first|refine bN_ ?_ _|refine bD_ ?_|refine bA_ ?_ _));refine blk_far ?_ NB691_711.out _;(with_reducible repeat (first|refine bN_ ?_ _|refine bD_ ?_|refine bA_ ?_ _));refine blk_far ?_ NB691_711.out _;(with_reducible repeat (first|refine bN_ ?_ _|refine bD_ ?_|refine bA_ ?_ _));refine blk_far ?_ NB691_711.out _;(with_reducible repeat (first|refine bN_ ?_ _|refine bD_ ?_|refine bA_ ?_ _));exact BK691.out) NB691_694.out (by simp));have n2_:=a_ (KeepBut.blk hk (g':=gb711) (o:=.cells #[.int .i64 t704,.int .i64 t705,.int .i64 t706,.int .i64 t707,.int .i64 t708,.int .i64 t709,.string t710] 44 (0,0)) (by (with_reducible repeat (first|refine bN_ ?_ _|refine bD_ ?_|refine bA_ ?_ _));refine blk_put (cs:=#[.int .i64 t704,.int .i64 t705,.int .i64 t706,.int .i64 t707,.int .i64 t708,.int .i64 t709,.string (⟨#[]⟩:ByteArray)]) ?_ 6 _ rfl;(with_reducible repeat (first|refine bN_ ?_ _|refine bD_ ?_|refine bA_ ?_ _));refine blk_put (cs:=#[.int .i64 t704,.int .i64 t705,.int .i64 t706,.int .i64 t707,.int .i64 t708,.int .i64 0,.string (⟨#[]⟩:ByteArray)]) ?_ 5 _ rfl;(with_reducible repeat (first|refine bN_ ?_ _|refine bD_ ?_|refine bA_ ?_ _));refine blk_put (cs:=#[.int .i64 t704,.int .i64 t705,.int .i64 t706,.int .i64 t707,.int .i64 0,.int .i64 0,.string (⟨#[]⟩:ByteArray)]) ?_ 4 _ rfl;(with_reducible repeat (first|refine bN_ ?_ _|refine bD_ ?_|refine bA_ ?_ _));refine blk_put (cs:=#[.int .i64 t704,.int .i64 t705,.int .i64 t706,.int .i64 0,.int .i64 0,.int .i64 0,.string (⟨#[]⟩:ByteArray)]) ?_ 3 _ rfl;(with_reducible repeat (first|refine bN_ ?_ _|refine bD_ ?_|refine bA_ ?_ _));refine blk_put (cs:=#[.int .i64 t704,.int .i64 t705,.int .i64 0,.int .i64 0,.int .i64 0,.int .i64 0,.string (⟨#[]⟩:ByteArray)]) ?_ 2 _ rfl;(with_reducible repeat (first|refine bN_ ?_ _|refine bD_ ?_|refine bA_ ?_ _));refine blk_put (cs:=#[.int .i64 t704,.int .i64 0,.int .i64 0,.int .i64 0,.int .i64 0,.int .i64 0,.string (⟨#[]⟩:ByteArray)]) ?_ 1 _ rfl;(with_reducible repeat (first|refine bN_ ?_ _|refine bD_ ?_|refine bA_ ?_ _));refine blk_put (cs:=#[.int .i64 0,.int .i64 0,.int .i64 0,.int .i64 0,.int .i64 0,.int .i64 0,.string (⟨#[]⟩:ByteArray)]) ?_ 0 _ rfl;(with_reducible repeat (first|refine bN_ ?_ _|refine bD_ ?_|refine bA_ ?_ _));exact BK711.out) NB711_694.out (by simp));have n3_:=a_ (hb);have n4_:=a_ (hi);clear HO_5;clear BK691;clear BK711;clear HB;clear HI694;have HO_5:=n0_;have BK691:=n1_;have BK711:=n2_;have HB:=n3_;have HI694:=n4_;clear n0_ n1_ n2_ n3_ n4_;(try clear hb hk hi);have Z37_0:=cz_ BK711.out 0 (.int .i64 t704);have Z37_1:=cz_ BK711.out 1 (.int .i64 t705);have Z37_2:=cz_ BK711.out 2 (.int .i64 t706);have Z37_3:=cz_ BK711.out 3 (.int .i64 t707);have Z37_4:=cz_ BK711.out 4 (.int .i64 t708);have Z37_5:=cz_ BK711.out 5 (.int .i64 t709);have Z37_6:=cz_ BK711.out 6 (.string t710);have Y37_0:=bF_ BK711.out 0;have Y37_1:=bF_ BK711.out 1;have Y37_2:=bF_ BK711.out 2;have Y37_3:=bF_ BK711.out 3;have Y37_4:=bF_ BK711.out 4;have Y37_5:=bF_ BK711.out 5;have Y37_6:=bF_ BK711.out 6;obtain ⟨Ao38,co38,eo38⟩:=Kd.R_slice HO_5.out;subst eo38)|((with_reducible refine gC_ (f:=90) rfl ?_);refine gl_ 35 Tryd.func90 #[.slice Ao38 t695.length co38,.int .i64 t704] ?_;(with_reducible refine (spec_l12Seq.calls kj3 _ _ t695 t704 t714 _ ?side1 ?side2 A30.out).mono ?_);(case side1=>exact cx_ (Kd.R_reads' HO_5.out).2.2);(case side2=>exact (Kd.R_reads' HO_5.out).2.1);rintro e w' ⟨rfl,⟨nd,rfl⟩⟩;refine ⟨_,rfl,?_⟩;(try (rw [drewN_self w36];generalize hq_:World.drewN w36 _=w36;have n0_:Aside0 (Kd.R k44 44 w36 w.heap.size (fun k_=>k_≠gb691∧k_≠gb711) (.slice Ao38 t695.length co38) t695):=⟨by rw [←hq_];exact (rp_ HO_5.out)⟩;have n1_:Aside0 (w36.heap[gb691]?=some (.cells #[.int .i64 0,.int .i64 0,.int .i64 0,.int .i64 0,.int .i64 0,.int .i64 0,.string (⟨#[]⟩:ByteArray)] 44 (0,0))):=⟨by rw [←hq_];exact (bp_ BK691.out)⟩;have n2_:Aside0 (w36.heap[gb711]?=some (.cells #[.int .i64 t704,.int .i64 t705,.int .i64 t706,.int .i64 t707,.int .i64 t708,.int .i64 t709,.string t710] 44 (0,0))):=⟨by rw [←hq_];exact (bp_ BK711.out)⟩;have n3_:Aside0 (IsS145 w w36 g694 t692 t713):=⟨by rw [←hq_];exact (is_HI694)⟩;have n4_:Aside0 (Below w.heap.size w w36):=⟨by rw [←hq_];exact (bel_)⟩;clear HO_5 BK691 BK711 HI694 HB hq_;have HO_5:=n0_;have BK691:=n1_;have BK711:=n2_;have HI694:=n3_;have HB:=n4_;clear n0_ n1_ n2_ n3_ n4_;have Zy691_0:=cz_ BK691.out 0 (.int .i64 0);have Zy691_1:=cz_ BK691.out 1 (.int .i64 0);have Zy691_2:=cz_ BK691.out 2 (.int .i64 0);have Zy691_3:=cz_ BK691.out 3 (.int .i64 0);have Zy691_4:=cz_ BK691.out 4 (.int .i64 0);have Zy691_5:=cz_ BK691.out 5 (.int .i64 0);have Zy691_6:=cz_ BK691.out 6 (.string (⟨#[]⟩:ByteArray));have Yy691_0:=bF_ BK691.out 0;have Yy691_1:=bF_ BK691.out 1;have Yy691_2:=bF_ BK691.out 2;have Yy691_3:=bF_ BK691.out 3;have Yy691_4:=bF_ BK691.out 4;have Yy691_5:=bF_ BK691.out 5;have Yy691_6:=bF_ BK691.out 6;have Zy711_0:=cz_ BK711.out 0 (.int .i64 t704);have Zy711_1:=cz_ BK711.out 1 (.int .i64 t705);have Zy711_2:=cz_ BK711.out 2 (.int .i64 t706);have Zy711_3:=cz_ BK711.out 3 (.int .i64 t707);have Zy711_4:=cz_ BK711.out 4 (.int .i64 t708);have Zy711_5:=cz_ BK711.out 5 (.int .i64 t709);have Zy711_6:=cz_ BK711.out 6 (.string t710);have Yy711_0:=bF_ BK711.out 0;have Yy711_1:=bF_ BK711.out 1;have Yy711_2:=bF_ BK711.out 2;have Yy711_3:=bF_ BK711.out 3;have Yy711_4:=bF_ BK711.out 4;have Yy711_5:=bF_ BK711.out 5;have Yy711_6:=bF_ BK711.out 6))))
     have n0_:Aside0 (Kd.R k44 44 (w36.setCell ⟨gb711,1,none⟩ (.int .i64 (wrap64 (t714+1)))) w.heap.size (fun k_=>k_≠gb691∧k_≠gb711) (.slice Ao38 t695.length co38) t695):=⟨by (with_reducible repeat (first|apply Kd.R_alloc|apply Kd.R_drewN|apply Kd.R_drew));exact Kd.R_mono (Kd.R_far (p:=⟨gb711,1,none⟩) (Kd.R_mono HO_5.out (fun k_ hk=>(⟨hk,hk.2⟩:_∧k_≠gb711))) (fun _ hk=>hk.2) (.int .i64 (wrap64 (t714+1)))) (fun _ hk=>⟨hk.1.1,hk.1.2⟩)⟩
     have n1_:Aside0 ((w36.setCell ⟨gb711,1,none⟩ (.int .i64 (wrap64 (t714+1)))).heap[gb691]?=some (.cells #[.int .i64 0,.int .i64 0,.int .i64 0,.int .i64 0,.int .i64 0,.int .i64 0,.string (⟨#[]⟩:ByteArray)] 44 (0,0))):=⟨by (with_reducible repeat (first|refine bN_ ?_ _|refine bD_ ?_|refine bA_ ?_ _));refine blk_far ?_ NB691_711.out _;(with_reducible repeat (first|refine bN_ ?_ _|refine bD_ ?_|refine bA_ ?_ _));exact BK691.out⟩
     have n2_:Aside0 ((w36.setCell ⟨gb711,1,none⟩ (.int .i64 (wrap64 (t714+1)))).heap[gb711]?=some (.cells #[.int .i64 t704,.int .i64 (wrap64 (t714+1)),.int .i64 t706,.int .i64 t707,.int .i64 t708,.int .i64 t709,.string t710] 44 (0,0))):=⟨by (with_reducible repeat (first|refine bN_ ?_ _|refine bD_ ?_|refine bA_ ?_ _));refine blk_put (cs:=#[.int .i64 t704,.int .i64 t705,.int .i64 t706,.int .i64 t707,.int .i64 t708,.int .i64 t709,.string t710]) ?_ 1 _ rfl;(with_reducible repeat (first|refine bN_ ?_ _|refine bD_ ?_|refine bA_ ?_ _));exact BK711.out⟩
     have n3_:Aside0 (IsS145 w (w36.setCell ⟨gb711,1,none⟩ (.int .i64 (wrap64 (t714+1)))) g694 t692 t713):=⟨is_HI694⟩
     have n4_:Aside0 (Below w.heap.size w (w36.setCell ⟨gb711,1,none⟩ (.int .i64 (wrap64 (t714+1))))):=⟨bel_⟩
     (try clear HO_5)
     (try clear BK691)
     (try clear BK711)
     (try clear HI694)
     (try clear HB)
     generalize (w36.setCell ⟨gb711,1,none⟩ (.int .i64 (wrap64 (t714+1))))=w39 at n0_ n1_ n2_ n3_ n4_ ⊢
     have HO_5:=n0_
     have BK691:=n1_
     have BK711:=n2_
     have HI694:=n3_
     have HB:=n4_
     clear n0_ n1_ n2_ n3_ n4_
     have n0_:=a_ (Kd.R_drew HO_5.out)
     have n1_:=a_ (bD_ BK691.out)
     have n2_:=a_ (bD_ BK711.out)
     have n3_:=a_ (IsS145.drew HI694.out)
     have n4_:=a_ (below_drew1 HB.out)
     clear HO_5
     clear BK691
     clear BK711
     clear HI694
     clear HB
     have HO_5:=n0_
     have BK691:=n1_
     have BK711:=n2_
     have HI694:=n3_
     have HB:=n4_
     clear n0_ n1_ n2_ n3_ n4_
     refine start_ (n:=4) (S:=fun w'=>w'.cell? ⟨gb711,0,none⟩=some (.int .i64 t704)∧w'.cell? ⟨gb711,1,none⟩=some (.int .i64 (wrap64 (t714+1)))∧w'.cell? ⟨gb711,2,none⟩=some (.int .i64 t706)∧w'.cell? ⟨gb711,3,none⟩=some (.int .i64 t707)∧w'.cell? ⟨gb711,4,none⟩=some (.int .i64 t708)∧w'.cell? ⟨gb711,5,none⟩=some (.int .i64 t709)∧w'.cell? ⟨gb711,6,none⟩=some (.string t710)) (ds:=[]) #[false,false,false,false] (by kernel_rfl) rfl rfl ⟨(bC_ BK711.out 0).trans rfl,(bC_ BK711.out 1).trans rfl,(bC_ BK711.out 2).trans rfl,(bC_ BK711.out 3).trans rfl,(bC_ BK711.out 4).trans rfl,(bC_ BK711.out 5).trans rfl,(bC_ BK711.out 6).trans rfl⟩ (fun hHeld=>?_)
     generalize w39.drew=w40 at HO_5 BK691 BK711 HI694 HB hHeld ⊢
     refine pure_ (i:=0) (N:=some 38) (v:=?_) (a':=?_) #[true,false,false,false] rfl rfl (by kernel_rfl) (fun _ _ _ h=>h) (Or.inl ⟨by rfl,?_⟩) ?_ ?_
     rotate_left
     ·intro w'
      go_simp
      with_reducible rfl
     rotate_left
     ·simp only [Act.put,List.setIfInBounds_toArray,List.set_cons_zero,List.set_cons_succ,i64_w,i32_w]
      rfl
     refine pure_ (i:=2) (N:=some 2) (v:=?_) (a':=?_) #[true,false,true,false] rfl rfl (by kernel_rfl) (fun _ _ _ h=>h) (Or.inl ⟨by rfl,?_⟩) ?_ ?_
     rotate_left
     ·intro w'
      go_simp
      with_reducible rfl
     rotate_left
     ·simp only [Act.put,List.setIfInBounds_toArray,List.set_cons_zero,List.set_cons_succ,i64_w,i32_w]
      rfl
     refine take_ (i:=1) (N:=some 39) (v:=?_) (a':=?_) #[true,true,true,false] rfl rfl (by kernel_rfl) (fun _ _ _ h=>h) (Or.inl ⟨by rfl,?_⟩) hHeld ?_ ?_
     rotate_left
     ·rintro w' ⟨s0,s1,s2,s3,s4,s5,s6⟩
      go_simp
      with_reducible rfl
     rotate_left
     ·simp only [Act.put,List.setIfInBounds_toArray,List.set_cons_zero,List.set_cons_succ,i64_w,i32_w]
      rfl
     refine one_ (i:=3) (N:=none) #[true,true,true,true] rfl rfl (by kernel_rfl) (by decide) (fun K hK=>?_)
     have hs41:w40.cell? ⟨gb691,0,none⟩=some (.int .i64 0):=(bC_ BK691.out 0).trans rfl
     have hfs41:=bF_ BK691.out 0
     have hns41_1:=NB711_691.out
     have hms41_1:=NB691_711.out
     have hs42:w40.cell? ⟨gb691,1,none⟩=some (.int .i64 0):=(bC_ BK691.out 1).trans rfl
     have hfs42:=bF_ BK691.out 1
     have hns42_1:=NB711_691.out
     have hms42_1:=NB691_711.out
     have hs43:w40.cell? ⟨gb691,2,none⟩=some (.int .i64 0):=(bC_ BK691.out 2).trans rfl
     have hfs43:=bF_ BK691.out 2
     have hns43_1:=NB711_691.out
     have hms43_1:=NB691_711.out
     have hs44:w40.cell? ⟨gb691,3,none⟩=some (.int .i64 0):=(bC_ BK691.out 3).trans rfl
     have hfs44:=bF_ BK691.out 3
     have hns44_1:=NB711_691.out
     have hms44_1:=NB691_711.out
     have hs45:w40.cell? ⟨gb691,4,none⟩=some (.int .i64 0):=(bC_ BK691.out 4).trans rfl
     have hfs45:=bF_ BK691.out 4
     have hns45_1:=NB711_691.out
     have hms45_1:=NB691_711.out
     have hs46:w40.cell? ⟨gb691,5,none⟩=some (.int .i64 0):=(bC_ BK691.out 5).trans rfl
     have hfs46:=bF_ BK691.out 5
     have hns46_1:=NB711_691.out
     have hms46_1:=NB691_711.out
     have hs47:w40.cell? ⟨gb691,6,none⟩=some (.string (⟨#[]⟩:ByteArray)):=(bC_ BK691.out 6).trans rfl
     have hfs47:=bF_ BK691.out 6
     have hns47_1:=NB711_691.out
     have hms47_1:=NB691_711.out
     refine skip_ (w1:=?_) (by rfl) rfl ?_ ?_
     rotate_left
     ·go_simp
      rfl
     refine hK.out _ _ ⟨((cF_ (p:=⟨gb691,_,none⟩) NB711_691.out _).trans (((cF_ (p:=⟨gb691,_,none⟩) NB711_691.out _).trans (((cF_ (p:=⟨gb691,_,none⟩) NB711_691.out _).trans (((cF_ (p:=⟨gb691,_,none⟩) NB711_691.out _).trans (((cF_ (p:=⟨gb691,_,none⟩) NB711_691.out _).trans (((cF_ (p:=⟨gb691,_,none⟩) NB711_691.out _).trans (((cF_ (p:=⟨gb691,_,none⟩) NB711_691.out _).trans (hHeld.1)))))))))))))),((cF_ (p:=⟨gb691,_,none⟩) NB711_691.out _).trans (((cF_ (p:=⟨gb691,_,none⟩) NB711_691.out _).trans (((cF_ (p:=⟨gb691,_,none⟩) NB711_691.out _).trans (((cF_ (p:=⟨gb691,_,none⟩) NB711_691.out _).trans (((cF_ (p:=⟨gb691,_,none⟩) NB711_691.out _).trans (((cF_ (p:=⟨gb691,_,none⟩) NB711_691.out _).trans (((cF_ (p:=⟨gb691,_,none⟩) NB711_691.out _).trans (hHeld.2.1)))))))))))))),((cF_ (p:=⟨gb691,_,none⟩) NB711_691.out _).trans (((cF_ (p:=⟨gb691,_,none⟩) NB711_691.out _).trans (((cF_ (p:=⟨gb691,_,none⟩) NB711_691.out _).trans (((cF_ (p:=⟨gb691,_,none⟩) NB711_691.out _).trans (((cF_ (p:=⟨gb691,_,none⟩) NB711_691.out _).trans (((cF_ (p:=⟨gb691,_,none⟩) NB711_691.out _).trans (((cF_ (p:=⟨gb691,_,none⟩) NB711_691.out _).trans (hHeld.2.2.1)))))))))))))),((cF_ (p:=⟨gb691,_,none⟩) NB711_691.out _).trans (((cF_ (p:=⟨gb691,_,none⟩) NB711_691.out _).trans (((cF_ (p:=⟨gb691,_,none⟩) NB711_691.out _).trans (((cF_ (p:=⟨gb691,_,none⟩) NB711_691.out _).trans (((cF_ (p:=⟨gb691,_,none⟩) NB711_691.out _).trans (((cF_ (p:=⟨gb691,_,none⟩) NB711_691.out _).trans (((cF_ (p:=⟨gb691,_,none⟩) NB711_691.out _).trans (hHeld.2.2.2.1)))))))))))))),((cF_ (p:=⟨gb691,_,none⟩) NB711_691.out _).trans (((cF_ (p:=⟨gb691,_,none⟩) NB711_691.out _).trans (((cF_ (p:=⟨gb691,_,none⟩) NB711_691.out _).trans (((cF_ (p:=⟨gb691,_,none⟩) NB711_691.out _).trans (((cF_ (p:=⟨gb691,_,none⟩) NB711_691.out _).trans (((cF_ (p:=⟨gb691,_,none⟩) NB711_691.out _).trans (((cF_ (p:=⟨gb691,_,none⟩) NB711_691.out _).trans (hHeld.2.2.2.2.1)))))))))))))),((cF_ (p:=⟨gb691,_,none⟩) NB711_691.out _).trans (((cF_ (p:=⟨gb691,_,none⟩) NB711_691.out _).trans (((cF_ (p:=⟨gb691,_,none⟩) NB711_691.out _).trans (((cF_ (p:=⟨gb691,_,none⟩) NB711_691.out _).trans (((cF_ (p:=⟨gb691,_,none⟩) NB711_691.out _).trans (((cF_ (p:=⟨gb691,_,none⟩) NB711_691.out _).trans (((cF_ (p:=⟨gb691,_,none⟩) NB711_691.out _).trans (hHeld.2.2.2.2.2.1)))))))))))))),((cF_ (p:=⟨gb691,_,none⟩) NB711_691.out _).trans (((cF_ (p:=⟨gb691,_,none⟩) NB711_691.out _).trans (((cF_ (p:=⟨gb691,_,none⟩) NB711_691.out _).trans (((cF_ (p:=⟨gb691,_,none⟩) NB711_691.out _).trans (((cF_ (p:=⟨gb691,_,none⟩) NB711_691.out _).trans (((cF_ (p:=⟨gb691,_,none⟩) NB711_691.out _).trans (((cF_ (p:=⟨gb691,_,none⟩) NB711_691.out _).trans (hHeld.2.2.2.2.2.2))))))))))))))⟩ (fun hHeld=>?_)
     clear hK K
     refine done_ (by kernel_rfl) ?_
     try go_wp2
     refine bodyPost_ret (results_tc rfl _ _ gb691 44 #[.int .i64 t704,.int .i64 (wrap64 (t714+1)),.int .i64 t706,.int .i64 t707,.int .i64 t708,.int .i64 t709,.string t710] (0,0) _ rfl (by (with_reducible repeat (first|refine bN_ ?_ _|refine bD_ ?_|refine bA_ ?_ _));refine blk_put (cs:=#[.int .i64 t704,.int .i64 (wrap64 (t714+1)),.int .i64 t706,.int .i64 t707,.int .i64 t708,.int .i64 t709,.string (⟨#[]⟩:ByteArray)]) ?_ 6 _ rfl;(with_reducible repeat (first|refine bN_ ?_ _|refine bD_ ?_|refine bA_ ?_ _));refine blk_put (cs:=#[.int .i64 t704,.int .i64 (wrap64 (t714+1)),.int .i64 t706,.int .i64 t707,.int .i64 t708,.int .i64 0,.string (⟨#[]⟩:ByteArray)]) ?_ 5 _ rfl;(with_reducible repeat (first|refine bN_ ?_ _|refine bD_ ?_|refine bA_ ?_ _));refine blk_put (cs:=#[.int .i64 t704,.int .i64 (wrap64 (t714+1)),.int .i64 t706,.int .i64 t707,.int .i64 0,.int .i64 0,.string (⟨#[]⟩:ByteArray)]) ?_ 4 _ rfl;(with_reducible repeat (first|refine bN_ ?_ _|refine bD_ ?_|refine bA_ ?_ _));refine blk_put (cs:=#[.int .i64 t704,.int .i64 (wrap64 (t714+1)),.int .i64 t706,.int .i64 0,.int .i64 0,.int .i64 0,.string (⟨#[]⟩:ByteArray)]) ?_ 3 _ rfl;(with_reducible repeat (first|refine bN_ ?_ _|refine bD_ ?_|refine bA_ ?_ _));refine blk_put (cs:=#[.int .i64 t704,.int .i64 (wrap64 (t714+1)),.int .i64 0,.int .i64 0,.int .i64 0,.int .i64 0,.string (⟨#[]⟩:ByteArray)]) ?_ 2 _ rfl;(with_reducible repeat (first|refine bN_ ?_ _|refine bD_ ?_|refine bA_ ?_ _));refine blk_put (cs:=#[.int .i64 t704,.int .i64 0,.int .i64 0,.int .i64 0,.int .i64 0,.int .i64 0,.string (⟨#[]⟩:ByteArray)]) ?_ 1 _ rfl;(with_reducible repeat (first|refine bN_ ?_ _|refine bD_ ?_|refine bA_ ?_ _));refine blk_put (cs:=#[.int .i64 0,.int .i64 0,.int .i64 0,.int .i64 0,.int .i64 0,.int .i64 0,.string (⟨#[]⟩:ByteArray)]) ?_ 0 _ rfl;(with_reducible repeat (first|refine bN_ ?_ _|refine bD_ ?_|refine bA_ ?_ _));exact BK691.out) Tryd.underlying44 rfl (by kernel_rfl)) rfl ?_
     exact ⟨_,fi_,by (with_reducible repeat (first|apply Kd.R_alloc|apply Kd.R_drewN|apply Kd.R_drew));exact Kd.R_mono (Kd.R_far (p:=⟨gb691,6,none⟩) (Kd.R_far (p:=⟨gb691,5,none⟩) (Kd.R_far (p:=⟨gb691,4,none⟩) (Kd.R_far (p:=⟨gb691,3,none⟩) (Kd.R_far (p:=⟨gb691,2,none⟩) (Kd.R_far (p:=⟨gb691,1,none⟩) (Kd.R_far (p:=⟨gb691,0,none⟩) (Kd.R_mono HO_5.out (fun k_ hk=>(⟨hk,hk.1⟩:_∧k_≠gb691))) (fun _ hk=>hk.2) (.int .i64 t704)) (fun _ hk=>hk.2) (.int .i64 (wrap64 (t714+1)))) (fun _ hk=>hk.2) (.int .i64 t706)) (fun _ hk=>hk.2) (.int .i64 t707)) (fun _ hk=>hk.2) (.int .i64 t708)) (fun _ hk=>hk.2) (.int .i64 t709)) (fun _ hk=>hk.2) (.string t710)) (fun _ hk=>trivial),bel_⟩
    ·rw [if_neg c29] at H
     have c29b0:decide (0 < t712)=false:=df_ c29
     clear c29
     simp only [Option.some.injEq,Prod.mk.injEq] at H
     obtain ⟨rfl,rfl,rfl,rfl,rfl,rfl,rfl,rfl⟩:=H
     try go_wp2_with (first|((with_reducible refine gC_ (f:=89) rfl ?_);refine gl_ 28 Tryd.func89 #[.slice A0 l0.length c0] ?_;(with_reducible refine (spec_DrawEntryOk.calls kj3 _ _ l0 t704 t705 t706 t707 t708 t709 t710 _ ?side1 ?side2 A27.out).mono ?_);(case side1=>exact cp_ HR0.out);(case side2=>exact HC0.out);rintro e w48 ⟨rfl,hb⟩;refine ⟨_,rfl,?_⟩;replace HO_5:=a_ (Kd.R_below (rp_ HO_5.out) hb);replace HB:=a_ (bS_ (bel_) hb);replace BK691:=a_ (bb_ BK691.out hb);replace HI694:=a_ (IsS145.below (is_HI694) hb);(try clear hb))|((with_reducible refine gD_ (N:=6) rfl ?_);refine bx_ 6 (#[.int .i64 0,.int .i64 0,.int .i64 0,.int .i64 0,.int .i64 0,.int .i64 0,.string (⟨#[]⟩:ByteArray)]) 44 ?_;intro gb711 hg w49 hbox hb;have n0_:=a_ (Kd.R_below (Kd.R_elderB (rp_ HO_5.out) gb711 (Nat.le_of_eq hg.symm)) hb);have n1_:=a_ (bb_ BK691.out hb);have n2_:=a_ (IsS145.below (is_HI694) hb);have n3_:=a_ (bS_ (bel_) hb);have n4_:=a_ (hbox);have n5_:=a_ ((by rw [hg];exact (below_size (bel_)):w.heap.size≤gb711));have n6_:=a_ ((by rw [hg];exact (below_size (bel_)):w.heap.size≤gb711));have n7_:=a_ ((by rw [hg];exact Nat.ne_of_lt (blk_lt (g:=gb691) (o:=.cells #[.int .i64 0,.int .i64 0,.int .i64 0,.int .i64 0,.int .i64 0,.int .i64 0,.string (⟨#[]⟩:ByteArray)] 44 (0,0)) (bp_ BK691.out)):gb691≠gb711));have n8_:=a_ ((by rw [hg];exact Nat.ne_of_gt (blk_lt (g:=gb691) (o:=.cells #[.int .i64 0,.int .i64 0,.int .i64 0,.int .i64 0,.int .i64 0,.int .i64 0,.string (⟨#[]⟩:ByteArray)] 44 (0,0)) (bp_ BK691.out)):gb711≠gb691));have n9_:=a_ ((by rw [hg];exact Nat.ne_of_lt (IsS145.lt (show IsS145 w _ g694 t692 x695001_3 from is_HI694)):g694≠gb711));have n10_:=a_ ((by rw [hg];exact Nat.ne_of_gt (IsS145.lt (show IsS145 w _ g694 t692 x695001_3 from is_HI694)):gb711≠g694));clear HO_5;clear BK691;clear HI694;clear HB;have HO_5:=n0_;have BK691:=n1_;have HI694:=n2_;have HB:=n3_;have BK711:=n4_;have GW711:=n5_;have GE711:=n6_;have NB691_711:=n7_;have NB711_691:=n8_;have NB694_711:=n9_;have NB711_694:=n10_;clear n0_ n1_ n2_ n3_ n4_ n5_ n6_ n7_ n8_ n9_ n10_;clear hb hbox hg;have hnb50:=NB711_691.out;have hnc50:=NB691_711.out;have hnb51:=NB711_694.out;have hnc51:=NB694_711.out;have Z52_0:=cz_ BK711.out 0 (.int .i64 0);have Z52_1:=cz_ BK711.out 1 (.int .i64 0);have Z52_2:=cz_ BK711.out 2 (.int .i64 0);have Z52_3:=cz_ BK711.out 3 (.int .i64 0);have Z52_4:=cz_ BK711.out 4 (.int .i64 0);have Z52_5:=cz_ BK711.out 5 (.int .i64 0);have Z52_6:=cz_ BK711.out 6 (.string (⟨#[]⟩:ByteArray));have Y52_0:=bF_ BK711.out 0;have Y52_1:=bF_ BK711.out 1;have Y52_2:=bF_ BK711.out 2;have Y52_3:=bF_ BK711.out 3;have Y52_4:=bF_ BK711.out 4;have Y52_5:=bF_ BK711.out 5;have Y52_6:=bF_ BK711.out 6)|((with_reducible refine gC_ (f:=74) rfl ?_);refine gl_ 30 Tryd.func74 #[.pointer (some ⟨g694,0,none⟩),.int .i64 6] ?_;(with_reducible refine (spec_l6Rd_pick.calls kj3 g694 t692 x695001_3 6 t712 t713 w _ ?side1 ?side2 A28.out).mono ?_);(case side1=>exact is_HI694);(case side2=>exact bel_);rintro e w53 ⟨rfl,hi,hb,hk⟩;refine ⟨_,rfl,?_⟩;have n0_:=a_ (Kd.R_mono (Kd.R_keep (IsS145.apart (show IsS145 w _ g694 t692 x695001_3 from is_HI694) (by (with_reducible repeat (first|apply Kd.R_alloc|apply Kd.R_drewN|apply Kd.R_drew));exact (Kd.R_mono (Kd.R_far (p:=⟨gb711,6,none⟩) (Kd.R_far (p:=⟨gb711,5,none⟩) (Kd.R_far (p:=⟨gb711,4,none⟩) (Kd.R_far (p:=⟨gb711,3,none⟩) (Kd.R_far (p:=⟨gb711,2,none⟩) (Kd.R_far (p:=⟨gb711,1,none⟩) (Kd.R_far (p:=⟨gb711,0,none⟩) (Kd.R_mono HO_5.out (fun k_ hk=>(⟨hk,hk.2⟩:_∧k_≠gb711))) (fun _ hk=>hk.2) (.int .i64 t704)) (fun _ hk=>hk.2) (.int .i64 t705)) (fun _ hk=>hk.2) (.int .i64 t706)) (fun _ hk=>hk.2) (.int .i64 t707)) (fun _ hk=>hk.2) (.int .i64 t708)) (fun _ hk=>hk.2) (.int .i64 t709)) (fun _ hk=>hk.2) (.string t710)) (fun _ h_=>h_.1))) (by decide)) hk (fun _ h=>h.2)) (fun _ h=>h.1));have n1_:=a_ (KeepBut.blk hk (g':=gb691) (o:=.cells #[.int .i64 0,.int .i64 0,.int .i64 0,.int .i64 0,.int .i64 0,.int .i64 0,.string (⟨#[]⟩:ByteArray)] 44 (0,0)) (by (with_reducible repeat (first|refine bN_ ?_ _|refine bD_ ?_|refine bA_ ?_ _));refine blk_far ?_ NB691_711.out _;(with_reducible repeat (first|refine bN_ ?_ _|refine bD_ ?_|refine bA_ ?_ _));refine blk_far ?_ NB691_711.out _;(with_reducible repeat (first|refine bN_ ?_ _|refine bD_ ?_|refine bA_ ?_ _));refine blk_far ?_ NB691_711.out _;(with_reducible repeat (first|refine bN_ ?_ _|refine bD_ ?_|refine bA_ ?_ _));refine blk_far ?_ NB691_711.out _;(with_reducible repeat (first|refine bN_ ?_ _|refine bD_ ?_|refine bA_ ?_ _));refine blk_far ?_ NB691_711.out _;(with_reducible repeat (first|refine bN_ ?_ _|refine bD_ ?_|refine bA_ ?_ _));refine blk_far ?_ NB691_711.out _;(with_reducible repeat (first|refine bN_ ?_ _|refine bD_ ?_|refine bA_ ?_ _));refine blk_far ?_ NB691_711.out _;(with_reducible repeat (first|refine bN_ ?_ _|refine bD_ ?_|refine bA_ ?_ _));exact BK691.out) NB691_694.out (by simp));have n2_:=a_ (KeepBut.blk hk (g':=gb711) (o:=.cells #[.int .i64 t704,.int .i64 t705,.int .i64 t706,.int .i64 t707,.int .i64 t708,.int .i64 t709,.string t710] 44 (0,0)) (by (with_reducible repeat (first|refine bN_ ?_ _|refine bD_ ?_|refine bA_ ?_ _));refine blk_put (cs:=#[.int .i64 t704,.int .i64 t705,.int .i64 t706,.int .i64 t707,.int .i64 t708,.int .i64 t709,.string (⟨#[]⟩:ByteArray)]) ?_ 6 _ rfl;(with_reducible repeat (first|refine bN_ ?_ _|refine bD_ ?_|refine bA_ ?_ _));refine blk_put (cs:=#[.int .i64 t704,.int .i64 t705,.int .i64 t706,.int .i64 t707,.int .i64 t708,.int .i64 0,.string (⟨#[]⟩:ByteArray)]) ?_ 5 _ rfl;(with_reducible repeat (first|refine bN_ ?_ _|refine bD_ ?_|refine bA_ ?_ _));refine blk_put (cs:=#[.int .i64 t704,.int .i64 t705,.int .i64 t706,.int .i64 t707,.int .i64 0,.int .i64 0,.string (⟨#[]⟩:ByteArray)]) ?_ 4 _ rfl;(with_reducible repeat (first|refine bN_ ?_ _|refine bD_ ?_|refine bA_ ?_ _));refine blk_put (cs:=#[.int .i64 t704,.int .i64 t705,.int .i64 t706,.int .i64 0,.int .i64 0,.int .i64 0,.string (⟨#[]⟩:ByteArray)]) ?_ 3 _ rfl;(with_reducible repeat (first|refine bN_ ?_ _|refine bD_ ?_|refine bA_ ?_ _));refine blk_put (cs:=#[.int .i64 t704,.int .i64 t705,.int .i64 0,.int .i64 0,.int .i64 0,.int .i64 0,.string (⟨#[]⟩:ByteArray)]) ?_ 2 _ rfl;(with_reducible repeat (first|refine bN_ ?_ _|refine bD_ ?_|refine bA_ ?_ _));refine blk_put (cs:=#[.int .i64 t704,.int .i64 0,.int .i64 0,.int .i64 0,.int .i64 0,.int .i64 0,.string (⟨#[]⟩:ByteArray)]) ?_ 1 _ rfl;(with_reducible repeat (first|refine bN_ ?_ _|refine bD_ ?_|refine bA_ ?_ _));refine blk_put (cs:=#[.int .i64 0,.int .i64 0,.int .i64 0,.int .i64 0,.int .i64 0,.int .i64 0,.string (⟨#[]⟩:ByteArray)]) ?_ 0 _ rfl;(with_reducible repeat (first|refine bN_ ?_ _|refine bD_ ?_|refine bA_ ?_ _));exact BK711.out) NB711_694.out (by simp));have n3_:=a_ (hb);have n4_:=a_ (hi);clear HO_5;clear BK691;clear BK711;clear HB;clear HI694;have HO_5:=n0_;have BK691:=n1_;have BK711:=n2_;have HB:=n3_;have HI694:=n4_;clear n0_ n1_ n2_ n3_ n4_;(try clear hb hk hi)))
     have n0_:=a_ (Kd.R_drew HO_5.out)
     have n1_:=a_ (bD_ BK691.out)
     have n2_:=a_ (bD_ BK711.out)
     have n3_:=a_ (IsS145.drew HI694.out)
     have n4_:=a_ (below_drew1 HB.out)
     clear HO_5
     clear BK691
     clear BK711
     clear HI694
     clear HB
     have HO_5:=n0_
     have BK691:=n1_
     have BK711:=n2_
     have HI694:=n3_
     have HB:=n4_
     clear n0_ n1_ n2_ n3_ n4_
     refine start_ (n:=4) (S:=fun w'=>w'.cell? ⟨gb711,0,none⟩=some (.int .i64 t704)∧w'.cell? ⟨gb711,1,none⟩=some (.int .i64 t705)∧w'.cell? ⟨gb711,2,none⟩=some (.int .i64 t706)∧w'.cell? ⟨gb711,3,none⟩=some (.int .i64 t707)∧w'.cell? ⟨gb711,4,none⟩=some (.int .i64 t708)∧w'.cell? ⟨gb711,5,none⟩=some (.int .i64 t709)∧w'.cell? ⟨gb711,6,none⟩=some (.string t710)) (ds:=[]) #[false,false,false,false] (by kernel_rfl) rfl rfl ⟨(bC_ BK711.out 0).trans rfl,(bC_ BK711.out 1).trans rfl,(bC_ BK711.out 2).trans rfl,(bC_ BK711.out 3).trans rfl,(bC_ BK711.out 4).trans rfl,(bC_ BK711.out 5).trans rfl,(bC_ BK711.out 6).trans rfl⟩ (fun hHeld=>?_)
     generalize w53.drew=w54 at HO_5 BK691 BK711 HI694 HB hHeld ⊢
     refine pure_ (i:=0) (N:=some 38) (v:=?_) (a':=?_) #[true,false,false,false] rfl rfl (by kernel_rfl) (fun _ _ _ h=>h) (Or.inl ⟨by rfl,?_⟩) ?_ ?_
     rotate_left
     ·intro w'
      go_simp
      with_reducible rfl
     rotate_left
     ·simp only [Act.put,List.setIfInBounds_toArray,List.set_cons_zero,List.set_cons_succ,i64_w,i32_w]
      rfl
     refine pure_ (i:=2) (N:=some 2) (v:=?_) (a':=?_) #[true,false,true,false] rfl rfl (by kernel_rfl) (fun _ _ _ h=>h) (Or.inl ⟨by rfl,?_⟩) ?_ ?_
     rotate_left
     ·intro w'
      go_simp
      with_reducible rfl
     rotate_left
     ·simp only [Act.put,List.setIfInBounds_toArray,List.set_cons_zero,List.set_cons_succ,i64_w,i32_w]
      rfl
     refine take_ (i:=1) (N:=some 39) (v:=?_) (a':=?_) #[true,true,true,false] rfl rfl (by kernel_rfl) (fun _ _ _ h=>h) (Or.inl ⟨by rfl,?_⟩) hHeld ?_ ?_
     rotate_left
     ·rintro w' ⟨s0,s1,s2,s3,s4,s5,s6⟩
      go_simp
      with_reducible rfl
     rotate_left
     ·simp only [Act.put,List.setIfInBounds_toArray,List.set_cons_zero,List.set_cons_succ,i64_w,i32_w]
      rfl
     refine one_ (i:=3) (N:=none) #[true,true,true,true] rfl rfl (by kernel_rfl) (by decide) (fun K hK=>?_)
     have hs55:w54.cell? ⟨gb691,0,none⟩=some (.int .i64 0):=(bC_ BK691.out 0).trans rfl
     have hfs55:=bF_ BK691.out 0
     have hns55_1:=NB711_691.out
     have hms55_1:=NB691_711.out
     have hs56:w54.cell? ⟨gb691,1,none⟩=some (.int .i64 0):=(bC_ BK691.out 1).trans rfl
     have hfs56:=bF_ BK691.out 1
     have hns56_1:=NB711_691.out
     have hms56_1:=NB691_711.out
     have hs57:w54.cell? ⟨gb691,2,none⟩=some (.int .i64 0):=(bC_ BK691.out 2).trans rfl
     have hfs57:=bF_ BK691.out 2
     have hns57_1:=NB711_691.out
     have hms57_1:=NB691_711.out
     have hs58:w54.cell? ⟨gb691,3,none⟩=some (.int .i64 0):=(bC_ BK691.out 3).trans rfl
     have hfs58:=bF_ BK691.out 3
     have hns58_1:=NB711_691.out
     have hms58_1:=NB691_711.out
     have hs59:w54.cell? ⟨gb691,4,none⟩=some (.int .i64 0):=(bC_ BK691.out 4).trans rfl
     have hfs59:=bF_ BK691.out 4
     have hns59_1:=NB711_691.out
     have hms59_1:=NB691_711.out
     have hs60:w54.cell? ⟨gb691,5,none⟩=some (.int .i64 0):=(bC_ BK691.out 5).trans rfl
     have hfs60:=bF_ BK691.out 5
     have hns60_1:=NB711_691.out
     have hms60_1:=NB691_711.out
     have hs61:w54.cell? ⟨gb691,6,none⟩=some (.string (⟨#[]⟩:ByteArray)):=(bC_ BK691.out 6).trans rfl
     have hfs61:=bF_ BK691.out 6
     have hns61_1:=NB711_691.out
     have hms61_1:=NB691_711.out
     refine skip_ (w1:=?_) (by rfl) rfl ?_ ?_
     rotate_left
     ·go_simp
      rfl
     refine hK.out _ _ ⟨((cF_ (p:=⟨gb691,_,none⟩) NB711_691.out _).trans (((cF_ (p:=⟨gb691,_,none⟩) NB711_691.out _).trans (((cF_ (p:=⟨gb691,_,none⟩) NB711_691.out _).trans (((cF_ (p:=⟨gb691,_,none⟩) NB711_691.out _).trans (((cF_ (p:=⟨gb691,_,none⟩) NB711_691.out _).trans (((cF_ (p:=⟨gb691,_,none⟩) NB711_691.out _).trans (((cF_ (p:=⟨gb691,_,none⟩) NB711_691.out _).trans (hHeld.1)))))))))))))),((cF_ (p:=⟨gb691,_,none⟩) NB711_691.out _).trans (((cF_ (p:=⟨gb691,_,none⟩) NB711_691.out _).trans (((cF_ (p:=⟨gb691,_,none⟩) NB711_691.out _).trans (((cF_ (p:=⟨gb691,_,none⟩) NB711_691.out _).trans (((cF_ (p:=⟨gb691,_,none⟩) NB711_691.out _).trans (((cF_ (p:=⟨gb691,_,none⟩) NB711_691.out _).trans (((cF_ (p:=⟨gb691,_,none⟩) NB711_691.out _).trans (hHeld.2.1)))))))))))))),((cF_ (p:=⟨gb691,_,none⟩) NB711_691.out _).trans (((cF_ (p:=⟨gb691,_,none⟩) NB711_691.out _).trans (((cF_ (p:=⟨gb691,_,none⟩) NB711_691.out _).trans (((cF_ (p:=⟨gb691,_,none⟩) NB711_691.out _).trans (((cF_ (p:=⟨gb691,_,none⟩) NB711_691.out _).trans (((cF_ (p:=⟨gb691,_,none⟩) NB711_691.out _).trans (((cF_ (p:=⟨gb691,_,none⟩) NB711_691.out _).trans (hHeld.2.2.1)))))))))))))),((cF_ (p:=⟨gb691,_,none⟩) NB711_691.out _).trans (((cF_ (p:=⟨gb691,_,none⟩) NB711_691.out _).trans (((cF_ (p:=⟨gb691,_,none⟩) NB711_691.out _).trans (((cF_ (p:=⟨gb691,_,none⟩) NB711_691.out _).trans (((cF_ (p:=⟨gb691,_,none⟩) NB711_691.out _).trans (((cF_ (p:=⟨gb691,_,none⟩) NB711_691.out _).trans (((cF_ (p:=⟨gb691,_,none⟩) NB711_691.out _).trans (hHeld.2.2.2.1)))))))))))))),((cF_ (p:=⟨gb691,_,none⟩) NB711_691.out _).trans (((cF_ (p:=⟨gb691,_,none⟩) NB711_691.out _).trans (((cF_ (p:=⟨gb691,_,none⟩) NB711_691.out _).trans (((cF_ (p:=⟨gb691,_,none⟩) NB711_691.out _).trans (((cF_ (p:=⟨gb691,_,none⟩) NB711_691.out _).trans (((cF_ (p:=⟨gb691,_,none⟩) NB711_691.out _).trans (((cF_ (p:=⟨gb691,_,none⟩) NB711_691.out _).trans (hHeld.2.2.2.2.1)))))))))))))),((cF_ (p:=⟨gb691,_,none⟩) NB711_691.out _).trans (((cF_ (p:=⟨gb691,_,none⟩) NB711_691.out _).trans (((cF_ (p:=⟨gb691,_,none⟩) NB711_691.out _).trans (((cF_ (p:=⟨gb691,_,none⟩) NB711_691.out _).trans (((cF_ (p:=⟨gb691,_,none⟩) NB711_691.out _).trans (((cF_ (p:=⟨gb691,_,none⟩) NB711_691.out _).trans (((cF_ (p:=⟨gb691,_,none⟩) NB711_691.out _).trans (hHeld.2.2.2.2.2.1)))))))))))))),((cF_ (p:=⟨gb691,_,none⟩) NB711_691.out _).trans (((cF_ (p:=⟨gb691,_,none⟩) NB711_691.out _).trans (((cF_ (p:=⟨gb691,_,none⟩) NB711_691.out _).trans (((cF_ (p:=⟨gb691,_,none⟩) NB711_691.out _).trans (((cF_ (p:=⟨gb691,_,none⟩) NB711_691.out _).trans (((cF_ (p:=⟨gb691,_,none⟩) NB711_691.out _).trans (((cF_ (p:=⟨gb691,_,none⟩) NB711_691.out _).trans (hHeld.2.2.2.2.2.2))))))))))))))⟩ (fun hHeld=>?_)
     clear hK K
     refine done_ (by kernel_rfl) ?_
     try go_wp2
     refine bodyPost_ret (results_tc rfl _ _ gb691 44 #[.int .i64 t704,.int .i64 t705,.int .i64 t706,.int .i64 t707,.int .i64 t708,.int .i64 t709,.string t710] (0,0) _ rfl (by (with_reducible repeat (first|refine bN_ ?_ _|refine bD_ ?_|refine bA_ ?_ _));refine blk_put (cs:=#[.int .i64 t704,.int .i64 t705,.int .i64 t706,.int .i64 t707,.int .i64 t708,.int .i64 t709,.string (⟨#[]⟩:ByteArray)]) ?_ 6 _ rfl;(with_reducible repeat (first|refine bN_ ?_ _|refine bD_ ?_|refine bA_ ?_ _));refine blk_put (cs:=#[.int .i64 t704,.int .i64 t705,.int .i64 t706,.int .i64 t707,.int .i64 t708,.int .i64 0,.string (⟨#[]⟩:ByteArray)]) ?_ 5 _ rfl;(with_reducible repeat (first|refine bN_ ?_ _|refine bD_ ?_|refine bA_ ?_ _));refine blk_put (cs:=#[.int .i64 t704,.int .i64 t705,.int .i64 t706,.int .i64 t707,.int .i64 0,.int .i64 0,.string (⟨#[]⟩:ByteArray)]) ?_ 4 _ rfl;(with_reducible repeat (first|refine bN_ ?_ _|refine bD_ ?_|refine bA_ ?_ _));refine blk_put (cs:=#[.int .i64 t704,.int .i64 t705,.int .i64 t706,.int .i64 0,.int .i64 0,.int .i64 0,.string (⟨#[]⟩:ByteArray)]) ?_ 3 _ rfl;(with_reducible repeat (first|refine bN_ ?_ _|refine bD_ ?_|refine bA_ ?_ _));refine blk_put (cs:=#[.int .i64 t704,.int .i64 t705,.int .i64 0,.int .i64 0,.int .i64 0,.int .i64 0,.string (⟨#[]⟩:ByteArray)]) ?_ 2 _ rfl;(with_reducible repeat (first|refine bN_ ?_ _|refine bD_ ?_|refine bA_ ?_ _));refine blk_put (cs:=#[.int .i64 t704,.int .i64 0,.int .i64 0,.int .i64 0,.int .i64 0,.int .i64 0,.string (⟨#[]⟩:ByteArray)]) ?_ 1 _ rfl;(with_reducible repeat (first|refine bN_ ?_ _|refine bD_ ?_|refine bA_ ?_ _));refine blk_put (cs:=#[.int .i64 0,.int .i64 0,.int .i64 0,.int .i64 0,.int .i64 0,.int .i64 0,.string (⟨#[]⟩:ByteArray)]) ?_ 0 _ rfl;(with_reducible repeat (first|refine bN_ ?_ _|refine bD_ ?_|refine bA_ ?_ _));exact BK691.out) Tryd.underlying44 rfl (by kernel_rfl)) rfl ?_
     exact ⟨_,fi_,by (with_reducible repeat (first|apply Kd.R_alloc|apply Kd.R_drewN|apply Kd.R_drew));exact Kd.R_mono (Kd.R_far (p:=⟨gb691,6,none⟩) (Kd.R_far (p:=⟨gb691,5,none⟩) (Kd.R_far (p:=⟨gb691,4,none⟩) (Kd.R_far (p:=⟨gb691,3,none⟩) (Kd.R_far (p:=⟨gb691,2,none⟩) (Kd.R_far (p:=⟨gb691,1,none⟩) (Kd.R_far (p:=⟨gb691,0,none⟩) (Kd.R_mono HO_5.out (fun k_ hk=>(⟨hk,hk.1⟩:_∧k_≠gb691))) (fun _ hk=>hk.2) (.int .i64 t704)) (fun _ hk=>hk.2) (.int .i64 t705)) (fun _ hk=>hk.2) (.int .i64 t706)) (fun _ hk=>hk.2) (.int .i64 t707)) (fun _ hk=>hk.2) (.int .i64 t708)) (fun _ hk=>hk.2) (.int .i64 t709)) (fun _ hk=>hk.2) (.string t710)) (fun _ hk=>trivial),bel_⟩

def spec_DrawServerHear.f (k:Nat) (l0:List Int):Option ((List (S44))×Int×Bool×Int×Int×Int×Int×Int×Int×ByteArray):=(spec_l6Open.f l0).bind fun bt717=>((spec_l72Server.f k bt717.1 bt717.2).bind fun bt720=>((spec_DrawLogAdd.f k l0).bind fun bt727=>((spec_l6Rd_pick.f k bt717.1 bt720.2.2.2 3).bind fun bt738=>(if bt738.1 > 0 then ((spec_l6Rd_pick.f k bt717.1 bt738.2 (wrap64 ((bt727.1.length:Int)+1))).bind fun bt740=>(some (bt727.1,bt740.1,bt720.2.2.1,bt727.2.1,bt727.2.2.1,bt727.2.2.2.1,bt727.2.2.2.2.1,bt727.2.2.2.2.2.1,bt727.2.2.2.2.2.2.1,bt727.2.2.2.2.2.2.2))) else (some (bt720.1,bt720.2.1,bt720.2.2.1,bt727.2.1,bt727.2.2.1,bt727.2.2.2.1,bt727.2.2.2.2.1,bt727.2.2.2.2.2.1,bt727.2.2.2.2.2.2.1,bt727.2.2.2.2.2.2.2))))))
theorem spec_DrawServerHear.mono:∀ a0 k,LeO (spec_DrawServerHear.f k a0) (spec_DrawServerHear.f (k+1) a0):=by
 intro a0 k
 unfold spec_DrawServerHear.f
 repeat' first
   | (with_reducible exact spec_DrawLogAdd.mono _ _)
   | (with_reducible exact spec_l6Rd_pick.mono _ _ _ _)
   | (with_reducible exact spec_l72Server.mono _ _ _)
   | (with_reducible exact LeO.refl _)
   | (with_reducible exact LeO.none _)
   | (with_reducible refine LeO.ite ?_ ?_)
   | (with_reducible refine LeO.bind ?_ (fun _=>?_))
   | exact spec_DrawLogAdd.mono _ _
   | exact spec_l6Rd_pick.mono _ _ _ _
   | exact spec_l72Server.mono _ _ _
   | exact LeO.none _
   | refine LeO.ite ?_ ?_
   | refine LeO.bind ?_ (fun _=>?_)
end Go.Proofs.YtdpklbomhdpimaaDoor.P
