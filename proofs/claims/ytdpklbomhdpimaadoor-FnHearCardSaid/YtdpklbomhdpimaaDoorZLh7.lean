/- Joined by a program (wip/shake.py): the declarations that 'YtdpklbomhdpimaaDoorCardFnHear' reaches. -/
import Derived.Test.YtdpklbomhdpimaaDoorZLh6
set_option linter.unusedVariables false
set_option linter.unusedSimpArgs false
set_option linter.unusedSectionVars false
set_option maxHeartbeats 8000000
set_option maxRecDepth 100000
namespace Go.Proofs.YtdpklbomhdpimaaDoor.P
open Go.RowKit Go.Proofs.YtdpklbomhdpimaaDoorW.PrintWords Go.Proofs.YtdpklbomhdpimaaDoorW.PrintLast
theorem spec_DrawServerHear.calls (k:Nat) (A0:Option Addr) (c0:Nat) (l0:List Int) (r1:List (S44)) (r2:Int) (r3:Bool) (r4:Int) (r5:Int) (r6:Int) (r7:Int) (r8:Int) (r9:Int) (r10:ByteArray) (w:World) (hr0:Kd.C (Kd.int .u8) w A0 l0.length l0) (hc0:l0.length≤c0) (h:spec_DrawServerHear.f k l0=some (r1,r2,r3,r4,r5,r6,r7,r8,r9,r10)) :
  Calls Tryd.prog 28 #[.slice A0 l0.length c0] w fun e w'=>∃ v0_:Value,e=.returned (.tuple #[.agg #[v0_,.int .i64 r2,.bool r3],.agg #[.int .i64 r4,.int .i64 r5,.int .i64 r6,.int .i64 r7,.int .i64 r8,.int .i64 r9,.string r10]])∧Kd.R k44 44 w' w.heap.size (fun _=>True) v0_ r1∧Below w.heap.size w w':=by
 have hu25:=Tryd.underlying25
 have hu44:=Tryd.underlying44
 have HR0:=a_ hr0
 have HC0:=a_ hc0
 clear hr0 hc0
 have HB:=a_ (Below.refl w.heap.size w)
 have H:((spec_l6Open.f l0).bind fun bt717=>((spec_l72Server.f k bt717.1 bt717.2).bind fun bt720=>((spec_DrawLogAdd.f k l0).bind fun bt727=>((spec_l6Rd_pick.f k bt717.1 bt720.2.2.2 3).bind fun bt738=>(if bt738.1 > 0 then ((spec_l6Rd_pick.f k bt717.1 bt738.2 (wrap64 ((bt727.1.length:Int)+1))).bind fun bt740=>(some (bt727.1,bt740.1,bt720.2.2.1,bt727.2.1,bt727.2.2.1,bt727.2.2.2.1,bt727.2.2.2.2.1,bt727.2.2.2.2.2.1,bt727.2.2.2.2.2.2.1,bt727.2.2.2.2.2.2.2))) else (some (bt720.1,bt720.2.1,bt720.2.2.1,bt727.2.1,bt727.2.2.1,bt727.2.2.2.1,bt727.2.2.2.2.1,bt727.2.2.2.2.2.1,bt727.2.2.2.2.2.2.1,bt727.2.2.2.2.2.2.2)))))))=some (r1,r2,r3,r4,r5,r6,r7,r8,r9,r10):=h
 clear h
 replace H:=bs_ H
 obtain ⟨⟨t717,t718⟩,A20,H⟩:=H
 replace H:((spec_l72Server.f k t717 t718).bind fun bt720=>((spec_DrawLogAdd.f k l0).bind fun bt727=>((spec_l6Rd_pick.f k t717 bt720.2.2.2 3).bind fun bt738=>(if bt738.1 > 0 then ((spec_l6Rd_pick.f k t717 bt738.2 (wrap64 ((bt727.1.length:Int)+1))).bind fun bt740=>(some (bt727.1,bt740.1,bt720.2.2.1,bt727.2.1,bt727.2.2.1,bt727.2.2.2.1,bt727.2.2.2.2.1,bt727.2.2.2.2.2.1,bt727.2.2.2.2.2.2.1,bt727.2.2.2.2.2.2.2))) else (some (bt720.1,bt720.2.1,bt720.2.2.1,bt727.2.1,bt727.2.2.1,bt727.2.2.2.1,bt727.2.2.2.2.1,bt727.2.2.2.2.2.1,bt727.2.2.2.2.2.2.1,bt727.2.2.2.2.2.2.2))))))=some (r1,r2,r3,r4,r5,r6,r7,r8,r9,r10):=H
 have A2:=a_ A20
 clear A20
 replace H:=bs_ H
 obtain ⟨⟨t720,t723,t724,t725⟩,A30,H⟩:=H
 replace H:((spec_DrawLogAdd.f k l0).bind fun bt727=>((spec_l6Rd_pick.f k t717 t725 3).bind fun bt738=>(if bt738.1 > 0 then ((spec_l6Rd_pick.f k t717 bt738.2 (wrap64 ((bt727.1.length:Int)+1))).bind fun bt740=>(some (bt727.1,bt740.1,t724,bt727.2.1,bt727.2.2.1,bt727.2.2.2.1,bt727.2.2.2.2.1,bt727.2.2.2.2.2.1,bt727.2.2.2.2.2.2.1,bt727.2.2.2.2.2.2.2))) else (some (t720,t723,t724,bt727.2.1,bt727.2.2.1,bt727.2.2.2.1,bt727.2.2.2.2.1,bt727.2.2.2.2.2.1,bt727.2.2.2.2.2.2.1,bt727.2.2.2.2.2.2.2)))))=some (r1,r2,r3,r4,r5,r6,r7,r8,r9,r10):=H
 have A3:=a_ A30
 clear A30
 replace H:=bs_ H
 obtain ⟨⟨t727,t730,t731,t732,t733,t734,t735,t736⟩,A40,H⟩:=H
 replace H:((spec_l6Rd_pick.f k t717 t725 3).bind fun bt738=>(if bt738.1 > 0 then ((spec_l6Rd_pick.f k t717 bt738.2 (wrap64 ((t727.length:Int)+1))).bind fun bt740=>(some (t727,bt740.1,t724,t730,t731,t732,t733,t734,t735,t736))) else (some (t720,t723,t724,t730,t731,t732,t733,t734,t735,t736))))=some (r1,r2,r3,r4,r5,r6,r7,r8,r9,r10):=H
 have A4:=a_ A40
 clear A40
 replace H:=bs_ H
 obtain ⟨⟨t738,t739⟩,A50,H⟩:=H
 replace H:(if t738 > 0 then ((spec_l6Rd_pick.f k t717 t739 (wrap64 ((t727.length:Int)+1))).bind fun bt740=>(some (t727,bt740.1,t724,t730,t731,t732,t733,t734,t735,t736))) else (some (t720,t723,t724,t730,t731,t732,t733,t734,t735,t736)))=some (r1,r2,r3,r4,r5,r6,r7,r8,r9,r10):=H
 have A5:=a_ A50
 clear A50
 by_cases c6:t738 > 0
 ·rw [if_pos c6] at H
  have c6b0:decide (0 < t738)=true:=dt_ c6
  clear c6
  replace H:=bs_ H
  obtain ⟨⟨t740,t741⟩,A70,H⟩:=H
  replace H:(some (t727,t740,t724,t730,t731,t732,t733,t734,t735,t736))=some (r1,r2,r3,r4,r5,r6,r7,r8,r9,r10):=H
  have A7:=a_ A70
  clear A70
  simp only [Option.some.injEq,Prod.mk.injEq] at H
  obtain ⟨rfl,rfl,rfl,rfl,rfl,rfl,rfl,rfl,rfl,rfl⟩:=H
  go_enter Tryd.func28,Tryd.ntmps28
  try go_wp2_with (first|((with_reducible refine gD_ (N:=2) rfl ?_);refine bx_ 2 (#[.slice none 0 0,.int .i64 0,.bool false]) 25 ?_;intro gb715 hg w8 hbox hb;have n0_:=a_ (bS_ (bel_) hb);have n1_:=a_ (hbox);have n2_:=a_ ((by rw [hg];exact (below_size (bel_)):w.heap.size≤gb715));have n3_:=a_ ((by rw [hg];exact (below_size (bel_)):w.heap.size≤gb715));clear HB;have HB:=n0_;have BK715:=n1_;have GW715:=n2_;have GE715:=n3_;clear n0_ n1_ n2_ n3_;clear hb hbox hg)|((with_reducible refine gD_ (N:=3) rfl ?_);refine bx_ 3 (#[.int .i64 0,.int .i64 0,.int .i64 0,.int .i64 0,.int .i64 0,.int .i64 0,.string (⟨#[]⟩:ByteArray)]) 44 ?_;intro gb716 hg w9 hbox hb;have n0_:=a_ (blk_below (g:=gb715) (o:=.cells #[.slice none 0 0,.int .i64 0,.bool false] 25 (0,0)) (bp_ BK715.out) hb);have n1_:=a_ (bS_ (bel_) hb);have n2_:=a_ (hbox);have n3_:=a_ ((by rw [hg];exact (below_size (bel_)):w.heap.size≤gb716));have n4_:=a_ ((by rw [hg];exact (below_size (bel_)):w.heap.size≤gb716));have n5_:=a_ ((by rw [hg];exact Nat.ne_of_lt (blk_lt (g:=gb715) (o:=.cells #[.slice none 0 0,.int .i64 0,.bool false] 25 (0,0)) (bp_ BK715.out)):gb715≠gb716));have n6_:=a_ ((by rw [hg];exact Nat.ne_of_gt (blk_lt (g:=gb715) (o:=.cells #[.slice none 0 0,.int .i64 0,.bool false] 25 (0,0)) (bp_ BK715.out)):gb716≠gb715));clear BK715;clear HB;have BK715:=n0_;have HB:=n1_;have BK716:=n2_;have GW716:=n3_;have GE716:=n4_;have NB715_716:=n5_;have NB716_715:=n6_;clear n0_ n1_ n2_ n3_ n4_ n5_ n6_;clear hb hbox hg)|((with_reducible refine gC_ (f:=72) rfl ?_);refine gl_ 9 Tryd.func72 #[.slice A0 l0.length c0] ?_;(with_reducible refine (spec_l6Open.calls _ _ l0 t717 t718 w _ ?side1 ?side2 ?side3 A2.out).mono ?_);(case side1=>exact bel_);(case side2=>exact HR0.out);(case side3=>exact HC0.out);rintro e w10 ⟨g719,rfl,hi,hb,hb2⟩;refine ⟨_,rfl,?_⟩;replace HB:=a_ (hb);have HI719:=a_ (hi);have NB719_715:=a_ (IsS145.ne_blk hi (blk_below (g:=gb715) (o:=.cells #[.slice none 0 0,.int .i64 0,.bool false] 25 (0,0)) (bp_ BK715.out) hb2) (by decide));have NB715_719:=a_ (Ne.symm (IsS145.ne_blk hi (blk_below (g:=gb715) (o:=.cells #[.slice none 0 0,.int .i64 0,.bool false] 25 (0,0)) (bp_ BK715.out) hb2) (by decide)));replace BK715:=a_ (blk_below (g:=gb715) (o:=.cells #[.slice none 0 0,.int .i64 0,.bool false] 25 (0,0)) (bp_ BK715.out) hb2);have NB719_716:=a_ (IsS145.ne_blk hi (blk_below (g:=gb716) (o:=.cells #[.int .i64 0,.int .i64 0,.int .i64 0,.int .i64 0,.int .i64 0,.int .i64 0,.string (⟨#[]⟩:ByteArray)] 44 (0,0)) (bp_ BK716.out) hb2) (by decide));have NB716_719:=a_ (Ne.symm (IsS145.ne_blk hi (blk_below (g:=gb716) (o:=.cells #[.int .i64 0,.int .i64 0,.int .i64 0,.int .i64 0,.int .i64 0,.int .i64 0,.string (⟨#[]⟩:ByteArray)] 44 (0,0)) (bp_ BK716.out) hb2) (by decide)));replace BK716:=a_ (blk_below (g:=gb716) (o:=.cells #[.int .i64 0,.int .i64 0,.int .i64 0,.int .i64 0,.int .i64 0,.int .i64 0,.string (⟨#[]⟩:ByteArray)] 44 (0,0)) (bp_ BK716.out) hb2);(try clear hb hb2 hi))|((with_reducible refine gC_ (f:=73) rfl ?_);refine gl_ 11 Tryd.func73 #[.pointer (some ⟨g719,0,none⟩)] ?_;(with_reducible refine (spec_l72Server.calls k g719 t717 t718 t720 t723 t724 t725 w _ ?side1 ?side2 A3.out).mono ?_);(case side1=>exact is_HI719);(case side2=>exact bel_);rintro e w11 ⟨v721,rfl,ho0,hi,hb,hk⟩;refine ⟨_,rfl,?_⟩;have HO722:=a_ (Kd.R_lower (Kd.R_newB ho0 (g:=gb716) (o:=.cells #[.int .i64 0,.int .i64 0,.int .i64 0,.int .i64 0,.int .i64 0,.int .i64 0,.string (⟨#[]⟩:ByteArray)] 44 (0,0)) (bp_ BK716.out)) (below_size (bel_)));replace BK715:=a_ (kb_ hk BK715.out NB715_719.out);replace BK716:=a_ (kb_ hk BK716.out NB716_719.out);replace HB:=a_ (hb);replace HI719:=a_ (hi);(try clear hb hk hi ho0))|((with_reducible refine gD_ (N:=5) rfl ?_);refine bx_ 5 (#[.slice none 0 0,.int .i64 0,.bool false]) 25 ?_;intro gb726 hg w12 hbox hb;have n0_:=a_ (Kd.R_below (rp_ HO722.out) hb);have n1_:=a_ (blk_below (g:=gb715) (o:=.cells #[.slice none 0 0,.int .i64 0,.bool false] 25 (0,0)) (bp_ BK715.out) hb);have n2_:=a_ (blk_below (g:=gb716) (o:=.cells #[.int .i64 0,.int .i64 0,.int .i64 0,.int .i64 0,.int .i64 0,.int .i64 0,.string (⟨#[]⟩:ByteArray)] 44 (0,0)) (bp_ BK716.out) hb);have n3_:=a_ (IsS145.below (is_HI719) hb);have n4_:=a_ (bS_ (bel_) hb);have n5_:=a_ (hbox);have n6_:=a_ ((by rw [hg];exact (below_size (bel_)):w.heap.size≤gb726));have n7_:=a_ ((by rw [hg];exact (below_size (bel_)):w.heap.size≤gb726));have n8_:=a_ ((by rw [hg];exact Nat.ne_of_lt (blk_lt (g:=gb715) (o:=.cells #[.slice none 0 0,.int .i64 0,.bool false] 25 (0,0)) (bp_ BK715.out)):gb715≠gb726));have n9_:=a_ ((by rw [hg];exact Nat.ne_of_gt (blk_lt (g:=gb715) (o:=.cells #[.slice none 0 0,.int .i64 0,.bool false] 25 (0,0)) (bp_ BK715.out)):gb726≠gb715));have n10_:=a_ ((by rw [hg];exact Nat.ne_of_lt (blk_lt (g:=gb716) (o:=.cells #[.int .i64 0,.int .i64 0,.int .i64 0,.int .i64 0,.int .i64 0,.int .i64 0,.string (⟨#[]⟩:ByteArray)] 44 (0,0)) (bp_ BK716.out)):gb716≠gb726));have n11_:=a_ ((by rw [hg];exact Nat.ne_of_gt (blk_lt (g:=gb716) (o:=.cells #[.int .i64 0,.int .i64 0,.int .i64 0,.int .i64 0,.int .i64 0,.int .i64 0,.string (⟨#[]⟩:ByteArray)] 44 (0,0)) (bp_ BK716.out)):gb726≠gb716));have n12_:=a_ ((by rw [hg];exact Nat.ne_of_lt (IsS145.lt (show IsS145 w _ g719 t717 t725 from is_HI719)):g719≠gb726));have n13_:=a_ ((by rw [hg];exact Nat.ne_of_gt (IsS145.lt (show IsS145 w _ g719 t717 t725 from is_HI719)):gb726≠g719));clear HO722;clear BK715;clear BK716;clear HI719;clear HB;have HO722:=n0_;have BK715:=n1_;have BK716:=n2_;have HI719:=n3_;have HB:=n4_;have BK726:=n5_;have GW726:=n6_;have GE726:=n7_;have NB715_726:=n8_;have NB726_715:=n9_;have NB716_726:=n10_;have NB726_716:=n11_;have NB719_726:=n12_;have NB726_719:=n13_;clear n0_ n1_ n2_ n3_ n4_ n5_ n6_ n7_ n8_ n9_ n10_ n11_ n12_ n13_;clear hb hbox hg;obtain ⟨Ao13,co13,eo13⟩:=Kd.R_slice HO722.out;subst eo13;have hnb14:=NB726_715.out;have hnc14:=NB715_726.out;have hnb15:=NB726_716.out;have hnc15:=NB716_726.out;have hnb16:=NB726_719.out;have hnc16:=NB719_726.out;have Z17_0:=cz_ BK726.out 0 (.slice none 0 0);have Z17_1:=cz_ BK726.out 1 (.int .i64 0);have Z17_2:=cz_ BK726.out 2 (.bool false);have Y17_0:=bF_ BK726.out 0;have Y17_1:=bF_ BK726.out 1;have Y17_2:=bF_ BK726.out 2)|((with_reducible refine gC_ (f:=36) rfl ?_);refine gl_ 14 Tryd.func36 #[.slice A0 l0.length c0] ?_;(with_reducible refine (spec_DrawLogAdd.calls k _ _ l0 t727 t730 t731 t732 t733 t734 t735 t736 _ ?side1 ?side2 A4.out).mono ?_);(case side1=>exact Kd.C_below HR0.out (bel_));(case side2=>exact HC0.out);rintro e w18 ⟨v728,rfl,ho0,hb⟩;refine ⟨_,rfl,?_⟩;have n0_:=a_ (Kd.R_elder' (by (with_reducible repeat (first|apply Kd.R_alloc|apply Kd.R_drewN|apply Kd.R_drew));exact (Kd.R_mono (Kd.R_far (p:=⟨gb726,2,none⟩) (Kd.R_far (p:=⟨gb726,1,none⟩) (Kd.R_far (p:=⟨gb726,0,none⟩) (Kd.R_types HO722.out BK726.out (by decide)) (fun _ hk=>hk.2) (.slice Ao13 t720.length co13)) (fun _ hk=>hk.2) (.int .i64 t723)) (fun _ hk=>hk.2) (.bool t724)) (fun _ h_=>h_.1))) (Kd.R_base ho0) hb);have n1_:=a_ (Kd.R_lower (Kd.R_newB (Kd.R_new' ho0 (Kd.R_lt (by (with_reducible repeat (first|apply Kd.R_alloc|apply Kd.R_drewN|apply Kd.R_drew));exact (Kd.R_mono (Kd.R_far (p:=⟨gb726,2,none⟩) (Kd.R_far (p:=⟨gb726,1,none⟩) (Kd.R_far (p:=⟨gb726,0,none⟩) (Kd.R_types HO722.out BK726.out (by decide)) (fun _ hk=>hk.2) (.slice Ao13 t720.length co13)) (fun _ hk=>hk.2) (.int .i64 t723)) (fun _ hk=>hk.2) (.bool t724)) (fun _ h_=>h_.1))))) (g:=gb716) (o:=.cells #[.int .i64 0,.int .i64 0,.int .i64 0,.int .i64 0,.int .i64 0,.int .i64 0,.string (⟨#[]⟩:ByteArray)] 44 (0,0)) (by (with_reducible repeat (first|refine bN_ ?_ _|refine bD_ ?_|refine bA_ ?_ _));refine blk_far ?_ NB716_726.out _;(with_reducible repeat (first|refine bN_ ?_ _|refine bD_ ?_|refine bA_ ?_ _));refine blk_far ?_ NB716_726.out _;(with_reducible repeat (first|refine bN_ ?_ _|refine bD_ ?_|refine bA_ ?_ _));refine blk_far ?_ NB716_726.out _;(with_reducible repeat (first|refine bN_ ?_ _|refine bD_ ?_|refine bA_ ?_ _));exact BK716.out)) (below_size (bel_)));have n2_:=a_ (blk_below (g:=gb715) (o:=.cells #[.slice none 0 0,.int .i64 0,.bool false] 25 (0,0)) (by (with_reducible repeat (first|refine bN_ ?_ _|refine bD_ ?_|refine bA_ ?_ _));refine blk_far ?_ NB715_726.out _;(with_reducible repeat (first|refine bN_ ?_ _|refine bD_ ?_|refine bA_ ?_ _));refine blk_far ?_ NB715_726.out _;(with_reducible repeat (first|refine bN_ ?_ _|refine bD_ ?_|refine bA_ ?_ _));refine blk_far ?_ NB715_726.out _;(with_reducible repeat (first|refine bN_ ?_ _|refine bD_ ?_|refine bA_ ?_ _));exact BK715.out) hb);have n3_:=a_ (blk_below (g:=gb716) (o:=.cells #[.int .i64 0,.int .i64 0,.int .i64 0,.int .i64 0,.int .i64 0,.int .i64 0,.string (⟨#[]⟩:ByteArray)] 44 (0,0)) (by (with_reducible repeat (first|refine bN_ ?_ _|refine bD_ ?_|refine bA_ ?_ _));refine blk_far ?_ NB716_726.out _;(with_reducible repeat (first|refine bN_ ?_ _|refine bD_ ?_|refine bA_ ?_ _));refine blk_far ?_ NB716_726.out _;(with_reducible repeat (first|refine bN_ ?_ _|refine bD_ ?_|refine bA_ ?_ _));refine blk_far ?_ NB716_726.out _;(with_reducible repeat (first|refine bN_ ?_ _|refine bD_ ?_|refine bA_ ?_ _));exact BK716.out) hb);have n4_:=a_ (IsS145.below (show IsS145 w (((w12.setCell ⟨gb726,0,none⟩ (.slice Ao13 t720.length co13)).setCell ⟨gb726,1,none⟩ (.int .i64 t723)).setCell ⟨gb726,2,none⟩ (.bool t724)) g719 t717 t725 from is_HI719) hb);have n5_:=a_ (blk_below (g:=gb726) (o:=.cells #[.slice Ao13 t720.length co13,.int .i64 t723,.bool t724] 25 (0,0)) (by (with_reducible repeat (first|refine bN_ ?_ _|refine bD_ ?_|refine bA_ ?_ _));refine blk_put (cs:=#[.slice Ao13 t720.length co13,.int .i64 t723,.bool false]) ?_ 2 _ rfl;(with_reducible repeat (first|refine bN_ ?_ _|refine bD_ ?_|refine bA_ ?_ _));refine blk_put (cs:=#[.slice Ao13 t720.length co13,.int .i64 0,.bool false]) ?_ 1 _ rfl;(with_reducible repeat (first|refine bN_ ?_ _|refine bD_ ?_|refine bA_ ?_ _));refine blk_put (cs:=#[.slice none 0 0,.int .i64 0,.bool false]) ?_ 0 _ rfl;(with_reducible repeat (first|refine bN_ ?_ _|refine bD_ ?_|refine bA_ ?_ _));exact BK726.out) hb);have n6_:=a_ (bS_ (bel_) hb);clear HO722;clear BK715;clear BK716;clear HI719;clear BK726;clear HB;have HO722:=n0_;have HO729:=n1_;have BK715:=n2_;have BK716:=n3_;have HI719:=n4_;have BK726:=n5_;have HB:=n6_;clear n0_ n1_ n2_ n3_ n4_ n5_ n6_;(try clear hb ho0))|((with_reducible refine gD_ (N:=7) rfl ?_);refine bx_ 7 (#[.int .i64 0,.int .i64 0,.int .i64 0,.int .i64 0,.int .i64 0,.int .i64 0,.string (⟨#[]⟩:ByteArray)]) 44 ?_;intro gb737 hg w19 hbox hb;have n0_:=a_ (Kd.R_below (Kd.R_elderB (rp_ HO722.out) gb737 (Nat.le_of_eq hg.symm)) hb);have n1_:=a_ (Kd.R_below (Kd.R_elderB (rp_ HO729.out) gb737 (Nat.le_of_eq hg.symm)) hb);have n2_:=a_ (blk_below (g:=gb715) (o:=.cells #[.slice none 0 0,.int .i64 0,.bool false] 25 (0,0)) (bp_ BK715.out) hb);have n3_:=a_ (blk_below (g:=gb716) (o:=.cells #[.int .i64 0,.int .i64 0,.int .i64 0,.int .i64 0,.int .i64 0,.int .i64 0,.string (⟨#[]⟩:ByteArray)] 44 (0,0)) (bp_ BK716.out) hb);have n4_:=a_ (IsS145.below (is_HI719) hb);have n5_:=a_ (blk_below (g:=gb726) (o:=.cells #[.slice Ao13 t720.length co13,.int .i64 t723,.bool t724] 25 (0,0)) (bp_ BK726.out) hb);have n6_:=a_ (bS_ (bel_) hb);have n7_:=a_ (hbox);have n8_:=a_ ((by rw [hg];exact (below_size (bel_)):w.heap.size≤gb737));have n9_:=a_ ((by rw [hg];exact (below_size (bel_)):w.heap.size≤gb737));have n10_:=a_ ((by rw [hg];exact Nat.ne_of_lt (blk_lt (g:=gb715) (o:=.cells #[.slice none 0 0,.int .i64 0,.bool false] 25 (0,0)) (bp_ BK715.out)):gb715≠gb737));have n11_:=a_ ((by rw [hg];exact Nat.ne_of_gt (blk_lt (g:=gb715) (o:=.cells #[.slice none 0 0,.int .i64 0,.bool false] 25 (0,0)) (bp_ BK715.out)):gb737≠gb715));have n12_:=a_ ((by rw [hg];exact Nat.ne_of_lt (blk_lt (g:=gb716) (o:=.cells #[.int .i64 0,.int .i64 0,.int .i64 0,.int .i64 0,.int .i64 0,.int .i64 0,.string (⟨#[]⟩:ByteArray)] 44 (0,0)) (bp_ BK716.out)):gb716≠gb737));have n13_:=a_ ((by rw [hg];exact Nat.ne_of_gt (blk_lt (g:=gb716) (o:=.cells #[.int .i64 0,.int .i64 0,.int .i64 0,.int .i64 0,.int .i64 0,.int .i64 0,.string (⟨#[]⟩:ByteArray)] 44 (0,0)) (bp_ BK716.out)):gb737≠gb716));have n14_:=a_ ((by rw [hg];exact Nat.ne_of_lt (blk_lt (g:=gb726) (o:=.cells #[.slice Ao13 t720.length co13,.int .i64 t723,.bool t724] 25 (0,0)) (bp_ BK726.out)):gb726≠gb737));have n15_:=a_ ((by rw [hg];exact Nat.ne_of_gt (blk_lt (g:=gb726) (o:=.cells #[.slice Ao13 t720.length co13,.int .i64 t723,.bool t724] 25 (0,0)) (bp_ BK726.out)):gb737≠gb726));have n16_:=a_ ((by rw [hg];exact Nat.ne_of_lt (IsS145.lt (show IsS145 w _ g719 t717 t725 from is_HI719)):g719≠gb737));have n17_:=a_ ((by rw [hg];exact Nat.ne_of_gt (IsS145.lt (show IsS145 w _ g719 t717 t725 from is_HI719)):gb737≠g719));clear HO722;clear HO729;clear BK715;clear BK716;clear HI719;clear BK726;clear HB;have HO722:=n0_;have HO729:=n1_;have BK715:=n2_;have BK716:=n3_;have HI719:=n4_;have BK726:=n5_;have HB:=n6_;have BK737:=n7_;have GW737:=n8_;have GE737:=n9_;have NB715_737:=n10_;have NB737_715:=n11_;have NB716_737:=n12_;have NB737_716:=n13_;have NB726_737:=n14_;have NB737_726:=n15_;have NB719_737:=n16_;have NB737_719:=n17_;clear n0_ n1_ n2_ n3_ n4_ n5_ n6_ n7_ n8_ n9_ n10_ n11_ n12_ n13_ n14_ n15_ n16_ n17_;clear hb hbox hg;have hnb20:=NB737_715.out;have hnc20:=NB715_737.out;have hnb21:=NB737_716.out;have hnc21:=NB716_737.out;have hnb22:=NB737_726.out;have hnc22:=NB726_737.out;have hnb23:=NB737_719.out;have hnc23:=NB719_737.out;have Z24_0:=cz_ BK737.out 0 (.int .i64 0);have Z24_1:=cz_ BK737.out 1 (.int .i64 0);have Z24_2:=cz_ BK737.out 2 (.int .i64 0);have Z24_3:=cz_ BK737.out 3 (.int .i64 0);have Z24_4:=cz_ BK737.out 4 (.int .i64 0);have Z24_5:=cz_ BK737.out 5 (.int .i64 0);have Z24_6:=cz_ BK737.out 6 (.string (⟨#[]⟩:ByteArray));have Y24_0:=bF_ BK737.out 0;have Y24_1:=bF_ BK737.out 1;have Y24_2:=bF_ BK737.out 2;have Y24_3:=bF_ BK737.out 3;have Y24_4:=bF_ BK737.out 4;have Y24_5:=bF_ BK737.out 5;have Y24_6:=bF_ BK737.out 6)|((with_reducible refine gC_ (f:=74) rfl ?_);refine gl_ 18 Tryd.func74 #[.pointer (some ⟨g719,0,none⟩),.int .i64 3] ?_;(with_reducible refine (spec_l6Rd_pick.calls k g719 t717 t725 3 t738 t739 w _ ?side1 ?side2 A5.out).mono ?_);(case side1=>exact is_HI719);(case side2=>exact bel_);rintro e w25 ⟨rfl,hi,hb,hk⟩;refine ⟨_,rfl,?_⟩;have n0_:=a_ (KeepBut.blk hk (g':=gb715) (o:=.cells #[.slice none 0 0,.int .i64 0,.bool false] 25 (0,0)) (by (with_reducible repeat (first|refine bN_ ?_ _|refine bD_ ?_|refine bA_ ?_ _));refine blk_far ?_ NB715_737.out _;(with_reducible repeat (first|refine bN_ ?_ _|refine bD_ ?_|refine bA_ ?_ _));refine blk_far ?_ NB715_737.out _;(with_reducible repeat (first|refine bN_ ?_ _|refine bD_ ?_|refine bA_ ?_ _));refine blk_far ?_ NB715_737.out _;(with_reducible repeat (first|refine bN_ ?_ _|refine bD_ ?_|refine bA_ ?_ _));refine blk_far ?_ NB715_737.out _;(with_reducible repeat (first|refine bN_ ?_ _|refine bD_ ?_|refine bA_ ?_ _));refine blk_far ?_ NB715_737.out _;(with_reducible repeat (first|refine bN_ ?_ _|refine bD_ ?_|refine bA_ ?_ _));refine blk_far ?_ NB715_737.out _;(with_reducible repeat (first|refine bN_ ?_ _|refine bD_ ?_|refine bA_ ?_ _));refine blk_far ?_ NB715_737.out _;(with_reducible repeat (first|refine bN_ ?_ _|refine bD_ ?_|refine bA_ ?_ _));exact BK715.out) NB715_719.out (by simp));have n1_:=a_ (KeepBut.blk hk (g':=gb716) (o:=.cells #[.int .i64 0,.int .i64 0,.int .i64 0,.int .i64 0,.int .i64 0,.int .i64 0,.string (⟨#[]⟩:ByteArray)] 44 (0,0)) (by (with_reducible repeat (first|refine bN_ ?_ _|refine bD_ ?_|refine bA_ ?_ _));refine blk_far ?_ NB716_737.out _;(with_reducible repeat (first|refine bN_ ?_ _|refine bD_ ?_|refine bA_ ?_ _));refine blk_far ?_ NB716_737.out _;(with_reducible repeat (first|refine bN_ ?_ _|refine bD_ ?_|refine bA_ ?_ _));refine blk_far ?_ NB716_737.out _;(with_reducible repeat (first|refine bN_ ?_ _|refine bD_ ?_|refine bA_ ?_ _));refine blk_far ?_ NB716_737.out _;(with_reducible repeat (first|refine bN_ ?_ _|refine bD_ ?_|refine bA_ ?_ _));refine blk_far ?_ NB716_737.out _;(with_reducible repeat (first|refine bN_ ?_ _|refine bD_ ?_|refine bA_ ?_ _));refine blk_far ?_ NB716_737.out _;(with_reducible repeat (first|refine bN_ ?_ _|refine bD_ ?_|refine bA_ ?_ _));refine blk_far ?_ NB716_737.out _;(with_reducible repeat (first|refine bN_ ?_ _|refine bD_ ?_|refine bA_ ?_ _));exact BK716.out) NB716_719.out (by simp));have n2_:=a_ (Kd.R_mono (Kd.R_keep (IsS145.apart (show IsS145 w _ g719 t717 t725 from is_HI719) (by (with_reducible repeat (first|apply Kd.R_alloc|apply Kd.R_drewN|apply Kd.R_drew));exact (Kd.R_mono (Kd.R_far (p:=⟨gb737,6,none⟩) (Kd.R_far (p:=⟨gb737,5,none⟩) (Kd.R_far (p:=⟨gb737,4,none⟩) (Kd.R_far (p:=⟨gb737,3,none⟩) (Kd.R_far (p:=⟨gb737,2,none⟩) (Kd.R_far (p:=⟨gb737,1,none⟩) (Kd.R_far (p:=⟨gb737,0,none⟩) (Kd.R_mono HO722.out (fun k_ hk=>(⟨hk,hk.2⟩:_∧k_≠gb737))) (fun _ hk=>hk.2) (.int .i64 t730)) (fun _ hk=>hk.2) (.int .i64 t731)) (fun _ hk=>hk.2) (.int .i64 t732)) (fun _ hk=>hk.2) (.int .i64 t733)) (fun _ hk=>hk.2) (.int .i64 t734)) (fun _ hk=>hk.2) (.int .i64 t735)) (fun _ hk=>hk.2) (.string t736)) (fun _ h_=>h_.1))) (by decide)) hk (fun _ h=>h.2)) (fun _ h=>h.1));have n3_:=a_ (KeepBut.blk hk (g':=gb726) (o:=.cells #[.slice Ao13 t720.length co13,.int .i64 t723,.bool t724] 25 (0,0)) (by (with_reducible repeat (first|refine bN_ ?_ _|refine bD_ ?_|refine bA_ ?_ _));refine blk_far ?_ NB726_737.out _;(with_reducible repeat (first|refine bN_ ?_ _|refine bD_ ?_|refine bA_ ?_ _));refine blk_far ?_ NB726_737.out _;(with_reducible repeat (first|refine bN_ ?_ _|refine bD_ ?_|refine bA_ ?_ _));refine blk_far ?_ NB726_737.out _;(with_reducible repeat (first|refine bN_ ?_ _|refine bD_ ?_|refine bA_ ?_ _));refine blk_far ?_ NB726_737.out _;(with_reducible repeat (first|refine bN_ ?_ _|refine bD_ ?_|refine bA_ ?_ _));refine blk_far ?_ NB726_737.out _;(with_reducible repeat (first|refine bN_ ?_ _|refine bD_ ?_|refine bA_ ?_ _));refine blk_far ?_ NB726_737.out _;(with_reducible repeat (first|refine bN_ ?_ _|refine bD_ ?_|refine bA_ ?_ _));refine blk_far ?_ NB726_737.out _;(with_reducible repeat (first|refine bN_ ?_ _|refine bD_ ?_|refine bA_ ?_ _));exact BK726.out) NB726_719.out (by simp));have n4_:=a_ (Kd.R_mono (Kd.R_keep (IsS145.apart (show IsS145 w _ g719 t717 t725 from is_HI719) (by (with_reducible repeat (first|apply Kd.R_alloc|apply Kd.R_drewN|apply Kd.R_drew));exact (Kd.R_mono (Kd.R_far (p:=⟨gb737,6,none⟩) (Kd.R_far (p:=⟨gb737,5,none⟩) (Kd.R_far (p:=⟨gb737,4,none⟩) (Kd.R_far (p:=⟨gb737,3,none⟩) (Kd.R_far (p:=⟨gb737,2,none⟩) (Kd.R_far (p:=⟨gb737,1,none⟩) (Kd.R_far (p:=⟨gb737,0,none⟩) (Kd.R_mono HO729.out (fun k_ hk=>(⟨hk,hk.2⟩:_∧k_≠gb737))) (fun _ hk=>hk.2) (.int .i64 t730)) (fun _ hk=>hk.2) (.int .i64 t731)) (fun _ hk=>hk.2) (.int .i64 t732)) (fun _ hk=>hk.2) (.int .i64 t733)) (fun _ hk=>hk.2) (.int .i64 t734)) (fun _ hk=>hk.2) (.int .i64 t735)) (fun _ hk=>hk.2) (.string t736)) (fun _ h_=>h_.1))) (by decide)) hk (fun _ h=>h.2)) (fun _ h=>h.1));have n5_:=a_ (KeepBut.blk hk (g':=gb737) (o:=.cells #[.int .i64 t730,.int .i64 t731,.int .i64 t732,.int .i64 t733,.int .i64 t734,.int .i64 t735,.string t736] 44 (0,0)) (by (with_reducible repeat (first|refine bN_ ?_ _|refine bD_ ?_|refine bA_ ?_ _));refine blk_put (cs:=#[.int .i64 t730,.int .i64 t731,.int .i64 t732,.int .i64 t733,.int .i64 t734,.int .i64 t735,.string (⟨#[]⟩:ByteArray)]) ?_ 6 _ rfl;(with_reducible repeat (first|refine bN_ ?_ _|refine bD_ ?_|refine bA_ ?_ _));refine blk_put (cs:=#[.int .i64 t730,.int .i64 t731,.int .i64 t732,.int .i64 t733,.int .i64 t734,.int .i64 0,.string (⟨#[]⟩:ByteArray)]) ?_ 5 _ rfl;(with_reducible repeat (first|refine bN_ ?_ _|refine bD_ ?_|refine bA_ ?_ _));refine blk_put (cs:=#[.int .i64 t730,.int .i64 t731,.int .i64 t732,.int .i64 t733,.int .i64 0,.int .i64 0,.string (⟨#[]⟩:ByteArray)]) ?_ 4 _ rfl;(with_reducible repeat (first|refine bN_ ?_ _|refine bD_ ?_|refine bA_ ?_ _));refine blk_put (cs:=#[.int .i64 t730,.int .i64 t731,.int .i64 t732,.int .i64 0,.int .i64 0,.int .i64 0,.string (⟨#[]⟩:ByteArray)]) ?_ 3 _ rfl;(with_reducible repeat (first|refine bN_ ?_ _|refine bD_ ?_|refine bA_ ?_ _));refine blk_put (cs:=#[.int .i64 t730,.int .i64 t731,.int .i64 0,.int .i64 0,.int .i64 0,.int .i64 0,.string (⟨#[]⟩:ByteArray)]) ?_ 2 _ rfl;(with_reducible repeat (first|refine bN_ ?_ _|refine bD_ ?_|refine bA_ ?_ _));refine blk_put (cs:=#[.int .i64 t730,.int .i64 0,.int .i64 0,.int .i64 0,.int .i64 0,.int .i64 0,.string (⟨#[]⟩:ByteArray)]) ?_ 1 _ rfl;(with_reducible repeat (first|refine bN_ ?_ _|refine bD_ ?_|refine bA_ ?_ _));refine blk_put (cs:=#[.int .i64 0,.int .i64 0,.int .i64 0,.int .i64 0,.int .i64 0,.int .i64 0,.string (⟨#[]⟩:ByteArray)]) ?_ 0 _ rfl;(with_reducible repeat (first|refine bN_ ?_ _|refine bD_ ?_|refine bA_ ?_ _));exact BK737.out) NB737_719.out (by simp));have n6_:=a_ (hb);have n7_:=a_ (hi);clear BK715;clear BK716;clear HO722;clear BK726;clear HO729;clear BK737;clear HB;clear HI719;have BK715:=n0_;have BK716:=n1_;have HO722:=n2_;have BK726:=n3_;have HO729:=n4_;have BK737:=n5_;have HB:=n6_;have HI719:=n7_;clear n0_ n1_ n2_ n3_ n4_ n5_ n6_ n7_;(try clear hb hk hi);obtain ⟨Ao26,co26,eo26⟩:=Kd.R_slice HO729.out;subst eo26;have Z27_0:=cz_ BK726.out 0 (.slice Ao13 t720.length co13);have Z27_1:=cz_ BK726.out 1 (.int .i64 t723);have Z27_2:=cz_ BK726.out 2 (.bool t724);have Y27_0:=bF_ BK726.out 0;have Y27_1:=bF_ BK726.out 1;have Y27_2:=bF_ BK726.out 2)|((with_reducible refine gC_ (f:=74) rfl ?_);refine gl_ 26 Tryd.func74 #[.pointer (some ⟨g719,0,none⟩),.int .i64 (wrap64 ((t727.length:Int)+1))] ?_;(with_reducible refine (spec_l6Rd_pick.calls k g719 t717 t739 (wrap64 ((t727.length:Int)+1)) t740 t741 w _ ?side1 ?side2 A7.out).mono ?_);(case side1=>exact is_HI719);(case side2=>exact bel_);rintro e w28 ⟨rfl,hi,hb,hk⟩;refine ⟨_,rfl,?_⟩;have n0_:=a_ (KeepBut.blk hk (g':=gb715) (o:=.cells #[.slice none 0 0,.int .i64 0,.bool false] 25 (0,0)) (by (with_reducible repeat (first|refine bN_ ?_ _|refine bD_ ?_|refine bA_ ?_ _));refine blk_far ?_ NB715_726.out _;(with_reducible repeat (first|refine bN_ ?_ _|refine bD_ ?_|refine bA_ ?_ _));exact BK715.out) NB715_719.out (by simp));have n1_:=a_ (KeepBut.blk hk (g':=gb716) (o:=.cells #[.int .i64 0,.int .i64 0,.int .i64 0,.int .i64 0,.int .i64 0,.int .i64 0,.string (⟨#[]⟩:ByteArray)] 44 (0,0)) (by (with_reducible repeat (first|refine bN_ ?_ _|refine bD_ ?_|refine bA_ ?_ _));refine blk_far ?_ NB716_726.out _;(with_reducible repeat (first|refine bN_ ?_ _|refine bD_ ?_|refine bA_ ?_ _));exact BK716.out) NB716_719.out (by simp));have n2_:=a_ (Kd.R_mono (Kd.R_keep (IsS145.apart (show IsS145 w _ g719 t717 t739 from is_HI719) (by (with_reducible repeat (first|apply Kd.R_alloc|apply Kd.R_drewN|apply Kd.R_drew));exact (Kd.R_mono (Kd.R_far (p:=⟨gb726,0,none⟩) (Kd.R_types HO722.out BK726.out (by decide)) (fun _ hk=>hk.2) (.slice Ao26 t727.length co26)) (fun _ h_=>h_.1))) (by decide)) hk (fun _ h=>h.2)) (fun _ h=>h.1));have n3_:=a_ (KeepBut.blk hk (g':=gb726) (o:=.cells #[.slice Ao26 t727.length co26,.int .i64 t723,.bool t724] 25 (0,0)) (by (with_reducible repeat (first|refine bN_ ?_ _|refine bD_ ?_|refine bA_ ?_ _));refine blk_put (cs:=#[.slice Ao13 t720.length co13,.int .i64 t723,.bool t724]) ?_ 0 _ rfl;(with_reducible repeat (first|refine bN_ ?_ _|refine bD_ ?_|refine bA_ ?_ _));exact BK726.out) NB726_719.out (by simp));have n4_:=a_ (Kd.R_mono (Kd.R_keep (IsS145.apart (show IsS145 w _ g719 t717 t739 from is_HI719) (by (with_reducible repeat (first|apply Kd.R_alloc|apply Kd.R_drewN|apply Kd.R_drew));exact (Kd.R_mono (Kd.R_far (p:=⟨gb726,0,none⟩) (Kd.R_types HO729.out BK726.out (by decide)) (fun _ hk=>hk.2) (.slice Ao26 t727.length co26)) (fun _ h_=>h_.1))) (by decide)) hk (fun _ h=>h.2)) (fun _ h=>h.1));have n5_:=a_ (KeepBut.blk hk (g':=gb737) (o:=.cells #[.int .i64 t730,.int .i64 t731,.int .i64 t732,.int .i64 t733,.int .i64 t734,.int .i64 t735,.string t736] 44 (0,0)) (by (with_reducible repeat (first|refine bN_ ?_ _|refine bD_ ?_|refine bA_ ?_ _));refine blk_far ?_ NB737_726.out _;(with_reducible repeat (first|refine bN_ ?_ _|refine bD_ ?_|refine bA_ ?_ _));exact BK737.out) NB737_719.out (by simp));have n6_:=a_ (hb);have n7_:=a_ (hi);clear BK715;clear BK716;clear HO722;clear BK726;clear HO729;clear BK737;clear HB;clear HI719;have BK715:=n0_;have BK716:=n1_;have HO722:=n2_;have BK726:=n3_;have HO729:=n4_;have BK737:=n5_;have HB:=n6_;have HI719:=n7_;clear n0_ n1_ n2_ n3_ n4_ n5_ n6_ n7_;(try clear hb hk hi);have Z29_0:=cz_ BK726.out 0 (.slice Ao26 t727.length co26);have Z29_1:=cz_ BK726.out 1 (.int .i64 t723);have Z29_2:=cz_ BK726.out 2 (.bool t724);have Y29_0:=bF_ BK726.out 0;have Y29_1:=bF_ BK726.out 1;have Y29_2:=bF_ BK726.out 2))
  have n0_:Aside0 (Kd.R k44 44 (w28.setCell ⟨gb726,1,none⟩ (.int .i64 t740)) w.heap.size (fun k_=>some k_≠(.slice Ao26 t727.length co26:Value).ownBlock∧k_≠gb716∧k_≠gb737) (.slice Ao13 t720.length co13) t720):=⟨by (with_reducible repeat (first|apply Kd.R_alloc|apply Kd.R_drewN|apply Kd.R_drew));exact Kd.R_mono (Kd.R_far (p:=⟨gb726,1,none⟩) (Kd.R_types HO722.out BK726.out (by decide)) (fun _ hk=>hk.2) (.int .i64 t740)) (fun _ hk=>⟨hk.1.1.2,⟨hk.1.1.1.2,hk.1.2⟩⟩)⟩
  have n1_:Aside0 (Kd.R k44 44 (w28.setCell ⟨gb726,1,none⟩ (.int .i64 t740)) w.heap.size (fun k_=>some k_≠(.slice Ao13 t720.length co13:Value).ownBlock∧k_≠gb716∧k_≠gb737) (.slice Ao26 t727.length co26) t727):=⟨by (with_reducible repeat (first|apply Kd.R_alloc|apply Kd.R_drewN|apply Kd.R_drew));exact Kd.R_mono (Kd.R_far (p:=⟨gb726,1,none⟩) (Kd.R_types HO729.out BK726.out (by decide)) (fun _ hk=>hk.2) (.int .i64 t740)) (fun _ hk=>⟨hk.1.1.1.2,⟨hk.1.1.2,hk.1.2⟩⟩)⟩
  have n2_:Aside0 ((w28.setCell ⟨gb726,1,none⟩ (.int .i64 t740)).heap[gb715]?=some (.cells #[.slice none 0 0,.int .i64 0,.bool false] 25 (0,0))):=⟨by (with_reducible repeat (first|refine bN_ ?_ _|refine bD_ ?_|refine bA_ ?_ _));refine blk_far ?_ NB715_726.out _;(with_reducible repeat (first|refine bN_ ?_ _|refine bD_ ?_|refine bA_ ?_ _));exact BK715.out⟩
  have n3_:Aside0 ((w28.setCell ⟨gb726,1,none⟩ (.int .i64 t740)).heap[gb716]?=some (.cells #[.int .i64 0,.int .i64 0,.int .i64 0,.int .i64 0,.int .i64 0,.int .i64 0,.string (⟨#[]⟩:ByteArray)] 44 (0,0))):=⟨by (with_reducible repeat (first|refine bN_ ?_ _|refine bD_ ?_|refine bA_ ?_ _));refine blk_far ?_ NB716_726.out _;(with_reducible repeat (first|refine bN_ ?_ _|refine bD_ ?_|refine bA_ ?_ _));exact BK716.out⟩
  have n4_:Aside0 ((w28.setCell ⟨gb726,1,none⟩ (.int .i64 t740)).heap[gb726]?=some (.cells #[.slice Ao26 t727.length co26,.int .i64 t740,.bool t724] 25 (0,0))):=⟨by (with_reducible repeat (first|refine bN_ ?_ _|refine bD_ ?_|refine bA_ ?_ _));refine blk_put (cs:=#[.slice Ao26 t727.length co26,.int .i64 t723,.bool t724]) ?_ 1 _ rfl;(with_reducible repeat (first|refine bN_ ?_ _|refine bD_ ?_|refine bA_ ?_ _));exact BK726.out⟩
  have n5_:Aside0 ((w28.setCell ⟨gb726,1,none⟩ (.int .i64 t740)).heap[gb737]?=some (.cells #[.int .i64 t730,.int .i64 t731,.int .i64 t732,.int .i64 t733,.int .i64 t734,.int .i64 t735,.string t736] 44 (0,0))):=⟨by (with_reducible repeat (first|refine bN_ ?_ _|refine bD_ ?_|refine bA_ ?_ _));refine blk_far ?_ NB737_726.out _;(with_reducible repeat (first|refine bN_ ?_ _|refine bD_ ?_|refine bA_ ?_ _));exact BK737.out⟩
  have n6_:Aside0 (IsS145 w (w28.setCell ⟨gb726,1,none⟩ (.int .i64 t740)) g719 t717 t741):=⟨is_HI719⟩
  have n7_:Aside0 (Below w.heap.size w (w28.setCell ⟨gb726,1,none⟩ (.int .i64 t740))):=⟨bel_⟩
  (try clear HO722)
  (try clear HO729)
  (try clear BK715)
  (try clear BK716)
  (try clear BK726)
  (try clear BK737)
  (try clear HI719)
  (try clear HB)
  generalize (w28.setCell ⟨gb726,1,none⟩ (.int .i64 t740))=w30 at n0_ n1_ n2_ n3_ n4_ n5_ n6_ n7_ ⊢
  have HO722:=n0_
  have HO729:=n1_
  have BK715:=n2_
  have BK716:=n3_
  have BK726:=n4_
  have BK737:=n5_
  have HI719:=n6_
  have HB:=n7_
  clear n0_ n1_ n2_ n3_ n4_ n5_ n6_ n7_
  have n0_:=a_ (Kd.R_drew HO722.out)
  have n1_:=a_ (Kd.R_drew HO729.out)
  have n2_:=a_ (bD_ BK715.out)
  have n3_:=a_ (bD_ BK716.out)
  have n4_:=a_ (bD_ BK726.out)
  have n5_:=a_ (bD_ BK737.out)
  have n6_:=a_ (IsS145.drew HI719.out)
  have n7_:=a_ (below_drew1 HB.out)
  clear HO722
  clear HO729
  clear BK715
  clear BK716
  clear BK726
  clear BK737
  clear HI719
  clear HB
  have HO722:=n0_
  have HO729:=n1_
  have BK715:=n2_
  have BK716:=n3_
  have BK726:=n4_
  have BK737:=n5_
  have HI719:=n6_
  have HB:=n7_
  clear n0_ n1_ n2_ n3_ n4_ n5_ n6_ n7_
  refine start_ (n:=4) (S:=fun w'=>w'.cell? ⟨gb726,0,none⟩=some (.slice Ao26 t727.length co26)∧w'.cell? ⟨gb726,1,none⟩=some (.int .i64 t740)∧w'.cell? ⟨gb726,2,none⟩=some (.bool t724)∧w'.cell? ⟨gb737,0,none⟩=some (.int .i64 t730)∧w'.cell? ⟨gb737,1,none⟩=some (.int .i64 t731)∧w'.cell? ⟨gb737,2,none⟩=some (.int .i64 t732)∧w'.cell? ⟨gb737,3,none⟩=some (.int .i64 t733)∧w'.cell? ⟨gb737,4,none⟩=some (.int .i64 t734)∧w'.cell? ⟨gb737,5,none⟩=some (.int .i64 t735)∧w'.cell? ⟨gb737,6,none⟩=some (.string t736)) (ds:=[]) #[false,false,false,false] (by kernel_rfl) rfl rfl ⟨(bC_ BK726.out 0).trans rfl,(bC_ BK726.out 1).trans rfl,(bC_ BK726.out 2).trans rfl,(bC_ BK737.out 0).trans rfl,(bC_ BK737.out 1).trans rfl,(bC_ BK737.out 2).trans rfl,(bC_ BK737.out 3).trans rfl,(bC_ BK737.out 4).trans rfl,(bC_ BK737.out 5).trans rfl,(bC_ BK737.out 6).trans rfl⟩ (fun hHeld=>?_)
  generalize w30.drew=w31 at HO722 HO729 BK715 BK716 BK726 BK737 HI719 HB hHeld ⊢
  refine take_ (i:=0) (N:=some 28) (v:=?_) (a':=?_) #[true,false,false,false] rfl rfl (by kernel_rfl) (fun _ _ _ h=>h) (Or.inl ⟨by rfl,?_⟩) hHeld ?_ ?_
  rotate_left
  ·rintro w' ⟨s0,s1,s2,s3,s4,s5,s6,s7,s8,s9⟩
   go_simp
   with_reducible rfl
  rotate_left
  ·simp only [Act.put,List.setIfInBounds_toArray,List.set_cons_zero,List.set_cons_succ,i64_w,i32_w]
   rfl
  refine take_ (i:=1) (N:=some 29) (v:=?_) (a':=?_) #[true,true,false,false] rfl rfl (by kernel_rfl) (fun _ _ _ h=>h) (Or.inl ⟨by rfl,?_⟩) hHeld ?_ ?_
  rotate_left
  ·rintro w' ⟨s0,s1,s2,s3,s4,s5,s6,s7,s8,s9⟩
   go_simp
   with_reducible rfl
  rotate_left
  ·simp only [Act.put,List.setIfInBounds_toArray,List.set_cons_zero,List.set_cons_succ,i64_w,i32_w]
   rfl
  refine one_ (i:=2) (N:=none) #[true,true,true,false] rfl rfl (by kernel_rfl) (by decide) (fun K hK=>?_)
  have hs32:w31.cell? ⟨gb715,0,none⟩=some (.slice none 0 0):=(bC_ BK715.out 0).trans rfl
  have hfs32:=bF_ BK715.out 0
  have hns32_1:=NB716_715.out
  have hns32_2:=NB726_715.out
  have hns32_3:=NB737_715.out
  have hms32_1:=NB715_716.out
  have hms32_2:=NB715_726.out
  have hms32_3:=NB715_737.out
  have hs33:w31.cell? ⟨gb715,1,none⟩=some (.int .i64 0):=(bC_ BK715.out 1).trans rfl
  have hfs33:=bF_ BK715.out 1
  have hns33_1:=NB716_715.out
  have hns33_2:=NB726_715.out
  have hns33_3:=NB737_715.out
  have hms33_1:=NB715_716.out
  have hms33_2:=NB715_726.out
  have hms33_3:=NB715_737.out
  have hs34:w31.cell? ⟨gb715,2,none⟩=some (.bool false):=(bC_ BK715.out 2).trans rfl
  have hfs34:=bF_ BK715.out 2
  have hns34_1:=NB716_715.out
  have hns34_2:=NB726_715.out
  have hns34_3:=NB737_715.out
  have hms34_1:=NB715_716.out
  have hms34_2:=NB715_726.out
  have hms34_3:=NB715_737.out
  refine skip_ (w1:=?_) (by rfl) rfl ?_ ?_
  rotate_left
  ·go_simp
   rfl
  refine hK.out _ _ ⟨((cF_ (p:=⟨gb715,_,none⟩) NB726_715.out _).trans (((cF_ (p:=⟨gb715,_,none⟩) NB726_715.out _).trans (((cF_ (p:=⟨gb715,_,none⟩) NB726_715.out _).trans (hHeld.1)))))),((cF_ (p:=⟨gb715,_,none⟩) NB726_715.out _).trans (((cF_ (p:=⟨gb715,_,none⟩) NB726_715.out _).trans (((cF_ (p:=⟨gb715,_,none⟩) NB726_715.out _).trans (hHeld.2.1)))))),((cF_ (p:=⟨gb715,_,none⟩) NB726_715.out _).trans (((cF_ (p:=⟨gb715,_,none⟩) NB726_715.out _).trans (((cF_ (p:=⟨gb715,_,none⟩) NB726_715.out _).trans (hHeld.2.2.1)))))),((cF_ (p:=⟨gb715,_,none⟩) NB737_715.out _).trans (((cF_ (p:=⟨gb715,_,none⟩) NB737_715.out _).trans (((cF_ (p:=⟨gb715,_,none⟩) NB737_715.out _).trans (hHeld.2.2.2.1)))))),((cF_ (p:=⟨gb715,_,none⟩) NB737_715.out _).trans (((cF_ (p:=⟨gb715,_,none⟩) NB737_715.out _).trans (((cF_ (p:=⟨gb715,_,none⟩) NB737_715.out _).trans (hHeld.2.2.2.2.1)))))),((cF_ (p:=⟨gb715,_,none⟩) NB737_715.out _).trans (((cF_ (p:=⟨gb715,_,none⟩) NB737_715.out _).trans (((cF_ (p:=⟨gb715,_,none⟩) NB737_715.out _).trans (hHeld.2.2.2.2.2.1)))))),((cF_ (p:=⟨gb715,_,none⟩) NB737_715.out _).trans (((cF_ (p:=⟨gb715,_,none⟩) NB737_715.out _).trans (((cF_ (p:=⟨gb715,_,none⟩) NB737_715.out _).trans (hHeld.2.2.2.2.2.2.1)))))),((cF_ (p:=⟨gb715,_,none⟩) NB737_715.out _).trans (((cF_ (p:=⟨gb715,_,none⟩) NB737_715.out _).trans (((cF_ (p:=⟨gb715,_,none⟩) NB737_715.out _).trans (hHeld.2.2.2.2.2.2.2.1)))))),((cF_ (p:=⟨gb715,_,none⟩) NB737_715.out _).trans (((cF_ (p:=⟨gb715,_,none⟩) NB737_715.out _).trans (((cF_ (p:=⟨gb715,_,none⟩) NB737_715.out _).trans (hHeld.2.2.2.2.2.2.2.2.1)))))),((cF_ (p:=⟨gb715,_,none⟩) NB737_715.out _).trans (((cF_ (p:=⟨gb715,_,none⟩) NB737_715.out _).trans (((cF_ (p:=⟨gb715,_,none⟩) NB737_715.out _).trans (hHeld.2.2.2.2.2.2.2.2.2))))))⟩ (fun hHeld=>?_)
  clear hK K
  refine one_ (i:=3) (N:=none) #[true,true,true,true] rfl rfl (by kernel_rfl) (by decide) (fun K hK=>?_)
  have hs35:w31.cell? ⟨gb716,0,none⟩=some (.int .i64 0):=(bC_ BK716.out 0).trans rfl
  have hfs35:=bF_ BK716.out 0
  have hns35_0:=NB715_716.out
  have hns35_2:=NB726_716.out
  have hns35_3:=NB737_716.out
  have hms35_0:=NB716_715.out
  have hms35_2:=NB716_726.out
  have hms35_3:=NB716_737.out
  have hs36:w31.cell? ⟨gb716,1,none⟩=some (.int .i64 0):=(bC_ BK716.out 1).trans rfl
  have hfs36:=bF_ BK716.out 1
  have hns36_0:=NB715_716.out
  have hns36_2:=NB726_716.out
  have hns36_3:=NB737_716.out
  have hms36_0:=NB716_715.out
  have hms36_2:=NB716_726.out
  have hms36_3:=NB716_737.out
  have hs37:w31.cell? ⟨gb716,2,none⟩=some (.int .i64 0):=(bC_ BK716.out 2).trans rfl
  have hfs37:=bF_ BK716.out 2
  have hns37_0:=NB715_716.out
  have hns37_2:=NB726_716.out
  have hns37_3:=NB737_716.out
  have hms37_0:=NB716_715.out
  have hms37_2:=NB716_726.out
  have hms37_3:=NB716_737.out
  have hs38:w31.cell? ⟨gb716,3,none⟩=some (.int .i64 0):=(bC_ BK716.out 3).trans rfl
  have hfs38:=bF_ BK716.out 3
  have hns38_0:=NB715_716.out
  have hns38_2:=NB726_716.out
  have hns38_3:=NB737_716.out
  have hms38_0:=NB716_715.out
  have hms38_2:=NB716_726.out
  have hms38_3:=NB716_737.out
  have hs39:w31.cell? ⟨gb716,4,none⟩=some (.int .i64 0):=(bC_ BK716.out 4).trans rfl
  have hfs39:=bF_ BK716.out 4
  have hns39_0:=NB715_716.out
  have hns39_2:=NB726_716.out
  have hns39_3:=NB737_716.out
  have hms39_0:=NB716_715.out
  have hms39_2:=NB716_726.out
  have hms39_3:=NB716_737.out
  have hs40:w31.cell? ⟨gb716,5,none⟩=some (.int .i64 0):=(bC_ BK716.out 5).trans rfl
  have hfs40:=bF_ BK716.out 5
  have hns40_0:=NB715_716.out
  have hns40_2:=NB726_716.out
  have hns40_3:=NB737_716.out
  have hms40_0:=NB716_715.out
  have hms40_2:=NB716_726.out
  have hms40_3:=NB716_737.out
  have hs41:w31.cell? ⟨gb716,6,none⟩=some (.string (⟨#[]⟩:ByteArray)):=(bC_ BK716.out 6).trans rfl
  have hfs41:=bF_ BK716.out 6
  have hns41_0:=NB715_716.out
  have hns41_2:=NB726_716.out
  have hns41_3:=NB737_716.out
  have hms41_0:=NB716_715.out
  have hms41_2:=NB716_726.out
  have hms41_3:=NB716_737.out
  refine skip_ (w1:=?_) (by rfl) rfl ?_ ?_
  rotate_left
  ·go_simp
   rfl
  refine hK.out _ _ ⟨((cF_ (p:=⟨gb716,_,none⟩) NB726_716.out _).trans (((cF_ (p:=⟨gb716,_,none⟩) NB726_716.out _).trans (((cF_ (p:=⟨gb716,_,none⟩) NB726_716.out _).trans (((cF_ (p:=⟨gb716,_,none⟩) NB726_716.out _).trans (((cF_ (p:=⟨gb716,_,none⟩) NB726_716.out _).trans (((cF_ (p:=⟨gb716,_,none⟩) NB726_716.out _).trans (((cF_ (p:=⟨gb716,_,none⟩) NB726_716.out _).trans (hHeld.1)))))))))))))),((cF_ (p:=⟨gb716,_,none⟩) NB726_716.out _).trans (((cF_ (p:=⟨gb716,_,none⟩) NB726_716.out _).trans (((cF_ (p:=⟨gb716,_,none⟩) NB726_716.out _).trans (((cF_ (p:=⟨gb716,_,none⟩) NB726_716.out _).trans (((cF_ (p:=⟨gb716,_,none⟩) NB726_716.out _).trans (((cF_ (p:=⟨gb716,_,none⟩) NB726_716.out _).trans (((cF_ (p:=⟨gb716,_,none⟩) NB726_716.out _).trans (hHeld.2.1)))))))))))))),((cF_ (p:=⟨gb716,_,none⟩) NB726_716.out _).trans (((cF_ (p:=⟨gb716,_,none⟩) NB726_716.out _).trans (((cF_ (p:=⟨gb716,_,none⟩) NB726_716.out _).trans (((cF_ (p:=⟨gb716,_,none⟩) NB726_716.out _).trans (((cF_ (p:=⟨gb716,_,none⟩) NB726_716.out _).trans (((cF_ (p:=⟨gb716,_,none⟩) NB726_716.out _).trans (((cF_ (p:=⟨gb716,_,none⟩) NB726_716.out _).trans (hHeld.2.2.1)))))))))))))),((cF_ (p:=⟨gb716,_,none⟩) NB737_716.out _).trans (((cF_ (p:=⟨gb716,_,none⟩) NB737_716.out _).trans (((cF_ (p:=⟨gb716,_,none⟩) NB737_716.out _).trans (((cF_ (p:=⟨gb716,_,none⟩) NB737_716.out _).trans (((cF_ (p:=⟨gb716,_,none⟩) NB737_716.out _).trans (((cF_ (p:=⟨gb716,_,none⟩) NB737_716.out _).trans (((cF_ (p:=⟨gb716,_,none⟩) NB737_716.out _).trans (hHeld.2.2.2.1)))))))))))))),((cF_ (p:=⟨gb716,_,none⟩) NB737_716.out _).trans (((cF_ (p:=⟨gb716,_,none⟩) NB737_716.out _).trans (((cF_ (p:=⟨gb716,_,none⟩) NB737_716.out _).trans (((cF_ (p:=⟨gb716,_,none⟩) NB737_716.out _).trans (((cF_ (p:=⟨gb716,_,none⟩) NB737_716.out _).trans (((cF_ (p:=⟨gb716,_,none⟩) NB737_716.out _).trans (((cF_ (p:=⟨gb716,_,none⟩) NB737_716.out _).trans (hHeld.2.2.2.2.1)))))))))))))),((cF_ (p:=⟨gb716,_,none⟩) NB737_716.out _).trans (((cF_ (p:=⟨gb716,_,none⟩) NB737_716.out _).trans (((cF_ (p:=⟨gb716,_,none⟩) NB737_716.out _).trans (((cF_ (p:=⟨gb716,_,none⟩) NB737_716.out _).trans (((cF_ (p:=⟨gb716,_,none⟩) NB737_716.out _).trans (((cF_ (p:=⟨gb716,_,none⟩) NB737_716.out _).trans (((cF_ (p:=⟨gb716,_,none⟩) NB737_716.out _).trans (hHeld.2.2.2.2.2.1)))))))))))))),((cF_ (p:=⟨gb716,_,none⟩) NB737_716.out _).trans (((cF_ (p:=⟨gb716,_,none⟩) NB737_716.out _).trans (((cF_ (p:=⟨gb716,_,none⟩) NB737_716.out _).trans (((cF_ (p:=⟨gb716,_,none⟩) NB737_716.out _).trans (((cF_ (p:=⟨gb716,_,none⟩) NB737_716.out _).trans (((cF_ (p:=⟨gb716,_,none⟩) NB737_716.out _).trans (((cF_ (p:=⟨gb716,_,none⟩) NB737_716.out _).trans (hHeld.2.2.2.2.2.2.1)))))))))))))),((cF_ (p:=⟨gb716,_,none⟩) NB737_716.out _).trans (((cF_ (p:=⟨gb716,_,none⟩) NB737_716.out _).trans (((cF_ (p:=⟨gb716,_,none⟩) NB737_716.out _).trans (((cF_ (p:=⟨gb716,_,none⟩) NB737_716.out _).trans (((cF_ (p:=⟨gb716,_,none⟩) NB737_716.out _).trans (((cF_ (p:=⟨gb716,_,none⟩) NB737_716.out _).trans (((cF_ (p:=⟨gb716,_,none⟩) NB737_716.out _).trans (hHeld.2.2.2.2.2.2.2.1)))))))))))))),((cF_ (p:=⟨gb716,_,none⟩) NB737_716.out _).trans (((cF_ (p:=⟨gb716,_,none⟩) NB737_716.out _).trans (((cF_ (p:=⟨gb716,_,none⟩) NB737_716.out _).trans (((cF_ (p:=⟨gb716,_,none⟩) NB737_716.out _).trans (((cF_ (p:=⟨gb716,_,none⟩) NB737_716.out _).trans (((cF_ (p:=⟨gb716,_,none⟩) NB737_716.out _).trans (((cF_ (p:=⟨gb716,_,none⟩) NB737_716.out _).trans (hHeld.2.2.2.2.2.2.2.2.1)))))))))))))),((cF_ (p:=⟨gb716,_,none⟩) NB737_716.out _).trans (((cF_ (p:=⟨gb716,_,none⟩) NB737_716.out _).trans (((cF_ (p:=⟨gb716,_,none⟩) NB737_716.out _).trans (((cF_ (p:=⟨gb716,_,none⟩) NB737_716.out _).trans (((cF_ (p:=⟨gb716,_,none⟩) NB737_716.out _).trans (((cF_ (p:=⟨gb716,_,none⟩) NB737_716.out _).trans (((cF_ (p:=⟨gb716,_,none⟩) NB737_716.out _).trans (hHeld.2.2.2.2.2.2.2.2.2))))))))))))))⟩ (fun hHeld=>?_)
  clear hK K
  refine done_ (by kernel_rfl) ?_
  try go_wp2
  refine bodyPost_ret (results_cc rfl _ _ gb715 gb716 25 44 #[.slice Ao26 t727.length co26,.int .i64 t740,.bool t724] #[.int .i64 t730,.int .i64 t731,.int .i64 t732,.int .i64 t733,.int .i64 t734,.int .i64 t735,.string t736] (0,0) (0,0) _ _ rfl (by (with_reducible repeat (first|refine bN_ ?_ _|refine bD_ ?_|refine bA_ ?_ _));refine blk_far ?_ NB715_716.out _;(with_reducible repeat (first|refine bN_ ?_ _|refine bD_ ?_|refine bA_ ?_ _));refine blk_far ?_ NB715_716.out _;(with_reducible repeat (first|refine bN_ ?_ _|refine bD_ ?_|refine bA_ ?_ _));refine blk_far ?_ NB715_716.out _;(with_reducible repeat (first|refine bN_ ?_ _|refine bD_ ?_|refine bA_ ?_ _));refine blk_far ?_ NB715_716.out _;(with_reducible repeat (first|refine bN_ ?_ _|refine bD_ ?_|refine bA_ ?_ _));refine blk_far ?_ NB715_716.out _;(with_reducible repeat (first|refine bN_ ?_ _|refine bD_ ?_|refine bA_ ?_ _));refine blk_far ?_ NB715_716.out _;(with_reducible repeat (first|refine bN_ ?_ _|refine bD_ ?_|refine bA_ ?_ _));refine blk_far ?_ NB715_716.out _;(with_reducible repeat (first|refine bN_ ?_ _|refine bD_ ?_|refine bA_ ?_ _));refine blk_put (cs:=#[.slice Ao26 t727.length co26,.int .i64 t740,.bool false]) ?_ 2 _ rfl;(with_reducible repeat (first|refine bN_ ?_ _|refine bD_ ?_|refine bA_ ?_ _));refine blk_put (cs:=#[.slice Ao26 t727.length co26,.int .i64 0,.bool false]) ?_ 1 _ rfl;(with_reducible repeat (first|refine bN_ ?_ _|refine bD_ ?_|refine bA_ ?_ _));refine blk_put (cs:=#[.slice none 0 0,.int .i64 0,.bool false]) ?_ 0 _ rfl;(with_reducible repeat (first|refine bN_ ?_ _|refine bD_ ?_|refine bA_ ?_ _));exact BK715.out) Tryd.underlying25 rfl (by kernel_rfl) rfl (by (with_reducible repeat (first|refine bN_ ?_ _|refine bD_ ?_|refine bA_ ?_ _));refine blk_put (cs:=#[.int .i64 t730,.int .i64 t731,.int .i64 t732,.int .i64 t733,.int .i64 t734,.int .i64 t735,.string (⟨#[]⟩:ByteArray)]) ?_ 6 _ rfl;(with_reducible repeat (first|refine bN_ ?_ _|refine bD_ ?_|refine bA_ ?_ _));refine blk_put (cs:=#[.int .i64 t730,.int .i64 t731,.int .i64 t732,.int .i64 t733,.int .i64 t734,.int .i64 0,.string (⟨#[]⟩:ByteArray)]) ?_ 5 _ rfl;(with_reducible repeat (first|refine bN_ ?_ _|refine bD_ ?_|refine bA_ ?_ _));refine blk_put (cs:=#[.int .i64 t730,.int .i64 t731,.int .i64 t732,.int .i64 t733,.int .i64 0,.int .i64 0,.string (⟨#[]⟩:ByteArray)]) ?_ 4 _ rfl;(with_reducible repeat (first|refine bN_ ?_ _|refine bD_ ?_|refine bA_ ?_ _));refine blk_put (cs:=#[.int .i64 t730,.int .i64 t731,.int .i64 t732,.int .i64 0,.int .i64 0,.int .i64 0,.string (⟨#[]⟩:ByteArray)]) ?_ 3 _ rfl;(with_reducible repeat (first|refine bN_ ?_ _|refine bD_ ?_|refine bA_ ?_ _));refine blk_put (cs:=#[.int .i64 t730,.int .i64 t731,.int .i64 0,.int .i64 0,.int .i64 0,.int .i64 0,.string (⟨#[]⟩:ByteArray)]) ?_ 2 _ rfl;(with_reducible repeat (first|refine bN_ ?_ _|refine bD_ ?_|refine bA_ ?_ _));refine blk_put (cs:=#[.int .i64 t730,.int .i64 0,.int .i64 0,.int .i64 0,.int .i64 0,.int .i64 0,.string (⟨#[]⟩:ByteArray)]) ?_ 1 _ rfl;(with_reducible repeat (first|refine bN_ ?_ _|refine bD_ ?_|refine bA_ ?_ _));refine blk_put (cs:=#[.int .i64 0,.int .i64 0,.int .i64 0,.int .i64 0,.int .i64 0,.int .i64 0,.string (⟨#[]⟩:ByteArray)]) ?_ 0 _ rfl;(with_reducible repeat (first|refine bN_ ?_ _|refine bD_ ?_|refine bA_ ?_ _));refine blk_far ?_ NB716_715.out _;(with_reducible repeat (first|refine bN_ ?_ _|refine bD_ ?_|refine bA_ ?_ _));refine blk_far ?_ NB716_715.out _;(with_reducible repeat (first|refine bN_ ?_ _|refine bD_ ?_|refine bA_ ?_ _));refine blk_far ?_ NB716_715.out _;(with_reducible repeat (first|refine bN_ ?_ _|refine bD_ ?_|refine bA_ ?_ _));exact BK716.out) Tryd.underlying44 rfl (by kernel_rfl)) rfl ?_
  exact ⟨_,fi_,by (with_reducible repeat (first|apply Kd.R_alloc|apply Kd.R_drewN|apply Kd.R_drew));exact Kd.R_mono (Kd.R_far (p:=⟨gb716,6,none⟩) (Kd.R_far (p:=⟨gb716,5,none⟩) (Kd.R_far (p:=⟨gb716,4,none⟩) (Kd.R_far (p:=⟨gb716,3,none⟩) (Kd.R_far (p:=⟨gb716,2,none⟩) (Kd.R_far (p:=⟨gb716,1,none⟩) (Kd.R_far (p:=⟨gb716,0,none⟩) (Kd.R_far (p:=⟨gb715,2,none⟩) (Kd.R_far (p:=⟨gb715,1,none⟩) (Kd.R_far (p:=⟨gb715,0,none⟩) (Kd.R_mono (Kd.R_types HO729.out BK715.out (by decide)) (fun k_ hk=>(⟨hk,hk.1.2.1⟩:_∧k_≠gb716))) (fun _ hk=>hk.1.2) (.slice Ao26 t727.length co26)) (fun _ hk=>hk.1.2) (.int .i64 t740)) (fun _ hk=>hk.1.2) (.bool t724)) (fun _ hk=>hk.2) (.int .i64 t730)) (fun _ hk=>hk.2) (.int .i64 t731)) (fun _ hk=>hk.2) (.int .i64 t732)) (fun _ hk=>hk.2) (.int .i64 t733)) (fun _ hk=>hk.2) (.int .i64 t734)) (fun _ hk=>hk.2) (.int .i64 t735)) (fun _ hk=>hk.2) (.string t736)) (fun _ hk=>trivial),bel_⟩
 ·rw [if_neg c6] at H
  have c6b0:decide (0 < t738)=false:=df_ c6
  clear c6
  simp only [Option.some.injEq,Prod.mk.injEq] at H
  obtain ⟨rfl,rfl,rfl,rfl,rfl,rfl,rfl,rfl,rfl,rfl⟩:=H
  go_enter Tryd.func28,Tryd.ntmps28
  try go_wp2_with (first|((with_reducible refine gD_ (N:=2) rfl ?_);refine bx_ 2 (#[.slice none 0 0,.int .i64 0,.bool false]) 25 ?_;intro gb715 hg w42 hbox hb;have n0_:=a_ (bS_ (bel_) hb);have n1_:=a_ (hbox);have n2_:=a_ ((by rw [hg];exact (below_size (bel_)):w.heap.size≤gb715));have n3_:=a_ ((by rw [hg];exact (below_size (bel_)):w.heap.size≤gb715));clear HB;have HB:=n0_;have BK715:=n1_;have GW715:=n2_;have GE715:=n3_;clear n0_ n1_ n2_ n3_;clear hb hbox hg)|((with_reducible refine gD_ (N:=3) rfl ?_);refine bx_ 3 (#[.int .i64 0,.int .i64 0,.int .i64 0,.int .i64 0,.int .i64 0,.int .i64 0,.string (⟨#[]⟩:ByteArray)]) 44 ?_;intro gb716 hg w43 hbox hb;have n0_:=a_ (blk_below (g:=gb715) (o:=.cells #[.slice none 0 0,.int .i64 0,.bool false] 25 (0,0)) (bp_ BK715.out) hb);have n1_:=a_ (bS_ (bel_) hb);have n2_:=a_ (hbox);have n3_:=a_ ((by rw [hg];exact (below_size (bel_)):w.heap.size≤gb716));have n4_:=a_ ((by rw [hg];exact (below_size (bel_)):w.heap.size≤gb716));have n5_:=a_ ((by rw [hg];exact Nat.ne_of_lt (blk_lt (g:=gb715) (o:=.cells #[.slice none 0 0,.int .i64 0,.bool false] 25 (0,0)) (bp_ BK715.out)):gb715≠gb716));have n6_:=a_ ((by rw [hg];exact Nat.ne_of_gt (blk_lt (g:=gb715) (o:=.cells #[.slice none 0 0,.int .i64 0,.bool false] 25 (0,0)) (bp_ BK715.out)):gb716≠gb715));clear BK715;clear HB;have BK715:=n0_;have HB:=n1_;have BK716:=n2_;have GW716:=n3_;have GE716:=n4_;have NB715_716:=n5_;have NB716_715:=n6_;clear n0_ n1_ n2_ n3_ n4_ n5_ n6_;clear hb hbox hg)|((with_reducible refine gC_ (f:=72) rfl ?_);refine gl_ 9 Tryd.func72 #[.slice A0 l0.length c0] ?_;(with_reducible refine (spec_l6Open.calls _ _ l0 t717 t718 w _ ?side1 ?side2 ?side3 A2.out).mono ?_);(case side1=>exact bel_);(case side2=>exact HR0.out);(case side3=>exact HC0.out);rintro e w44 ⟨g719,rfl,hi,hb,hb2⟩;refine ⟨_,rfl,?_⟩;replace HB:=a_ (hb);have HI719:=a_ (hi);have NB719_715:=a_ (IsS145.ne_blk hi (blk_below (g:=gb715) (o:=.cells #[.slice none 0 0,.int .i64 0,.bool false] 25 (0,0)) (bp_ BK715.out) hb2) (by decide));have NB715_719:=a_ (Ne.symm (IsS145.ne_blk hi (blk_below (g:=gb715) (o:=.cells #[.slice none 0 0,.int .i64 0,.bool false] 25 (0,0)) (bp_ BK715.out) hb2) (by decide)));replace BK715:=a_ (blk_below (g:=gb715) (o:=.cells #[.slice none 0 0,.int .i64 0,.bool false] 25 (0,0)) (bp_ BK715.out) hb2);have NB719_716:=a_ (IsS145.ne_blk hi (blk_below (g:=gb716) (o:=.cells #[.int .i64 0,.int .i64 0,.int .i64 0,.int .i64 0,.int .i64 0,.int .i64 0,.string (⟨#[]⟩:ByteArray)] 44 (0,0)) (bp_ BK716.out) hb2) (by decide));have NB716_719:=a_ (Ne.symm (IsS145.ne_blk hi (blk_below (g:=gb716) (o:=.cells #[.int .i64 0,.int .i64 0,.int .i64 0,.int .i64 0,.int .i64 0,.int .i64 0,.string (⟨#[]⟩:ByteArray)] 44 (0,0)) (bp_ BK716.out) hb2) (by decide)));replace BK716:=a_ (blk_below (g:=gb716) (o:=.cells #[.int .i64 0,.int .i64 0,.int .i64 0,.int .i64 0,.int .i64 0,.int .i64 0,.string (⟨#[]⟩:ByteArray)] 44 (0,0)) (bp_ BK716.out) hb2);(try clear hb hb2 hi))|((with_reducible refine gC_ (f:=73) rfl ?_);refine gl_ 11 Tryd.func73 #[.pointer (some ⟨g719,0,none⟩)] ?_;(with_reducible refine (spec_l72Server.calls k g719 t717 t718 t720 t723 t724 t725 w _ ?side1 ?side2 A3.out).mono ?_);(case side1=>exact is_HI719);(case side2=>exact bel_);rintro e w45 ⟨v721,rfl,ho0,hi,hb,hk⟩;refine ⟨_,rfl,?_⟩;have HO722:=a_ (Kd.R_lower (Kd.R_newB ho0 (g:=gb716) (o:=.cells #[.int .i64 0,.int .i64 0,.int .i64 0,.int .i64 0,.int .i64 0,.int .i64 0,.string (⟨#[]⟩:ByteArray)] 44 (0,0)) (bp_ BK716.out)) (below_size (bel_)));replace BK715:=a_ (kb_ hk BK715.out NB715_719.out);replace BK716:=a_ (kb_ hk BK716.out NB716_719.out);replace HB:=a_ (hb);replace HI719:=a_ (hi);(try clear hb hk hi ho0))|((with_reducible refine gD_ (N:=5) rfl ?_);refine bx_ 5 (#[.slice none 0 0,.int .i64 0,.bool false]) 25 ?_;intro gb726 hg w46 hbox hb;have n0_:=a_ (Kd.R_below (rp_ HO722.out) hb);have n1_:=a_ (blk_below (g:=gb715) (o:=.cells #[.slice none 0 0,.int .i64 0,.bool false] 25 (0,0)) (bp_ BK715.out) hb);have n2_:=a_ (blk_below (g:=gb716) (o:=.cells #[.int .i64 0,.int .i64 0,.int .i64 0,.int .i64 0,.int .i64 0,.int .i64 0,.string (⟨#[]⟩:ByteArray)] 44 (0,0)) (bp_ BK716.out) hb);have n3_:=a_ (IsS145.below (is_HI719) hb);have n4_:=a_ (bS_ (bel_) hb);have n5_:=a_ (hbox);have n6_:=a_ ((by rw [hg];exact (below_size (bel_)):w.heap.size≤gb726));have n7_:=a_ ((by rw [hg];exact (below_size (bel_)):w.heap.size≤gb726));have n8_:=a_ ((by rw [hg];exact Nat.ne_of_lt (blk_lt (g:=gb715) (o:=.cells #[.slice none 0 0,.int .i64 0,.bool false] 25 (0,0)) (bp_ BK715.out)):gb715≠gb726));have n9_:=a_ ((by rw [hg];exact Nat.ne_of_gt (blk_lt (g:=gb715) (o:=.cells #[.slice none 0 0,.int .i64 0,.bool false] 25 (0,0)) (bp_ BK715.out)):gb726≠gb715));have n10_:=a_ ((by rw [hg];exact Nat.ne_of_lt (blk_lt (g:=gb716) (o:=.cells #[.int .i64 0,.int .i64 0,.int .i64 0,.int .i64 0,.int .i64 0,.int .i64 0,.string (⟨#[]⟩:ByteArray)] 44 (0,0)) (bp_ BK716.out)):gb716≠gb726));have n11_:=a_ ((by rw [hg];exact Nat.ne_of_gt (blk_lt (g:=gb716) (o:=.cells #[.int .i64 0,.int .i64 0,.int .i64 0,.int .i64 0,.int .i64 0,.int .i64 0,.string (⟨#[]⟩:ByteArray)] 44 (0,0)) (bp_ BK716.out)):gb726≠gb716));have n12_:=a_ ((by rw [hg];exact Nat.ne_of_lt (IsS145.lt (show IsS145 w _ g719 t717 t725 from is_HI719)):g719≠gb726));have n13_:=a_ ((by rw [hg];exact Nat.ne_of_gt (IsS145.lt (show IsS145 w _ g719 t717 t725 from is_HI719)):gb726≠g719));clear HO722;clear BK715;clear BK716;clear HI719;clear HB;have HO722:=n0_;have BK715:=n1_;have BK716:=n2_;have HI719:=n3_;have HB:=n4_;have BK726:=n5_;have GW726:=n6_;have GE726:=n7_;have NB715_726:=n8_;have NB726_715:=n9_;have NB716_726:=n10_;have NB726_716:=n11_;have NB719_726:=n12_;have NB726_719:=n13_;clear n0_ n1_ n2_ n3_ n4_ n5_ n6_ n7_ n8_ n9_ n10_ n11_ n12_ n13_;clear hb hbox hg;obtain ⟨Ao47,co47,eo47⟩:=Kd.R_slice HO722.out;subst eo47;have hnb48:=NB726_715.out;have hnc48:=NB715_726.out;have hnb49:=NB726_716.out;have hnc49:=NB716_726.out;have hnb50:=NB726_719.out;have hnc50:=NB719_726.out;have Z51_0:=cz_ BK726.out 0 (.slice none 0 0);have Z51_1:=cz_ BK726.out 1 (.int .i64 0);have Z51_2:=cz_ BK726.out 2 (.bool false);have Y51_0:=bF_ BK726.out 0;have Y51_1:=bF_ BK726.out 1;have Y51_2:=bF_ BK726.out 2)|((with_reducible refine gC_ (f:=36) rfl ?_);refine gl_ 14 Tryd.func36 #[.slice A0 l0.length c0] ?_;(with_reducible refine (spec_DrawLogAdd.calls k _ _ l0 t727 t730 t731 t732 t733 t734 t735 t736 _ ?side1 ?side2 A4.out).mono ?_);(case side1=>exact Kd.C_below HR0.out (bel_));(case side2=>exact HC0.out);rintro e w52 ⟨v728,rfl,ho0,hb⟩;refine ⟨_,rfl,?_⟩;have n0_:=a_ (Kd.R_elder' (by (with_reducible repeat (first|apply Kd.R_alloc|apply Kd.R_drewN|apply Kd.R_drew));exact (Kd.R_mono (Kd.R_far (p:=⟨gb726,2,none⟩) (Kd.R_far (p:=⟨gb726,1,none⟩) (Kd.R_far (p:=⟨gb726,0,none⟩) (Kd.R_types HO722.out BK726.out (by decide)) (fun _ hk=>hk.2) (.slice Ao47 t720.length co47)) (fun _ hk=>hk.2) (.int .i64 t723)) (fun _ hk=>hk.2) (.bool t724)) (fun _ h_=>h_.1))) (Kd.R_base ho0) hb);have n1_:=a_ (Kd.R_lower (Kd.R_newB (Kd.R_new' ho0 (Kd.R_lt (by (with_reducible repeat (first|apply Kd.R_alloc|apply Kd.R_drewN|apply Kd.R_drew));exact (Kd.R_mono (Kd.R_far (p:=⟨gb726,2,none⟩) (Kd.R_far (p:=⟨gb726,1,none⟩) (Kd.R_far (p:=⟨gb726,0,none⟩) (Kd.R_types HO722.out BK726.out (by decide)) (fun _ hk=>hk.2) (.slice Ao47 t720.length co47)) (fun _ hk=>hk.2) (.int .i64 t723)) (fun _ hk=>hk.2) (.bool t724)) (fun _ h_=>h_.1))))) (g:=gb716) (o:=.cells #[.int .i64 0,.int .i64 0,.int .i64 0,.int .i64 0,.int .i64 0,.int .i64 0,.string (⟨#[]⟩:ByteArray)] 44 (0,0)) (by (with_reducible repeat (first|refine bN_ ?_ _|refine bD_ ?_|refine bA_ ?_ _));refine blk_far ?_ NB716_726.out _;(with_reducible repeat (first|refine bN_ ?_ _|refine bD_ ?_|refine bA_ ?_ _));refine blk_far ?_ NB716_726.out _;(with_reducible repeat (first|refine bN_ ?_ _|refine bD_ ?_|refine bA_ ?_ _));refine blk_far ?_ NB716_726.out _;(with_reducible repeat (first|refine bN_ ?_ _|refine bD_ ?_|refine bA_ ?_ _));exact BK716.out)) (below_size (bel_)));have n2_:=a_ (blk_below (g:=gb715) (o:=.cells #[.slice none 0 0,.int .i64 0,.bool false] 25 (0,0)) (by (with_reducible repeat (first|refine bN_ ?_ _|refine bD_ ?_|refine bA_ ?_ _));refine blk_far ?_ NB715_726.out _;(with_reducible repeat (first|refine bN_ ?_ _|refine bD_ ?_|refine bA_ ?_ _));refine blk_far ?_ NB715_726.out _;(with_reducible repeat (first|refine bN_ ?_ _|refine bD_ ?_|refine bA_ ?_ _));refine blk_far ?_ NB715_726.out _;(with_reducible repeat (first|refine bN_ ?_ _|refine bD_ ?_|refine bA_ ?_ _));exact BK715.out) hb);have n3_:=a_ (blk_below (g:=gb716) (o:=.cells #[.int .i64 0,.int .i64 0,.int .i64 0,.int .i64 0,.int .i64 0,.int .i64 0,.string (⟨#[]⟩:ByteArray)] 44 (0,0)) (by (with_reducible repeat (first|refine bN_ ?_ _|refine bD_ ?_|refine bA_ ?_ _));refine blk_far ?_ NB716_726.out _;(with_reducible repeat (first|refine bN_ ?_ _|refine bD_ ?_|refine bA_ ?_ _));refine blk_far ?_ NB716_726.out _;(with_reducible repeat (first|refine bN_ ?_ _|refine bD_ ?_|refine bA_ ?_ _));refine blk_far ?_ NB716_726.out _;(with_reducible repeat (first|refine bN_ ?_ _|refine bD_ ?_|refine bA_ ?_ _));exact BK716.out) hb);have n4_:=a_ (IsS145.below (show IsS145 w (((w46.setCell ⟨gb726,0,none⟩ (.slice Ao47 t720.length co47)).setCell ⟨gb726,1,none⟩ (.int .i64 t723)).setCell ⟨gb726,2,none⟩ (.bool t724)) g719 t717 t725 from is_HI719) hb);have n5_:=a_ (blk_below (g:=gb726) (o:=.cells #[.slice Ao47 t720.length co47,.int .i64 t723,.bool t724] 25 (0,0)) (by (with_reducible repeat (first|refine bN_ ?_ _|refine bD_ ?_|refine bA_ ?_ _));refine blk_put (cs:=#[.slice Ao47 t720.length co47,.int .i64 t723,.bool false]) ?_ 2 _ rfl;(with_reducible repeat (first|refine bN_ ?_ _|refine bD_ ?_|refine bA_ ?_ _));refine blk_put (cs:=#[.slice Ao47 t720.length co47,.int .i64 0,.bool false]) ?_ 1 _ rfl;(with_reducible repeat (first|refine bN_ ?_ _|refine bD_ ?_|refine bA_ ?_ _));refine blk_put (cs:=#[.slice none 0 0,.int .i64 0,.bool false]) ?_ 0 _ rfl;(with_reducible repeat (first|refine bN_ ?_ _|refine bD_ ?_|refine bA_ ?_ _));exact BK726.out) hb);have n6_:=a_ (bS_ (bel_) hb);clear HO722;clear BK715;clear BK716;clear HI719;clear BK726;clear HB;have HO722:=n0_;have HO729:=n1_;have BK715:=n2_;have BK716:=n3_;have HI719:=n4_;have BK726:=n5_;have HB:=n6_;clear n0_ n1_ n2_ n3_ n4_ n5_ n6_;(try clear hb ho0))|((with_reducible refine gD_ (N:=7) rfl ?_);refine bx_ 7 (#[.int .i64 0,.int .i64 0,.int .i64 0,.int .i64 0,.int .i64 0,.int .i64 0,.string (⟨#[]⟩:ByteArray)]) 44 ?_;intro gb737 hg w53 hbox hb;have n0_:=a_ (Kd.R_below (Kd.R_elderB (rp_ HO722.out) gb737 (Nat.le_of_eq hg.symm)) hb);have n1_:=a_ (Kd.R_below (Kd.R_elderB (rp_ HO729.out) gb737 (Nat.le_of_eq hg.symm)) hb);have n2_:=a_ (blk_below (g:=gb715) (o:=.cells #[.slice none 0 0,.int .i64 0,.bool false] 25 (0,0)) (bp_ BK715.out) hb);have n3_:=a_ (blk_below (g:=gb716) (o:=.cells #[.int .i64 0,.int .i64 0,.int .i64 0,.int .i64 0,.int .i64 0,.int .i64 0,.string (⟨#[]⟩:ByteArray)] 44 (0,0)) (bp_ BK716.out) hb);have n4_:=a_ (IsS145.below (is_HI719) hb);have n5_:=a_ (blk_below (g:=gb726) (o:=.cells #[.slice Ao47 t720.length co47,.int .i64 t723,.bool t724] 25 (0,0)) (bp_ BK726.out) hb);have n6_:=a_ (bS_ (bel_) hb);have n7_:=a_ (hbox);have n8_:=a_ ((by rw [hg];exact (below_size (bel_)):w.heap.size≤gb737));have n9_:=a_ ((by rw [hg];exact (below_size (bel_)):w.heap.size≤gb737));have n10_:=a_ ((by rw [hg];exact Nat.ne_of_lt (blk_lt (g:=gb715) (o:=.cells #[.slice none 0 0,.int .i64 0,.bool false] 25 (0,0)) (bp_ BK715.out)):gb715≠gb737));have n11_:=a_ ((by rw [hg];exact Nat.ne_of_gt (blk_lt (g:=gb715) (o:=.cells #[.slice none 0 0,.int .i64 0,.bool false] 25 (0,0)) (bp_ BK715.out)):gb737≠gb715));have n12_:=a_ ((by rw [hg];exact Nat.ne_of_lt (blk_lt (g:=gb716) (o:=.cells #[.int .i64 0,.int .i64 0,.int .i64 0,.int .i64 0,.int .i64 0,.int .i64 0,.string (⟨#[]⟩:ByteArray)] 44 (0,0)) (bp_ BK716.out)):gb716≠gb737));have n13_:=a_ ((by rw [hg];exact Nat.ne_of_gt (blk_lt (g:=gb716) (o:=.cells #[.int .i64 0,.int .i64 0,.int .i64 0,.int .i64 0,.int .i64 0,.int .i64 0,.string (⟨#[]⟩:ByteArray)] 44 (0,0)) (bp_ BK716.out)):gb737≠gb716));have n14_:=a_ ((by rw [hg];exact Nat.ne_of_lt (blk_lt (g:=gb726) (o:=.cells #[.slice Ao47 t720.length co47,.int .i64 t723,.bool t724] 25 (0,0)) (bp_ BK726.out)):gb726≠gb737));have n15_:=a_ ((by rw [hg];exact Nat.ne_of_gt (blk_lt (g:=gb726) (o:=.cells #[.slice Ao47 t720.length co47,.int .i64 t723,.bool t724] 25 (0,0)) (bp_ BK726.out)):gb737≠gb726));have n16_:=a_ ((by rw [hg];exact Nat.ne_of_lt (IsS145.lt (show IsS145 w _ g719 t717 t725 from is_HI719)):g719≠gb737));have n17_:=a_ ((by rw [hg];exact Nat.ne_of_gt (IsS145.lt (show IsS145 w _ g719 t717 t725 from is_HI719)):gb737≠g719));clear HO722;clear HO729;clear BK715;clear BK716;clear HI719;clear BK726;clear HB;have HO722:=n0_;have HO729:=n1_;have BK715:=n2_;have BK716:=n3_;have HI719:=n4_;have BK726:=n5_;have HB:=n6_;have BK737:=n7_;have GW737:=n8_;have GE737:=n9_;have NB715_737:=n10_;have NB737_715:=n11_;have NB716_737:=n12_;have NB737_716:=n13_;have NB726_737:=n14_;have NB737_726:=n15_;have NB719_737:=n16_;have NB737_719:=n17_;clear n0_ n1_ n2_ n3_ n4_ n5_ n6_ n7_ n8_ n9_ n10_ n11_ n12_ n13_ n14_ n15_ n16_ n17_;clear hb hbox hg;have hnb54:=NB737_715.out;have hnc54:=NB715_737.out;have hnb55:=NB737_716.out;have hnc55:=NB716_737.out;have hnb56:=NB737_726.out;have hnc56:=NB726_737.out;have hnb57:=NB737_719.out;have hnc57:=NB719_737.out;have Z58_0:=cz_ BK737.out 0 (.int .i64 0);have Z58_1:=cz_ BK737.out 1 (.int .i64 0);have Z58_2:=cz_ BK737.out 2 (.int .i64 0);have Z58_3:=cz_ BK737.out 3 (.int .i64 0);have Z58_4:=cz_ BK737.out 4 (.int .i64 0);have Z58_5:=cz_ BK737.out 5 (.int .i64 0);have Z58_6:=cz_ BK737.out 6 (.string (⟨#[]⟩:ByteArray));have Y58_0:=bF_ BK737.out 0;have Y58_1:=bF_ BK737.out 1;have Y58_2:=bF_ BK737.out 2;have Y58_3:=bF_ BK737.out 3;have Y58_4:=bF_ BK737.out 4;have Y58_5:=bF_ BK737.out 5;have Y58_6:=bF_ BK737.out 6)|((with_reducible refine gC_ (f:=74) rfl ?_);refine gl_ 18 Tryd.func74 #[.pointer (some ⟨g719,0,none⟩),.int .i64 3] ?_;(with_reducible refine (spec_l6Rd_pick.calls k g719 t717 t725 3 t738 t739 w _ ?side1 ?side2 A5.out).mono ?_);(case side1=>exact is_HI719);(case side2=>exact bel_);rintro e w59 ⟨rfl,hi,hb,hk⟩;refine ⟨_,rfl,?_⟩;have n0_:=a_ (KeepBut.blk hk (g':=gb715) (o:=.cells #[.slice none 0 0,.int .i64 0,.bool false] 25 (0,0)) (by (with_reducible repeat (first|refine bN_ ?_ _|refine bD_ ?_|refine bA_ ?_ _));refine blk_far ?_ NB715_737.out _;(with_reducible repeat (first|refine bN_ ?_ _|refine bD_ ?_|refine bA_ ?_ _));refine blk_far ?_ NB715_737.out _;(with_reducible repeat (first|refine bN_ ?_ _|refine bD_ ?_|refine bA_ ?_ _));refine blk_far ?_ NB715_737.out _;(with_reducible repeat (first|refine bN_ ?_ _|refine bD_ ?_|refine bA_ ?_ _));refine blk_far ?_ NB715_737.out _;(with_reducible repeat (first|refine bN_ ?_ _|refine bD_ ?_|refine bA_ ?_ _));refine blk_far ?_ NB715_737.out _;(with_reducible repeat (first|refine bN_ ?_ _|refine bD_ ?_|refine bA_ ?_ _));refine blk_far ?_ NB715_737.out _;(with_reducible repeat (first|refine bN_ ?_ _|refine bD_ ?_|refine bA_ ?_ _));refine blk_far ?_ NB715_737.out _;(with_reducible repeat (first|refine bN_ ?_ _|refine bD_ ?_|refine bA_ ?_ _));exact BK715.out) NB715_719.out (by simp));have n1_:=a_ (KeepBut.blk hk (g':=gb716) (o:=.cells #[.int .i64 0,.int .i64 0,.int .i64 0,.int .i64 0,.int .i64 0,.int .i64 0,.string (⟨#[]⟩:ByteArray)] 44 (0,0)) (by (with_reducible repeat (first|refine bN_ ?_ _|refine bD_ ?_|refine bA_ ?_ _));refine blk_far ?_ NB716_737.out _;(with_reducible repeat (first|refine bN_ ?_ _|refine bD_ ?_|refine bA_ ?_ _));refine blk_far ?_ NB716_737.out _;(with_reducible repeat (first|refine bN_ ?_ _|refine bD_ ?_|refine bA_ ?_ _));refine blk_far ?_ NB716_737.out _;(with_reducible repeat (first|refine bN_ ?_ _|refine bD_ ?_|refine bA_ ?_ _));refine blk_far ?_ NB716_737.out _;(with_reducible repeat (first|refine bN_ ?_ _|refine bD_ ?_|refine bA_ ?_ _));refine blk_far ?_ NB716_737.out _;(with_reducible repeat (first|refine bN_ ?_ _|refine bD_ ?_|refine bA_ ?_ _));refine blk_far ?_ NB716_737.out _;(with_reducible repeat (first|refine bN_ ?_ _|refine bD_ ?_|refine bA_ ?_ _));refine blk_far ?_ NB716_737.out _;(with_reducible repeat (first|refine bN_ ?_ _|refine bD_ ?_|refine bA_ ?_ _));exact BK716.out) NB716_719.out (by simp));have n2_:=a_ (Kd.R_mono (Kd.R_keep (IsS145.apart (show IsS145 w _ g719 t717 t725 from is_HI719) (by (with_reducible repeat (first|apply Kd.R_alloc|apply Kd.R_drewN|apply Kd.R_drew));exact (Kd.R_mono (Kd.R_far (p:=⟨gb737,6,none⟩) (Kd.R_far (p:=⟨gb737,5,none⟩) (Kd.R_far (p:=⟨gb737,4,none⟩) (Kd.R_far (p:=⟨gb737,3,none⟩) (Kd.R_far (p:=⟨gb737,2,none⟩) (Kd.R_far (p:=⟨gb737,1,none⟩) (Kd.R_far (p:=⟨gb737,0,none⟩) (Kd.R_mono HO722.out (fun k_ hk=>(⟨hk,hk.2⟩:_∧k_≠gb737))) (fun _ hk=>hk.2) (.int .i64 t730)) (fun _ hk=>hk.2) (.int .i64 t731)) (fun _ hk=>hk.2) (.int .i64 t732)) (fun _ hk=>hk.2) (.int .i64 t733)) (fun _ hk=>hk.2) (.int .i64 t734)) (fun _ hk=>hk.2) (.int .i64 t735)) (fun _ hk=>hk.2) (.string t736)) (fun _ h_=>h_.1))) (by decide)) hk (fun _ h=>h.2)) (fun _ h=>h.1));have n3_:=a_ (KeepBut.blk hk (g':=gb726) (o:=.cells #[.slice Ao47 t720.length co47,.int .i64 t723,.bool t724] 25 (0,0)) (by (with_reducible repeat (first|refine bN_ ?_ _|refine bD_ ?_|refine bA_ ?_ _));refine blk_far ?_ NB726_737.out _;(with_reducible repeat (first|refine bN_ ?_ _|refine bD_ ?_|refine bA_ ?_ _));refine blk_far ?_ NB726_737.out _;(with_reducible repeat (first|refine bN_ ?_ _|refine bD_ ?_|refine bA_ ?_ _));refine blk_far ?_ NB726_737.out _;(with_reducible repeat (first|refine bN_ ?_ _|refine bD_ ?_|refine bA_ ?_ _));refine blk_far ?_ NB726_737.out _;(with_reducible repeat (first|refine bN_ ?_ _|refine bD_ ?_|refine bA_ ?_ _));refine blk_far ?_ NB726_737.out _;(with_reducible repeat (first|refine bN_ ?_ _|refine bD_ ?_|refine bA_ ?_ _));refine blk_far ?_ NB726_737.out _;(with_reducible repeat (first|refine bN_ ?_ _|refine bD_ ?_|refine bA_ ?_ _));refine blk_far ?_ NB726_737.out _;(with_reducible repeat (first|refine bN_ ?_ _|refine bD_ ?_|refine bA_ ?_ _));exact BK726.out) NB726_719.out (by simp));have n4_:=a_ (Kd.R_mono (Kd.R_keep (IsS145.apart (show IsS145 w _ g719 t717 t725 from is_HI719) (by (with_reducible repeat (first|apply Kd.R_alloc|apply Kd.R_drewN|apply Kd.R_drew));exact (Kd.R_mono (Kd.R_far (p:=⟨gb737,6,none⟩) (Kd.R_far (p:=⟨gb737,5,none⟩) (Kd.R_far (p:=⟨gb737,4,none⟩) (Kd.R_far (p:=⟨gb737,3,none⟩) (Kd.R_far (p:=⟨gb737,2,none⟩) (Kd.R_far (p:=⟨gb737,1,none⟩) (Kd.R_far (p:=⟨gb737,0,none⟩) (Kd.R_mono HO729.out (fun k_ hk=>(⟨hk,hk.2⟩:_∧k_≠gb737))) (fun _ hk=>hk.2) (.int .i64 t730)) (fun _ hk=>hk.2) (.int .i64 t731)) (fun _ hk=>hk.2) (.int .i64 t732)) (fun _ hk=>hk.2) (.int .i64 t733)) (fun _ hk=>hk.2) (.int .i64 t734)) (fun _ hk=>hk.2) (.int .i64 t735)) (fun _ hk=>hk.2) (.string t736)) (fun _ h_=>h_.1))) (by decide)) hk (fun _ h=>h.2)) (fun _ h=>h.1));have n5_:=a_ (KeepBut.blk hk (g':=gb737) (o:=.cells #[.int .i64 t730,.int .i64 t731,.int .i64 t732,.int .i64 t733,.int .i64 t734,.int .i64 t735,.string t736] 44 (0,0)) (by (with_reducible repeat (first|refine bN_ ?_ _|refine bD_ ?_|refine bA_ ?_ _));refine blk_put (cs:=#[.int .i64 t730,.int .i64 t731,.int .i64 t732,.int .i64 t733,.int .i64 t734,.int .i64 t735,.string (⟨#[]⟩:ByteArray)]) ?_ 6 _ rfl;(with_reducible repeat (first|refine bN_ ?_ _|refine bD_ ?_|refine bA_ ?_ _));refine blk_put (cs:=#[.int .i64 t730,.int .i64 t731,.int .i64 t732,.int .i64 t733,.int .i64 t734,.int .i64 0,.string (⟨#[]⟩:ByteArray)]) ?_ 5 _ rfl;(with_reducible repeat (first|refine bN_ ?_ _|refine bD_ ?_|refine bA_ ?_ _));refine blk_put (cs:=#[.int .i64 t730,.int .i64 t731,.int .i64 t732,.int .i64 t733,.int .i64 0,.int .i64 0,.string (⟨#[]⟩:ByteArray)]) ?_ 4 _ rfl;(with_reducible repeat (first|refine bN_ ?_ _|refine bD_ ?_|refine bA_ ?_ _));refine blk_put (cs:=#[.int .i64 t730,.int .i64 t731,.int .i64 t732,.int .i64 0,.int .i64 0,.int .i64 0,.string (⟨#[]⟩:ByteArray)]) ?_ 3 _ rfl;(with_reducible repeat (first|refine bN_ ?_ _|refine bD_ ?_|refine bA_ ?_ _));refine blk_put (cs:=#[.int .i64 t730,.int .i64 t731,.int .i64 0,.int .i64 0,.int .i64 0,.int .i64 0,.string (⟨#[]⟩:ByteArray)]) ?_ 2 _ rfl;(with_reducible repeat (first|refine bN_ ?_ _|refine bD_ ?_|refine bA_ ?_ _));refine blk_put (cs:=#[.int .i64 t730,.int .i64 0,.int .i64 0,.int .i64 0,.int .i64 0,.int .i64 0,.string (⟨#[]⟩:ByteArray)]) ?_ 1 _ rfl;(with_reducible repeat (first|refine bN_ ?_ _|refine bD_ ?_|refine bA_ ?_ _));refine blk_put (cs:=#[.int .i64 0,.int .i64 0,.int .i64 0,.int .i64 0,.int .i64 0,.int .i64 0,.string (⟨#[]⟩:ByteArray)]) ?_ 0 _ rfl;(with_reducible repeat (first|refine bN_ ?_ _|refine bD_ ?_|refine bA_ ?_ _));exact BK737.out) NB737_719.out (by simp));have n6_:=a_ (hb);have n7_:=a_ (hi);clear BK715;clear BK716;clear HO722;clear BK726;clear HO729;clear BK737;clear HB;clear HI719;have BK715:=n0_;have BK716:=n1_;have HO722:=n2_;have BK726:=n3_;have HO729:=n4_;have BK737:=n5_;have HB:=n6_;have HI719:=n7_;clear n0_ n1_ n2_ n3_ n4_ n5_ n6_ n7_;(try clear hb hk hi)))
  have n0_:=a_ (Kd.R_drew HO722.out)
  have n1_:=a_ (Kd.R_drew HO729.out)
  have n2_:=a_ (bD_ BK715.out)
  have n3_:=a_ (bD_ BK716.out)
  have n4_:=a_ (bD_ BK726.out)
  have n5_:=a_ (bD_ BK737.out)
  have n6_:=a_ (IsS145.drew HI719.out)
  have n7_:=a_ (below_drew1 HB.out)
  clear HO722
  clear HO729
  clear BK715
  clear BK716
  clear BK726
  clear BK737
  clear HI719
  clear HB
  have HO722:=n0_
  have HO729:=n1_
  have BK715:=n2_
  have BK716:=n3_
  have BK726:=n4_
  have BK737:=n5_
  have HI719:=n6_
  have HB:=n7_
  clear n0_ n1_ n2_ n3_ n4_ n5_ n6_ n7_
  refine start_ (n:=4) (S:=fun w'=>w'.cell? ⟨gb726,0,none⟩=some (.slice Ao47 t720.length co47)∧w'.cell? ⟨gb726,1,none⟩=some (.int .i64 t723)∧w'.cell? ⟨gb726,2,none⟩=some (.bool t724)∧w'.cell? ⟨gb737,0,none⟩=some (.int .i64 t730)∧w'.cell? ⟨gb737,1,none⟩=some (.int .i64 t731)∧w'.cell? ⟨gb737,2,none⟩=some (.int .i64 t732)∧w'.cell? ⟨gb737,3,none⟩=some (.int .i64 t733)∧w'.cell? ⟨gb737,4,none⟩=some (.int .i64 t734)∧w'.cell? ⟨gb737,5,none⟩=some (.int .i64 t735)∧w'.cell? ⟨gb737,6,none⟩=some (.string t736)) (ds:=[]) #[false,false,false,false] (by kernel_rfl) rfl rfl ⟨(bC_ BK726.out 0).trans rfl,(bC_ BK726.out 1).trans rfl,(bC_ BK726.out 2).trans rfl,(bC_ BK737.out 0).trans rfl,(bC_ BK737.out 1).trans rfl,(bC_ BK737.out 2).trans rfl,(bC_ BK737.out 3).trans rfl,(bC_ BK737.out 4).trans rfl,(bC_ BK737.out 5).trans rfl,(bC_ BK737.out 6).trans rfl⟩ (fun hHeld=>?_)
  generalize w59.drew=w60 at HO722 HO729 BK715 BK716 BK726 BK737 HI719 HB hHeld ⊢
  refine take_ (i:=0) (N:=some 28) (v:=?_) (a':=?_) #[true,false,false,false] rfl rfl (by kernel_rfl) (fun _ _ _ h=>h) (Or.inl ⟨by rfl,?_⟩) hHeld ?_ ?_
  rotate_left
  ·rintro w' ⟨s0,s1,s2,s3,s4,s5,s6,s7,s8,s9⟩
   go_simp
   with_reducible rfl
  rotate_left
  ·simp only [Act.put,List.setIfInBounds_toArray,List.set_cons_zero,List.set_cons_succ,i64_w,i32_w]
   rfl
  refine take_ (i:=1) (N:=some 29) (v:=?_) (a':=?_) #[true,true,false,false] rfl rfl (by kernel_rfl) (fun _ _ _ h=>h) (Or.inl ⟨by rfl,?_⟩) hHeld ?_ ?_
  rotate_left
  ·rintro w' ⟨s0,s1,s2,s3,s4,s5,s6,s7,s8,s9⟩
   go_simp
   with_reducible rfl
  rotate_left
  ·simp only [Act.put,List.setIfInBounds_toArray,List.set_cons_zero,List.set_cons_succ,i64_w,i32_w]
   rfl
  refine one_ (i:=2) (N:=none) #[true,true,true,false] rfl rfl (by kernel_rfl) (by decide) (fun K hK=>?_)
  have hs61:w60.cell? ⟨gb715,0,none⟩=some (.slice none 0 0):=(bC_ BK715.out 0).trans rfl
  have hfs61:=bF_ BK715.out 0
  have hns61_1:=NB716_715.out
  have hns61_2:=NB726_715.out
  have hns61_3:=NB737_715.out
  have hms61_1:=NB715_716.out
  have hms61_2:=NB715_726.out
  have hms61_3:=NB715_737.out
  have hs62:w60.cell? ⟨gb715,1,none⟩=some (.int .i64 0):=(bC_ BK715.out 1).trans rfl
  have hfs62:=bF_ BK715.out 1
  have hns62_1:=NB716_715.out
  have hns62_2:=NB726_715.out
  have hns62_3:=NB737_715.out
  have hms62_1:=NB715_716.out
  have hms62_2:=NB715_726.out
  have hms62_3:=NB715_737.out
  have hs63:w60.cell? ⟨gb715,2,none⟩=some (.bool false):=(bC_ BK715.out 2).trans rfl
  have hfs63:=bF_ BK715.out 2
  have hns63_1:=NB716_715.out
  have hns63_2:=NB726_715.out
  have hns63_3:=NB737_715.out
  have hms63_1:=NB715_716.out
  have hms63_2:=NB715_726.out
  have hms63_3:=NB715_737.out
  refine skip_ (w1:=?_) (by rfl) rfl ?_ ?_
  rotate_left
  ·go_simp
   rfl
  refine hK.out _ _ ⟨((cF_ (p:=⟨gb715,_,none⟩) NB726_715.out _).trans (((cF_ (p:=⟨gb715,_,none⟩) NB726_715.out _).trans (((cF_ (p:=⟨gb715,_,none⟩) NB726_715.out _).trans (hHeld.1)))))),((cF_ (p:=⟨gb715,_,none⟩) NB726_715.out _).trans (((cF_ (p:=⟨gb715,_,none⟩) NB726_715.out _).trans (((cF_ (p:=⟨gb715,_,none⟩) NB726_715.out _).trans (hHeld.2.1)))))),((cF_ (p:=⟨gb715,_,none⟩) NB726_715.out _).trans (((cF_ (p:=⟨gb715,_,none⟩) NB726_715.out _).trans (((cF_ (p:=⟨gb715,_,none⟩) NB726_715.out _).trans (hHeld.2.2.1)))))),((cF_ (p:=⟨gb715,_,none⟩) NB737_715.out _).trans (((cF_ (p:=⟨gb715,_,none⟩) NB737_715.out _).trans (((cF_ (p:=⟨gb715,_,none⟩) NB737_715.out _).trans (hHeld.2.2.2.1)))))),((cF_ (p:=⟨gb715,_,none⟩) NB737_715.out _).trans (((cF_ (p:=⟨gb715,_,none⟩) NB737_715.out _).trans (((cF_ (p:=⟨gb715,_,none⟩) NB737_715.out _).trans (hHeld.2.2.2.2.1)))))),((cF_ (p:=⟨gb715,_,none⟩) NB737_715.out _).trans (((cF_ (p:=⟨gb715,_,none⟩) NB737_715.out _).trans (((cF_ (p:=⟨gb715,_,none⟩) NB737_715.out _).trans (hHeld.2.2.2.2.2.1)))))),((cF_ (p:=⟨gb715,_,none⟩) NB737_715.out _).trans (((cF_ (p:=⟨gb715,_,none⟩) NB737_715.out _).trans (((cF_ (p:=⟨gb715,_,none⟩) NB737_715.out _).trans (hHeld.2.2.2.2.2.2.1)))))),((cF_ (p:=⟨gb715,_,none⟩) NB737_715.out _).trans (((cF_ (p:=⟨gb715,_,none⟩) NB737_715.out _).trans (((cF_ (p:=⟨gb715,_,none⟩) NB737_715.out _).trans (hHeld.2.2.2.2.2.2.2.1)))))),((cF_ (p:=⟨gb715,_,none⟩) NB737_715.out _).trans (((cF_ (p:=⟨gb715,_,none⟩) NB737_715.out _).trans (((cF_ (p:=⟨gb715,_,none⟩) NB737_715.out _).trans (hHeld.2.2.2.2.2.2.2.2.1)))))),((cF_ (p:=⟨gb715,_,none⟩) NB737_715.out _).trans (((cF_ (p:=⟨gb715,_,none⟩) NB737_715.out _).trans (((cF_ (p:=⟨gb715,_,none⟩) NB737_715.out _).trans (hHeld.2.2.2.2.2.2.2.2.2))))))⟩ (fun hHeld=>?_)
  clear hK K
  refine one_ (i:=3) (N:=none) #[true,true,true,true] rfl rfl (by kernel_rfl) (by decide) (fun K hK=>?_)
  have hs64:w60.cell? ⟨gb716,0,none⟩=some (.int .i64 0):=(bC_ BK716.out 0).trans rfl
  have hfs64:=bF_ BK716.out 0
  have hns64_0:=NB715_716.out
  have hns64_2:=NB726_716.out
  have hns64_3:=NB737_716.out
  have hms64_0:=NB716_715.out
  have hms64_2:=NB716_726.out
  have hms64_3:=NB716_737.out
  have hs65:w60.cell? ⟨gb716,1,none⟩=some (.int .i64 0):=(bC_ BK716.out 1).trans rfl
  have hfs65:=bF_ BK716.out 1
  have hns65_0:=NB715_716.out
  have hns65_2:=NB726_716.out
  have hns65_3:=NB737_716.out
  have hms65_0:=NB716_715.out
  have hms65_2:=NB716_726.out
  have hms65_3:=NB716_737.out
  have hs66:w60.cell? ⟨gb716,2,none⟩=some (.int .i64 0):=(bC_ BK716.out 2).trans rfl
  have hfs66:=bF_ BK716.out 2
  have hns66_0:=NB715_716.out
  have hns66_2:=NB726_716.out
  have hns66_3:=NB737_716.out
  have hms66_0:=NB716_715.out
  have hms66_2:=NB716_726.out
  have hms66_3:=NB716_737.out
  have hs67:w60.cell? ⟨gb716,3,none⟩=some (.int .i64 0):=(bC_ BK716.out 3).trans rfl
  have hfs67:=bF_ BK716.out 3
  have hns67_0:=NB715_716.out
  have hns67_2:=NB726_716.out
  have hns67_3:=NB737_716.out
  have hms67_0:=NB716_715.out
  have hms67_2:=NB716_726.out
  have hms67_3:=NB716_737.out
  have hs68:w60.cell? ⟨gb716,4,none⟩=some (.int .i64 0):=(bC_ BK716.out 4).trans rfl
  have hfs68:=bF_ BK716.out 4
  have hns68_0:=NB715_716.out
  have hns68_2:=NB726_716.out
  have hns68_3:=NB737_716.out
  have hms68_0:=NB716_715.out
  have hms68_2:=NB716_726.out
  have hms68_3:=NB716_737.out
  have hs69:w60.cell? ⟨gb716,5,none⟩=some (.int .i64 0):=(bC_ BK716.out 5).trans rfl
  have hfs69:=bF_ BK716.out 5
  have hns69_0:=NB715_716.out
  have hns69_2:=NB726_716.out
  have hns69_3:=NB737_716.out
  have hms69_0:=NB716_715.out
  have hms69_2:=NB716_726.out
  have hms69_3:=NB716_737.out
  have hs70:w60.cell? ⟨gb716,6,none⟩=some (.string (⟨#[]⟩:ByteArray)):=(bC_ BK716.out 6).trans rfl
  have hfs70:=bF_ BK716.out 6
  have hns70_0:=NB715_716.out
  have hns70_2:=NB726_716.out
  have hns70_3:=NB737_716.out
  have hms70_0:=NB716_715.out
  have hms70_2:=NB716_726.out
  have hms70_3:=NB716_737.out
  refine skip_ (w1:=?_) (by rfl) rfl ?_ ?_
  rotate_left
  ·go_simp
   rfl
  refine hK.out _ _ ⟨((cF_ (p:=⟨gb716,_,none⟩) NB726_716.out _).trans (((cF_ (p:=⟨gb716,_,none⟩) NB726_716.out _).trans (((cF_ (p:=⟨gb716,_,none⟩) NB726_716.out _).trans (((cF_ (p:=⟨gb716,_,none⟩) NB726_716.out _).trans (((cF_ (p:=⟨gb716,_,none⟩) NB726_716.out _).trans (((cF_ (p:=⟨gb716,_,none⟩) NB726_716.out _).trans (((cF_ (p:=⟨gb716,_,none⟩) NB726_716.out _).trans (hHeld.1)))))))))))))),((cF_ (p:=⟨gb716,_,none⟩) NB726_716.out _).trans (((cF_ (p:=⟨gb716,_,none⟩) NB726_716.out _).trans (((cF_ (p:=⟨gb716,_,none⟩) NB726_716.out _).trans (((cF_ (p:=⟨gb716,_,none⟩) NB726_716.out _).trans (((cF_ (p:=⟨gb716,_,none⟩) NB726_716.out _).trans (((cF_ (p:=⟨gb716,_,none⟩) NB726_716.out _).trans (((cF_ (p:=⟨gb716,_,none⟩) NB726_716.out _).trans (hHeld.2.1)))))))))))))),((cF_ (p:=⟨gb716,_,none⟩) NB726_716.out _).trans (((cF_ (p:=⟨gb716,_,none⟩) NB726_716.out _).trans (((cF_ (p:=⟨gb716,_,none⟩) NB726_716.out _).trans (((cF_ (p:=⟨gb716,_,none⟩) NB726_716.out _).trans (((cF_ (p:=⟨gb716,_,none⟩) NB726_716.out _).trans (((cF_ (p:=⟨gb716,_,none⟩) NB726_716.out _).trans (((cF_ (p:=⟨gb716,_,none⟩) NB726_716.out _).trans (hHeld.2.2.1)))))))))))))),((cF_ (p:=⟨gb716,_,none⟩) NB737_716.out _).trans (((cF_ (p:=⟨gb716,_,none⟩) NB737_716.out _).trans (((cF_ (p:=⟨gb716,_,none⟩) NB737_716.out _).trans (((cF_ (p:=⟨gb716,_,none⟩) NB737_716.out _).trans (((cF_ (p:=⟨gb716,_,none⟩) NB737_716.out _).trans (((cF_ (p:=⟨gb716,_,none⟩) NB737_716.out _).trans (((cF_ (p:=⟨gb716,_,none⟩) NB737_716.out _).trans (hHeld.2.2.2.1)))))))))))))),((cF_ (p:=⟨gb716,_,none⟩) NB737_716.out _).trans (((cF_ (p:=⟨gb716,_,none⟩) NB737_716.out _).trans (((cF_ (p:=⟨gb716,_,none⟩) NB737_716.out _).trans (((cF_ (p:=⟨gb716,_,none⟩) NB737_716.out _).trans (((cF_ (p:=⟨gb716,_,none⟩) NB737_716.out _).trans (((cF_ (p:=⟨gb716,_,none⟩) NB737_716.out _).trans (((cF_ (p:=⟨gb716,_,none⟩) NB737_716.out _).trans (hHeld.2.2.2.2.1)))))))))))))),((cF_ (p:=⟨gb716,_,none⟩) NB737_716.out _).trans (((cF_ (p:=⟨gb716,_,none⟩) NB737_716.out _).trans (((cF_ (p:=⟨gb716,_,none⟩) NB737_716.out _).trans (((cF_ (p:=⟨gb716,_,none⟩) NB737_716.out _).trans (((cF_ (p:=⟨gb716,_,none⟩) NB737_716.out _).trans (((cF_ (p:=⟨gb716,_,none⟩) NB737_716.out _).trans (((cF_ (p:=⟨gb716,_,none⟩) NB737_716.out _).trans (hHeld.2.2.2.2.2.1)))))))))))))),((cF_ (p:=⟨gb716,_,none⟩) NB737_716.out _).trans (((cF_ (p:=⟨gb716,_,none⟩) NB737_716.out _).trans (((cF_ (p:=⟨gb716,_,none⟩) NB737_716.out _).trans (((cF_ (p:=⟨gb716,_,none⟩) NB737_716.out _).trans (((cF_ (p:=⟨gb716,_,none⟩) NB737_716.out _).trans (((cF_ (p:=⟨gb716,_,none⟩) NB737_716.out _).trans (((cF_ (p:=⟨gb716,_,none⟩) NB737_716.out _).trans (hHeld.2.2.2.2.2.2.1)))))))))))))),((cF_ (p:=⟨gb716,_,none⟩) NB737_716.out _).trans (((cF_ (p:=⟨gb716,_,none⟩) NB737_716.out _).trans (((cF_ (p:=⟨gb716,_,none⟩) NB737_716.out _).trans (((cF_ (p:=⟨gb716,_,none⟩) NB737_716.out _).trans (((cF_ (p:=⟨gb716,_,none⟩) NB737_716.out _).trans (((cF_ (p:=⟨gb716,_,none⟩) NB737_716.out _).trans (((cF_ (p:=⟨gb716,_,none⟩) NB737_716.out _).trans (hHeld.2.2.2.2.2.2.2.1)))))))))))))),((cF_ (p:=⟨gb716,_,none⟩) NB737_716.out _).trans (((cF_ (p:=⟨gb716,_,none⟩) NB737_716.out _).trans (((cF_ (p:=⟨gb716,_,none⟩) NB737_716.out _).trans (((cF_ (p:=⟨gb716,_,none⟩) NB737_716.out _).trans (((cF_ (p:=⟨gb716,_,none⟩) NB737_716.out _).trans (((cF_ (p:=⟨gb716,_,none⟩) NB737_716.out _).trans (((cF_ (p:=⟨gb716,_,none⟩) NB737_716.out _).trans (hHeld.2.2.2.2.2.2.2.2.1)))))))))))))),((cF_ (p:=⟨gb716,_,none⟩) NB737_716.out _).trans (((cF_ (p:=⟨gb716,_,none⟩) NB737_716.out _).trans (((cF_ (p:=⟨gb716,_,none⟩) NB737_716.out _).trans (((cF_ (p:=⟨gb716,_,none⟩) NB737_716.out _).trans (((cF_ (p:=⟨gb716,_,none⟩) NB737_716.out _).trans (((cF_ (p:=⟨gb716,_,none⟩) NB737_716.out _).trans (((cF_ (p:=⟨gb716,_,none⟩) NB737_716.out _).trans (hHeld.2.2.2.2.2.2.2.2.2))))))))))))))⟩ (fun hHeld=>?_)
  clear hK K
  refine done_ (by kernel_rfl) ?_
  try go_wp2
  refine bodyPost_ret (results_cc rfl _ _ gb715 gb716 25 44 #[.slice Ao47 t720.length co47,.int .i64 t723,.bool t724] #[.int .i64 t730,.int .i64 t731,.int .i64 t732,.int .i64 t733,.int .i64 t734,.int .i64 t735,.string t736] (0,0) (0,0) _ _ rfl (by (with_reducible repeat (first|refine bN_ ?_ _|refine bD_ ?_|refine bA_ ?_ _));refine blk_far ?_ NB715_716.out _;(with_reducible repeat (first|refine bN_ ?_ _|refine bD_ ?_|refine bA_ ?_ _));refine blk_far ?_ NB715_716.out _;(with_reducible repeat (first|refine bN_ ?_ _|refine bD_ ?_|refine bA_ ?_ _));refine blk_far ?_ NB715_716.out _;(with_reducible repeat (first|refine bN_ ?_ _|refine bD_ ?_|refine bA_ ?_ _));refine blk_far ?_ NB715_716.out _;(with_reducible repeat (first|refine bN_ ?_ _|refine bD_ ?_|refine bA_ ?_ _));refine blk_far ?_ NB715_716.out _;(with_reducible repeat (first|refine bN_ ?_ _|refine bD_ ?_|refine bA_ ?_ _));refine blk_far ?_ NB715_716.out _;(with_reducible repeat (first|refine bN_ ?_ _|refine bD_ ?_|refine bA_ ?_ _));refine blk_far ?_ NB715_716.out _;(with_reducible repeat (first|refine bN_ ?_ _|refine bD_ ?_|refine bA_ ?_ _));refine blk_put (cs:=#[.slice Ao47 t720.length co47,.int .i64 t723,.bool false]) ?_ 2 _ rfl;(with_reducible repeat (first|refine bN_ ?_ _|refine bD_ ?_|refine bA_ ?_ _));refine blk_put (cs:=#[.slice Ao47 t720.length co47,.int .i64 0,.bool false]) ?_ 1 _ rfl;(with_reducible repeat (first|refine bN_ ?_ _|refine bD_ ?_|refine bA_ ?_ _));refine blk_put (cs:=#[.slice none 0 0,.int .i64 0,.bool false]) ?_ 0 _ rfl;(with_reducible repeat (first|refine bN_ ?_ _|refine bD_ ?_|refine bA_ ?_ _));exact BK715.out) Tryd.underlying25 rfl (by kernel_rfl) rfl (by (with_reducible repeat (first|refine bN_ ?_ _|refine bD_ ?_|refine bA_ ?_ _));refine blk_put (cs:=#[.int .i64 t730,.int .i64 t731,.int .i64 t732,.int .i64 t733,.int .i64 t734,.int .i64 t735,.string (⟨#[]⟩:ByteArray)]) ?_ 6 _ rfl;(with_reducible repeat (first|refine bN_ ?_ _|refine bD_ ?_|refine bA_ ?_ _));refine blk_put (cs:=#[.int .i64 t730,.int .i64 t731,.int .i64 t732,.int .i64 t733,.int .i64 t734,.int .i64 0,.string (⟨#[]⟩:ByteArray)]) ?_ 5 _ rfl;(with_reducible repeat (first|refine bN_ ?_ _|refine bD_ ?_|refine bA_ ?_ _));refine blk_put (cs:=#[.int .i64 t730,.int .i64 t731,.int .i64 t732,.int .i64 t733,.int .i64 0,.int .i64 0,.string (⟨#[]⟩:ByteArray)]) ?_ 4 _ rfl;(with_reducible repeat (first|refine bN_ ?_ _|refine bD_ ?_|refine bA_ ?_ _));refine blk_put (cs:=#[.int .i64 t730,.int .i64 t731,.int .i64 t732,.int .i64 0,.int .i64 0,.int .i64 0,.string (⟨#[]⟩:ByteArray)]) ?_ 3 _ rfl;(with_reducible repeat (first|refine bN_ ?_ _|refine bD_ ?_|refine bA_ ?_ _));refine blk_put (cs:=#[.int .i64 t730,.int .i64 t731,.int .i64 0,.int .i64 0,.int .i64 0,.int .i64 0,.string (⟨#[]⟩:ByteArray)]) ?_ 2 _ rfl;(with_reducible repeat (first|refine bN_ ?_ _|refine bD_ ?_|refine bA_ ?_ _));refine blk_put (cs:=#[.int .i64 t730,.int .i64 0,.int .i64 0,.int .i64 0,.int .i64 0,.int .i64 0,.string (⟨#[]⟩:ByteArray)]) ?_ 1 _ rfl;(with_reducible repeat (first|refine bN_ ?_ _|refine bD_ ?_|refine bA_ ?_ _));refine blk_put (cs:=#[.int .i64 0,.int .i64 0,.int .i64 0,.int .i64 0,.int .i64 0,.int .i64 0,.string (⟨#[]⟩:ByteArray)]) ?_ 0 _ rfl;(with_reducible repeat (first|refine bN_ ?_ _|refine bD_ ?_|refine bA_ ?_ _));refine blk_far ?_ NB716_715.out _;(with_reducible repeat (first|refine bN_ ?_ _|refine bD_ ?_|refine bA_ ?_ _));refine blk_far ?_ NB716_715.out _;(with_reducible repeat (first|refine bN_ ?_ _|refine bD_ ?_|refine bA_ ?_ _));refine blk_far ?_ NB716_715.out _;(with_reducible repeat (first|refine bN_ ?_ _|refine bD_ ?_|refine bA_ ?_ _));exact BK716.out) Tryd.underlying44 rfl (by kernel_rfl)) rfl ?_
  exact ⟨_,fi_,by (with_reducible repeat (first|apply Kd.R_alloc|apply Kd.R_drewN|apply Kd.R_drew));exact Kd.R_mono (Kd.R_far (p:=⟨gb716,6,none⟩) (Kd.R_far (p:=⟨gb716,5,none⟩) (Kd.R_far (p:=⟨gb716,4,none⟩) (Kd.R_far (p:=⟨gb716,3,none⟩) (Kd.R_far (p:=⟨gb716,2,none⟩) (Kd.R_far (p:=⟨gb716,1,none⟩) (Kd.R_far (p:=⟨gb716,0,none⟩) (Kd.R_far (p:=⟨gb715,2,none⟩) (Kd.R_far (p:=⟨gb715,1,none⟩) (Kd.R_far (p:=⟨gb715,0,none⟩) (Kd.R_mono (Kd.R_types HO722.out BK715.out (by decide)) (fun k_ hk=>(⟨hk,hk.1.1.1.2⟩:_∧k_≠gb716))) (fun _ hk=>hk.1.2) (.slice Ao47 t720.length co47)) (fun _ hk=>hk.1.2) (.int .i64 t723)) (fun _ hk=>hk.1.2) (.bool t724)) (fun _ hk=>hk.2) (.int .i64 t730)) (fun _ hk=>hk.2) (.int .i64 t731)) (fun _ hk=>hk.2) (.int .i64 t732)) (fun _ hk=>hk.2) (.int .i64 t733)) (fun _ hk=>hk.2) (.int .i64 t734)) (fun _ hk=>hk.2) (.int .i64 t735)) (fun _ hk=>hk.2) (.string t736)) (fun _ hk=>trivial),bel_⟩

attribute [local go_sem high] eqA44
def laws_lpLog.l0:Nat→List (S44)→List (S44)→Int→Option (Bool)
 | 0,_,_,_=>none
 | k+1,x0,x1,x5=>if x5 < (x0.length:Int) then (if 0≤x5 then (if x5 < (x1.length:Int) then (if (!(((rd_T44 x0 x5).f0)==((rd_T44 x1 x5).f0)) || (!(((rd_T44 x0 x5).f1)==((rd_T44 x1 x5).f1)) || ((!(((rd_T44 x0 x5).f2.f0)==((rd_T44 x1 x5).f2.f0)) || (!(((rd_T44 x0 x5).f2.f1)==((rd_T44 x1 x5).f2.f1)) || (!(((rd_T44 x0 x5).f2.f2)==((rd_T44 x1 x5).f2.f2)) || (!(((rd_T44 x0 x5).f2.f3)==((rd_T44 x1 x5).f2.f3)) || (!((((rd_T44 x0 x5).f2.f4).toList)==(((rd_T44 x1 x5).f2.f4).toList))))))))))=true then (some false) else (laws_lpLog.l0 k x0 x1 (wrap64 (x5+1)))) else (none)) else (none)) else (some true)
def laws_lpLog.f (k:Nat) (l0:List (S44)) (l1:List (S44)):Option (Bool):=if (l0.length:Int)=(l1.length:Int) then (laws_lpLog.l0 k l0 l1 0) else (some false)
theorem laws_lpLog.mono_l:∀ k,(∀ y0 y1 y2,LeO (laws_lpLog.l0 k y0 y1 y2) (laws_lpLog.l0 (k+1) y0 y1 y2))
 | 0=>fun _ _ _ r h=>by simp [laws_lpLog.l0] at h
 | k+1=>by
  have ih0:=laws_lpLog.mono_l k
  ·intro y0 y1 y2
   unfold laws_lpLog.l0
   repeat' first
   | (with_reducible exact ih0 _ _ _)
   | (with_reducible exact LeO.refl _)
   | (with_reducible exact LeO.none _)
   | (with_reducible refine LeO.ite ?_ ?_)
   | (with_reducible refine LeO.bind ?_ (fun _=>?_))
   | exact ih0 _ _ _
   | exact LeO.none _
   | refine LeO.ite ?_ ?_
   | refine LeO.bind ?_ (fun _=>?_)
theorem laws_lpLog.mono:∀ a0 a1 k,LeO (laws_lpLog.f k a0 a1) (laws_lpLog.f (k+1) a0 a1):=by
 intro a0 a1 k
 have ih0:=laws_lpLog.mono_l k
 unfold laws_lpLog.f
 repeat' first
   | (with_reducible exact ih0 _ _ _)
   | (with_reducible exact LeO.refl _)
   | (with_reducible exact LeO.none _)
   | (with_reducible refine LeO.ite ?_ ?_)
   | (with_reducible refine LeO.bind ?_ (fun _=>?_))
   | exact ih0 _ _ _
   | exact LeO.none _
   | refine LeO.ite ?_ ?_
   | refine LeO.bind ?_ (fun _=>?_)
theorem laws_lpLog.calls (k:Nat) (A0:Option Addr) (c0:Nat) (l0:List (S44)) (A1:Option Addr) (c1:Nat) (l1:List (S44)) (r:Bool) (w:World) (hr0:Kd.C k44 w A0 l0.length l0) (hc0:l0.length≤c0) (hr1:Kd.C k44 w A1 l1.length l1) (hc1:l1.length≤c1) (h:laws_lpLog.f k l0 l1=some r) :
  Calls Tryd.prog 32 #[.slice A0 l0.length c0,.slice A1 l1.length c1] w fun e w'=>e=.returned (.bool r)∧Drawn0 w w':=by
 have hu44:=Tryd.underlying44
 have HR0:=a_ hr0
 have HC0:=a_ hc0
 clear hr0 hc0
 have HR1:=a_ hr1
 have HC1:=a_ hc1
 clear hr1 hc1
 unfold laws_lpLog.f at h
 have H:=h
 clear h
 by_cases c3:(l0.length:Int)=(l1.length:Int)
 ·rw [if_pos c3] at H
  have c3b0:((l0.length:Int)==(l1.length:Int))=true:=beq_iff_eq.mpr c3
  have c3b1:((l0.length:Int) != (l1.length:Int))=false:=be_ c3
  have c3b2:(l0.length==l1.length)=true:=by first|simpa using c3|(simp at c3 ⊢;omega)
  clear c3
  have H':=a_ H
  clear H
  go_enter Tryd.func32,Tryd.ntmps32
  go_wp2
  repeat (go_quiet (fail);try go_wp2)
  go_loopg [5] k (fun kq v5 w'=>∃ (x5_1:Int),v5=.int .i64 x5_1∧Aside0 (laws_lpLog.l0 kq l0 l1 x5_1=some r)∧Aside0 (kq≤k)∧Drawn0 w w')
  case atStart=>exact ⟨(0),(si_),H',⟨Nat.le_refl _⟩,by repeat (first|exact Drawn0.refl _|apply Drawn0.step)⟩
  case round =>
   clear H'
   try clear c1
   try clear p2
   try clear c3
   try clear c3b0
   try clear c3b1
   try clear c3b2
   obtain ⟨x5_1,rfl,HA,HK1,⟨m1,rfl⟩⟩:=hrel
   cases gk with
   | zero=>exact absurd HA.out (by simp [laws_lpLog.l0])
   | succ k1 =>
    have H:=HA.out
    clear HA
    simp only [laws_lpLog.l0] at H
    by_cases c4:x5_1 < (l0.length:Int)
    ·rw [if_pos c4] at H
     have c4b0:decide (x5_1 < (l0.length:Int))=true:=dt_ c4
     clear c4
     by_cases c5:0≤x5_1
     ·rw [if_pos c5] at H
      have c5b0:decide (0≤x5_1)=true:=dt_ c5
      clear c5
      by_cases c6:x5_1 < (l1.length:Int)
      ·rw [if_pos c6] at H
       have c6b0:decide (x5_1 < (l1.length:Int))=true:=dt_ c6
       clear c6
       by_cases c7:(!(((rd_T44 l0 x5_1).f0)==((rd_T44 l1 x5_1).f0)) || (!(((rd_T44 l0 x5_1).f1)==((rd_T44 l1 x5_1).f1)) || ((!(((rd_T44 l0 x5_1).f2.f0)==((rd_T44 l1 x5_1).f2.f0)) || (!(((rd_T44 l0 x5_1).f2.f1)==((rd_T44 l1 x5_1).f2.f1)) || (!(((rd_T44 l0 x5_1).f2.f2)==((rd_T44 l1 x5_1).f2.f2)) || (!(((rd_T44 l0 x5_1).f2.f3)==((rd_T44 l1 x5_1).f2.f3)) || (!((((rd_T44 l0 x5_1).f2.f4).toList)==(((rd_T44 l1 x5_1).f2.f4).toList))))))))))=true
       ·rw [if_pos c7] at H
        have c7b0:(!(((rd_T44 l0 x5_1).f0)==((rd_T44 l1 x5_1).f0)) || (!(((rd_T44 l0 x5_1).f1)==((rd_T44 l1 x5_1).f1)) || ((!(((rd_T44 l0 x5_1).f2.f0)==((rd_T44 l1 x5_1).f2.f0)) || (!(((rd_T44 l0 x5_1).f2.f1)==((rd_T44 l1 x5_1).f2.f1)) || (!(((rd_T44 l0 x5_1).f2.f2)==((rd_T44 l1 x5_1).f2.f2)) || (!(((rd_T44 l0 x5_1).f2.f3)==((rd_T44 l1 x5_1).f2.f3)) || (!((((rd_T44 l0 x5_1).f2.f4).toList)==(((rd_T44 l1 x5_1).f2.f4).toList))))))))))=true:=c7
        clear c7
        obtain rfl:=sj_ H
        have p742:0≤(x5_1:Int):=od_
        have q742:x5_1 < (l0.length:Int):=od_
        obtain ⟨ad742,e742,hx742_0,hx742_1,hx742_2,hx742_3,hx742_4,hx742_5,hx742_6⟩:=at_T44 HR0.out x5_1 p742 q742
        cases e742
        replace p742:=eq_true p742
        replace q742:=eq_true q742
        have p743:0≤(x5_1:Int):=od_
        have q743:x5_1 < (l1.length:Int):=od_
        obtain ⟨ad743,e743,hx743_0,hx743_1,hx743_2,hx743_3,hx743_4,hx743_5,hx743_6⟩:=at_T44 HR1.out x5_1 p743 q743
        cases e743
        replace p743:=eq_true p743
        replace q743:=eq_true q743
        go_wp2
        repeat (go_quiet (fail);try go_wp2)
        go_ret
        exact ⟨si_,by repeat (first|exact Drawn0.refl _|apply Drawn0.step)⟩
       ·rw [if_neg c7] at H
        have c7b0:(!(((rd_T44 l0 x5_1).f0)==((rd_T44 l1 x5_1).f0)) || (!(((rd_T44 l0 x5_1).f1)==((rd_T44 l1 x5_1).f1)) || ((!(((rd_T44 l0 x5_1).f2.f0)==((rd_T44 l1 x5_1).f2.f0)) || (!(((rd_T44 l0 x5_1).f2.f1)==((rd_T44 l1 x5_1).f2.f1)) || (!(((rd_T44 l0 x5_1).f2.f2)==((rd_T44 l1 x5_1).f2.f2)) || (!(((rd_T44 l0 x5_1).f2.f3)==((rd_T44 l1 x5_1).f2.f3)) || (!((((rd_T44 l0 x5_1).f2.f4).toList)==(((rd_T44 l1 x5_1).f2.f4).toList))))))))))=false:=by simpa using c7
        clear c7
        have H':=a_ H
        clear H
        have p742:0≤(x5_1:Int):=od_
        have q742:x5_1 < (l0.length:Int):=od_
        obtain ⟨ad742,e742,hx742_0,hx742_1,hx742_2,hx742_3,hx742_4,hx742_5,hx742_6⟩:=at_T44 HR0.out x5_1 p742 q742
        cases e742
        replace p742:=eq_true p742
        replace q742:=eq_true q742
        have p743:0≤(x5_1:Int):=od_
        have q743:x5_1 < (l1.length:Int):=od_
        obtain ⟨ad743,e743,hx743_0,hx743_1,hx743_2,hx743_3,hx743_4,hx743_5,hx743_6⟩:=at_T44 HR1.out x5_1 p743 q743
        cases e743
        replace p743:=eq_true p743
        replace q743:=eq_true q743
        go_wp2
        repeat (go_quiet (fail);try go_wp2)
        go_roundg k1
        case measure=>have:=HK1.out;omega
        case rel=>exact ⟨(wrap64 (x5_1+1)),(si_),H',⟨by have:=HK1.out;omega⟩,by repeat (first|exact Drawn0.refl _|apply Drawn0.step)⟩
      ·rw [if_neg c6] at H
       exact absurd H (by simp)
     ·rw [if_neg c5] at H
      exact absurd H (by simp)
    ·rw [if_neg c4] at H
     have c4b0:decide (x5_1 < (l0.length:Int))=false:=df_ c4
     clear c4
     obtain rfl:=sj_ H
     go_wp2
     repeat (go_quiet (fail);try go_wp2)
     go_ret
     exact ⟨si_,by repeat (first|exact Drawn0.refl _|apply Drawn0.step)⟩
 ·rw [if_neg c3] at H
  have c3b0:((l0.length:Int)==(l1.length:Int))=false:=bn_ c3
  have c3b1:((l0.length:Int) != (l1.length:Int))=true:=bne_iff_ne.mpr c3
  have c3b2:(l0.length==l1.length)=false:=by first|simpa using c3|(simp at c3 ⊢;omega)
  obtain rfl:=sj_ H
  go_enter Tryd.func32,Tryd.ntmps32
  go_wp2
  repeat (go_quiet (fail);try go_wp2)
  go_ret
  exact ⟨si_,by repeat (first|exact Drawn0.refl _|apply Drawn0.step)⟩

def laws_lpServer.f (k:Nat) (l0_0:List (S44)) (a0_1:Int) (a0_2:Bool) (l1_0:List (S44)) (a1_1:Int) (a1_2:Bool):Option (Bool):=(laws_lpLog.f k l0_0 l1_0).bind fun t746=>(if t746=true then (if a0_1=a1_1 then (some (a0_2==a1_2)) else (some false)) else (some false))
theorem laws_lpServer.mono:∀ a0 a1 a2 a3 a4 a5 k,LeO (laws_lpServer.f k a0 a1 a2 a3 a4 a5) (laws_lpServer.f (k+1) a0 a1 a2 a3 a4 a5):=by
 intro a0 a1 a2 a3 a4 a5 k
 unfold laws_lpServer.f
 repeat' first
   | (with_reducible exact laws_lpLog.mono _ _ _)
   | (with_reducible exact LeO.refl _)
   | (with_reducible exact LeO.none _)
   | (with_reducible refine LeO.ite ?_ ?_)
   | (with_reducible refine LeO.bind ?_ (fun _=>?_))
   | exact laws_lpLog.mono _ _ _
   | exact LeO.none _
   | refine LeO.ite ?_ ?_
   | refine LeO.bind ?_ (fun _=>?_)
theorem laws_lpServer.calls (k:Nat) (A0_0:Option Addr) (c0_0:Nat) (l0_0:List (S44)) (a0_1:Int) (a0_2:Bool) (A1_0:Option Addr) (c1_0:Nat) (l1_0:List (S44)) (a1_1:Int) (a1_2:Bool) (r:Bool) (w:World) (hr0_0:Kd.C k44 w A0_0 l0_0.length l0_0) (hc0_0:l0_0.length≤c0_0) (hr1_0:Kd.C k44 w A1_0 l1_0.length l1_0) (hc1_0:l1_0.length≤c1_0) (h:laws_lpServer.f k l0_0 a0_1 a0_2 l1_0 a1_1 a1_2=some r) :
  Calls Tryd.prog 29 #[.agg #[.slice A0_0 l0_0.length c0_0,.int .i64 a0_1,.bool a0_2],.agg #[.slice A1_0 l1_0.length c1_0,.int .i64 a1_1,.bool a1_2]] w fun e w'=>e=.returned (.bool r)∧Below w.heap.size w w':=by
 have hu25:=Tryd.underlying25
 have HR0_0:=a_ hr0_0
 have HC0_0:=a_ hc0_0
 clear hr0_0 hc0_0
 have HR1_0:=a_ hr1_0
 have HC1_0:=a_ hc1_0
 clear hr1_0 hc1_0
 have HB:=a_ (Below.refl w.heap.size w)
 unfold laws_lpServer.f at h
 have H:=h
 clear h
 replace H:=bs_ H
 obtain ⟨t746,A30,H⟩:=H
 try dsimp only at H
 have A3:=a_ A30
 clear A30
 by_cases c4:t746=true
 ·subst c4
  have H1:(if a0_1=a1_1 then (some (a0_2==a1_2)) else (some false))=some r:=by rw [if_pos rfl] at H;exact H
  clear H
  have H:=H1
  clear H1
  by_cases c5:a0_1=a1_1
  ·rw [if_pos c5] at H
   have c5b0:(a0_1==a1_1)=true:=beq_iff_eq.mpr c5
   have c5b1:(a0_1 != a1_1)=false:=be_ c5
   clear c5
   obtain rfl:=sj_ H
   go_enter Tryd.func29,Tryd.ntmps29
   go_wp2_with (first|((with_reducible refine gD_ (N:=2) rfl ?_);refine bx_ 2 (#[.slice A0_0 l0_0.length c0_0,.int .i64 a0_1,.bool a0_2]) 25 ?_;intro gb744 hg w6 hbox hb;have n0_:=a_ (bS_ (bel_) hb);have n1_:=a_ (hbox);have n2_:=a_ ((by rw [hg];exact (below_size (bel_)):w.heap.size≤gb744));have n3_:=a_ ((by rw [hg];exact (below_size (bel_)):w.heap.size≤gb744));clear HB;have HB:=n0_;have BK744:=n1_;have GW744:=n2_;have GE744:=n3_;clear n0_ n1_ n2_ n3_;clear hb hbox hg)|((with_reducible refine gD_ (N:=3) rfl ?_);refine bx_ 3 (#[.slice A1_0 l1_0.length c1_0,.int .i64 a1_1,.bool a1_2]) 25 ?_;intro gb745 hg w7 hbox hb;have n0_:=a_ (bb_ BK744.out hb);have n1_:=a_ (bS_ (bel_) hb);have n2_:=a_ (hbox);have n3_:=a_ ((by rw [hg];exact (below_size (bel_)):w.heap.size≤gb745));have n4_:=a_ ((by rw [hg];exact (below_size (bel_)):w.heap.size≤gb745));have n5_:=a_ ((by rw [hg];exact Nat.ne_of_lt (blk_lt (g:=gb744) (o:=.cells #[.slice A0_0 l0_0.length c0_0,.int .i64 a0_1,.bool a0_2] 25 (0,0)) (bp_ BK744.out)):gb744≠gb745));have n6_:=a_ ((by rw [hg];exact Nat.ne_of_gt (blk_lt (g:=gb744) (o:=.cells #[.slice A0_0 l0_0.length c0_0,.int .i64 a0_1,.bool a0_2] 25 (0,0)) (bp_ BK744.out)):gb745≠gb744));clear BK744;clear HB;have BK744:=n0_;have HB:=n1_;have BK745:=n2_;have GW745:=n3_;have GE745:=n4_;have NB744_745:=n5_;have NB745_744:=n6_;clear n0_ n1_ n2_ n3_ n4_ n5_ n6_;clear hb hbox hg;have hnb8:=NB744_745.out;have hnc8:=NB745_744.out;have Z9_0:=cz_ BK744.out 0 (.slice A0_0 l0_0.length c0_0);have Z9_1:=cz_ BK744.out 1 (.int .i64 a0_1);have Z9_2:=cz_ BK744.out 2 (.bool a0_2);have Y9_0:=bF_ BK744.out 0;have Y9_1:=bF_ BK744.out 1;have Y9_2:=bF_ BK744.out 2;have Z10_0:=cz_ BK745.out 0 (.slice A1_0 l1_0.length c1_0);have Z10_1:=cz_ BK745.out 1 (.int .i64 a1_1);have Z10_2:=cz_ BK745.out 2 (.bool a1_2);have Y10_0:=bF_ BK745.out 0;have Y10_1:=bF_ BK745.out 1;have Y10_2:=bF_ BK745.out 2)|((with_reducible refine gC_ (f:=32) rfl ?_);refine gl_ 9 Tryd.func32 #[.slice A0_0 l0_0.length c0_0,.slice A1_0 l1_0.length c1_0] ?_;(with_reducible refine (laws_lpLog.calls k _ _ l0_0 _ _ l1_0 true _ ?side1 ?side2 ?side3 ?side4 A3.out).mono ?_);(case side1=>exact cp_ HR0_0.out);(case side2=>exact HC0_0.out);(case side3=>exact cx_ (Kd.C_below HR1_0.out HB.out));(case side4=>exact HC1_0.out);rintro e w' ⟨rfl,⟨nd,rfl⟩⟩;refine ⟨_,rfl,?_⟩))
   go_ret
   exact ⟨fi_,bel_⟩
  ·rw [if_neg c5] at H
   have c5b0:(a0_1==a1_1)=false:=bn_ c5
   have c5b1:(a0_1 != a1_1)=true:=bne_iff_ne.mpr c5
   obtain rfl:=sj_ H
   go_enter Tryd.func29,Tryd.ntmps29
   go_wp2_with (first|((with_reducible refine gD_ (N:=2) rfl ?_);refine bx_ 2 (#[.slice A0_0 l0_0.length c0_0,.int .i64 a0_1,.bool a0_2]) 25 ?_;intro gb744 hg w11 hbox hb;have n0_:=a_ (bS_ (bel_) hb);have n1_:=a_ (hbox);have n2_:=a_ ((by rw [hg];exact (below_size (bel_)):w.heap.size≤gb744));have n3_:=a_ ((by rw [hg];exact (below_size (bel_)):w.heap.size≤gb744));clear HB;have HB:=n0_;have BK744:=n1_;have GW744:=n2_;have GE744:=n3_;clear n0_ n1_ n2_ n3_;clear hb hbox hg)|((with_reducible refine gD_ (N:=3) rfl ?_);refine bx_ 3 (#[.slice A1_0 l1_0.length c1_0,.int .i64 a1_1,.bool a1_2]) 25 ?_;intro gb745 hg w12 hbox hb;have n0_:=a_ (bb_ BK744.out hb);have n1_:=a_ (bS_ (bel_) hb);have n2_:=a_ (hbox);have n3_:=a_ ((by rw [hg];exact (below_size (bel_)):w.heap.size≤gb745));have n4_:=a_ ((by rw [hg];exact (below_size (bel_)):w.heap.size≤gb745));have n5_:=a_ ((by rw [hg];exact Nat.ne_of_lt (blk_lt (g:=gb744) (o:=.cells #[.slice A0_0 l0_0.length c0_0,.int .i64 a0_1,.bool a0_2] 25 (0,0)) (bp_ BK744.out)):gb744≠gb745));have n6_:=a_ ((by rw [hg];exact Nat.ne_of_gt (blk_lt (g:=gb744) (o:=.cells #[.slice A0_0 l0_0.length c0_0,.int .i64 a0_1,.bool a0_2] 25 (0,0)) (bp_ BK744.out)):gb745≠gb744));clear BK744;clear HB;have BK744:=n0_;have HB:=n1_;have BK745:=n2_;have GW745:=n3_;have GE745:=n4_;have NB744_745:=n5_;have NB745_744:=n6_;clear n0_ n1_ n2_ n3_ n4_ n5_ n6_;clear hb hbox hg;have hnb13:=NB744_745.out;have hnc13:=NB745_744.out;have Z14_0:=cz_ BK744.out 0 (.slice A0_0 l0_0.length c0_0);have Z14_1:=cz_ BK744.out 1 (.int .i64 a0_1);have Z14_2:=cz_ BK744.out 2 (.bool a0_2);have Y14_0:=bF_ BK744.out 0;have Y14_1:=bF_ BK744.out 1;have Y14_2:=bF_ BK744.out 2;have Z15_0:=cz_ BK745.out 0 (.slice A1_0 l1_0.length c1_0);have Z15_1:=cz_ BK745.out 1 (.int .i64 a1_1);have Z15_2:=cz_ BK745.out 2 (.bool a1_2);have Y15_0:=bF_ BK745.out 0;have Y15_1:=bF_ BK745.out 1;have Y15_2:=bF_ BK745.out 2)|((with_reducible refine gC_ (f:=32) rfl ?_);refine gl_ 9 Tryd.func32 #[.slice A0_0 l0_0.length c0_0,.slice A1_0 l1_0.length c1_0] ?_;(with_reducible refine (laws_lpLog.calls k _ _ l0_0 _ _ l1_0 true _ ?side1 ?side2 ?side3 ?side4 A3.out).mono ?_);(case side1=>exact cp_ HR0_0.out);(case side2=>exact HC0_0.out);(case side3=>exact cx_ (Kd.C_below HR1_0.out HB.out));(case side4=>exact HC1_0.out);rintro e w' ⟨rfl,⟨nd,rfl⟩⟩;refine ⟨_,rfl,?_⟩))
   go_ret
   exact ⟨fi_,bel_⟩
 ·replace c4:=Bool.eq_false_iff.mpr c4
  subst c4
  have H1:(some false)=some r:=by rw [if_neg (show ¬ (false=true) by decide)] at H;exact H
  clear H
  have H:=H1
  clear H1
  obtain rfl:=sj_ H
  go_enter Tryd.func29,Tryd.ntmps29
  go_wp2_with (first|((with_reducible refine gD_ (N:=2) rfl ?_);refine bx_ 2 (#[.slice A0_0 l0_0.length c0_0,.int .i64 a0_1,.bool a0_2]) 25 ?_;intro gb744 hg w16 hbox hb;have n0_:=a_ (bS_ (bel_) hb);have n1_:=a_ (hbox);have n2_:=a_ ((by rw [hg];exact (below_size (bel_)):w.heap.size≤gb744));have n3_:=a_ ((by rw [hg];exact (below_size (bel_)):w.heap.size≤gb744));clear HB;have HB:=n0_;have BK744:=n1_;have GW744:=n2_;have GE744:=n3_;clear n0_ n1_ n2_ n3_;clear hb hbox hg)|((with_reducible refine gD_ (N:=3) rfl ?_);refine bx_ 3 (#[.slice A1_0 l1_0.length c1_0,.int .i64 a1_1,.bool a1_2]) 25 ?_;intro gb745 hg w17 hbox hb;have n0_:=a_ (bb_ BK744.out hb);have n1_:=a_ (bS_ (bel_) hb);have n2_:=a_ (hbox);have n3_:=a_ ((by rw [hg];exact (below_size (bel_)):w.heap.size≤gb745));have n4_:=a_ ((by rw [hg];exact (below_size (bel_)):w.heap.size≤gb745));have n5_:=a_ ((by rw [hg];exact Nat.ne_of_lt (blk_lt (g:=gb744) (o:=.cells #[.slice A0_0 l0_0.length c0_0,.int .i64 a0_1,.bool a0_2] 25 (0,0)) (bp_ BK744.out)):gb744≠gb745));have n6_:=a_ ((by rw [hg];exact Nat.ne_of_gt (blk_lt (g:=gb744) (o:=.cells #[.slice A0_0 l0_0.length c0_0,.int .i64 a0_1,.bool a0_2] 25 (0,0)) (bp_ BK744.out)):gb745≠gb744));clear BK744;clear HB;have BK744:=n0_;have HB:=n1_;have BK745:=n2_;have GW745:=n3_;have GE745:=n4_;have NB744_745:=n5_;have NB745_744:=n6_;clear n0_ n1_ n2_ n3_ n4_ n5_ n6_;clear hb hbox hg;have hnb18:=NB744_745.out;have hnc18:=NB745_744.out;have Z19_0:=cz_ BK744.out 0 (.slice A0_0 l0_0.length c0_0);have Z19_1:=cz_ BK744.out 1 (.int .i64 a0_1);have Z19_2:=cz_ BK744.out 2 (.bool a0_2);have Y19_0:=bF_ BK744.out 0;have Y19_1:=bF_ BK744.out 1;have Y19_2:=bF_ BK744.out 2;have Z20_0:=cz_ BK745.out 0 (.slice A1_0 l1_0.length c1_0);have Z20_1:=cz_ BK745.out 1 (.int .i64 a1_1);have Z20_2:=cz_ BK745.out 2 (.bool a1_2);have Y20_0:=bF_ BK745.out 0;have Y20_1:=bF_ BK745.out 1;have Y20_2:=bF_ BK745.out 2)|((with_reducible refine gC_ (f:=32) rfl ?_);refine gl_ 9 Tryd.func32 #[.slice A0_0 l0_0.length c0_0,.slice A1_0 l1_0.length c1_0] ?_;(with_reducible refine (laws_lpLog.calls k _ _ l0_0 _ _ l1_0 false _ ?side1 ?side2 ?side3 ?side4 A3.out).mono ?_);(case side1=>exact cp_ HR0_0.out);(case side2=>exact HC0_0.out);(case side3=>exact cx_ (Kd.C_below HR1_0.out HB.out));(case side4=>exact HC1_0.out);rintro e w' ⟨rfl,⟨nd,rfl⟩⟩;refine ⟨_,rfl,?_⟩))
  go_ret
  exact ⟨fi_,bel_⟩

end Go.Proofs.YtdpklbomhdpimaaDoor.P
namespace Go.Proofs.YtdpklbomhdpimaaDoor.P
open Go.RowKit Go.Proofs.YtdpklbomhdpimaaDoorW.PrintWords Go.Proofs.YtdpklbomhdpimaaDoorW.PrintLast Go.Proofs.YtdpklbomhdpimaaDoorW.PrintMore
def impl_Entry_85.f (l0:List S44):Option (List S44):=if l0.length < 2199023255552 then some l0 else none
theorem impl_Entry_85.calls (A0:Option Addr) (c0:Nat) (l0:List S44) (r:List S44) (w:World) (hr0:Kd.C k44 w A0 l0.length l0) (hc0:l0.length≤c0)
  (h:impl_Entry_85.f l0=some r) :
  Calls Tryd.prog 85 #[.slice A0 l0.length c0] w fun e w'=>∃ v0_:Value,e=.returned (v0_)∧Kd.R k44 44 w' w.heap.size (fun _=>True) v0_ r∧Below w.heap.size w w':=by
 unfold impl_Entry_85.f at h
 by_cases hlim:l0.length < 2199023255552
 ·rw [if_pos hlim] at h
  obtain rfl:=sj_ h
  clear h
  cases A0 with
  | none =>
   have hl:l0=[]:=by
    rcases Nat.eq_zero_or_pos l0.length with h0|h0
    ·exact List.length_eq_zero_iff.1 h0
    ·obtain ⟨ad,e,_⟩:=hr0.2.2 h0
     cases e
   subst hl
   simp only [List.length_nil]
   have hne:=fun (W:World)=>Lib.run_eql_slice_nil (P:=Tryd.prog) W 23 44 none 0 c0 0 0 Tryd.underlying23
   simp only [Option.isNone_none] at hne
   clear hr0 hlim hc0
   go_enter Tryd.func85,Tryd.ntmps85
   go_wp2
   go_ret
   exact ⟨_,rfl,Kd.R_nil _ _ _ _ _,Below.refl _ _⟩
  | some a =>
   have hne:=fun (W:World)=>Lib.run_eql_slice_nil (P:=Tryd.prog) W 23 44 (some a) l0.length c0 0 0 Tryd.underlying23
   simp only [Option.isNone_some] at hne
   have HR0:=a_ hr0
   have LM:=a_ hlim
   clear hr0 hlim
   have HB:=a_ (Below.refl w.heap.size w)
   go_enter Tryd.func85,Tryd.ntmps85
   go_wp2_with (first
    | ((with_reducible refine gD_ (N:=5) rfl ?_);refine Kd.R_lit k44 _ 44 ?hg (N:=5) ?hd (xs:=([]:List S44)) (inner:=[]) (ok:=fun _=>True) (okp:=fun _=>True) ?hr ?hp (fun _ hk=>hk) trivial (Below.refl _ _) (Nat.le_refl _) (by simp) ?_;(case hd=>rfl);(case hg=>rfl);(case hr=>first|(go_simp;done)|(go_simp;rfl));(case hp=>exact (Reps.none _ _));intro v200 w5 ho6 hb hg_ hnew_;clear hg_ hnew_;have HO:=a_ ho6;replace HB:=a_ (bS_ HB.out hb);clear hb ho6)
    | ((with_reducible refine gate_builtin (b:=.append) (xs:=#[.tmp 5,.tmp 6]) rfl ?_);at_builtin;refine Kd.R_append_rows k44 (w0:=w) w.heap.size rfl (.tmp 5) (.tmp 6) 23 44 (.agg #[(.int .i64 0),(.int .i64 0),(.int .i64 0),(.int .i64 0),(.int .i64 0),(.int .i64 0),(.string ⟨#[]⟩)]) 64 rfl Tryd.underlying23 info44 rfl (by decide) (by omega) _ ([]:List S44) l0 _ _ _ (fun _=>True) (fun _=>False) rfl rfl ?aO ?aR (fun _ _ h=>h) (fun _ h=>h.elim) ?aF ?aB ?aS ?aL ?_;(case aR=>exact Kd.C_below HR0.out HB.out);(case aB=>exact HB.out);(case aF=>exact (fun _ _=>trivial));(case aO=>exact HO.out);(case aS=>exact below_size HB.out);(case aL=>have:=LM.out;simp;omega);intro v203 w9 ho hb hg hat;clear HB HO;have HB:=a_ hb;have HO:=a_ ho;clear ho hb hg hat;obtain ⟨Ao10,co10,eo10⟩:=Kd.R_slice HO.out;subst eo10))
   go_ret
   exact ⟨_,rfl,HO.out,HB.out⟩
 ·rw [if_neg hlim] at h
  cases h
end Go.Proofs.YtdpklbomhdpimaaDoor.P
namespace Go.Proofs.YtdpklbomhdpimaaDoor.P
open Go.RowKit Go.Maps Go.Proofs.YtdpklbomhdpimaaDoorW.PrintWords Go.Proofs.YtdpklbomhdpimaaDoorW.PrintLast Go.Proofs.YtdpklbomhdpimaaDoorW.PrintMore
theorem logOk_who {k:Nat}:∀ (rest pre:List S44),impl_LogOk.go k pre rest=some true→∀ e∈rest,1≤e.f0∧e.f0≤3
 | [],_,_,e,he=>by cases he
 | x::rest,pre,h,e,he=>by
  unfold impl_LogOk.go at h
  obtain ⟨t,ht,h⟩:=Option.bind_eq_some_iff.1 h
  cases t with
  | false=>simp at h
  | true =>
   rw [if_pos rfl] at h
   by_cases hq:cntE pre x.f0+1=x.f1
   ·rw [if_pos hq] at h
    rcases List.mem_cons.1 he with rfl|he
    ·exact entry_who ht
    ·exact logOk_who rest _ h e he
   ·rw [if_neg hq] at h
    cases h
theorem logOk_true {k:Nat} {l:List S44} (h:impl_LogOk.f k l=some true):l.length≤40∧∀ e∈l,1≤e.f0∧e.f0≤3:=by
 unfold impl_LogOk.f at h
 by_cases h40:(l.length:Int) > 40
 ·rw [if_pos h40] at h
  cases h
 ·rw [if_neg h40] at h
  exact ⟨by omega,logOk_who l [] h⟩
def impl_LogSeq.f (k:Nat) (l0:List S44) (a1:Int):Option Int :=
 (impl_LogOk.f k l0).bind fun t=>if t=true then (if 0≤a1∧a1≤4 then some (cntE l0 a1) else none) else some (-1)
theorem impl_LogSeq.mono (l0:List S44) (a1:Int) (k:Nat):LeO (impl_LogSeq.f k l0 a1) (impl_LogSeq.f (k+1) l0 a1):=by
 unfold impl_LogSeq.f
 exact LeO.bind (impl_LogOk.mono _ _) (fun _=>LeO.refl _)
def SeqRel (l0:List S44) (b:Nat) (w:World) (i:Value) (wr:World):Prop :=
 ∃ j:Int,0≤j∧j≤l0.length∧i=.int .i64 j∧CntMap wr b (cntE (l0.take j.toNat)) j.toNat∧Below w.heap.size w wr∧w.heap.size≤b
theorem impl_LogSeq.calls (k:Nat) (A0:Option Addr) (c0:Nat) (l0:List S44) (a1:Int) (r:Int) (w:World) (hr0:Kd.C k44 w A0 l0.length l0) (hc0:l0.length≤c0) (h:impl_LogSeq.f k l0 a1=some r) (hG:Glob w) :
  Calls Tryd.prog 33 #[.slice A0 l0.length c0,.int .i64 a1] w fun e w'=>e=.returned (.int .i64 r)∧Below w.heap.size w w':=by
 have HR0:=a_ hr0
 have HG:=a_ hG
 have HC0:=a_ hc0
 clear hr0 hG hc0
 unfold impl_LogSeq.f at h
 obtain ⟨t,ht,h⟩:=Option.bind_eq_some_iff.1 h
 have HT:=a_ ht
 clear ht
 have hmm:=@run_makeMap Tryd.prog
 cases t with
 | false =>
  simp only [Bool.false_eq_true,if_false,Option.some.injEq] at h
  subst h
  clear hmm
  go_enter Tryd.func33,Tryd.ntmps33
  go_wp2_with (go_at_call 42;refine (impl_LogOk.calls k _ _ _ false _ HR0.out HC0.out HT.out HG.out).mono ?_;rintro e w2 ⟨rfl,hb⟩;have HB2:=a_ hb;clear hb)
  go_ret
  exact ⟨rfl,HB2.out⟩
 | true =>
  rw [if_pos rfl] at h
  obtain ⟨h40,hwho⟩:=logOk_true HT.out
  have HWHO:=a_ hwho
  have H40:=a_ h40
  clear hwho h40
  by_cases ha:0≤a1∧a1≤4
  ·rw [if_pos ha] at h
   obtain rfl:=sj_ h
   clear h
   have HA:=a_ ha
   clear ha
   go_enter Tryd.func33,Tryd.ntmps33
   go_wp2_with (go_at_call 42;refine (impl_LogOk.calls k _ _ _ true _ HR0.out HC0.out HT.out HG.out).mono ?_;rintro e w2 ⟨rfl,hb⟩;have HB2:=a_ hb;clear hb)
   have hM0:CntMap (w2.alloc (.map #[] 0)) w2.heap.size (cntE []) 0:=⟨.map [],World.ownsMap_made _ _ _ _,fun x=>rfl⟩
   have HM0:=a_ hM0
   clear hM0
   have HBB:=a_ (show Below w.heap.size w (w2.alloc (.map #[] 0)) from wA_ HB2.out _)
   have HSZ:=a_ HB2.out.size
   generalize w2.heap.size=b at HM0 HSZ ⊢
   go_loopw [14] (fun i wr=>SeqRel l0 b w i wr) (fun i _=>l0.length - (intOf i).toNat)
   case atStart=>exact ⟨0,Int.le_refl _,by omega,rfl,HM0.out,HBB.out,HSZ.out⟩
   case round =>
    obtain ⟨j,hj0,hj,rfl,hM,hB,_⟩:=hrel
    have HM:=a_ hM
    have HB:=a_ hB
    clear hM hB HM0 HBB
    by_cases hlt:j < l0.length
    ·have hd1:decide (j < (l0.length:Int))=true:=dt_ hlt
     obtain ⟨ad,e,hx0,hx1,hx2,hx3,hx4,hx5,hx6⟩:=at_T44 HR0.out j hj0 hlt
     cases e
     replace hx0:=(cb_ HB.out hx0 :)
     replace hx1:=(cb_ HB.out hx1 :)
     replace hx2:=(cb_ HB.out hx2 :)
     replace hx3:=(cb_ HB.out hx3 :)
     replace hx4:=(cb_ HB.out hx4 :)
     replace hx5:=(cb_ HB.out hx5 :)
     replace hx6:=(cb_ HB.out hx6 :)
     have hu:=Tryd.underlying44
     have hxe:rd_T44 l0 j=l0[j.toNat]'(by omega):=by
      unfold rd_T44
      rw [List.getD_eq_getElem?_getD,List.getElem?_eq_getElem (by omega)]
      rfl
     have htk:=List.take_succ_eq_append_getElem (l:=l0) (i:=j.toNat) (by omega)
     have hmem:=HWHO.out _ (List.getElem_mem (l:=l0) (n:=j.toNat) (by omega))
     rw [←hxe] at htk hmem
     clear hxe
     generalize rd_T44 l0 j=x at hx0 hx1 hx2 hx3 hx4 hx5 hx6 htk hmem
     rw [show j.toNat+1=(j+1).toNat by omega] at htk
     have hjb:j≤40:=by have:=H40.out;omega
     have p1:=eq_true hj0
     have q1:=eq_true hlt
     have hcn:=cntE_le (l0.take j.toNat) x.f0
     have hcl:(l0.take j.toNat).length≤40:=by rw [List.length_take];omega
     have hsn:=cntE_snoc (l0.take j.toNat) x
     rw [←htk] at hsn
     have HSN:=a_ hsn
     have HJN:=a_ (show j.toNat≤1000∧0≤j∧j < l0.length from ⟨by omega,hj0,hlt⟩)
     have HM1:=a_ (HM.out.alloc (.cells #[.int .i64 x.f0,.int .i64 x.f1,.int .i64 x.f2.f0,.int .i64 x.f2.f1,.int .i64 x.f2.f2,.int .i64 x.f2.f3,.string x.f2.f4] 44))
     have HB1:=a_ (wA_ HB.out (.cells #[.int .i64 x.f0,.int .i64 x.f1,.int .i64 x.f2.f0,.int .i64 x.f2.f1,.int .i64 x.f2.f2,.int .i64 x.f2.f3,.string x.f2.f4] 44))
     have HX:=a_ (show 0≤x.f0∧x.f0≤4 from ⟨by omega,by omega⟩)
     have HC:=a_ (show 0≤cntE (l0.take j.toNat) x.f0∧cntE (l0.take j.toNat) x.f0≤1000 from ⟨hcn.1,by have:=hcn.2;omega⟩)
     clear hj0 hlt hcn hcl htk hsn HM HB hmem
     go_wp2_with (go_at_call 87;refine (add_any _ _ _ _ _ HX.out HC.out HJN.out.1 HM1.out).mono ?_;rintro e w3 ⟨rfl,hM3,hg3⟩;have HM3:=a_ hM3;have HB3:=a_ (HB1.out.grown hg3 HB1.out.size (fun j hj=>by cases hj;exact HSZ.out));clear hM3 hg3)
     all_goals have hjj:=HJN.out
     all_goals have hww:wrap64 (j+1)=j+1:=by unfold wrap64;omega
     all_goals refine ⟨⟨j+1,by omega,by omega,by rw [hww],?_,HB3.out,HSZ.out⟩,?_⟩
     all_goals first
      | (rw [hww];show l0.length - (j+1).toNat < l0.length - j.toNat;omega)
      | (rw [HSN.out,show (j+1).toNat=j.toNat+1 by omega];exact HM3.out)
    ·have hd1:decide (j < (l0.length:Int))=false:=df_ hlt
     have hM:=HM.out
     rw [List.take_of_length_le (by omega)] at hM
     clear HM hlt
     obtain ⟨D,hown,hat⟩:=hM
     have hkey:keyOf Tryd.prog 3 (.int .i64 a1)=some (.int .i64 a1):=keyOf_int_mk Tryd.underlying3 (wf_small a1 (by have:=HA.out;omega))
     have HAT:=a_ (hat a1)
     clear hat
     go_wp2_with (at_lookup;refine wpList_lookup_own_int _ rfl (.tmp 23) (.tmp 24) 114 rfl 3 3 .i64 keyI Tryd.underlying114 Tryd.underlying3 (zeroI _) b j.toNat D rfl hown _ _ rfl hkey ?_;intro z hz hwz;have ez:z=cntE l0 a1:=(by have:=HAT.out.symm.trans hz;injection this with this;injection this with _ this;exact this.symm);subst ez;clear hz hwz)
     go_ret
     exact ⟨rfl,HB.out⟩
  ·rw [if_neg ha] at h
   cases h
end Go.Proofs.YtdpklbomhdpimaaDoor.P
namespace Go.Proofs.YtdpklbomhdpimaaDoor.P
open Go.RowKit Go.Proofs.YtdpklbomhdpimaaDoorW.PrintWords Go.Proofs.YtdpklbomhdpimaaDoorW.PrintLast
attribute [local go_sem high] eqA44
def impl_Entry_123.l0:Nat→List (S44)→Int→Int→Int→Int→Int→Int→Int→Int→ByteArray→Option (Int)
 | 0,_,_,_,_,_,_,_,_,_,_=>none
 | k+1,x0,x7,x8,x748000,x748001,x748002,x748003,x748004,x748005,x748006=>if x8 < x7 then (if 0≤x8 then (if x8 < (x0.length:Int) then (if (x748000==((rd_T44 x0 x8).f0)&&(x748001==((rd_T44 x0 x8).f1)&&((x748002==((rd_T44 x0 x8).f2.f0)&&(x748003==((rd_T44 x0 x8).f2.f1)&&(x748004==((rd_T44 x0 x8).f2.f2)&&(x748005==((rd_T44 x0 x8).f2.f3)&&(x748006.toList==(((rd_T44 x0 x8).f2.f4).toList)))))))))=true then (some x8) else (impl_Entry_123.l0 k x0 x7 (wrap64 (x8+1)) x748000 x748001 x748002 x748003 x748004 x748005 x748006)) else (none)) else (none)) else (some (-1))
def impl_Entry_123.f (k:Nat) (l0:List (S44)) (a1_0:Int) (a1_1:Int) (a1_2:Int) (a1_3:Int) (a1_4:Int) (a1_5:Int) (a1_6:ByteArray):Option (Int):=impl_Entry_123.l0 k l0 (l0.length:Int) 0 a1_0 a1_1 a1_2 a1_3 a1_4 a1_5 a1_6
theorem impl_Entry_123.mono_l:∀ k,(∀ y0 y1 y2 y3 y4 y5 y6 y7 y8 y9,LeO (impl_Entry_123.l0 k y0 y1 y2 y3 y4 y5 y6 y7 y8 y9) (impl_Entry_123.l0 (k+1) y0 y1 y2 y3 y4 y5 y6 y7 y8 y9))
 | 0=>fun _ _ _ _ _ _ _ _ _ _ r h=>by simp [impl_Entry_123.l0] at h
 | k+1=>by
  have ih0:=impl_Entry_123.mono_l k
  ·intro y0 y1 y2 y3 y4 y5 y6 y7 y8 y9
   unfold impl_Entry_123.l0
   repeat' first
   | (with_reducible exact ih0 _ _ _ _ _ _ _ _ _ _)
   | (with_reducible exact LeO.refl _)
   | (with_reducible exact LeO.none _)
   | (with_reducible refine LeO.ite ?_ ?_)
   | (with_reducible refine LeO.bind ?_ (fun _=>?_))
   | exact ih0 _ _ _ _ _ _ _ _ _ _
   | exact LeO.none _
   | refine LeO.ite ?_ ?_
   | refine LeO.bind ?_ (fun _=>?_)
theorem impl_Entry_123.mono:∀ a0 a1 a2 a3 a4 a5 a6 a7 k,LeO (impl_Entry_123.f k a0 a1 a2 a3 a4 a5 a6 a7) (impl_Entry_123.f (k+1) a0 a1 a2 a3 a4 a5 a6 a7):=by
 intro a0 a1 a2 a3 a4 a5 a6 a7 k
 have ih0:=impl_Entry_123.mono_l k
 unfold impl_Entry_123.f
 repeat' first
   | (with_reducible exact ih0 _ _ _ _ _ _ _ _ _ _)
   | (with_reducible exact LeO.refl _)
   | (with_reducible exact LeO.none _)
   | (with_reducible refine LeO.ite ?_ ?_)
   | (with_reducible refine LeO.bind ?_ (fun _=>?_))
   | exact ih0 _ _ _ _ _ _ _ _ _ _
   | exact LeO.none _
   | refine LeO.ite ?_ ?_
   | refine LeO.bind ?_ (fun _=>?_)
theorem impl_Entry_123.calls (k:Nat) (A0:Option Addr) (c0:Nat) (l0:List (S44)) (a1_0:Int) (a1_1:Int) (a1_2:Int) (a1_3:Int) (a1_4:Int) (a1_5:Int) (a1_6:ByteArray) (r:Int) (w:World) (hr0:Kd.C k44 w A0 l0.length l0) (hc0:l0.length≤c0) (h:impl_Entry_123.f k l0 a1_0 a1_1 a1_2 a1_3 a1_4 a1_5 a1_6=some r) :
  Calls Tryd.prog 123 #[.slice A0 l0.length c0,.agg #[.int .i64 a1_0,.int .i64 a1_1,.int .i64 a1_2,.int .i64 a1_3,.int .i64 a1_4,.int .i64 a1_5,.string a1_6]] w fun e w'=>e=.returned (.int .i64 r)∧Below w.heap.size w w':=by
 have hu44:=Tryd.underlying44
 have HR0:=a_ hr0
 have HC0:=a_ hc0
 clear hr0 hc0
 have HB:=a_ (Below.refl w.heap.size w)
 unfold impl_Entry_123.f at h
 have H:=h
 clear h
 have H':=a_ H
 clear H
 go_enter Tryd.func123,Tryd.ntmps123
 go_wp2_with (first|((with_reducible refine gD_ (N:=3) rfl ?_);refine bx_ 3 (#[.int .i64 a1_0,.int .i64 a1_1,.int .i64 a1_2,.int .i64 a1_3,.int .i64 a1_4,.int .i64 a1_5,.string a1_6]) 44 ?_;intro gb747 hg w3 hbox hb;have n0_:=a_ (bS_ (bel_) hb);have n1_:=a_ (hbox);have n2_:=a_ ((by rw [hg];exact (below_size (bel_)):w.heap.size≤gb747));have n3_:=a_ ((by rw [hg];exact (below_size (bel_)):w.heap.size≤gb747));clear HB;have HB:=n0_;have BK747:=n1_;have GW747:=n2_;have GE747:=n3_;clear n0_ n1_ n2_ n3_;clear hb hbox hg))
 repeat (go_quiet (first|((with_reducible refine gD_ (N:=3) rfl ?_);refine bx_ 3 (#[.int .i64 a1_0,.int .i64 a1_1,.int .i64 a1_2,.int .i64 a1_3,.int .i64 a1_4,.int .i64 a1_5,.string a1_6]) 44 ?_;intro gb747 hg w3 hbox hb;have n0_:=a_ (bS_ (bel_) hb);have n1_:=a_ (hbox);have n2_:=a_ ((by rw [hg];exact (below_size (bel_)):w.heap.size≤gb747));have n3_:=a_ ((by rw [hg];exact (below_size (bel_)):w.heap.size≤gb747));clear HB;have HB:=n0_;have BK747:=n1_;have GW747:=n2_;have GE747:=n3_;clear n0_ n1_ n2_ n3_;clear hb hbox hg));try go_wp2_with (first|((with_reducible refine gD_ (N:=3) rfl ?_);refine bx_ 3 (#[.int .i64 a1_0,.int .i64 a1_1,.int .i64 a1_2,.int .i64 a1_3,.int .i64 a1_4,.int .i64 a1_5,.string a1_6]) 44 ?_;intro gb747 hg w3 hbox hb;have n0_:=a_ (bS_ (bel_) hb);have n1_:=a_ (hbox);have n2_:=a_ ((by rw [hg];exact (below_size (bel_)):w.heap.size≤gb747));have n3_:=a_ ((by rw [hg];exact (below_size (bel_)):w.heap.size≤gb747));clear HB;have HB:=n0_;have BK747:=n1_;have GW747:=n2_;have GE747:=n3_;clear n0_ n1_ n2_ n3_;clear hb hbox hg)))
 go_loopg [8] k (fun kq v8 w'=>∃ (x8_1:Int),v8=.int .i64 x8_1∧Aside0 (impl_Entry_123.l0 kq l0 (l0.length:Int) x8_1 a1_0 a1_1 a1_2 a1_3 a1_4 a1_5 a1_6=some r)∧Aside0 (kq≤k)∧Aside0 (w'.heap[gb747]?=some (.cells #[.int .i64 a1_0,.int .i64 a1_1,.int .i64 a1_2,.int .i64 a1_3,.int .i64 a1_4,.int .i64 a1_5,.string a1_6] 44 (0,0)))∧Aside0 (Below w.heap.size w w'))
 case atStart=>exact ⟨(0),(si_),H',⟨Nat.le_refl _⟩,⟨by (with_reducible repeat (first|refine bN_ ?_ _|refine bD_ ?_|refine bA_ ?_ _));exact BK747.out⟩,⟨bel_⟩⟩
 case round =>
  clear H'
  try clear c1
  try clear p2
  obtain ⟨x8_1,rfl,HA,HK1,BK747,HB⟩:=hrel
  cases gk with
  | zero=>exact absurd HA.out (by simp [impl_Entry_123.l0])
  | succ k1 =>
   have H:=HA.out
   clear HA
   simp only [impl_Entry_123.l0] at H
   by_cases c4:x8_1 < (l0.length:Int)
   ·rw [if_pos c4] at H
    have c4b0:decide (x8_1 < (l0.length:Int))=true:=dt_ c4
    clear c4
    by_cases c5:0≤x8_1
    ·rw [if_pos c5] at H
     have c5b0:decide (0≤x8_1)=true:=dt_ c5
     clear c5
     by_cases c6:x8_1 < (l0.length:Int)
     ·rw [if_pos c6] at H
      have c6b0:decide (x8_1 < (l0.length:Int))=true:=dt_ c6
      clear c6
      by_cases c7:(a1_0==((rd_T44 l0 x8_1).f0)&&(a1_1==((rd_T44 l0 x8_1).f1)&&((a1_2==((rd_T44 l0 x8_1).f2.f0)&&(a1_3==((rd_T44 l0 x8_1).f2.f1)&&(a1_4==((rd_T44 l0 x8_1).f2.f2)&&(a1_5==((rd_T44 l0 x8_1).f2.f3)&&(a1_6.toList==(((rd_T44 l0 x8_1).f2.f4).toList)))))))))=true
      ·rw [if_pos c7] at H
       have c7b0:(a1_0==((rd_T44 l0 x8_1).f0)&&(a1_1==((rd_T44 l0 x8_1).f1)&&((a1_2==((rd_T44 l0 x8_1).f2.f0)&&(a1_3==((rd_T44 l0 x8_1).f2.f1)&&(a1_4==((rd_T44 l0 x8_1).f2.f2)&&(a1_5==((rd_T44 l0 x8_1).f2.f3)&&(a1_6.toList==(((rd_T44 l0 x8_1).f2.f4).toList)))))))))=true:=c7
       (try (have c7b1:decide (a1_0=((rd_T44 l0 x8_1).f0)&&(a1_1==((rd_T44 l0 x8_1).f1)&&((a1_2==((rd_T44 l0 x8_1).f2.f0)&&(a1_3==((rd_T44 l0 x8_1).f2.f1)&&(a1_4==((rd_T44 l0 x8_1).f2.f2)&&(a1_5==((rd_T44 l0 x8_1).f2.f3)&&(a1_6.toList==(((rd_T44 l0 x8_1).f2.f4).toList)))))))))=true:=by simpa using c7))
       (try (have c7b2:(a1_0==((rd_T44 l0 x8_1).f0)&&(a1_1==((rd_T44 l0 x8_1).f1)&&((a1_2==((rd_T44 l0 x8_1).f2.f0)&&(a1_3==((rd_T44 l0 x8_1).f2.f1)&&(a1_4==((rd_T44 l0 x8_1).f2.f2)&&(a1_5==((rd_T44 l0 x8_1).f2.f3)&&(a1_6.toList==(((rd_T44 l0 x8_1).f2.f4).toList)))))))))=true:=by simpa using c7))
       clear c7
       obtain rfl:=sj_ H
       have Z8_0:wr.cell? ⟨gb747,0,none⟩=some (.int .i64 a1_0):=(bC_ BK747.out 0).trans rfl
       have Z8_1:wr.cell? ⟨gb747,1,none⟩=some (.int .i64 a1_1):=(bC_ BK747.out 1).trans rfl
       have Z8_2:wr.cell? ⟨gb747,2,none⟩=some (.int .i64 a1_2):=(bC_ BK747.out 2).trans rfl
       have Z8_3:wr.cell? ⟨gb747,3,none⟩=some (.int .i64 a1_3):=(bC_ BK747.out 3).trans rfl
       have Z8_4:wr.cell? ⟨gb747,4,none⟩=some (.int .i64 a1_4):=(bC_ BK747.out 4).trans rfl
       have Z8_5:wr.cell? ⟨gb747,5,none⟩=some (.int .i64 a1_5):=(bC_ BK747.out 5).trans rfl
       have Z8_6:wr.cell? ⟨gb747,6,none⟩=some (.string a1_6):=(bC_ BK747.out 6).trans rfl
       have Y8_0:=bF_ BK747.out 0
       have Y8_1:=bF_ BK747.out 1
       have Y8_2:=bF_ BK747.out 2
       have Y8_3:=bF_ BK747.out 3
       have Y8_4:=bF_ BK747.out 4
       have Y8_5:=bF_ BK747.out 5
       have Y8_6:=bF_ BK747.out 6
       have p748:0≤(x8_1:Int):=od_
       have q748:x8_1 < (l0.length:Int):=od_
       obtain ⟨ad748,e748,hx748_0,hx748_1,hx748_2,hx748_3,hx748_4,hx748_5,hx748_6⟩:=at_T44 HR0.out x8_1 p748 q748
       cases e748
       replace hx748_0:=(cb_ HB.out hx748_0 :)
       replace hx748_1:=(cb_ HB.out hx748_1 :)
       replace hx748_2:=(cb_ HB.out hx748_2 :)
       replace hx748_3:=(cb_ HB.out hx748_3 :)
       replace hx748_4:=(cb_ HB.out hx748_4 :)
       replace hx748_5:=(cb_ HB.out hx748_5 :)
       replace hx748_6:=(cb_ HB.out hx748_6 :)
       replace p748:=eq_true p748
       replace q748:=eq_true q748
       go_wp2
       repeat (go_quiet (fail);try go_wp2)
       go_ret
       exact ⟨fi_,bel_⟩
      ·rw [if_neg c7] at H
       have c7b0:(a1_0==((rd_T44 l0 x8_1).f0)&&(a1_1==((rd_T44 l0 x8_1).f1)&&((a1_2==((rd_T44 l0 x8_1).f2.f0)&&(a1_3==((rd_T44 l0 x8_1).f2.f1)&&(a1_4==((rd_T44 l0 x8_1).f2.f2)&&(a1_5==((rd_T44 l0 x8_1).f2.f3)&&(a1_6.toList==(((rd_T44 l0 x8_1).f2.f4).toList)))))))))=false:=by simpa using c7
       (try (have c7b1:decide (a1_0=((rd_T44 l0 x8_1).f0)&&(a1_1==((rd_T44 l0 x8_1).f1)&&((a1_2==((rd_T44 l0 x8_1).f2.f0)&&(a1_3==((rd_T44 l0 x8_1).f2.f1)&&(a1_4==((rd_T44 l0 x8_1).f2.f2)&&(a1_5==((rd_T44 l0 x8_1).f2.f3)&&(a1_6.toList==(((rd_T44 l0 x8_1).f2.f4).toList)))))))))=false:=by simpa using c7))
       (try (have c7b2:(a1_0==((rd_T44 l0 x8_1).f0)&&(a1_1==((rd_T44 l0 x8_1).f1)&&((a1_2==((rd_T44 l0 x8_1).f2.f0)&&(a1_3==((rd_T44 l0 x8_1).f2.f1)&&(a1_4==((rd_T44 l0 x8_1).f2.f2)&&(a1_5==((rd_T44 l0 x8_1).f2.f3)&&(a1_6.toList==(((rd_T44 l0 x8_1).f2.f4).toList)))))))))=false:=by simpa using c7))
       (try (have c7b3:¬ (a1_0=((rd_T44 l0 x8_1).f0)&&(a1_1==((rd_T44 l0 x8_1).f1)&&((a1_2==((rd_T44 l0 x8_1).f2.f0)&&(a1_3==((rd_T44 l0 x8_1).f2.f1)&&(a1_4==((rd_T44 l0 x8_1).f2.f2)&&(a1_5==((rd_T44 l0 x8_1).f2.f3)&&(a1_6.toList==(((rd_T44 l0 x8_1).f2.f4).toList))))))))):=by simpa using c7))
       clear c7
       have H':=a_ H
       clear H
       have Z9_0:wr.cell? ⟨gb747,0,none⟩=some (.int .i64 a1_0):=(bC_ BK747.out 0).trans rfl
       have Z9_1:wr.cell? ⟨gb747,1,none⟩=some (.int .i64 a1_1):=(bC_ BK747.out 1).trans rfl
       have Z9_2:wr.cell? ⟨gb747,2,none⟩=some (.int .i64 a1_2):=(bC_ BK747.out 2).trans rfl
       have Z9_3:wr.cell? ⟨gb747,3,none⟩=some (.int .i64 a1_3):=(bC_ BK747.out 3).trans rfl
       have Z9_4:wr.cell? ⟨gb747,4,none⟩=some (.int .i64 a1_4):=(bC_ BK747.out 4).trans rfl
       have Z9_5:wr.cell? ⟨gb747,5,none⟩=some (.int .i64 a1_5):=(bC_ BK747.out 5).trans rfl
       have Z9_6:wr.cell? ⟨gb747,6,none⟩=some (.string a1_6):=(bC_ BK747.out 6).trans rfl
       have Y9_0:=bF_ BK747.out 0
       have Y9_1:=bF_ BK747.out 1
       have Y9_2:=bF_ BK747.out 2
       have Y9_3:=bF_ BK747.out 3
       have Y9_4:=bF_ BK747.out 4
       have Y9_5:=bF_ BK747.out 5
       have Y9_6:=bF_ BK747.out 6
       have p748:0≤(x8_1:Int):=od_
       have q748:x8_1 < (l0.length:Int):=od_
       obtain ⟨ad748,e748,hx748_0,hx748_1,hx748_2,hx748_3,hx748_4,hx748_5,hx748_6⟩:=at_T44 HR0.out x8_1 p748 q748
       cases e748
       replace hx748_0:=(cb_ HB.out hx748_0 :)
       replace hx748_1:=(cb_ HB.out hx748_1 :)
       replace hx748_2:=(cb_ HB.out hx748_2 :)
       replace hx748_3:=(cb_ HB.out hx748_3 :)
       replace hx748_4:=(cb_ HB.out hx748_4 :)
       replace hx748_5:=(cb_ HB.out hx748_5 :)
       replace hx748_6:=(cb_ HB.out hx748_6 :)
       replace p748:=eq_true p748
       replace q748:=eq_true q748
       go_wp2
       repeat (go_quiet (fail);try go_wp2)
       go_roundg k1
       case measure=>have:=HK1.out;omega
       case rel=>exact ⟨(wrap64 (x8_1+1)),(si_),H',⟨by have:=HK1.out;omega⟩,⟨by (with_reducible repeat (first|refine bN_ ?_ _|refine bD_ ?_|refine bA_ ?_ _));exact BK747.out⟩,⟨bel_⟩⟩
     ·rw [if_neg c6] at H
      exact absurd H (by simp)
    ·rw [if_neg c5] at H
     exact absurd H (by simp)
   ·rw [if_neg c4] at H
    have c4b0:decide (x8_1 < (l0.length:Int))=false:=df_ c4
    clear c4
    obtain rfl:=sj_ H
    go_wp2
    repeat (go_quiet (fail);try go_wp2)
    go_ret
    exact ⟨fi_,bel_⟩

def impl_Entry_86.f (k:Nat) (l0:List (S44)) (a1_0:Int) (a1_1:Int) (a1_2:Int) (a1_3:Int) (a1_4:Int) (a1_5:Int) (a1_6:ByteArray):Option (Bool):=(impl_Entry_123.f k l0 a1_0 a1_1 a1_2 a1_3 a1_4 a1_5 a1_6).bind fun t750=>(some (decide (t750≥0)))
theorem impl_Entry_86.mono:∀ a0 a1 a2 a3 a4 a5 a6 a7 k,LeO (impl_Entry_86.f k a0 a1 a2 a3 a4 a5 a6 a7) (impl_Entry_86.f (k+1) a0 a1 a2 a3 a4 a5 a6 a7):=by
 intro a0 a1 a2 a3 a4 a5 a6 a7 k
 unfold impl_Entry_86.f
 repeat' first
   | (with_reducible exact impl_Entry_123.mono _ _ _ _ _ _ _ _ _)
   | (with_reducible exact LeO.refl _)
   | (with_reducible exact LeO.none _)
   | (with_reducible refine LeO.ite ?_ ?_)
   | (with_reducible refine LeO.bind ?_ (fun _=>?_))
   | exact impl_Entry_123.mono _ _ _ _ _ _ _ _ _
   | exact LeO.none _
   | refine LeO.ite ?_ ?_
   | refine LeO.bind ?_ (fun _=>?_)
theorem impl_Entry_86.calls (k:Nat) (A0:Option Addr) (c0:Nat) (l0:List (S44)) (a1_0:Int) (a1_1:Int) (a1_2:Int) (a1_3:Int) (a1_4:Int) (a1_5:Int) (a1_6:ByteArray) (r:Bool) (w:World) (hr0:Kd.C k44 w A0 l0.length l0) (hc0:l0.length≤c0) (h:impl_Entry_86.f k l0 a1_0 a1_1 a1_2 a1_3 a1_4 a1_5 a1_6=some r) :
  Calls Tryd.prog 86 #[.slice A0 l0.length c0,.agg #[.int .i64 a1_0,.int .i64 a1_1,.int .i64 a1_2,.int .i64 a1_3,.int .i64 a1_4,.int .i64 a1_5,.string a1_6]] w fun e w'=>e=.returned (.bool r)∧Below w.heap.size w w':=by
 have hu44:=Tryd.underlying44
 have HR0:=a_ hr0
 have HC0:=a_ hc0
 clear hr0 hc0
 have HB:=a_ (Below.refl w.heap.size w)
 unfold impl_Entry_86.f at h
 have H:=h
 clear h
 replace H:=bs_ H
 obtain ⟨t750,A30,H⟩:=H
 try dsimp only at H
 have A3:=a_ A30
 clear A30
 obtain rfl:=sj_ H
 go_enter Tryd.func86,Tryd.ntmps86
 go_wp2_with (first|((with_reducible refine gD_ (N:=3) rfl ?_);refine bx_ 3 (#[.int .i64 a1_0,.int .i64 a1_1,.int .i64 a1_2,.int .i64 a1_3,.int .i64 a1_4,.int .i64 a1_5,.string a1_6]) 44 ?_;intro gb749 hg w4 hbox hb;have n0_:=a_ (bS_ (bel_) hb);have n1_:=a_ (hbox);have n2_:=a_ ((by rw [hg];exact (below_size (bel_)):w.heap.size≤gb749));have n3_:=a_ ((by rw [hg];exact (below_size (bel_)):w.heap.size≤gb749));clear HB;have HB:=n0_;have BK749:=n1_;have GW749:=n2_;have GE749:=n3_;clear n0_ n1_ n2_ n3_;clear hb hbox hg;have Z5_0:=cz_ BK749.out 0 (.int .i64 a1_0);have Z5_1:=cz_ BK749.out 1 (.int .i64 a1_1);have Z5_2:=cz_ BK749.out 2 (.int .i64 a1_2);have Z5_3:=cz_ BK749.out 3 (.int .i64 a1_3);have Z5_4:=cz_ BK749.out 4 (.int .i64 a1_4);have Z5_5:=cz_ BK749.out 5 (.int .i64 a1_5);have Z5_6:=cz_ BK749.out 6 (.string a1_6);have Y5_0:=bF_ BK749.out 0;have Y5_1:=bF_ BK749.out 1;have Y5_2:=bF_ BK749.out 2;have Y5_3:=bF_ BK749.out 3;have Y5_4:=bF_ BK749.out 4;have Y5_5:=bF_ BK749.out 5;have Y5_6:=bF_ BK749.out 6)|((with_reducible refine gC_ (f:=123) rfl ?_);refine gl_ 7 Tryd.func123 #[.slice A0 l0.length c0,.agg #[.int .i64 a1_0,.int .i64 a1_1,.int .i64 a1_2,.int .i64 a1_3,.int .i64 a1_4,.int .i64 a1_5,.string a1_6]] ?_;(with_reducible refine (impl_Entry_123.calls k _ _ l0 a1_0 a1_1 a1_2 a1_3 a1_4 a1_5 a1_6 t750 _ ?side1 ?side2 A3.out).mono ?_);(case side1=>exact cp_ HR0.out);(case side2=>exact HC0.out);rintro e w6 ⟨rfl,hb⟩;refine ⟨_,rfl,?_⟩;replace HB:=a_ (bS_ (bel_) hb);replace BK749:=a_ (bb_ BK749.out hb);(try clear hb)))
 go_ret
 exact ⟨fi_,bel_⟩

def impl_LogAdd.j0:Nat→List (S44)→Bool→Int→Int→Int→Int→Int→Int→ByteArray→Option ((List (S44))×Int)
 | 0,_,_,_,_,_,_,_,_,_=>none
 | k+1,x0,x14,x752000,x752001,x752002,x752003,x752004,x752005,x752006=>if x14=true then (some (([]:List (S44)),(-1))) else ((impl_Entry_85.f x0).bind fun t754=>((impl_Entry_86.f k x0 x752000 x752001 x752002 x752003 x752004 x752005 x752006).bind fun t757=>(if t757=true then (some (t754,0)) else ((impl_LogSeq.f k x0 x752000).bind fun t758=>(if x752001=(wrap64 (t758+1)) then (if (x0.length:Int)≥40 then (some (t754,(-1))) else (if t754.length < 2199023255552 then (some ((t754++[(⟨x752000,x752001,(⟨x752002,x752003,x752004,x752005,x752006⟩:S42)⟩:S44)]),1)) else (none))) else (some (t754,(-1))))))))
def impl_LogAdd.f (k:Nat) (l0:List (S44)) (a1_0:Int) (a1_1:Int) (a1_2:Int) (a1_3:Int) (a1_4:Int) (a1_5:Int) (a1_6:ByteArray):Option ((List (S44))×Int):=(impl_LogOk.f k l0).bind fun t752=>(if t752=true then ((impl_EntryOk.f k a1_0 a1_1 a1_2 a1_3 a1_4 a1_5 a1_6).bind fun t753=>(impl_LogAdd.j0 k l0 (!t753) a1_0 a1_1 a1_2 a1_3 a1_4 a1_5 a1_6)) else (impl_LogAdd.j0 k l0 true a1_0 a1_1 a1_2 a1_3 a1_4 a1_5 a1_6))
theorem impl_LogAdd.mono_l:∀ k,(∀ y0 y1 y2 y3 y4 y5 y6 y7 y8,LeO (impl_LogAdd.j0 k y0 y1 y2 y3 y4 y5 y6 y7 y8) (impl_LogAdd.j0 (k+1) y0 y1 y2 y3 y4 y5 y6 y7 y8))
 | 0=>fun _ _ _ _ _ _ _ _ _ r h=>by simp [impl_LogAdd.j0] at h
 | k+1=>by
  have ih0:=impl_LogAdd.mono_l k
  ·intro y0 y1 y2 y3 y4 y5 y6 y7 y8
   unfold impl_LogAdd.j0
   repeat' first
   | (with_reducible exact ih0 _ _ _ _ _ _ _ _ _)
   | (with_reducible exact impl_EntryOk.mono _ _ _ _ _ _ _ _)
   | (with_reducible exact impl_Entry_86.mono _ _ _ _ _ _ _ _ _)
   | (with_reducible exact impl_LogOk.mono _ _)
   | (with_reducible exact impl_LogSeq.mono _ _ _)
   | (with_reducible exact LeO.refl _)
   | (with_reducible exact LeO.none _)
   | (with_reducible refine LeO.ite ?_ ?_)
   | (with_reducible refine LeO.bind ?_ (fun _=>?_))
   | exact ih0 _ _ _ _ _ _ _ _ _
   | exact impl_EntryOk.mono _ _ _ _ _ _ _ _
   | exact impl_Entry_86.mono _ _ _ _ _ _ _ _ _
   | exact impl_LogOk.mono _ _
   | exact impl_LogSeq.mono _ _ _
   | exact LeO.none _
   | refine LeO.ite ?_ ?_
   | refine LeO.bind ?_ (fun _=>?_)
theorem impl_LogAdd.mono:∀ a0 a1 a2 a3 a4 a5 a6 a7 k,LeO (impl_LogAdd.f k a0 a1 a2 a3 a4 a5 a6 a7) (impl_LogAdd.f (k+1) a0 a1 a2 a3 a4 a5 a6 a7):=by
 intro a0 a1 a2 a3 a4 a5 a6 a7 k
 have ih0:=impl_LogAdd.mono_l k
 unfold impl_LogAdd.f
 repeat' first
   | (with_reducible exact ih0 _ _ _ _ _ _ _ _ _)
   | (with_reducible exact impl_EntryOk.mono _ _ _ _ _ _ _ _)
   | (with_reducible exact impl_Entry_86.mono _ _ _ _ _ _ _ _ _)
   | (with_reducible exact impl_LogOk.mono _ _)
   | (with_reducible exact impl_LogSeq.mono _ _ _)
   | (with_reducible exact LeO.refl _)
   | (with_reducible exact LeO.none _)
   | (with_reducible refine LeO.ite ?_ ?_)
   | (with_reducible refine LeO.bind ?_ (fun _=>?_))
   | exact ih0 _ _ _ _ _ _ _ _ _
   | exact impl_EntryOk.mono _ _ _ _ _ _ _ _
   | exact impl_Entry_86.mono _ _ _ _ _ _ _ _ _
   | exact impl_LogOk.mono _ _
   | exact impl_LogSeq.mono _ _ _
   | exact LeO.none _
   | refine LeO.ite ?_ ?_
   | refine LeO.bind ?_ (fun _=>?_)
def impl_LogAdd.T6:Bool×List (List Nat×List Nat):=(true,[([],[]),([0],[0]),([],[]),([],[]),([3],[3]),([2,4],[2,4]),([5],[5]),([1,6],[1,6]),([7,5],[7]),([8],[8]),([9,8],[8,9]),([10,8],[8,10]),([8,11],[8,11])])
def impl_LogAdd.B6:List Nat:=[0,1,0,0,8,28,60,127,255,511,1023,2047,4095]
theorem impl_LogAdd.tab6:rtab .any (opsOf Tryd.f31 6)=impl_LogAdd.T6:=by kernel_rfl
theorem impl_LogAdd.bits6:waitsOk impl_LogAdd.T6.2 impl_LogAdd.B6=true:=by kernel_rfl
theorem impl_LogAdd.calls (k:Nat) (A0:Option Addr) (c0:Nat) (l0:List (S44)) (a1_0:Int) (a1_1:Int) (a1_2:Int) (a1_3:Int) (a1_4:Int) (a1_5:Int) (a1_6:ByteArray) (r1:List (S44)) (r2:Int) (w:World) (hr0:Kd.C k44 w A0 l0.length l0) (hc0:l0.length≤c0) (h:impl_LogAdd.f k l0 a1_0 a1_1 a1_2 a1_3 a1_4 a1_5 a1_6=some (r1,r2)) (hG:Glob w) :
  Calls Tryd.prog 31 #[.slice A0 l0.length c0,.agg #[.int .i64 a1_0,.int .i64 a1_1,.int .i64 a1_2,.int .i64 a1_3,.int .i64 a1_4,.int .i64 a1_5,.string a1_6]] w fun e w'=>∃ v0_:Value,e=.returned (.tuple #[v0_,.int .i64 r2])∧Kd.R k44 44 w' w.heap.size (fun _=>True) v0_ r1∧Below w.heap.size w w':=by
 have hu44:=Tryd.underlying44
 have HR0:=a_ hr0
 have HC0:=a_ hc0
 clear hr0 hc0
 have HB:=a_ (Below.refl w.heap.size w)
 have HG:=a_ hG
 clear hG
 unfold impl_LogAdd.f at h
 have H:=h
 clear h
 have HC3:=a_ H
 clear H
 go_enter Tryd.func31,Tryd.ntmps31
 go_upto_region 1 with (first|((with_reducible refine gD_ (N:=3) rfl ?_);refine bx_ 3 (#[.int .i64 a1_0,.int .i64 a1_1,.int .i64 a1_2,.int .i64 a1_3,.int .i64 a1_4,.int .i64 a1_5,.string a1_6]) 44 ?_;intro gb751 hg w4 hbox hb;have n0_:=a_ (bS_ (bel_) hb);have n1_:=a_ (hbox);have n2_:=a_ ((by rw [hg];exact (below_size (bel_)):w.heap.size≤gb751));have n3_:=a_ ((by rw [hg];exact (below_size (bel_)):w.heap.size≤gb751));clear HB;have HB:=n0_;have BK751:=n1_;have GW751:=n2_;have GE751:=n3_;clear n0_ n1_ n2_ n3_;clear hb hbox hg))
 (try simp only [Act.put,List.setIfInBounds_toArray,List.set_cons_zero,List.set_cons_succ])
 go_cut [14] (fun v14 wc=>∃ (kq:Nat) (x14_2:Bool),v14=.bool x14_2∧Aside0 (impl_LogAdd.j0 kq l0 x14_2 a1_0 a1_1 a1_2 a1_3 a1_4 a1_5 a1_6=some (r1,r2))∧Aside0 (kq≤k)∧Aside0 (wc.heap[gb751]?=some (.cells #[.int .i64 a1_0,.int .i64 a1_1,.int .i64 a1_2,.int .i64 a1_3,.int .i64 a1_4,.int .i64 a1_5,.string a1_6] 44 (0,0)))∧Aside0 (Below w.heap.size w wc))
 case first =>
  have H:=HC3.out
  clear HC3
  replace H:=bs_ H
  obtain ⟨t752,A50,H⟩:=H
  try dsimp only at H
  have A5:=a_ A50
  clear A50
  by_cases c6:t752=true
  ·subst c6
   have H1:((impl_EntryOk.f k a1_0 a1_1 a1_2 a1_3 a1_4 a1_5 a1_6).bind fun t753=>(impl_LogAdd.j0 k l0 (!t753) a1_0 a1_1 a1_2 a1_3 a1_4 a1_5 a1_6))=some (r1,r2):=by rw [if_pos rfl] at H;exact H
   clear H
   have H:=H1
   clear H1
   replace H:=bs_ H
   obtain ⟨t753,A70,H⟩:=H
   try dsimp only at H
   have A7:=a_ A70
   clear A70
   have H':=a_ H
   clear H
   go_wp2_with (first|((with_reducible refine gC_ (f:=42) rfl ?_);refine gl_ 8 Tryd.func42 #[.slice A0 l0.length c0] ?_;(with_reducible refine (impl_LogOk.calls k _ _ l0 true _ ?side1 ?side2 A5.out ?side3).mono ?_);(case side1=>exact cp_ HR0.out);(case side2=>exact HC0.out);(case side3=>exact Glob.below HG.out (bel_));rintro e w8 ⟨rfl,hb⟩;refine ⟨_,rfl,?_⟩;replace HB:=a_ (bS_ (bel_) hb);replace BK751:=a_ (bb_ BK751.out hb);(try clear hb);have Z9_0:=cz_ BK751.out 0 (.int .i64 a1_0);have Z9_1:=cz_ BK751.out 1 (.int .i64 a1_1);have Z9_2:=cz_ BK751.out 2 (.int .i64 a1_2);have Z9_3:=cz_ BK751.out 3 (.int .i64 a1_3);have Z9_4:=cz_ BK751.out 4 (.int .i64 a1_4);have Z9_5:=cz_ BK751.out 5 (.int .i64 a1_5);have Z9_6:=cz_ BK751.out 6 (.string a1_6);have Y9_0:=bF_ BK751.out 0;have Y9_1:=bF_ BK751.out 1;have Y9_2:=bF_ BK751.out 2;have Y9_3:=bF_ BK751.out 3;have Y9_4:=bF_ BK751.out 4;have Y9_5:=bF_ BK751.out 5;have Y9_6:=bF_ BK751.out 6)|(go_at_call 78;(with_reducible refine (impl_EntryOk.calls k a1_0 a1_1 a1_2 a1_3 a1_4 a1_5 a1_6 t753 _ A7.out ?side1).mono ?_);(case side1=>exact Glob.below HG.out (bel_));rintro e w10 ⟨rfl,hb⟩;replace HB:=a_ (bS_ (bel_) hb);replace BK751:=a_ (bb_ BK751.out hb);(try clear hb)))
   go_meet
   case rel=>exact ⟨_,(!t753),(si_),H',⟨by first|omega|exact Nat.le_refl _⟩,⟨by (with_reducible repeat (first|refine bN_ ?_ _|refine bD_ ?_|refine bA_ ?_ _));exact BK751.out⟩,⟨bel_⟩⟩
  ·replace c6:=Bool.eq_false_iff.mpr c6
   subst c6
   have H1:(impl_LogAdd.j0 k l0 true a1_0 a1_1 a1_2 a1_3 a1_4 a1_5 a1_6)=some (r1,r2):=by rw [if_neg (show ¬ (false=true) by decide)] at H;exact H
   clear H
   have H:=H1
   clear H1
   have H':=a_ H
   clear H
   go_wp2_with (first|((with_reducible refine gC_ (f:=42) rfl ?_);refine gl_ 8 Tryd.func42 #[.slice A0 l0.length c0] ?_;(with_reducible refine (impl_LogOk.calls k _ _ l0 false _ ?side1 ?side2 A5.out ?side3).mono ?_);(case side1=>exact cp_ HR0.out);(case side2=>exact HC0.out);(case side3=>exact Glob.below HG.out (bel_));rintro e w11 ⟨rfl,hb⟩;refine ⟨_,rfl,?_⟩;replace HB:=a_ (bS_ (bel_) hb);replace BK751:=a_ (bb_ BK751.out hb);(try clear hb)))
   go_meet
   case rel=>exact ⟨_,(true),(si_),H',⟨by first|omega|exact Nat.le_refl _⟩,⟨by (with_reducible repeat (first|refine bN_ ?_ _|refine bD_ ?_|refine bA_ ?_ _));exact BK751.out⟩,⟨bel_⟩⟩
 case rest =>
  clear HC3
  try clear p2
  try clear c3
  try clear c4
  try clear c6
  try clear Z9_0
  try clear Z9_1
  try clear Z9_2
  try clear Z9_3
  try clear Z9_4
  try clear Z9_5
  try clear Z9_6
  try clear Y9_0
  try clear Y9_1
  try clear Y9_2
  try clear Y9_3
  try clear Y9_4
  try clear Y9_5
  try clear Y9_6
  obtain ⟨kq,x14_2,rfl,HA,HJ2,BK751,HB⟩:=hcut
  cases kq with
  | zero=>exact absurd HA.out (by simp [impl_LogAdd.j0])
  | succ kj2 =>
   have H:=HA.out
   clear HA
   simp only [impl_LogAdd.j0] at H
   by_cases c12:x14_2=true
   ·subst c12
    have H1:(some (([]:List (S44)),(-1)))=some (r1,r2):=by rw [if_pos rfl] at H;exact H
    clear H
    have H:=H1
    clear H1
    simp only [Option.some.injEq,Prod.mk.injEq] at H
    obtain ⟨rfl,rfl⟩:=H
    go_wp2
    go_ret2
    exact ⟨_,fi_,by first|exact Kd.R_nil _ _ _ _ _|exact Kd.N_nil _ _ _ _ _|exact Kd.V_nil _ _ _ _ _|exact Kd.Q_nil _ _ _ _ _|exact Kd.S_nil _ _ _ _ _,bel_⟩
   ·replace c12:=Bool.eq_false_iff.mpr c12
    subst c12
    have H1:((impl_Entry_85.f l0).bind fun t754=>((impl_Entry_86.f kj2 l0 a1_0 a1_1 a1_2 a1_3 a1_4 a1_5 a1_6).bind fun t757=>(if t757=true then (some (t754,0)) else ((impl_LogSeq.f kj2 l0 a1_0).bind fun t758=>(if a1_1=(wrap64 (t758+1)) then (if (l0.length:Int)≥40 then (some (t754,(-1))) else (if t754.length < 2199023255552 then (some ((t754++[(⟨a1_0,a1_1,(⟨a1_2,a1_3,a1_4,a1_5,a1_6⟩:S42)⟩:S44)]),1)) else (none))) else (some (t754,(-1))))))))=some (r1,r2):=by rw [if_neg (show ¬ (false=true) by decide)] at H;exact H
    clear H
    have H:=H1
    clear H1
    replace H:=bs_ H
    obtain ⟨t754,A130,H⟩:=H
    try dsimp only at H
    have A13:=a_ A130
    clear A130
    replace H:=bs_ H
    obtain ⟨t757,A140,H⟩:=H
    try dsimp only at H
    have A14:=a_ A140
    clear A140
    by_cases c15:t757=true
    ·subst c15
     have H1:(some (t754,0))=some (r1,r2):=by rw [if_pos rfl] at H;exact H
     clear H
     have H:=H1
     clear H1
     simp only [Option.some.injEq,Prod.mk.injEq] at H
     obtain ⟨rfl,rfl⟩:=H
     go_wp2_with (first|((with_reducible refine gC_ (f:=85) rfl ?_);refine gl_ 16 Tryd.func85 #[.slice A0 l0.length c0] ?_;(with_reducible refine (impl_Entry_85.calls _ _ l0 t754 _ ?side1 ?side2 A13.out).mono ?_);(case side1=>exact cp_ HR0.out);(case side2=>exact HC0.out);rintro e w16 ⟨v755,rfl,ho0,hb⟩;refine ⟨_,rfl,?_⟩;have HO756:=a_ (Kd.R_lower (Kd.R_newB ho0 (g:=gb751) (o:=.cells #[.int .i64 a1_0,.int .i64 a1_1,.int .i64 a1_2,.int .i64 a1_3,.int .i64 a1_4,.int .i64 a1_5,.string a1_6] 44 (0,0)) (bp_ BK751.out)) (below_size (bel_)));replace HB:=a_ (bS_ (bel_) hb);replace BK751:=a_ (bb_ BK751.out hb);(try clear hb ho0);have Z17_0:=cz_ BK751.out 0 (.int .i64 a1_0);have Z17_1:=cz_ BK751.out 1 (.int .i64 a1_1);have Z17_2:=cz_ BK751.out 2 (.int .i64 a1_2);have Z17_3:=cz_ BK751.out 3 (.int .i64 a1_3);have Z17_4:=cz_ BK751.out 4 (.int .i64 a1_4);have Z17_5:=cz_ BK751.out 5 (.int .i64 a1_5);have Z17_6:=cz_ BK751.out 6 (.string a1_6);have Y17_0:=bF_ BK751.out 0;have Y17_1:=bF_ BK751.out 1;have Y17_2:=bF_ BK751.out 2;have Y17_3:=bF_ BK751.out 3;have Y17_4:=bF_ BK751.out 4;have Y17_5:=bF_ BK751.out 5;have Y17_6:=bF_ BK751.out 6)|((with_reducible refine gC_ (f:=86) rfl ?_);refine gl_ 19 Tryd.func86 #[.slice A0 l0.length c0,.agg #[.int .i64 a1_0,.int .i64 a1_1,.int .i64 a1_2,.int .i64 a1_3,.int .i64 a1_4,.int .i64 a1_5,.string a1_6]] ?_;(with_reducible refine (impl_Entry_86.calls kj2 _ _ l0 a1_0 a1_1 a1_2 a1_3 a1_4 a1_5 a1_6 true _ ?side1 ?side2 A14.out).mono ?_);(case side1=>exact cp_ HR0.out);(case side2=>exact HC0.out);rintro e w18 ⟨rfl,hb⟩;refine ⟨_,rfl,?_⟩;replace HO756:=a_ (Kd.R_below (rp_ HO756.out) hb);replace HB:=a_ (bS_ (bel_) hb);replace BK751:=a_ (bb_ BK751.out hb);(try clear hb)))
     go_ret2
     exact ⟨_,fi_,by (with_reducible repeat (first|apply Kd.R_alloc|apply Kd.R_drewN|apply Kd.R_drew));exact Kd.R_mono HO756.out (fun _ hk=>trivial),bel_⟩
    ·replace c15:=Bool.eq_false_iff.mpr c15
     subst c15
     have H1:((impl_LogSeq.f kj2 l0 a1_0).bind fun t758=>(if a1_1=(wrap64 (t758+1)) then (if (l0.length:Int)≥40 then (some (t754,(-1))) else (if t754.length < 2199023255552 then (some ((t754++[(⟨a1_0,a1_1,(⟨a1_2,a1_3,a1_4,a1_5,a1_6⟩:S42)⟩:S44)]),1)) else (none))) else (some (t754,(-1)))))=some (r1,r2):=by rw [if_neg (show ¬ (false=true) by decide)] at H;exact H
     clear H
     have H:=H1
     clear H1
     replace H:=bs_ H
     obtain ⟨t758,A190,H⟩:=H
     try dsimp only at H
     have A19:=a_ A190
     clear A190
     by_cases c20:a1_1=(wrap64 (t758+1))
     ·rw [if_pos c20] at H
      have c20b0:(a1_1==(wrap64 (t758+1)))=true:=beq_iff_eq.mpr c20
      have c20b1:(a1_1 != (wrap64 (t758+1)))=false:=be_ c20
      clear c20
      by_cases c21:(l0.length:Int)≥40
      ·rw [if_pos c21] at H
       have c21b0:decide (40≤(l0.length:Int))=true:=dt_ c21
       have c21b1:decide (40≤l0.length)=true:=dt_ (by omega)
       clear c21
       simp only [Option.some.injEq,Prod.mk.injEq] at H
       obtain ⟨rfl,rfl⟩:=H
       try go_wp2_with (first|((with_reducible refine gC_ (f:=85) rfl ?_);refine gl_ 16 Tryd.func85 #[.slice A0 l0.length c0] ?_;(with_reducible refine (impl_Entry_85.calls _ _ l0 t754 _ ?side1 ?side2 A13.out).mono ?_);(case side1=>exact cp_ HR0.out);(case side2=>exact HC0.out);rintro e w22 ⟨v755,rfl,ho0,hb⟩;refine ⟨_,rfl,?_⟩;have HO756:=a_ (Kd.R_lower (Kd.R_newB ho0 (g:=gb751) (o:=.cells #[.int .i64 a1_0,.int .i64 a1_1,.int .i64 a1_2,.int .i64 a1_3,.int .i64 a1_4,.int .i64 a1_5,.string a1_6] 44 (0,0)) (bp_ BK751.out)) (below_size (bel_)));replace HB:=a_ (bS_ (bel_) hb);replace BK751:=a_ (bb_ BK751.out hb);(try clear hb ho0);have Z23_0:=cz_ BK751.out 0 (.int .i64 a1_0);have Z23_1:=cz_ BK751.out 1 (.int .i64 a1_1);have Z23_2:=cz_ BK751.out 2 (.int .i64 a1_2);have Z23_3:=cz_ BK751.out 3 (.int .i64 a1_3);have Z23_4:=cz_ BK751.out 4 (.int .i64 a1_4);have Z23_5:=cz_ BK751.out 5 (.int .i64 a1_5);have Z23_6:=cz_ BK751.out 6 (.string a1_6);have Y23_0:=bF_ BK751.out 0;have Y23_1:=bF_ BK751.out 1;have Y23_2:=bF_ BK751.out 2;have Y23_3:=bF_ BK751.out 3;have Y23_4:=bF_ BK751.out 4;have Y23_5:=bF_ BK751.out 5;have Y23_6:=bF_ BK751.out 6)|((with_reducible refine gC_ (f:=86) rfl ?_);refine gl_ 19 Tryd.func86 #[.slice A0 l0.length c0,.agg #[.int .i64 a1_0,.int .i64 a1_1,.int .i64 a1_2,.int .i64 a1_3,.int .i64 a1_4,.int .i64 a1_5,.string a1_6]] ?_;(with_reducible refine (impl_Entry_86.calls kj2 _ _ l0 a1_0 a1_1 a1_2 a1_3 a1_4 a1_5 a1_6 false _ ?side1 ?side2 A14.out).mono ?_);(case side1=>exact cp_ HR0.out);(case side2=>exact HC0.out);rintro e w24 ⟨rfl,hb⟩;refine ⟨_,rfl,?_⟩;replace HO756:=a_ (Kd.R_below (rp_ HO756.out) hb);replace HB:=a_ (bS_ (bel_) hb);replace BK751:=a_ (bb_ BK751.out hb);(try clear hb)))
       have n0_:=a_ (Kd.R_drew HO756.out)
       have n1_:=a_ (bD_ BK751.out)
       have n2_:=a_ (below_drew1 HB.out)
       clear HO756
       clear BK751
       clear HB
       have HO756:=n0_
       have BK751:=n1_
       have HB:=n2_
       clear n0_ n1_ n2_
       refine start_ (n:=13) (S:=fun w'=>w'.cell? ⟨gb751,0,none⟩=some (.int .i64 a1_0)∧w'.cell? ⟨gb751,1,none⟩=some (.int .i64 a1_1)∧w'.cell? ⟨gb751,2,none⟩=some (.int .i64 a1_2)∧w'.cell? ⟨gb751,3,none⟩=some (.int .i64 a1_3)∧w'.cell? ⟨gb751,4,none⟩=some (.int .i64 a1_4)∧w'.cell? ⟨gb751,5,none⟩=some (.int .i64 a1_5)∧w'.cell? ⟨gb751,6,none⟩=some (.string a1_6)) (ds:=[]) #[false,false,false,false,false,false,false,false,false,false,false,false,false] (by kernel_rfl) rfl rfl ⟨(bC_ BK751.out 0).trans rfl,(bC_ BK751.out 1).trans rfl,(bC_ BK751.out 2).trans rfl,(bC_ BK751.out 3).trans rfl,(bC_ BK751.out 4).trans rfl,(bC_ BK751.out 5).trans rfl,(bC_ BK751.out 6).trans rfl⟩ (fun hHeld=>?_);refine with_tabW impl_LogAdd.tab6 impl_LogAdd.bits6 (fun HT_ HW_=>?_)
       generalize w24.drew=w25 at HO756 BK751 HB hHeld ⊢
       refine pa_ 0 21 ?_
       refine pa_ 2 23 ?_
       refine pa_ 3 24 ?_
       refine ta7_ 1 22 hHeld ?_
       refine ta7_ 4 25 hHeld ?_
       refine on_ 5 26 (fun K hK=>?_)
       refine goes_ Tryd.func33 (by kernel_rfl) rfl #[.slice A0 l0.length c0,.int .i64 a1_0] (by rfl) rfl rfl ar_ ?_
       with_reducible refine (impl_LogSeq.calls kj2 _ _ l0 a1_0 t758 _ ?side1 ?side2 A19.out ?side3).mono ?_
       (case side1=>exact cp_ HR0.out)
       (case side2=>exact HC0.out)
       (case side3=>exact Glob.below HG.out (bel_))
       rintro e w26 ⟨rfl,hb⟩
       refine ⟨_,rfl,?_⟩
       have n0_:=a_ (Kd.R_below (rp_ HO756.out) hb)
       have n1_:=a_ (bb_ BK751.out hb)
       have n2_:=a_ (bS_ (bel_) hb)
       clear HO756
       clear BK751
       clear HB
       have HO756:=n0_
       have BK751:=n1_
       have HB:=n2_
       clear n0_ n1_ n2_
       (try clear hb)
       (try clear hb2)
       (try clear hk)
       (try clear hi)
       refine hK.out _ _ ⟨(bC_ BK751.out 0).trans rfl,(bC_ BK751.out 1).trans rfl,(bC_ BK751.out 2).trans rfl,(bC_ BK751.out 3).trans rfl,(bC_ BK751.out 4).trans rfl,(bC_ BK751.out 5).trans rfl,(bC_ BK751.out 6).trans rfl⟩ (fun hHeld=>?_)
       clear hK K
       refine no_ 26 ?_
       refine pa_ 6 27 ?_
       refine pa_ 7 28 ?_
       refine pa_ 8 29 ?_
       refine pa_ 9 30 ?_
       refine pa_ 10 31 ?_
       refine pa_ 11 32 ?_
       refine pa_ 12 33 ?_
       refine done_ (done_of HT_.out (by kernel_rfl)) ?_
       try go_wp2
       go_ret2
       exact ⟨_,fi_,by (with_reducible repeat (first|apply Kd.R_alloc|apply Kd.R_drewN|apply Kd.R_drew));exact Kd.R_mono HO756.out (fun _ hk=>trivial),bel_⟩
      ·rw [if_neg c21] at H
       have c21b0:decide (40≤(l0.length:Int))=false:=df_ c21
       have c21b1:decide (40≤l0.length)=false:=df_ (by omega)
       clear c21
       by_cases c27:t754.length < 2199023255552
       ·rw [if_pos c27] at H
        have LMc27:=a_ c27
        clear c27
        obtain ⟨y759,hy759⟩:∃ y_:List (S44),y_=(t754++[(⟨a1_0,a1_1,(⟨a1_2,a1_3,a1_4,a1_5,a1_6⟩:S42)⟩:S44)]):=⟨_,rfl⟩
        replace H:(some (y759,1))=some (r1,r2):=by first|(rw [hy759];with_reducible exact H)|(have H2_:=(Option.bind_some _ _).symm.trans H;rw [hy759];with_reducible exact H2_)|(have H2_:=(Option.bind_some _ _).symm.trans H;with_reducible exact H2_)|with_reducible exact H|(rw [hy759];exact H)|exact H
        have Ny759:=a_ hy759
        clear hy759
        simp only [Option.some.injEq,Prod.mk.injEq] at H
        obtain ⟨rfl,rfl⟩:=H
        try go_wp2_with (first|((with_reducible refine gC_ (f:=85) rfl ?_);refine gl_ 16 Tryd.func85 #[.slice A0 l0.length c0] ?_;(with_reducible refine (impl_Entry_85.calls _ _ l0 t754 _ ?side1 ?side2 A13.out).mono ?_);(case side1=>exact cp_ HR0.out);(case side2=>exact HC0.out);rintro e w28 ⟨v755,rfl,ho0,hb⟩;refine ⟨_,rfl,?_⟩;have HO756:=a_ (Kd.R_lower (Kd.R_newB ho0 (g:=gb751) (o:=.cells #[.int .i64 a1_0,.int .i64 a1_1,.int .i64 a1_2,.int .i64 a1_3,.int .i64 a1_4,.int .i64 a1_5,.string a1_6] 44 (0,0)) (bp_ BK751.out)) (below_size (bel_)));replace HB:=a_ (bS_ (bel_) hb);replace BK751:=a_ (bb_ BK751.out hb);(try clear hb ho0);have Z29_0:=cz_ BK751.out 0 (.int .i64 a1_0);have Z29_1:=cz_ BK751.out 1 (.int .i64 a1_1);have Z29_2:=cz_ BK751.out 2 (.int .i64 a1_2);have Z29_3:=cz_ BK751.out 3 (.int .i64 a1_3);have Z29_4:=cz_ BK751.out 4 (.int .i64 a1_4);have Z29_5:=cz_ BK751.out 5 (.int .i64 a1_5);have Z29_6:=cz_ BK751.out 6 (.string a1_6);have Y29_0:=bF_ BK751.out 0;have Y29_1:=bF_ BK751.out 1;have Y29_2:=bF_ BK751.out 2;have Y29_3:=bF_ BK751.out 3;have Y29_4:=bF_ BK751.out 4;have Y29_5:=bF_ BK751.out 5;have Y29_6:=bF_ BK751.out 6)|((with_reducible refine gC_ (f:=86) rfl ?_);refine gl_ 19 Tryd.func86 #[.slice A0 l0.length c0,.agg #[.int .i64 a1_0,.int .i64 a1_1,.int .i64 a1_2,.int .i64 a1_3,.int .i64 a1_4,.int .i64 a1_5,.string a1_6]] ?_;(with_reducible refine (impl_Entry_86.calls kj2 _ _ l0 a1_0 a1_1 a1_2 a1_3 a1_4 a1_5 a1_6 false _ ?side1 ?side2 A14.out).mono ?_);(case side1=>exact cp_ HR0.out);(case side2=>exact HC0.out);rintro e w30 ⟨rfl,hb⟩;refine ⟨_,rfl,?_⟩;replace HO756:=a_ (Kd.R_below (rp_ HO756.out) hb);replace HB:=a_ (bS_ (bel_) hb);replace BK751:=a_ (bb_ BK751.out hb);(try clear hb)))
        have n0_:=a_ (Kd.R_drew HO756.out)
        have n1_:=a_ (bD_ BK751.out)
        have n2_:=a_ (below_drew1 HB.out)
        clear HO756
        clear BK751
        clear HB
        have HO756:=n0_
        have BK751:=n1_
        have HB:=n2_
        clear n0_ n1_ n2_
        refine start_ (n:=13) (S:=fun w'=>w'.cell? ⟨gb751,0,none⟩=some (.int .i64 a1_0)∧w'.cell? ⟨gb751,1,none⟩=some (.int .i64 a1_1)∧w'.cell? ⟨gb751,2,none⟩=some (.int .i64 a1_2)∧w'.cell? ⟨gb751,3,none⟩=some (.int .i64 a1_3)∧w'.cell? ⟨gb751,4,none⟩=some (.int .i64 a1_4)∧w'.cell? ⟨gb751,5,none⟩=some (.int .i64 a1_5)∧w'.cell? ⟨gb751,6,none⟩=some (.string a1_6)) (ds:=[]) #[false,false,false,false,false,false,false,false,false,false,false,false,false] (by kernel_rfl) rfl rfl ⟨(bC_ BK751.out 0).trans rfl,(bC_ BK751.out 1).trans rfl,(bC_ BK751.out 2).trans rfl,(bC_ BK751.out 3).trans rfl,(bC_ BK751.out 4).trans rfl,(bC_ BK751.out 5).trans rfl,(bC_ BK751.out 6).trans rfl⟩ (fun hHeld=>?_);refine with_tabW impl_LogAdd.tab6 impl_LogAdd.bits6 (fun HT_ HW_=>?_)
        generalize w30.drew=w31 at HO756 BK751 HB hHeld ⊢
        refine pa_ 0 21 ?_
        refine pa_ 2 23 ?_
        refine pa_ 3 24 ?_
        refine ta7_ 1 22 hHeld ?_
        refine ta7_ 4 25 hHeld ?_
        refine on_ 5 26 (fun K hK=>?_)
        refine goes_ Tryd.func33 (by kernel_rfl) rfl #[.slice A0 l0.length c0,.int .i64 a1_0] (by rfl) rfl rfl ar_ ?_
        with_reducible refine (impl_LogSeq.calls kj2 _ _ l0 a1_0 t758 _ ?side1 ?side2 A19.out ?side3).mono ?_
        (case side1=>exact cp_ HR0.out)
        (case side2=>exact HC0.out)
        (case side3=>exact Glob.below HG.out (bel_))
        rintro e w32 ⟨rfl,hb⟩
        refine ⟨_,rfl,?_⟩
        have n0_:=a_ (Kd.R_below (rp_ HO756.out) hb)
        have n1_:=a_ (bb_ BK751.out hb)
        have n2_:=a_ (bS_ (bel_) hb)
        clear HO756
        clear BK751
        clear HB
        have HO756:=n0_
        have BK751:=n1_
        have HB:=n2_
        clear n0_ n1_ n2_
        (try clear hb)
        (try clear hb2)
        (try clear hk)
        (try clear hi)
        refine hK.out _ _ ⟨(bC_ BK751.out 0).trans rfl,(bC_ BK751.out 1).trans rfl,(bC_ BK751.out 2).trans rfl,(bC_ BK751.out 3).trans rfl,(bC_ BK751.out 4).trans rfl,(bC_ BK751.out 5).trans rfl,(bC_ BK751.out 6).trans rfl⟩ (fun hHeld=>?_)
        clear hK K
        refine no_ 26 ?_
        refine pa_ 6 27 ?_
        refine pa_ 7 28 ?_
        refine pa_ 8 29 ?_
        refine pa_ 9 30 ?_
        refine pa_ 10 31 ?_
        refine pa_ 11 32 ?_
        refine pa_ 12 33 ?_
        refine done_ (done_of HT_.out (by kernel_rfl)) ?_
        have Z33_0:=cz_ BK751.out 0 (.int .i64 a1_0)
        have Z33_1:=cz_ BK751.out 1 (.int .i64 a1_1)
        have Z33_2:=cz_ BK751.out 2 (.int .i64 a1_2)
        have Z33_3:=cz_ BK751.out 3 (.int .i64 a1_3)
        have Z33_4:=cz_ BK751.out 4 (.int .i64 a1_4)
        have Z33_5:=cz_ BK751.out 5 (.int .i64 a1_5)
        have Z33_6:=cz_ BK751.out 6 (.string a1_6)
        have Y33_0:=bF_ BK751.out 0
        have Y33_1:=bF_ BK751.out 1
        have Y33_2:=bF_ BK751.out 2
        have Y33_3:=bF_ BK751.out 3
        have Y33_4:=bF_ BK751.out 4
        have Y33_5:=bF_ BK751.out 5
        have Y33_6:=bF_ BK751.out 6
        try go_wp2_with (first|((with_reducible refine gate_builtin (b:=.append) (xs:=#[.tmp 35,.tmp 37]) rfl ?_);at_builtin;refine Kd.R_append k44 (w0:=w) w.heap.size rfl (.tmp 35) (.tmp 37) 23 44 (.agg #[(.int .i64 0),(.int .i64 0),(.int .i64 0),(.int .i64 0),(.int .i64 0),(.int .i64 0),(.string ⟨#[]⟩)]) 64 rfl Tryd.underlying23 info44 rfl (by decide) (by omega) v755 t754 (⟨a1_0,a1_1,(⟨a1_2,a1_3,a1_4,a1_5,a1_6⟩:S42)⟩:S44) [.int .i64 a1_0,.int .i64 a1_1,.int .i64 a1_2,.int .i64 a1_3,.int .i64 a1_4,.int .i64 a1_5,.string a1_6] (fun k_=>k_≠gb751) (fun _=>False) rfl rfl ?aP (fun _ hk=>hk.elim) ?aF ?aO ?aB ?aS ?aL ?_;(case aP=>exact k44_mkM _ _ _ (⟨a1_0,a1_1,(⟨a1_2,a1_3,a1_4,a1_5,a1_6⟩:S42)⟩:S44));(case aB=>exact (bel_));(case aF=>exact (fun k_ hk=>Kd.freshB (g:=gb751) (o:=.cells #[.int .i64 a1_0,.int .i64 a1_1,.int .i64 a1_2,.int .i64 a1_3,.int .i64 a1_4,.int .i64 a1_5,.string a1_6] 44 (0,0)) (bp_ BK751.out) k_ hk));(case aO=>exact (by (with_reducible repeat (first|apply Kd.R_alloc|apply Kd.R_drewN|apply Kd.R_drew));exact Kd.R_mono HO756.out (fun _ hk=>hk.2)));(case aS=>exact (below_size (bel_)));(case aL=>have:=LMc27.out;omega);intro v760 w34 ho hb hg hat;rw [←Ny759.out] at ho;replace BK751:=a_ (blk_grown (g:=gb751) (o:=.cells #[.int .i64 a1_0,.int .i64 a1_1,.int .i64 a1_2,.int .i64 a1_3,.int .i64 a1_4,.int .i64 a1_5,.string a1_6] 44 (0,0)) (bp_ BK751.out) hg (Kd.R_away HO756.out (fun _ hk=>hk.2)));replace HB:=a_ (hb);have HO761:=a_ (ho);clear HO756;clear ho hb hg hat))
        go_ret2
        exact ⟨_,fi_,by (with_reducible repeat (first|apply Kd.R_alloc|apply Kd.R_drewN|apply Kd.R_drew));exact Kd.R_mono HO761.out (fun _ hk=>trivial),bel_⟩
       ·rw [if_neg c27] at H
        exact absurd H (by simp)
     ·rw [if_neg c20] at H
      have c20b0:(a1_1==(wrap64 (t758+1)))=false:=bn_ c20
      have c20b1:(a1_1 != (wrap64 (t758+1)))=true:=bne_iff_ne.mpr c20
      simp only [Option.some.injEq,Prod.mk.injEq] at H
      obtain ⟨rfl,rfl⟩:=H
      try go_wp2_with (first|((with_reducible refine gC_ (f:=85) rfl ?_);refine gl_ 16 Tryd.func85 #[.slice A0 l0.length c0] ?_;(with_reducible refine (impl_Entry_85.calls _ _ l0 t754 _ ?side1 ?side2 A13.out).mono ?_);(case side1=>exact cp_ HR0.out);(case side2=>exact HC0.out);rintro e w35 ⟨v755,rfl,ho0,hb⟩;refine ⟨_,rfl,?_⟩;have HO756:=a_ (Kd.R_lower (Kd.R_newB ho0 (g:=gb751) (o:=.cells #[.int .i64 a1_0,.int .i64 a1_1,.int .i64 a1_2,.int .i64 a1_3,.int .i64 a1_4,.int .i64 a1_5,.string a1_6] 44 (0,0)) (bp_ BK751.out)) (below_size (bel_)));replace HB:=a_ (bS_ (bel_) hb);replace BK751:=a_ (bb_ BK751.out hb);(try clear hb ho0);have Z36_0:=cz_ BK751.out 0 (.int .i64 a1_0);have Z36_1:=cz_ BK751.out 1 (.int .i64 a1_1);have Z36_2:=cz_ BK751.out 2 (.int .i64 a1_2);have Z36_3:=cz_ BK751.out 3 (.int .i64 a1_3);have Z36_4:=cz_ BK751.out 4 (.int .i64 a1_4);have Z36_5:=cz_ BK751.out 5 (.int .i64 a1_5);have Z36_6:=cz_ BK751.out 6 (.string a1_6);have Y36_0:=bF_ BK751.out 0;have Y36_1:=bF_ BK751.out 1;have Y36_2:=bF_ BK751.out 2;have Y36_3:=bF_ BK751.out 3;have Y36_4:=bF_ BK751.out 4;have Y36_5:=bF_ BK751.out 5;have Y36_6:=bF_ BK751.out 6)|((with_reducible refine gC_ (f:=86) rfl ?_);refine gl_ 19 Tryd.func86 #[.slice A0 l0.length c0,.agg #[.int .i64 a1_0,.int .i64 a1_1,.int .i64 a1_2,.int .i64 a1_3,.int .i64 a1_4,.int .i64 a1_5,.string a1_6]] ?_;(with_reducible refine (impl_Entry_86.calls kj2 _ _ l0 a1_0 a1_1 a1_2 a1_3 a1_4 a1_5 a1_6 false _ ?side1 ?side2 A14.out).mono ?_);(case side1=>exact cp_ HR0.out);(case side2=>exact HC0.out);rintro e w37 ⟨rfl,hb⟩;refine ⟨_,rfl,?_⟩;replace HO756:=a_ (Kd.R_below (rp_ HO756.out) hb);replace HB:=a_ (bS_ (bel_) hb);replace BK751:=a_ (bb_ BK751.out hb);(try clear hb)))
      have n0_:=a_ (Kd.R_drew HO756.out)
      have n1_:=a_ (bD_ BK751.out)
      have n2_:=a_ (below_drew1 HB.out)
      clear HO756
      clear BK751
      clear HB
      have HO756:=n0_
      have BK751:=n1_
      have HB:=n2_
      clear n0_ n1_ n2_
      refine start_ (n:=13) (S:=fun w'=>w'.cell? ⟨gb751,0,none⟩=some (.int .i64 a1_0)∧w'.cell? ⟨gb751,1,none⟩=some (.int .i64 a1_1)∧w'.cell? ⟨gb751,2,none⟩=some (.int .i64 a1_2)∧w'.cell? ⟨gb751,3,none⟩=some (.int .i64 a1_3)∧w'.cell? ⟨gb751,4,none⟩=some (.int .i64 a1_4)∧w'.cell? ⟨gb751,5,none⟩=some (.int .i64 a1_5)∧w'.cell? ⟨gb751,6,none⟩=some (.string a1_6)) (ds:=[]) #[false,false,false,false,false,false,false,false,false,false,false,false,false] (by kernel_rfl) rfl rfl ⟨(bC_ BK751.out 0).trans rfl,(bC_ BK751.out 1).trans rfl,(bC_ BK751.out 2).trans rfl,(bC_ BK751.out 3).trans rfl,(bC_ BK751.out 4).trans rfl,(bC_ BK751.out 5).trans rfl,(bC_ BK751.out 6).trans rfl⟩ (fun hHeld=>?_);refine with_tabW impl_LogAdd.tab6 impl_LogAdd.bits6 (fun HT_ HW_=>?_)
      generalize w37.drew=w38 at HO756 BK751 HB hHeld ⊢
      refine pa_ 0 21 ?_
      refine pa_ 2 23 ?_
      refine pa_ 3 24 ?_
      refine ta7_ 1 22 hHeld ?_
      refine ta7_ 4 25 hHeld ?_
      refine on_ 5 26 (fun K hK=>?_)
      refine goes_ Tryd.func33 (by kernel_rfl) rfl #[.slice A0 l0.length c0,.int .i64 a1_0] (by rfl) rfl rfl ar_ ?_
      with_reducible refine (impl_LogSeq.calls kj2 _ _ l0 a1_0 t758 _ ?side1 ?side2 A19.out ?side3).mono ?_
      (case side1=>exact cp_ HR0.out)
      (case side2=>exact HC0.out)
      (case side3=>exact Glob.below HG.out (bel_))
      rintro e w39 ⟨rfl,hb⟩
      refine ⟨_,rfl,?_⟩
      have n0_:=a_ (Kd.R_below (rp_ HO756.out) hb)
      have n1_:=a_ (bb_ BK751.out hb)
      have n2_:=a_ (bS_ (bel_) hb)
      clear HO756
      clear BK751
      clear HB
      have HO756:=n0_
      have BK751:=n1_
      have HB:=n2_
      clear n0_ n1_ n2_
      (try clear hb)
      (try clear hb2)
      (try clear hk)
      (try clear hi)
      refine hK.out _ _ ⟨(bC_ BK751.out 0).trans rfl,(bC_ BK751.out 1).trans rfl,(bC_ BK751.out 2).trans rfl,(bC_ BK751.out 3).trans rfl,(bC_ BK751.out 4).trans rfl,(bC_ BK751.out 5).trans rfl,(bC_ BK751.out 6).trans rfl⟩ (fun hHeld=>?_)
      clear hK K
      refine no_ 26 ?_
      refine pa_ 6 27 ?_
      refine pa_ 7 28 ?_
      refine pa_ 8 29 ?_
      refine po_ 9 30 ?_
      refine po_ 10 31 ?_
      refine po_ 11 32 ?_
      refine pa_ 12 33 ?_
      refine done_ (done_of HT_.out (by kernel_rfl)) ?_
      try go_wp2
      go_ret2
      exact ⟨_,fi_,by (with_reducible repeat (first|apply Kd.R_alloc|apply Kd.R_drewN|apply Kd.R_drew));exact Kd.R_mono HO756.out (fun _ hk=>trivial),bel_⟩

end Go.Proofs.YtdpklbomhdpimaaDoor.P
namespace Go.Proofs.YtdpklbomhdpimaaDoor.P
open Go.RowKit Go.Proofs.YtdpklbomhdpimaaDoorW.PrintWords Go.Proofs.YtdpklbomhdpimaaDoorW.PrintLast Go.Proofs.YtdpklbomhdpimaaDoorW.PrintMore
def Mach (w:World) (base g:Nat) (l:List S44) (q:Value) (s:Int) (u:Bool):Prop :=
 ∃ (A:Option Addr) (c:Nat),w.heap[g]?=some (.cells #[.slice A l.length c,q,.int .i64 s,.bool u] 107 (0,0))∧Kd.R k44 44 w base (fun k=>k≠g) (.slice A l.length c) l∧base≤g
theorem impl_machineOf.calls (A0:Option Addr) (c0:Nat) (l0:List S44) (a1:Int) (a2:Bool) (w:World) (hr0:Kd.C k44 w A0 l0.length l0) (hc0:l0.length≤c0) (hl:l0.length < 2199023255552) :
  Calls Tryd.prog 79 #[.agg #[.slice A0 l0.length c0,.int .i64 a1,.bool a2]] w fun e w'=>∃ g:Nat,e=.returned (.pointer (some ⟨g,0,none⟩))∧Mach w' w.heap.size g l0 (.slice none 0 0) a1 a2∧Below w.heap.size w w':=by
 have hf:impl_Entry_85.f l0=some l0:=if_pos hl
 have HF:=a_ hf
 have HR0:=a_ hr0
 have HC0:=a_ hc0
 clear hr0 hc0 hf hl
 have hu1:=Tryd.underlying25
 have hu2:=Tryd.underlying107
 have hu3:=Tryd.underlying103
 go_enter Tryd.func79,Tryd.ntmps79
 go_wp2
 have HB0:=a_ ((Below.refl w.heap.size w).alloc (Nat.le_refl _) (.cells #[.slice A0 l0.length c0,.int .i64 a1,.bool a2] 25))
 obtain ⟨W1,hW1⟩:∃ W1,W1=w.alloc (.cells #[.slice A0 l0.length c0,.int .i64 a1,.bool a2] 25):=⟨_,rfl⟩
 have hn0:W1.heap[w.heap.size]?=some (.cells #[.slice A0 l0.length c0,.int .i64 a1,.bool a2] 25 (0,0)):=by rw [hW1];simpa using heap_alloc_new w _
 have HN0:=a_ hn0
 rw [←hW1] at HB0 ⊢
 clear hW1 hn0
 have hs0:W1.cell? ⟨w.heap.size,0,none⟩=some (.slice A0 l0.length c0):=(bC_ HN0.out 0).trans rfl
 have hs1:W1.cell? ⟨w.heap.size,1,none⟩=some (.int .i64 a1):=(bC_ HN0.out 1).trans rfl
 have hs2:W1.cell? ⟨w.heap.size,2,none⟩=some (.bool a2):=(bC_ HN0.out 2).trans rfl
 have HBd:=a_ (below_drew1 HB0.out)
 have HNd:=a_ (bD_ HN0.out)
 clear HB0 HN0
 go_region_with (go_at_call 85;refine (impl_Entry_85.calls _ _ _ l0 _ (Kd.C_below HR0.out HBd.out) HC0.out HF.out).mono ?_;rintro e w2 ⟨v2,rfl,ho2,hb2⟩;obtain ⟨A2,c2,rfl⟩:=Kd.R_slice ho2;have HB2:=a_ (bS_ HBd.out hb2);have HN2:=a_ (blk_below HNd.out hb2);have HO2:=a_ ho2;clear hb2 ho2;have hd1:=(bC_ HN2.out 1).trans rfl;have hd2:=(bC_ HN2.out 2).trans rfl)
 all_goals go_wp2
 all_goals go_ret
 all_goals refine ⟨w2.heap.size,rfl,⟨A2,c2,by simpa using heap_alloc_new w2 _,Kd.R_mono (Kd.R_alloc (Kd.R_elderB (Kd.R_lower HO2.out HBd.out.size) _ (Nat.le_refl _)) _) (fun _ hk=>hk.2),HB2.out.size⟩,wA_ HB2.out _⟩
end Go.Proofs.YtdpklbomhdpimaaDoor.P
