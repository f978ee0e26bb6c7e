/- Joined by a program (wip/shake.py): the declarations that 'YtdpklbomhdpimaaDoorCardFnExactClientDo' reaches. -/
import Derived.Test.YtdpklbomhdpimaaDoorZLm5
set_option linter.unusedVariables false
set_option linter.unusedSimpArgs false
set_option linter.unusedSectionVars false
set_option maxHeartbeats 8000000
set_option maxRecDepth 100000
namespace Go.Proofs.YtdpklbomhdpimaaDoor.P
open Go.RowKit Go.Proofs.YtdpklbomhdpimaaDoorW.PrintWords Go.Proofs.YtdpklbomhdpimaaDoorW.PrintLast
theorem impl_ClientDo.calls (k:Nat) (a0_0:Int) (a0_1:Int) (A0_2:Option Addr) (c0_2:Nat) (l0_2:List (S69)) (A0_3:Option Addr) (c0_3:Nat) (l0_3:List (S44)) (a0_4:Int) (a0_5:Int) (a1_0:Int) (a1_1:Int) (a1_2:Int) (a1_3:Int) (a1_4:ByteArray) (r1:Int) (r2:Int) (r3:List (S69)) (r4:List (S44)) (r5:Int) (r6:Int) (r7:Bool) (w:World) (hr0_2:Kd.C k69 w A0_2 l0_2.length l0_2) (hc0_2:l0_2.length≤c0_2) (hr0_3:Kd.C k44 w A0_3 l0_3.length l0_3) (hc0_3:l0_3.length≤c0_3) (h:impl_ClientDo.f k a0_0 a0_1 l0_2 l0_3 a0_4 a0_5 a1_0 a1_1 a1_2 a1_3 a1_4=some (r1,r2,r3,r4,r5,r6,r7)) (hG:Glob w) :
  Calls Tryd.prog 69 #[.agg #[.int .i64 a0_0,.int .i64 a0_1,.slice A0_2 l0_2.length c0_2,.slice A0_3 l0_3.length c0_3,.int .i64 a0_4,.int .i64 a0_5],.agg #[.int .i64 a1_0,.int .i64 a1_1,.int .i64 a1_2,.int .i64 a1_3,.string a1_4]] w fun e w'=>∃ v2_ v3_:Value,e=.returned (.tuple #[.agg #[.int .i64 r1,.int .i64 r2,v2_,v3_,.int .i64 r5,.int .i64 r6],.bool r7])∧Kd.R k69 69 w' w.heap.size (fun _=>True) v2_ r3∧Kd.R k44 44 w' w.heap.size (fun _=>True) v3_ r4∧Below w.heap.size w w':=by
 have hu77:=Tryd.underlying77
 have hu42:=Tryd.underlying42
 have hu44:=Tryd.underlying44
 have HR0_2:=a_ hr0_2
 have HC0_2:=a_ hc0_2
 clear hr0_2 hc0_2
 have HR0_3:=a_ hr0_3
 have HC0_3:=a_ hc0_3
 clear hr0_3 hc0_3
 have HB:=a_ (Below.refl w.heap.size w)
 have HG:=a_ hG
 clear hG
 unfold impl_ClientDo.f at h
 have H:=h
 clear h
 replace H:=bs_ H
 obtain ⟨t355,A30,H⟩:=H
 try dsimp only at H
 have A3:=a_ A30
 clear A30
 by_cases c4:t355=true
 ·subst c4
  have H1:((impl_copyClient.f a0_0 a0_1 l0_2 l0_3 a0_4 a0_5).bind fun bt356=>((impl_EntryOk.f k bt356.1 (wrap64 ((wrap64 (bt356.2.2.2.2.1+(bt356.2.2.2.1.length:Int)))+1)) a1_0 a1_1 a1_2 a1_3 a1_4).bind fun t367=>(if t367=true then (if a1_0=1 then ((impl_RowMade.f bt356.1 (wrap64 (bt356.2.2.2.2.2+1))).bind fun t368=>(impl_ClientDo.j0 k (a1_1 != t368) bt356.1 bt356.2.1 bt356.2.2.1 bt356.2.2.2.1 bt356.2.2.2.2.1 bt356.2.2.2.2.2 a1_0 a1_1 a1_2 a1_3 a1_4 bt356.1 (wrap64 ((wrap64 (bt356.2.2.2.2.1+(bt356.2.2.2.1.length:Int)))+1)) a1_0 a1_1 a1_2 a1_3 a1_4)) else (impl_ClientDo.j0 k false bt356.1 bt356.2.1 bt356.2.2.1 bt356.2.2.2.1 bt356.2.2.2.2.1 bt356.2.2.2.2.2 a1_0 a1_1 a1_2 a1_3 a1_4 bt356.1 (wrap64 ((wrap64 (bt356.2.2.2.2.1+(bt356.2.2.2.1.length:Int)))+1)) a1_0 a1_1 a1_2 a1_3 a1_4)) else (impl_ClientDo.j0 k true bt356.1 bt356.2.1 bt356.2.2.1 bt356.2.2.2.1 bt356.2.2.2.2.1 bt356.2.2.2.2.2 a1_0 a1_1 a1_2 a1_3 a1_4 bt356.1 (wrap64 ((wrap64 (bt356.2.2.2.2.1+(bt356.2.2.2.1.length:Int)))+1)) a1_0 a1_1 a1_2 a1_3 a1_4))))=some (r1,r2,r3,r4,r5,r6,r7):=by rw [if_pos rfl] at H;exact H
  clear H
  have H:=H1
  clear H1
  replace H:=bs_ H
  obtain ⟨⟨t356,t357,t358,t361,t364,t365⟩,A50,H⟩:=H
  try dsimp only at H
  have A5:=a_ A50
  clear A50
  have HC6:=a_ H
  clear H
  go_enter Tryd.func69,Tryd.ntmps69
  go_upto_region 5 with (first|((with_reducible refine gD_ (N:=2) rfl ?_);refine bx_ 2 (#[.int .i64 a0_0,.int .i64 a0_1,.slice A0_2 l0_2.length c0_2,.slice A0_3 l0_3.length c0_3,.int .i64 a0_4,.int .i64 a0_5]) 77 ?_;intro gb352 hg w7 hbox hb;have n0_:=a_ (bS_ (bel_) hb);have n1_:=a_ (hbox);have n2_:=a_ ((by rw [hg];exact (below_size (bel_)):w.heap.size≤gb352));have n3_:=a_ ((by rw [hg];exact (below_size (bel_)):w.heap.size≤gb352));clear HB;have HB:=n0_;have BK352:=n1_;have GW352:=n2_;have GE352:=n3_;clear n0_ n1_ n2_ n3_;clear hb hbox hg)|((with_reducible refine gD_ (N:=3) rfl ?_);refine bx_ 3 (#[.int .i64 a1_0,.int .i64 a1_1,.int .i64 a1_2,.int .i64 a1_3,.string a1_4]) 42 ?_;intro gb353 hg w8 hbox hb;have n0_:=a_ (bb_ BK352.out hb);have n1_:=a_ (bS_ (bel_) hb);have n2_:=a_ (hbox);have n3_:=a_ ((by rw [hg];exact (below_size (bel_)):w.heap.size≤gb353));have n4_:=a_ ((by rw [hg];exact (below_size (bel_)):w.heap.size≤gb353));have n5_:=a_ ((by rw [hg];exact Nat.ne_of_lt (blk_lt (g:=gb352) (o:=.cells #[.int .i64 a0_0,.int .i64 a0_1,.slice A0_2 l0_2.length c0_2,.slice A0_3 l0_3.length c0_3,.int .i64 a0_4,.int .i64 a0_5] 77 (0,0)) (bp_ BK352.out)):gb352≠gb353));have n6_:=a_ ((by rw [hg];exact Nat.ne_of_gt (blk_lt (g:=gb352) (o:=.cells #[.int .i64 a0_0,.int .i64 a0_1,.slice A0_2 l0_2.length c0_2,.slice A0_3 l0_3.length c0_3,.int .i64 a0_4,.int .i64 a0_5] 77 (0,0)) (bp_ BK352.out)):gb353≠gb352));clear BK352;clear HB;have BK352:=n0_;have HB:=n1_;have BK353:=n2_;have GW353:=n3_;have GE353:=n4_;have NB352_353:=n5_;have NB353_352:=n6_;clear n0_ n1_ n2_ n3_ n4_ n5_ n6_;clear hb hbox hg)|((with_reducible refine gD_ (N:=4) rfl ?_);refine bx_ 4 (#[.int .i64 0,.int .i64 0,.slice none 0 0,.slice none 0 0,.int .i64 0,.int .i64 0]) 77 ?_;intro gb354 hg w9 hbox hb;have n0_:=a_ (bb_ BK352.out hb);have n1_:=a_ (bb_ BK353.out hb);have n2_:=a_ (bS_ (bel_) hb);have n3_:=a_ (hbox);have n4_:=a_ ((by rw [hg];exact (below_size (bel_)):w.heap.size≤gb354));have n5_:=a_ ((by rw [hg];exact (below_size (bel_)):w.heap.size≤gb354));have n6_:=a_ ((by rw [hg];exact Nat.ne_of_lt (blk_lt (g:=gb352) (o:=.cells #[.int .i64 a0_0,.int .i64 a0_1,.slice A0_2 l0_2.length c0_2,.slice A0_3 l0_3.length c0_3,.int .i64 a0_4,.int .i64 a0_5] 77 (0,0)) (bp_ BK352.out)):gb352≠gb354));have n7_:=a_ ((by rw [hg];exact Nat.ne_of_gt (blk_lt (g:=gb352) (o:=.cells #[.int .i64 a0_0,.int .i64 a0_1,.slice A0_2 l0_2.length c0_2,.slice A0_3 l0_3.length c0_3,.int .i64 a0_4,.int .i64 a0_5] 77 (0,0)) (bp_ BK352.out)):gb354≠gb352));have n8_:=a_ ((by rw [hg];exact Nat.ne_of_lt (blk_lt (g:=gb353) (o:=.cells #[.int .i64 a1_0,.int .i64 a1_1,.int .i64 a1_2,.int .i64 a1_3,.string a1_4] 42 (0,0)) (bp_ BK353.out)):gb353≠gb354));have n9_:=a_ ((by rw [hg];exact Nat.ne_of_gt (blk_lt (g:=gb353) (o:=.cells #[.int .i64 a1_0,.int .i64 a1_1,.int .i64 a1_2,.int .i64 a1_3,.string a1_4] 42 (0,0)) (bp_ BK353.out)):gb354≠gb353));clear BK352;clear BK353;clear HB;have BK352:=n0_;have BK353:=n1_;have HB:=n2_;have BK354:=n3_;have GW354:=n4_;have GE354:=n5_;have NB352_354:=n6_;have NB354_352:=n7_;have NB353_354:=n8_;have NB354_353:=n9_;clear n0_ n1_ n2_ n3_ n4_ n5_ n6_ n7_ n8_ n9_;clear hb hbox hg;have hnb10:=NB352_353.out;have hnc10:=NB353_352.out;have hnb11:=NB352_354.out;have hnc11:=NB354_352.out;obtain ⟨Z12_0,Z12_1,Z12_2,Z12_3,Z12_4,Z12_5,Y12_0,Y12_1,Y12_2,Y12_3,Y12_4,Y12_5⟩:=op6_ BK352.out)|((with_reducible refine gC_ (f:=60) rfl ?_);refine gl_ 8 Tryd.func60 #[.agg #[.int .i64 a0_0,.int .i64 a0_1,.slice A0_2 l0_2.length c0_2,.slice A0_3 l0_3.length c0_3,.int .i64 a0_4,.int .i64 a0_5]] ?_;(with_reducible refine (impl_ClientOk.calls k a0_0 a0_1 _ _ l0_2 _ _ l0_3 a0_4 a0_5 true _ ?side1 ?side2 ?side3 ?side4 A3.out ?side5).mono ?_);(case side1=>exact cp_ HR0_2.out);(case side2=>exact HC0_2.out);(case side3=>exact cx_ (Kd.C_below HR0_3.out HB.out));(case side4=>exact HC0_3.out);(case side5=>exact Glob.below HG.out (bel_));rintro e w13 ⟨rfl,hb⟩;refine ⟨_,rfl,?_⟩;replace HB:=a_ (bS_ (bel_) hb);replace BK352:=a_ (bb_ BK352.out hb);replace BK353:=a_ (bb_ BK353.out hb);replace BK354:=a_ (bb_ BK354.out hb);(try clear hb);obtain ⟨Z14_0,Z14_1,Z14_2,Z14_3,Z14_4,Z14_5,Y14_0,Y14_1,Y14_2,Y14_3,Y14_4,Y14_5⟩:=op6_ BK352.out)|((with_reducible refine gC_ (f:=114) rfl ?_);refine gl_ 12 Tryd.func114 #[.agg #[.int .i64 a0_0,.int .i64 a0_1,.slice A0_2 l0_2.length c0_2,.slice A0_3 l0_3.length c0_3,.int .i64 a0_4,.int .i64 a0_5]] ?_;(with_reducible refine (impl_copyClient.calls a0_0 a0_1 _ _ l0_2 _ _ l0_3 a0_4 a0_5 t356 t357 t358 t361 t364 t365 _ ?side1 ?side2 ?side3 ?side4 A5.out).mono ?_);(case side1=>exact cp_ HR0_2.out);(case side2=>exact HC0_2.out);(case side3=>exact cx_ (Kd.C_below HR0_3.out HB.out));(case side4=>exact HC0_3.out);rintro e w15 ⟨v359,v362,rfl,ho0,ho1,hb⟩;refine ⟨_,rfl,?_⟩;have HO360:=a_ (Kd.R_lower ho0 (below_size (bel_)));have HO363:=a_ (Kd.R_lower ho1 (below_size (bel_)));replace HB:=a_ (bS_ (bel_) hb);replace BK352:=a_ (bb_ BK352.out hb);replace BK353:=a_ (bb_ BK353.out hb);replace BK354:=a_ (bb_ BK354.out hb);(try clear hb ho0 ho1);obtain ⟨Z16_0,Z16_1,Z16_2,Z16_3,Z16_4,Z16_5,Y16_0,Y16_1,Y16_2,Y16_3,Y16_4,Y16_5⟩:=op6_ BK352.out;obtain ⟨Ao17,co17,eo17⟩:=Kd.R_slice HO360.out;subst eo17;obtain ⟨Ao18,co18,eo18⟩:=Kd.R_slice HO363.out;subst eo18;have hnb19:=NB353_354.out;have hnc19:=NB354_353.out;obtain ⟨Z20_0,Z20_1,Z20_2,Z20_3,Z20_4,Y20_0,Y20_1,Y20_2,Y20_3,Y20_4⟩:=op5_ BK353.out)|((with_reducible refine gD_ (N:=6) rfl ?_);refine bx_ 6 (#[.int .i64 0,.int .i64 0,.int .i64 0,.int .i64 0,.int .i64 0,.int .i64 0,.string (⟨#[]⟩:ByteArray)]) 44 ?_;intro gb366 hg w21 hbox hb;have n0_:=a_ (Kd.R_below (by (with_reducible repeat (first|apply Kd.R_alloc|apply Kd.R_drewN|apply Kd.R_drew));exact (Kd.R_mono (rf6_ (g:=gb352) (Kd.R_types HO360.out BK352.out (by decide)) (fun _ hk=>hk.2) (.int .i64 t356) (.int .i64 t357) (.slice Ao17 t358.length co17) (.slice Ao18 t361.length co18) (.int .i64 t364) (.int .i64 t365)) (fun _ h_=>h_.1))) hb);have n1_:=a_ (Kd.R_below (Kd.R_elderB (by (with_reducible repeat (first|apply Kd.R_alloc|apply Kd.R_drewN|apply Kd.R_drew));exact (Kd.R_mono (rf6_ (g:=gb352) (Kd.R_types HO363.out BK352.out (by decide)) (fun _ hk=>hk.2) (.int .i64 t356) (.int .i64 t357) (.slice Ao17 t358.length co17) (.slice Ao18 t361.length co18) (.int .i64 t364) (.int .i64 t365)) (fun _ h_=>h_.1))) gb366 (Nat.le_of_eq hg.symm)) hb);have n2_:=a_ (blk_below (g:=gb352) (o:=.cells #[.int .i64 t356,.int .i64 t357,.slice Ao17 t358.length co17,.slice Ao18 t361.length co18,.int .i64 t364,.int .i64 t365] 77 (0,0)) (k6p_ BK352.out) hb);have n3_:=a_ (blk_below (g:=gb353) (o:=.cells #[.int .i64 a1_0,.int .i64 a1_1,.int .i64 a1_2,.int .i64 a1_3,.string a1_4] 42 (0,0)) (fp1_ NB353_352.out BK353.out) hb);have n4_:=a_ (blk_below (g:=gb354) (o:=.cells #[.int .i64 0,.int .i64 0,.slice none 0 0,.slice none 0 0,.int .i64 0,.int .i64 0] 77 (0,0)) (fp1_ NB354_352.out BK354.out) hb);have n5_:=a_ (bS_ (bel_) hb);have n6_:=a_ (hbox);have n7_:=a_ ((by rw [hg];exact (below_size (bel_)):w.heap.size≤gb366));have n8_:=a_ ((by rw [hg];exact (below_size (bel_)):w.heap.size≤gb366));have n9_:=a_ ((by rw [hg];exact Nat.ne_of_lt (blk_lt (g:=gb352) (o:=.cells #[.int .i64 t356,.int .i64 t357,.slice Ao17 t358.length co17,.slice Ao18 t361.length co18,.int .i64 t364,.int .i64 t365] 77 (0,0)) (k6p_ BK352.out)):gb352≠gb366));have n10_:=a_ ((by rw [hg];exact Nat.ne_of_gt (blk_lt (g:=gb352) (o:=.cells #[.int .i64 t356,.int .i64 t357,.slice Ao17 t358.length co17,.slice Ao18 t361.length co18,.int .i64 t364,.int .i64 t365] 77 (0,0)) (k6p_ BK352.out)):gb366≠gb352));have n11_:=a_ ((by rw [hg];exact Nat.ne_of_lt (blk_lt (g:=gb353) (o:=.cells #[.int .i64 a1_0,.int .i64 a1_1,.int .i64 a1_2,.int .i64 a1_3,.string a1_4] 42 (0,0)) (fp1_ NB353_352.out BK353.out)):gb353≠gb366));have n12_:=a_ ((by rw [hg];exact Nat.ne_of_gt (blk_lt (g:=gb353) (o:=.cells #[.int .i64 a1_0,.int .i64 a1_1,.int .i64 a1_2,.int .i64 a1_3,.string a1_4] 42 (0,0)) (fp1_ NB353_352.out BK353.out)):gb366≠gb353));have n13_:=a_ ((by rw [hg];exact Nat.ne_of_lt (blk_lt (g:=gb354) (o:=.cells #[.int .i64 0,.int .i64 0,.slice none 0 0,.slice none 0 0,.int .i64 0,.int .i64 0] 77 (0,0)) (fp1_ NB354_352.out BK354.out)):gb354≠gb366));have n14_:=a_ ((by rw [hg];exact Nat.ne_of_gt (blk_lt (g:=gb354) (o:=.cells #[.int .i64 0,.int .i64 0,.slice none 0 0,.slice none 0 0,.int .i64 0,.int .i64 0] 77 (0,0)) (fp1_ NB354_352.out BK354.out)):gb366≠gb354));clear HO360;clear HO363;clear BK352;clear BK353;clear BK354;clear HB;have HO360:=n0_;have HO363:=n1_;have BK352:=n2_;have BK353:=n3_;have BK354:=n4_;have HB:=n5_;have BK366:=n6_;have GW366:=n7_;have GE366:=n8_;have NB352_366:=n9_;have NB366_352:=n10_;have NB353_366:=n11_;have NB366_353:=n12_;have NB354_366:=n13_;have NB366_354:=n14_;clear n0_ n1_ n2_ n3_ n4_ n5_ n6_ n7_ n8_ n9_ n10_ n11_ n12_ n13_ n14_;clear hb hbox hg;have hnb22:=NB366_352.out;have hnc22:=NB352_366.out;have hnb23:=NB366_353.out;have hnc23:=NB353_366.out;have hnb24:=NB366_354.out;have hnc24:=NB354_366.out;obtain ⟨Z25_0,Z25_1,Z25_2,Z25_3,Z25_4,Z25_5,Z25_6,Y25_0,Y25_1,Y25_2,Y25_3,Y25_4,Y25_5,Y25_6⟩:=op7_ BK366.out))
  (try simp only [Act.put,List.setIfInBounds_toArray,List.set_cons_zero,List.set_cons_succ])
  go_cut [42] (fun v42 wc=>∃ (kq:Nat) (x42_5:Bool),v42=.bool x42_5∧Aside0 (impl_ClientDo.j0 kq x42_5 t356 t357 t358 t361 t364 t365 a1_0 a1_1 a1_2 a1_3 a1_4 t356 (wrap64 ((wrap64 (t364+(t361.length:Int)))+1)) a1_0 a1_1 a1_2 a1_3 a1_4=some (r1,r2,r3,r4,r5,r6,r7))∧Aside0 (kq≤k)∧Aside0 (Kd.R k69 69 wc w.heap.size (fun _=>True) (.slice Ao17 t358.length co17) t358)∧Aside0 (Kd.R k44 44 wc w.heap.size (fun k_=>k_≠gb366) (.slice Ao18 t361.length co18) t361)∧Aside0 (wc.heap[gb352]?=some (.cells #[.int .i64 t356,.int .i64 t357,(.slice Ao17 t358.length co17),(.slice Ao18 t361.length co18),.int .i64 t364,.int .i64 t365] 77 (0,0)))∧Aside0 (wc.heap[gb353]?=some (.cells #[.int .i64 a1_0,.int .i64 a1_1,.int .i64 a1_2,.int .i64 a1_3,.string a1_4] 42 (0,0)))∧Aside0 (wc.heap[gb354]?=some (.cells #[.int .i64 0,.int .i64 0,(.slice none 0 0),(.slice none 0 0),.int .i64 0,.int .i64 0] 77 (0,0)))∧Aside0 (wc.heap[gb366]?=some (.cells #[.int .i64 t356,.int .i64 (wrap64 ((wrap64 (t364+(t361.length:Int)))+1)),.int .i64 a1_0,.int .i64 a1_1,.int .i64 a1_2,.int .i64 a1_3,.string a1_4] 44 (0,0)))∧Aside0 (Below w.heap.size w wc))
  case first =>
   have H:=HC6.out
   clear HC6
   replace H:=bs_ H
   obtain ⟨t367,A260,H⟩:=H
   try dsimp only at H
   have A26:=a_ A260
   clear A260
   by_cases c27:t367=true
   ·subst c27
    have H1:(if a1_0=1 then ((impl_RowMade.f t356 (wrap64 (t365+1))).bind fun t368=>(impl_ClientDo.j0 k (a1_1 != t368) t356 t357 t358 t361 t364 t365 a1_0 a1_1 a1_2 a1_3 a1_4 t356 (wrap64 ((wrap64 (t364+(t361.length:Int)))+1)) a1_0 a1_1 a1_2 a1_3 a1_4)) else (impl_ClientDo.j0 k false t356 t357 t358 t361 t364 t365 a1_0 a1_1 a1_2 a1_3 a1_4 t356 (wrap64 ((wrap64 (t364+(t361.length:Int)))+1)) a1_0 a1_1 a1_2 a1_3 a1_4))=some (r1,r2,r3,r4,r5,r6,r7):=by rw [if_pos rfl] at H;exact H
    clear H
    have H:=H1
    clear H1
    by_cases c28:a1_0=1
    ·rw [if_pos c28] at H
     have c28b0:(a1_0==1)=true:=beq_iff_eq.mpr c28
     have c28b1:(a1_0 != 1)=false:=be_ c28
     clear c28
     (first|rw [c28b0]|(simp only [i64_w,i32_w];rw [c28b0])|skip)
     replace H:=bs_ H
     obtain ⟨t368,A290,H⟩:=H
     try dsimp only at H
     have A29:=a_ A290
     clear A290
     have H':=a_ H
     clear H
     try go_wp2
     have n0_:Aside0 (Kd.R k69 69 (((((((w21.setCell ⟨gb366,0,none⟩ (.int .i64 t356)).setCell ⟨gb366,1,none⟩ (.int .i64 (wrap64 ((wrap64 (t364+(t361.length:Int)))+1)))).setCell ⟨gb366,2,none⟩ (.int .i64 a1_0)).setCell ⟨gb366,3,none⟩ (.int .i64 a1_1)).setCell ⟨gb366,4,none⟩ (.int .i64 a1_2)).setCell ⟨gb366,5,none⟩ (.int .i64 a1_3)).setCell ⟨gb366,6,none⟩ (.string a1_4)) w.heap.size (fun _=>True) (.slice Ao17 t358.length co17) t358):=⟨by (with_reducible repeat (first|apply Kd.R_alloc|apply Kd.R_drewN|apply Kd.R_drew));exact Kd.R_mono (rf7_ (g:=gb366) (Kd.R_types HO360.out BK366.out (by decide)) (fun _ hk=>hk.2) (.int .i64 t356) (.int .i64 (wrap64 ((wrap64 (t364+(t361.length:Int)))+1))) (.int .i64 a1_0) (.int .i64 a1_1) (.int .i64 a1_2) (.int .i64 a1_3) (.string a1_4)) (fun _ hk=>trivial)⟩
     have n1_:Aside0 (Kd.R k44 44 (((((((w21.setCell ⟨gb366,0,none⟩ (.int .i64 t356)).setCell ⟨gb366,1,none⟩ (.int .i64 (wrap64 ((wrap64 (t364+(t361.length:Int)))+1)))).setCell ⟨gb366,2,none⟩ (.int .i64 a1_0)).setCell ⟨gb366,3,none⟩ (.int .i64 a1_1)).setCell ⟨gb366,4,none⟩ (.int .i64 a1_2)).setCell ⟨gb366,5,none⟩ (.int .i64 a1_3)).setCell ⟨gb366,6,none⟩ (.string a1_4)) w.heap.size (fun k_=>k_≠gb366) (.slice Ao18 t361.length co18) t361):=⟨by (with_reducible repeat (first|apply Kd.R_alloc|apply Kd.R_drewN|apply Kd.R_drew));exact Kd.R_mono (rf7_ (g:=gb366) (Kd.R_mono HO363.out (fun k_ hk=>(⟨hk,hk.2⟩:_∧k_≠gb366))) (fun _ hk=>hk.2) (.int .i64 t356) (.int .i64 (wrap64 ((wrap64 (t364+(t361.length:Int)))+1))) (.int .i64 a1_0) (.int .i64 a1_1) (.int .i64 a1_2) (.int .i64 a1_3) (.string a1_4)) (fun _ hk=>hk.1.2)⟩
     have n2_:Aside0 ((((((((w21.setCell ⟨gb366,0,none⟩ (.int .i64 t356)).setCell ⟨gb366,1,none⟩ (.int .i64 (wrap64 ((wrap64 (t364+(t361.length:Int)))+1)))).setCell ⟨gb366,2,none⟩ (.int .i64 a1_0)).setCell ⟨gb366,3,none⟩ (.int .i64 a1_1)).setCell ⟨gb366,4,none⟩ (.int .i64 a1_2)).setCell ⟨gb366,5,none⟩ (.int .i64 a1_3)).setCell ⟨gb366,6,none⟩ (.string a1_4)).heap[gb352]?=some (.cells #[.int .i64 t356,.int .i64 t357,.slice Ao17 t358.length co17,.slice Ao18 t361.length co18,.int .i64 t364,.int .i64 t365] 77 (0,0))):=⟨fp1_ NB352_366.out BK352.out⟩
     have n3_:Aside0 ((((((((w21.setCell ⟨gb366,0,none⟩ (.int .i64 t356)).setCell ⟨gb366,1,none⟩ (.int .i64 (wrap64 ((wrap64 (t364+(t361.length:Int)))+1)))).setCell ⟨gb366,2,none⟩ (.int .i64 a1_0)).setCell ⟨gb366,3,none⟩ (.int .i64 a1_1)).setCell ⟨gb366,4,none⟩ (.int .i64 a1_2)).setCell ⟨gb366,5,none⟩ (.int .i64 a1_3)).setCell ⟨gb366,6,none⟩ (.string a1_4)).heap[gb353]?=some (.cells #[.int .i64 a1_0,.int .i64 a1_1,.int .i64 a1_2,.int .i64 a1_3,.string a1_4] 42 (0,0))):=⟨fp1_ NB353_366.out BK353.out⟩
     have n4_:Aside0 ((((((((w21.setCell ⟨gb366,0,none⟩ (.int .i64 t356)).setCell ⟨gb366,1,none⟩ (.int .i64 (wrap64 ((wrap64 (t364+(t361.length:Int)))+1)))).setCell ⟨gb366,2,none⟩ (.int .i64 a1_0)).setCell ⟨gb366,3,none⟩ (.int .i64 a1_1)).setCell ⟨gb366,4,none⟩ (.int .i64 a1_2)).setCell ⟨gb366,5,none⟩ (.int .i64 a1_3)).setCell ⟨gb366,6,none⟩ (.string a1_4)).heap[gb354]?=some (.cells #[.int .i64 0,.int .i64 0,.slice none 0 0,.slice none 0 0,.int .i64 0,.int .i64 0] 77 (0,0))):=⟨fp1_ NB354_366.out BK354.out⟩
     have n5_:Aside0 ((((((((w21.setCell ⟨gb366,0,none⟩ (.int .i64 t356)).setCell ⟨gb366,1,none⟩ (.int .i64 (wrap64 ((wrap64 (t364+(t361.length:Int)))+1)))).setCell ⟨gb366,2,none⟩ (.int .i64 a1_0)).setCell ⟨gb366,3,none⟩ (.int .i64 a1_1)).setCell ⟨gb366,4,none⟩ (.int .i64 a1_2)).setCell ⟨gb366,5,none⟩ (.int .i64 a1_3)).setCell ⟨gb366,6,none⟩ (.string a1_4)).heap[gb366]?=some (.cells #[.int .i64 t356,.int .i64 (wrap64 ((wrap64 (t364+(t361.length:Int)))+1)),.int .i64 a1_0,.int .i64 a1_1,.int .i64 a1_2,.int .i64 a1_3,.string a1_4] 44 (0,0))):=⟨k7p_ BK366.out⟩
     have n6_:Aside0 (Below w.heap.size w (((((((w21.setCell ⟨gb366,0,none⟩ (.int .i64 t356)).setCell ⟨gb366,1,none⟩ (.int .i64 (wrap64 ((wrap64 (t364+(t361.length:Int)))+1)))).setCell ⟨gb366,2,none⟩ (.int .i64 a1_0)).setCell ⟨gb366,3,none⟩ (.int .i64 a1_1)).setCell ⟨gb366,4,none⟩ (.int .i64 a1_2)).setCell ⟨gb366,5,none⟩ (.int .i64 a1_3)).setCell ⟨gb366,6,none⟩ (.string a1_4))):=⟨bel_⟩
     (try clear HO360)
     (try clear HO363)
     (try clear BK352)
     (try clear BK353)
     (try clear BK354)
     (try clear BK366)
     (try clear HB)
     generalize (((((((w21.setCell ⟨gb366,0,none⟩ (.int .i64 t356)).setCell ⟨gb366,1,none⟩ (.int .i64 (wrap64 ((wrap64 (t364+(t361.length:Int)))+1)))).setCell ⟨gb366,2,none⟩ (.int .i64 a1_0)).setCell ⟨gb366,3,none⟩ (.int .i64 a1_1)).setCell ⟨gb366,4,none⟩ (.int .i64 a1_2)).setCell ⟨gb366,5,none⟩ (.int .i64 a1_3)).setCell ⟨gb366,6,none⟩ (.string a1_4))=w30 at n0_ n1_ n2_ n3_ n4_ n5_ n6_ ⊢
     have HO360:=n0_
     have HO363:=n1_
     have BK352:=n2_
     have BK353:=n3_
     have BK354:=n4_
     have BK366:=n5_
     have HB:=n6_
     clear n0_ n1_ n2_ n3_ n4_ n5_ n6_
     replace HO360:=a_ (Kd.R_drew HO360.out)
     replace HO363:=a_ (Kd.R_drew HO363.out)
     replace BK352:=a_ (bD_ BK352.out)
     replace BK353:=a_ (bD_ BK353.out)
     replace BK354:=a_ (bD_ BK354.out)
     replace BK366:=a_ (bD_ BK366.out)
     replace HB:=a_ (below_drew1 HB.out)
     refine start_ (n:=19) (S:=fun w'=>w'.cell? ⟨gb366,0,none⟩=some (.int .i64 t356)∧w'.cell? ⟨gb366,1,none⟩=some (.int .i64 (wrap64 ((wrap64 (t364+(t361.length:Int)))+1)))∧w'.cell? ⟨gb366,2,none⟩=some (.int .i64 a1_0)∧w'.cell? ⟨gb366,3,none⟩=some (.int .i64 a1_1)∧w'.cell? ⟨gb366,4,none⟩=some (.int .i64 a1_2)∧w'.cell? ⟨gb366,5,none⟩=some (.int .i64 a1_3)∧w'.cell? ⟨gb366,6,none⟩=some (.string a1_4)∧w'.cell? ⟨gb353,0,none⟩=some (.int .i64 a1_0)∧w'.cell? ⟨gb353,1,none⟩=some (.int .i64 a1_1)∧w'.cell? ⟨gb353,2,none⟩=some (.int .i64 a1_2)∧w'.cell? ⟨gb353,3,none⟩=some (.int .i64 a1_3)∧w'.cell? ⟨gb353,4,none⟩=some (.string a1_4)∧w'.cell? ⟨gb352,0,none⟩=some (.int .i64 t356)∧w'.cell? ⟨gb352,1,none⟩=some (.int .i64 t357)∧w'.cell? ⟨gb352,2,none⟩=some (.slice Ao17 t358.length co17)∧w'.cell? ⟨gb352,3,none⟩=some (.slice Ao18 t361.length co18)∧w'.cell? ⟨gb352,4,none⟩=some (.int .i64 t364)∧w'.cell? ⟨gb352,5,none⟩=some (.int .i64 t365)) (ds:=[]) #[false,false,false,false,false,false,false,false,false,false,false,false,false,false,false,false,false,false,false] (by kernel_rfl) rfl rfl ⟨(bC_ BK366.out 0).trans rfl,(bC_ BK366.out 1).trans rfl,(bC_ BK366.out 2).trans rfl,(bC_ BK366.out 3).trans rfl,(bC_ BK366.out 4).trans rfl,(bC_ BK366.out 5).trans rfl,(bC_ BK366.out 6).trans rfl,(bC_ BK353.out 0).trans rfl,(bC_ BK353.out 1).trans rfl,(bC_ BK353.out 2).trans rfl,(bC_ BK353.out 3).trans rfl,(bC_ BK353.out 4).trans rfl,(bC_ BK352.out 0).trans rfl,(bC_ BK352.out 1).trans rfl,(bC_ BK352.out 2).trans rfl,(bC_ BK352.out 3).trans rfl,(bC_ BK352.out 4).trans rfl,(bC_ BK352.out 5).trans rfl⟩ (fun hHeld=>?_);refine with_tabW impl_ClientDo.tab5 impl_ClientDo.bits5 (fun HT_ HW_=>?_)
     generalize w30.drew=w31 at HO360 HO363 BK352 BK353 BK354 BK366 HB hHeld ⊢
     refine ta18_ 0 24 hHeld ?_
     refine on_ 1 25 (fun K hK=>?_)
     refine goes_ Tryd.func78 (by kernel_rfl) rfl #[.agg #[.int .i64 t356,.int .i64 (wrap64 ((wrap64 (t364+(t361.length:Int)))+1)),.int .i64 a1_0,.int .i64 a1_1,.int .i64 a1_2,.int .i64 a1_3,.string a1_4]] (by rfl) rfl rfl ar_ ?_
     with_reducible refine (impl_EntryOk.calls k t356 (wrap64 ((wrap64 (t364+(t361.length:Int)))+1)) a1_0 a1_1 a1_2 a1_3 a1_4 true _ A26.out ?side1).mono ?_
     (case side1=>exact Glob.below HG.out (bel_))
     rintro e w32 ⟨rfl,hb⟩
     refine ⟨_,rfl,?_⟩
     replace HO360:=a_ (Kd.R_below (rp_ HO360.out) hb)
     replace HO363:=a_ (Kd.R_below (rp_ HO363.out) hb)
     replace HB:=a_ (bS_ (bel_) hb)
     replace BK352:=a_ (bb_ BK352.out hb)
     replace BK353:=a_ (bb_ BK353.out hb)
     replace BK354:=a_ (bb_ BK354.out hb)
     replace BK366:=a_ (bb_ BK366.out hb)
     try clear hb
     refine hK.out _ _ ⟨(bC_ BK366.out 0).trans rfl,(bC_ BK366.out 1).trans rfl,(bC_ BK366.out 2).trans rfl,(bC_ BK366.out 3).trans rfl,(bC_ BK366.out 4).trans rfl,(bC_ BK366.out 5).trans rfl,(bC_ BK366.out 6).trans rfl,(bC_ BK353.out 0).trans rfl,(bC_ BK353.out 1).trans rfl,(bC_ BK353.out 2).trans rfl,(bC_ BK353.out 3).trans rfl,(bC_ BK353.out 4).trans rfl,(bC_ BK352.out 0).trans rfl,(bC_ BK352.out 1).trans rfl,(bC_ BK352.out 2).trans rfl,(bC_ BK352.out 3).trans rfl,(bC_ BK352.out 4).trans rfl,(bC_ BK352.out 5).trans rfl⟩ (fun hHeld=>?_)
     clear hK K
     refine no_ 25 ?_
     refine pa_ 2 26 ?_
     refine pa_ 3 27 ?_
     refine pa_ 4 28 ?_
     refine ta18_ 5 29 hHeld ?_
     refine pa_ 6 30 ?_
     refine pa_ 7 31 ?_
     refine pa_ 8 32 ?_
     refine pa_ 10 34 ?_
     refine pa_ 12 36 ?_
     refine ta18_ 9 33 hHeld ?_
     refine ta18_ 11 35 hHeld ?_
     refine ta18_ 13 37 hHeld ?_
     refine pa_ 14 38 ?_
     refine on_ 15 39 (fun K hK=>?_)
     refine goes_ Tryd.func115 (by kernel_rfl) rfl #[.int .i64 t356,.int .i64 (wrap64 (t365+1))] (by rfl) rfl rfl ar_ ?_
     with_reducible refine (impl_RowMade.calls t356 (wrap64 (t365+1)) t368 _ A29.out).mono ?_
     rintro e w' ⟨rfl,⟨nd,rfl⟩⟩
     refine ⟨_,rfl,?_⟩
     refine hK.out _ _ ⟨(bC_ BK366.out 0).trans rfl,(bC_ BK366.out 1).trans rfl,(bC_ BK366.out 2).trans rfl,(bC_ BK366.out 3).trans rfl,(bC_ BK366.out 4).trans rfl,(bC_ BK366.out 5).trans rfl,(bC_ BK366.out 6).trans rfl,(bC_ BK353.out 0).trans rfl,(bC_ BK353.out 1).trans rfl,(bC_ BK353.out 2).trans rfl,(bC_ BK353.out 3).trans rfl,(bC_ BK353.out 4).trans rfl,(bC_ BK352.out 0).trans rfl,(bC_ BK352.out 1).trans rfl,(bC_ BK352.out 2).trans rfl,(bC_ BK352.out 3).trans rfl,(bC_ BK352.out 4).trans rfl,(bC_ BK352.out 5).trans rfl⟩ (fun hHeld=>?_)
     clear hK K
     refine no_ 39 ?_
     refine pa_ 16 40 ?_
     refine pa_ 17 41 ?_
     refine pa_ 18 42 ?_
     refine done_ (done_of HT_.out (by kernel_rfl)) ?_
     try go_wp2
     go_meet
     case rel=>exact ⟨_,((a1_1 != t368)),(si_),H',⟨by first|omega|exact Nat.le_refl _⟩,⟨by (with_reducible repeat (first|apply Kd.R_alloc|apply Kd.R_drewN|apply Kd.R_drew));exact HO360.out⟩,⟨by (with_reducible repeat (first|apply Kd.R_alloc|apply Kd.R_drewN|apply Kd.R_drew));exact HO363.out⟩,⟨bp_ BK352.out⟩,⟨bp_ BK353.out⟩,⟨bp_ BK354.out⟩,⟨bp_ BK366.out⟩,⟨bel_⟩⟩
    ·rw [if_neg c28] at H
     have c28b0:(a1_0==1)=false:=bn_ c28
     have c28b1:(a1_0 != 1)=true:=bne_iff_ne.mpr c28
     (first|rw [c28b0]|(simp only [i64_w,i32_w];rw [c28b0])|skip)
     have H':=a_ H
     clear H
     try go_wp2
     have n0_:Aside0 (Kd.R k69 69 (((((((w21.setCell ⟨gb366,0,none⟩ (.int .i64 t356)).setCell ⟨gb366,1,none⟩ (.int .i64 (wrap64 ((wrap64 (t364+(t361.length:Int)))+1)))).setCell ⟨gb366,2,none⟩ (.int .i64 a1_0)).setCell ⟨gb366,3,none⟩ (.int .i64 a1_1)).setCell ⟨gb366,4,none⟩ (.int .i64 a1_2)).setCell ⟨gb366,5,none⟩ (.int .i64 a1_3)).setCell ⟨gb366,6,none⟩ (.string a1_4)) w.heap.size (fun _=>True) (.slice Ao17 t358.length co17) t358):=⟨by (with_reducible repeat (first|apply Kd.R_alloc|apply Kd.R_drewN|apply Kd.R_drew));exact Kd.R_mono (rf7_ (g:=gb366) (Kd.R_types HO360.out BK366.out (by decide)) (fun _ hk=>hk.2) (.int .i64 t356) (.int .i64 (wrap64 ((wrap64 (t364+(t361.length:Int)))+1))) (.int .i64 a1_0) (.int .i64 a1_1) (.int .i64 a1_2) (.int .i64 a1_3) (.string a1_4)) (fun _ hk=>trivial)⟩
     have n1_:Aside0 (Kd.R k44 44 (((((((w21.setCell ⟨gb366,0,none⟩ (.int .i64 t356)).setCell ⟨gb366,1,none⟩ (.int .i64 (wrap64 ((wrap64 (t364+(t361.length:Int)))+1)))).setCell ⟨gb366,2,none⟩ (.int .i64 a1_0)).setCell ⟨gb366,3,none⟩ (.int .i64 a1_1)).setCell ⟨gb366,4,none⟩ (.int .i64 a1_2)).setCell ⟨gb366,5,none⟩ (.int .i64 a1_3)).setCell ⟨gb366,6,none⟩ (.string a1_4)) w.heap.size (fun k_=>k_≠gb366) (.slice Ao18 t361.length co18) t361):=⟨by (with_reducible repeat (first|apply Kd.R_alloc|apply Kd.R_drewN|apply Kd.R_drew));exact Kd.R_mono (rf7_ (g:=gb366) (Kd.R_mono HO363.out (fun k_ hk=>(⟨hk,hk.2⟩:_∧k_≠gb366))) (fun _ hk=>hk.2) (.int .i64 t356) (.int .i64 (wrap64 ((wrap64 (t364+(t361.length:Int)))+1))) (.int .i64 a1_0) (.int .i64 a1_1) (.int .i64 a1_2) (.int .i64 a1_3) (.string a1_4)) (fun _ hk=>hk.1.2)⟩
     have n2_:Aside0 ((((((((w21.setCell ⟨gb366,0,none⟩ (.int .i64 t356)).setCell ⟨gb366,1,none⟩ (.int .i64 (wrap64 ((wrap64 (t364+(t361.length:Int)))+1)))).setCell ⟨gb366,2,none⟩ (.int .i64 a1_0)).setCell ⟨gb366,3,none⟩ (.int .i64 a1_1)).setCell ⟨gb366,4,none⟩ (.int .i64 a1_2)).setCell ⟨gb366,5,none⟩ (.int .i64 a1_3)).setCell ⟨gb366,6,none⟩ (.string a1_4)).heap[gb352]?=some (.cells #[.int .i64 t356,.int .i64 t357,.slice Ao17 t358.length co17,.slice Ao18 t361.length co18,.int .i64 t364,.int .i64 t365] 77 (0,0))):=⟨fp1_ NB352_366.out BK352.out⟩
     have n3_:Aside0 ((((((((w21.setCell ⟨gb366,0,none⟩ (.int .i64 t356)).setCell ⟨gb366,1,none⟩ (.int .i64 (wrap64 ((wrap64 (t364+(t361.length:Int)))+1)))).setCell ⟨gb366,2,none⟩ (.int .i64 a1_0)).setCell ⟨gb366,3,none⟩ (.int .i64 a1_1)).setCell ⟨gb366,4,none⟩ (.int .i64 a1_2)).setCell ⟨gb366,5,none⟩ (.int .i64 a1_3)).setCell ⟨gb366,6,none⟩ (.string a1_4)).heap[gb353]?=some (.cells #[.int .i64 a1_0,.int .i64 a1_1,.int .i64 a1_2,.int .i64 a1_3,.string a1_4] 42 (0,0))):=⟨fp1_ NB353_366.out BK353.out⟩
     have n4_:Aside0 ((((((((w21.setCell ⟨gb366,0,none⟩ (.int .i64 t356)).setCell ⟨gb366,1,none⟩ (.int .i64 (wrap64 ((wrap64 (t364+(t361.length:Int)))+1)))).setCell ⟨gb366,2,none⟩ (.int .i64 a1_0)).setCell ⟨gb366,3,none⟩ (.int .i64 a1_1)).setCell ⟨gb366,4,none⟩ (.int .i64 a1_2)).setCell ⟨gb366,5,none⟩ (.int .i64 a1_3)).setCell ⟨gb366,6,none⟩ (.string a1_4)).heap[gb354]?=some (.cells #[.int .i64 0,.int .i64 0,.slice none 0 0,.slice none 0 0,.int .i64 0,.int .i64 0] 77 (0,0))):=⟨fp1_ NB354_366.out BK354.out⟩
     have n5_:Aside0 ((((((((w21.setCell ⟨gb366,0,none⟩ (.int .i64 t356)).setCell ⟨gb366,1,none⟩ (.int .i64 (wrap64 ((wrap64 (t364+(t361.length:Int)))+1)))).setCell ⟨gb366,2,none⟩ (.int .i64 a1_0)).setCell ⟨gb366,3,none⟩ (.int .i64 a1_1)).setCell ⟨gb366,4,none⟩ (.int .i64 a1_2)).setCell ⟨gb366,5,none⟩ (.int .i64 a1_3)).setCell ⟨gb366,6,none⟩ (.string a1_4)).heap[gb366]?=some (.cells #[.int .i64 t356,.int .i64 (wrap64 ((wrap64 (t364+(t361.length:Int)))+1)),.int .i64 a1_0,.int .i64 a1_1,.int .i64 a1_2,.int .i64 a1_3,.string a1_4] 44 (0,0))):=⟨k7p_ BK366.out⟩
     have n6_:Aside0 (Below w.heap.size w (((((((w21.setCell ⟨gb366,0,none⟩ (.int .i64 t356)).setCell ⟨gb366,1,none⟩ (.int .i64 (wrap64 ((wrap64 (t364+(t361.length:Int)))+1)))).setCell ⟨gb366,2,none⟩ (.int .i64 a1_0)).setCell ⟨gb366,3,none⟩ (.int .i64 a1_1)).setCell ⟨gb366,4,none⟩ (.int .i64 a1_2)).setCell ⟨gb366,5,none⟩ (.int .i64 a1_3)).setCell ⟨gb366,6,none⟩ (.string a1_4))):=⟨bel_⟩
     generalize (((((((w21.setCell ⟨gb366,0,none⟩ (.int .i64 t356)).setCell ⟨gb366,1,none⟩ (.int .i64 (wrap64 ((wrap64 (t364+(t361.length:Int)))+1)))).setCell ⟨gb366,2,none⟩ (.int .i64 a1_0)).setCell ⟨gb366,3,none⟩ (.int .i64 a1_1)).setCell ⟨gb366,4,none⟩ (.int .i64 a1_2)).setCell ⟨gb366,5,none⟩ (.int .i64 a1_3)).setCell ⟨gb366,6,none⟩ (.string a1_4))=w33 at n0_ n1_ n2_ n3_ n4_ n5_ n6_ ⊢
     have HO360:=n0_
     have HO363:=n1_
     have BK352:=n2_
     have BK353:=n3_
     have BK354:=n4_
     have BK366:=n5_
     have HB:=n6_
     clear n0_ n1_ n2_ n3_ n4_ n5_ n6_
     replace HO360:=a_ (Kd.R_drew HO360.out)
     replace HO363:=a_ (Kd.R_drew HO363.out)
     replace BK352:=a_ (bD_ BK352.out)
     replace BK353:=a_ (bD_ BK353.out)
     replace BK354:=a_ (bD_ BK354.out)
     replace BK366:=a_ (bD_ BK366.out)
     replace HB:=a_ (below_drew1 HB.out)
     refine start_ (n:=19) (S:=fun w'=>w'.cell? ⟨gb366,0,none⟩=some (.int .i64 t356)∧w'.cell? ⟨gb366,1,none⟩=some (.int .i64 (wrap64 ((wrap64 (t364+(t361.length:Int)))+1)))∧w'.cell? ⟨gb366,2,none⟩=some (.int .i64 a1_0)∧w'.cell? ⟨gb366,3,none⟩=some (.int .i64 a1_1)∧w'.cell? ⟨gb366,4,none⟩=some (.int .i64 a1_2)∧w'.cell? ⟨gb366,5,none⟩=some (.int .i64 a1_3)∧w'.cell? ⟨gb366,6,none⟩=some (.string a1_4)∧w'.cell? ⟨gb353,0,none⟩=some (.int .i64 a1_0)∧w'.cell? ⟨gb353,1,none⟩=some (.int .i64 a1_1)∧w'.cell? ⟨gb353,2,none⟩=some (.int .i64 a1_2)∧w'.cell? ⟨gb353,3,none⟩=some (.int .i64 a1_3)∧w'.cell? ⟨gb353,4,none⟩=some (.string a1_4)) (ds:=[]) #[false,false,false,false,false,false,false,false,false,false,false,false,false,false,false,false,false,false,false] (by kernel_rfl) rfl rfl ⟨(bC_ BK366.out 0).trans rfl,(bC_ BK366.out 1).trans rfl,(bC_ BK366.out 2).trans rfl,(bC_ BK366.out 3).trans rfl,(bC_ BK366.out 4).trans rfl,(bC_ BK366.out 5).trans rfl,(bC_ BK366.out 6).trans rfl,(bC_ BK353.out 0).trans rfl,(bC_ BK353.out 1).trans rfl,(bC_ BK353.out 2).trans rfl,(bC_ BK353.out 3).trans rfl,(bC_ BK353.out 4).trans rfl⟩ (fun hHeld=>?_);refine with_tabW impl_ClientDo.tab5 impl_ClientDo.bits5 (fun HT_ HW_=>?_)
     generalize w33.drew=w34 at HO360 HO363 BK352 BK353 BK354 BK366 HB hHeld ⊢
     refine ta12_ 0 24 hHeld ?_
     refine on_ 1 25 (fun K hK=>?_)
     refine goes_ Tryd.func78 (by kernel_rfl) rfl #[.agg #[.int .i64 t356,.int .i64 (wrap64 ((wrap64 (t364+(t361.length:Int)))+1)),.int .i64 a1_0,.int .i64 a1_1,.int .i64 a1_2,.int .i64 a1_3,.string a1_4]] (by rfl) rfl rfl ar_ ?_
     with_reducible refine (impl_EntryOk.calls k t356 (wrap64 ((wrap64 (t364+(t361.length:Int)))+1)) a1_0 a1_1 a1_2 a1_3 a1_4 true _ A26.out ?side1).mono ?_
     (case side1=>exact Glob.below HG.out (bel_))
     rintro e w35 ⟨rfl,hb⟩
     refine ⟨_,rfl,?_⟩
     replace HO360:=a_ (Kd.R_below (rp_ HO360.out) hb)
     replace HO363:=a_ (Kd.R_below (rp_ HO363.out) hb)
     replace HB:=a_ (bS_ (bel_) hb)
     replace BK352:=a_ (bb_ BK352.out hb)
     replace BK353:=a_ (bb_ BK353.out hb)
     replace BK354:=a_ (bb_ BK354.out hb)
     replace BK366:=a_ (bb_ BK366.out hb)
     try clear hb
     refine hK.out _ _ ⟨(bC_ BK366.out 0).trans rfl,(bC_ BK366.out 1).trans rfl,(bC_ BK366.out 2).trans rfl,(bC_ BK366.out 3).trans rfl,(bC_ BK366.out 4).trans rfl,(bC_ BK366.out 5).trans rfl,(bC_ BK366.out 6).trans rfl,(bC_ BK353.out 0).trans rfl,(bC_ BK353.out 1).trans rfl,(bC_ BK353.out 2).trans rfl,(bC_ BK353.out 3).trans rfl,(bC_ BK353.out 4).trans rfl⟩ (fun hHeld=>?_)
     clear hK K
     refine no_ 25 ?_
     refine pa_ 2 26 ?_
     refine pa_ 3 27 ?_
     refine pa_ 4 28 ?_
     refine ta12_ 5 29 hHeld ?_
     refine pa_ 6 30 ?_
     refine pa_ 7 31 ?_
     refine po_ 8 32 ?_
     refine po_ 9 33 ?_
     refine po_ 10 34 ?_
     refine po_ 11 35 ?_
     refine po_ 12 36 ?_
     refine po_ 13 37 ?_
     refine po_ 14 38 ?_
     refine po_ 15 39 ?_
     refine po_ 16 40 ?_
     refine pa_ 17 41 ?_
     refine pa_ 18 42 ?_
     refine done_ (done_of HT_.out (by kernel_rfl)) ?_
     try go_wp2
     go_meet
     case rel=>exact ⟨_,(false),(si_),H',⟨by first|omega|exact Nat.le_refl _⟩,⟨by (with_reducible repeat (first|apply Kd.R_alloc|apply Kd.R_drewN|apply Kd.R_drew));exact HO360.out⟩,⟨by (with_reducible repeat (first|apply Kd.R_alloc|apply Kd.R_drewN|apply Kd.R_drew));exact HO363.out⟩,⟨bp_ BK352.out⟩,⟨bp_ BK353.out⟩,⟨bp_ BK354.out⟩,⟨bp_ BK366.out⟩,⟨bel_⟩⟩
   ·replace c27:=Bool.eq_false_iff.mpr c27
    subst c27
    have H1:(impl_ClientDo.j0 k true t356 t357 t358 t361 t364 t365 a1_0 a1_1 a1_2 a1_3 a1_4 t356 (wrap64 ((wrap64 (t364+(t361.length:Int)))+1)) a1_0 a1_1 a1_2 a1_3 a1_4)=some (r1,r2,r3,r4,r5,r6,r7):=by rw [if_neg (show ¬ (false=true) by decide)] at H;exact H
    clear H
    have H:=H1
    clear H1
    have H':=a_ H
    clear H
    try go_wp2
    have n0_:Aside0 (Kd.R k69 69 (((((((w21.setCell ⟨gb366,0,none⟩ (.int .i64 t356)).setCell ⟨gb366,1,none⟩ (.int .i64 (wrap64 ((wrap64 (t364+(t361.length:Int)))+1)))).setCell ⟨gb366,2,none⟩ (.int .i64 a1_0)).setCell ⟨gb366,3,none⟩ (.int .i64 a1_1)).setCell ⟨gb366,4,none⟩ (.int .i64 a1_2)).setCell ⟨gb366,5,none⟩ (.int .i64 a1_3)).setCell ⟨gb366,6,none⟩ (.string a1_4)) w.heap.size (fun _=>True) (.slice Ao17 t358.length co17) t358):=⟨by (with_reducible repeat (first|apply Kd.R_alloc|apply Kd.R_drewN|apply Kd.R_drew));exact Kd.R_mono (rf7_ (g:=gb366) (Kd.R_types HO360.out BK366.out (by decide)) (fun _ hk=>hk.2) (.int .i64 t356) (.int .i64 (wrap64 ((wrap64 (t364+(t361.length:Int)))+1))) (.int .i64 a1_0) (.int .i64 a1_1) (.int .i64 a1_2) (.int .i64 a1_3) (.string a1_4)) (fun _ hk=>trivial)⟩
    have n1_:Aside0 (Kd.R k44 44 (((((((w21.setCell ⟨gb366,0,none⟩ (.int .i64 t356)).setCell ⟨gb366,1,none⟩ (.int .i64 (wrap64 ((wrap64 (t364+(t361.length:Int)))+1)))).setCell ⟨gb366,2,none⟩ (.int .i64 a1_0)).setCell ⟨gb366,3,none⟩ (.int .i64 a1_1)).setCell ⟨gb366,4,none⟩ (.int .i64 a1_2)).setCell ⟨gb366,5,none⟩ (.int .i64 a1_3)).setCell ⟨gb366,6,none⟩ (.string a1_4)) w.heap.size (fun k_=>k_≠gb366) (.slice Ao18 t361.length co18) t361):=⟨by (with_reducible repeat (first|apply Kd.R_alloc|apply Kd.R_drewN|apply Kd.R_drew));exact Kd.R_mono (rf7_ (g:=gb366) (Kd.R_mono HO363.out (fun k_ hk=>(⟨hk,hk.2⟩:_∧k_≠gb366))) (fun _ hk=>hk.2) (.int .i64 t356) (.int .i64 (wrap64 ((wrap64 (t364+(t361.length:Int)))+1))) (.int .i64 a1_0) (.int .i64 a1_1) (.int .i64 a1_2) (.int .i64 a1_3) (.string a1_4)) (fun _ hk=>hk.1.2)⟩
    have n2_:Aside0 ((((((((w21.setCell ⟨gb366,0,none⟩ (.int .i64 t356)).setCell ⟨gb366,1,none⟩ (.int .i64 (wrap64 ((wrap64 (t364+(t361.length:Int)))+1)))).setCell ⟨gb366,2,none⟩ (.int .i64 a1_0)).setCell ⟨gb366,3,none⟩ (.int .i64 a1_1)).setCell ⟨gb366,4,none⟩ (.int .i64 a1_2)).setCell ⟨gb366,5,none⟩ (.int .i64 a1_3)).setCell ⟨gb366,6,none⟩ (.string a1_4)).heap[gb352]?=some (.cells #[.int .i64 t356,.int .i64 t357,.slice Ao17 t358.length co17,.slice Ao18 t361.length co18,.int .i64 t364,.int .i64 t365] 77 (0,0))):=⟨fp1_ NB352_366.out BK352.out⟩
    have n3_:Aside0 ((((((((w21.setCell ⟨gb366,0,none⟩ (.int .i64 t356)).setCell ⟨gb366,1,none⟩ (.int .i64 (wrap64 ((wrap64 (t364+(t361.length:Int)))+1)))).setCell ⟨gb366,2,none⟩ (.int .i64 a1_0)).setCell ⟨gb366,3,none⟩ (.int .i64 a1_1)).setCell ⟨gb366,4,none⟩ (.int .i64 a1_2)).setCell ⟨gb366,5,none⟩ (.int .i64 a1_3)).setCell ⟨gb366,6,none⟩ (.string a1_4)).heap[gb353]?=some (.cells #[.int .i64 a1_0,.int .i64 a1_1,.int .i64 a1_2,.int .i64 a1_3,.string a1_4] 42 (0,0))):=⟨fp1_ NB353_366.out BK353.out⟩
    have n4_:Aside0 ((((((((w21.setCell ⟨gb366,0,none⟩ (.int .i64 t356)).setCell ⟨gb366,1,none⟩ (.int .i64 (wrap64 ((wrap64 (t364+(t361.length:Int)))+1)))).setCell ⟨gb366,2,none⟩ (.int .i64 a1_0)).setCell ⟨gb366,3,none⟩ (.int .i64 a1_1)).setCell ⟨gb366,4,none⟩ (.int .i64 a1_2)).setCell ⟨gb366,5,none⟩ (.int .i64 a1_3)).setCell ⟨gb366,6,none⟩ (.string a1_4)).heap[gb354]?=some (.cells #[.int .i64 0,.int .i64 0,.slice none 0 0,.slice none 0 0,.int .i64 0,.int .i64 0] 77 (0,0))):=⟨fp1_ NB354_366.out BK354.out⟩
    have n5_:Aside0 ((((((((w21.setCell ⟨gb366,0,none⟩ (.int .i64 t356)).setCell ⟨gb366,1,none⟩ (.int .i64 (wrap64 ((wrap64 (t364+(t361.length:Int)))+1)))).setCell ⟨gb366,2,none⟩ (.int .i64 a1_0)).setCell ⟨gb366,3,none⟩ (.int .i64 a1_1)).setCell ⟨gb366,4,none⟩ (.int .i64 a1_2)).setCell ⟨gb366,5,none⟩ (.int .i64 a1_3)).setCell ⟨gb366,6,none⟩ (.string a1_4)).heap[gb366]?=some (.cells #[.int .i64 t356,.int .i64 (wrap64 ((wrap64 (t364+(t361.length:Int)))+1)),.int .i64 a1_0,.int .i64 a1_1,.int .i64 a1_2,.int .i64 a1_3,.string a1_4] 44 (0,0))):=⟨k7p_ BK366.out⟩
    have n6_:Aside0 (Below w.heap.size w (((((((w21.setCell ⟨gb366,0,none⟩ (.int .i64 t356)).setCell ⟨gb366,1,none⟩ (.int .i64 (wrap64 ((wrap64 (t364+(t361.length:Int)))+1)))).setCell ⟨gb366,2,none⟩ (.int .i64 a1_0)).setCell ⟨gb366,3,none⟩ (.int .i64 a1_1)).setCell ⟨gb366,4,none⟩ (.int .i64 a1_2)).setCell ⟨gb366,5,none⟩ (.int .i64 a1_3)).setCell ⟨gb366,6,none⟩ (.string a1_4))):=⟨bel_⟩
    generalize (((((((w21.setCell ⟨gb366,0,none⟩ (.int .i64 t356)).setCell ⟨gb366,1,none⟩ (.int .i64 (wrap64 ((wrap64 (t364+(t361.length:Int)))+1)))).setCell ⟨gb366,2,none⟩ (.int .i64 a1_0)).setCell ⟨gb366,3,none⟩ (.int .i64 a1_1)).setCell ⟨gb366,4,none⟩ (.int .i64 a1_2)).setCell ⟨gb366,5,none⟩ (.int .i64 a1_3)).setCell ⟨gb366,6,none⟩ (.string a1_4))=w36 at n0_ n1_ n2_ n3_ n4_ n5_ n6_ ⊢
    have HO360:=n0_
    have HO363:=n1_
    have BK352:=n2_
    have BK353:=n3_
    have BK354:=n4_
    have BK366:=n5_
    have HB:=n6_
    clear n0_ n1_ n2_ n3_ n4_ n5_ n6_
    replace HO360:=a_ (Kd.R_drew HO360.out)
    replace HO363:=a_ (Kd.R_drew HO363.out)
    replace BK352:=a_ (bD_ BK352.out)
    replace BK353:=a_ (bD_ BK353.out)
    replace BK354:=a_ (bD_ BK354.out)
    replace BK366:=a_ (bD_ BK366.out)
    replace HB:=a_ (below_drew1 HB.out)
    refine start_ (n:=19) (S:=fun w'=>w'.cell? ⟨gb366,0,none⟩=some (.int .i64 t356)∧w'.cell? ⟨gb366,1,none⟩=some (.int .i64 (wrap64 ((wrap64 (t364+(t361.length:Int)))+1)))∧w'.cell? ⟨gb366,2,none⟩=some (.int .i64 a1_0)∧w'.cell? ⟨gb366,3,none⟩=some (.int .i64 a1_1)∧w'.cell? ⟨gb366,4,none⟩=some (.int .i64 a1_2)∧w'.cell? ⟨gb366,5,none⟩=some (.int .i64 a1_3)∧w'.cell? ⟨gb366,6,none⟩=some (.string a1_4)) (ds:=[]) #[false,false,false,false,false,false,false,false,false,false,false,false,false,false,false,false,false,false,false] (by kernel_rfl) rfl rfl ⟨(bC_ BK366.out 0).trans rfl,(bC_ BK366.out 1).trans rfl,(bC_ BK366.out 2).trans rfl,(bC_ BK366.out 3).trans rfl,(bC_ BK366.out 4).trans rfl,(bC_ BK366.out 5).trans rfl,(bC_ BK366.out 6).trans rfl⟩ (fun hHeld=>?_);refine with_tabW impl_ClientDo.tab5 impl_ClientDo.bits5 (fun HT_ HW_=>?_)
    generalize w36.drew=w37 at HO360 HO363 BK352 BK353 BK354 BK366 HB hHeld ⊢
    refine ta7_ 0 24 hHeld ?_
    refine on_ 1 25 (fun K hK=>?_)
    refine goes_ Tryd.func78 (by kernel_rfl) rfl #[.agg #[.int .i64 t356,.int .i64 (wrap64 ((wrap64 (t364+(t361.length:Int)))+1)),.int .i64 a1_0,.int .i64 a1_1,.int .i64 a1_2,.int .i64 a1_3,.string a1_4]] (by rfl) rfl rfl ar_ ?_
    with_reducible refine (impl_EntryOk.calls k t356 (wrap64 ((wrap64 (t364+(t361.length:Int)))+1)) a1_0 a1_1 a1_2 a1_3 a1_4 false _ A26.out ?side1).mono ?_
    (case side1=>exact Glob.below HG.out (bel_))
    rintro e w38 ⟨rfl,hb⟩
    refine ⟨_,rfl,?_⟩
    replace HO360:=a_ (Kd.R_below (rp_ HO360.out) hb)
    replace HO363:=a_ (Kd.R_below (rp_ HO363.out) hb)
    replace HB:=a_ (bS_ (bel_) hb)
    replace BK352:=a_ (bb_ BK352.out hb)
    replace BK353:=a_ (bb_ BK353.out hb)
    replace BK354:=a_ (bb_ BK354.out hb)
    replace BK366:=a_ (bb_ BK366.out hb)
    try clear hb
    refine hK.out _ _ ⟨(bC_ BK366.out 0).trans rfl,(bC_ BK366.out 1).trans rfl,(bC_ BK366.out 2).trans rfl,(bC_ BK366.out 3).trans rfl,(bC_ BK366.out 4).trans rfl,(bC_ BK366.out 5).trans rfl,(bC_ BK366.out 6).trans rfl⟩ (fun hHeld=>?_)
    clear hK K
    refine no_ 25 ?_
    refine pa_ 2 26 ?_
    refine pa_ 3 27 ?_
    refine po_ 4 28 ?_
    refine po_ 5 29 ?_
    refine po_ 6 30 ?_
    refine po_ 7 31 ?_
    refine po_ 8 32 ?_
    refine po_ 9 33 ?_
    refine po_ 10 34 ?_
    refine po_ 11 35 ?_
    refine po_ 12 36 ?_
    refine po_ 13 37 ?_
    refine po_ 14 38 ?_
    refine po_ 15 39 ?_
    refine po_ 16 40 ?_
    refine po_ 17 41 ?_
    refine pa_ 18 42 ?_
    refine done_ (done_of HT_.out (by kernel_rfl)) ?_
    try go_wp2
    go_meet
    case rel=>exact ⟨_,(true),(si_),H',⟨by first|omega|exact Nat.le_refl _⟩,⟨by (with_reducible repeat (first|apply Kd.R_alloc|apply Kd.R_drewN|apply Kd.R_drew));exact HO360.out⟩,⟨by (with_reducible repeat (first|apply Kd.R_alloc|apply Kd.R_drewN|apply Kd.R_drew));exact HO363.out⟩,⟨bp_ BK352.out⟩,⟨bp_ BK353.out⟩,⟨bp_ BK354.out⟩,⟨bp_ BK366.out⟩,⟨bel_⟩⟩
  case rest =>
   clear HC6
   try clear c1
   try clear c2
   try clear p2
   try clear p6
   try clear c7
   try clear c11
   try clear c27
   try clear c28
   try clear c28b0
   try clear c28b1
   obtain ⟨kq,x42_5,rfl,HA,HJ5,HO_353002,HO_353003,BK352,BK353,BK354,BK366,HB⟩:=hcut
   cases kq with
   | zero=>exact absurd HA.out (by simp [impl_ClientDo.j0])
   | succ kj5 =>
    have H:=HA.out
    clear HA
    simp only [impl_ClientDo.j0] at H
    by_cases c39:x42_5=true
    ·subst c39
     have H1:(some (t356,t357,t358,t361,t364,t365,false))=some (r1,r2,r3,r4,r5,r6,r7):=by rw [if_pos rfl] at H;exact H
     clear H
     have H:=H1
     clear H1
     simp only [Option.some.injEq,Prod.mk.injEq] at H
     obtain ⟨rfl,rfl,rfl,rfl,rfl,rfl,rfl⟩:=H
     have hnb40:=NB352_353.out
     have hnc40:=NB353_352.out
     have hnb41:=NB352_354.out
     have hnc41:=NB354_352.out
     have hnb42:=NB352_366.out
     have hnc42:=NB366_352.out
     obtain ⟨Z43_0,Z43_1,Z43_2,Z43_3,Z43_4,Z43_5,Y43_0,Y43_1,Y43_2,Y43_3,Y43_4,Y43_5⟩:=op6_ (W:=wc) BK352.out
     have hnb44:=NB354_353.out
     have hnc44:=NB353_354.out
     have hnb45:=NB354_366.out
     have hnc45:=NB366_354.out
     obtain ⟨Z46_0,Z46_1,Z46_2,Z46_3,Z46_4,Z46_5,Y46_0,Y46_1,Y46_2,Y46_3,Y46_4,Y46_5⟩:=op6_ (W:=wc) BK354.out
     go_wp2
     refine bodyPost_ret (results_ct rfl _ _ gb354 77 #[.int .i64 t356,.int .i64 t357,.slice Ao17 t358.length co17,.slice Ao18 t361.length co18,.int .i64 t364,.int .i64 t365] (0,0) _ rfl (k6p_ BK354.out) Tryd.underlying77 rfl (by kernel_rfl)) rfl ?_
     exact ⟨_,_,fi_,by (with_reducible repeat (first|apply Kd.R_alloc|apply Kd.R_drewN|apply Kd.R_drew));exact Kd.R_mono (rf6_ (g:=gb354) (Kd.R_types HO_353002.out BK354.out (by decide)) (fun _ hk=>hk.2) (.int .i64 t356) (.int .i64 t357) (.slice Ao17 t358.length co17) (.slice Ao18 t361.length co18) (.int .i64 t364) (.int .i64 t365)) (fun _ hk=>trivial),by (with_reducible repeat (first|apply Kd.R_alloc|apply Kd.R_drewN|apply Kd.R_drew));exact Kd.R_mono (rf6_ (g:=gb354) (Kd.R_types HO_353003.out BK354.out (by decide)) (fun _ hk=>hk.2) (.int .i64 t356) (.int .i64 t357) (.slice Ao17 t358.length co17) (.slice Ao18 t361.length co18) (.int .i64 t364) (.int .i64 t365)) (fun _ hk=>trivial),bel_⟩
    ·replace c39:=Bool.eq_false_iff.mpr c39
     subst c39
     have H1:(if t361.length < 2199023255552 then ((some (t361++[(⟨t356,(wrap64 ((wrap64 (t364+(t361.length:Int)))+1)),(⟨a1_0,a1_1,a1_2,a1_3,a1_4⟩:S42)⟩:S44)]:List (S44))).bind fun y369=>(if a1_0=1 then (some (t356,t357,t358,y369,t364,wrap64 (t365+1),true)) else (some (t356,t357,t358,y369,t364,t365,true)))) else (none))=some (r1,r2,r3,r4,r5,r6,r7):=by rw [if_neg (show ¬ (false=true) by decide)] at H;exact H
     clear H
     have H:=H1
     clear H1
     by_cases c47:t361.length < 2199023255552
     ·rw [if_pos c47] at H
      have LMc47:=a_ c47
      clear c47
      obtain ⟨y369,hy369⟩:∃ y_:List (S44),y_=(t361++[(⟨t356,(wrap64 ((wrap64 (t364+(t361.length:Int)))+1)),(⟨a1_0,a1_1,a1_2,a1_3,a1_4⟩:S42)⟩:S44)]):=⟨_,rfl⟩
      replace H:(if a1_0=1 then (some (t356,t357,t358,y369,t364,wrap64 (t365+1),true)) else (some (t356,t357,t358,y369,t364,t365,true)))=some (r1,r2,r3,r4,r5,r6,r7):=by first|(rw [hy369];with_reducible exact H)|(have H2_:=(Option.bind_some _ _).symm.trans H;rw [hy369];with_reducible exact H2_)|(have H2_:=(Option.bind_some _ _).symm.trans H;with_reducible exact H2_)|with_reducible exact H|(rw [hy369];exact H)|exact H
      have Ny369:=a_ hy369
      clear hy369
      by_cases c48:a1_0=1
      ·rw [if_pos c48] at H
       have c48b0:(a1_0==1)=true:=beq_iff_eq.mpr c48
       have c48b1:(a1_0 != 1)=false:=be_ c48
       clear c48
       simp only [Option.some.injEq,Prod.mk.injEq] at H
       obtain ⟨rfl,rfl,rfl,rfl,rfl,rfl,rfl⟩:=H
       have hnb49:=NB352_353.out
       have hnc49:=NB353_352.out
       have hnb50:=NB352_354.out
       have hnc50:=NB354_352.out
       have hnb51:=NB352_366.out
       have hnc51:=NB366_352.out
       obtain ⟨Z52_0,Z52_1,Z52_2,Z52_3,Z52_4,Z52_5,Y52_0,Y52_1,Y52_2,Y52_3,Y52_4,Y52_5⟩:=op6_ (W:=wc) BK352.out
       have hnb53:=NB366_353.out
       have hnc53:=NB353_366.out
       have hnb54:=NB366_354.out
       have hnc54:=NB354_366.out
       obtain ⟨Z55_0,Z55_1,Z55_2,Z55_3,Z55_4,Z55_5,Z55_6,Y55_0,Y55_1,Y55_2,Y55_3,Y55_4,Y55_5,Y55_6⟩:=op7_ (W:=wc) BK366.out
       go_wp2_with (first|((with_reducible refine gate_builtin (b:=.append) (xs:=#[.tmp 45,.tmp 47]) rfl ?_);at_builtin;refine Kd.R_append k44 (w0:=w) w.heap.size rfl (.tmp 45) (.tmp 47) 23 44 (.agg #[(.int .i64 0),(.int .i64 0),(.int .i64 0),(.int .i64 0),(.int .i64 0),(.int .i64 0),(.string ⟨#[]⟩)]) 64 rfl Tryd.underlying23 info44 rfl (by decide) (by omega) (.slice Ao18 t361.length co18) t361 (⟨t356,(wrap64 ((wrap64 (t364+(t361.length:Int)))+1)),(⟨a1_0,a1_1,a1_2,a1_3,a1_4⟩:S42)⟩:S44) [.int .i64 t356,.int .i64 (wrap64 ((wrap64 (t364+(t361.length:Int)))+1)),.int .i64 a1_0,.int .i64 a1_1,.int .i64 a1_2,.int .i64 a1_3,.string a1_4] (fun k_=>k_≠gb366) (fun _=>False) rfl rfl ?aP (fun _ hk=>hk.elim) ?aF ?aO ?aB ?aS ?aL ?_;(case aP=>exact k44_mkM _ _ _ (⟨t356,(wrap64 ((wrap64 (t364+(t361.length:Int)))+1)),(⟨a1_0,a1_1,a1_2,a1_3,a1_4⟩:S42)⟩:S44));(case aB=>exact (bel_));(case aF=>exact (fun k_ hk=>Kd.freshB (g:=gb366) (o:=.cells #[.int .i64 t356,.int .i64 (wrap64 ((wrap64 (t364+(t361.length:Int)))+1)),.int .i64 a1_0,.int .i64 a1_1,.int .i64 a1_2,.int .i64 a1_3,.string a1_4] 44 (0,0)) (bp_ BK366.out) k_ hk));(case aO=>exact (rp_ HO_353003.out));(case aS=>exact (below_size (bel_)));(case aL=>have:=LMc47.out;omega);intro v370 w56 ho hb hg hat;rw [←Ny369.out] at ho;replace HO_353002:=a_ (Kd.R_over' (rp_ HO_353002.out) (Kd.R_typed (rp_ HO_353003.out)) (by decide) hg);replace BK352:=a_ (blk_grown (g:=gb352) (o:=.cells #[.int .i64 t356,.int .i64 t357,.slice Ao17 t358.length co17,.slice Ao18 t361.length co18,.int .i64 t364,.int .i64 t365] 77 (0,0)) (bp_ BK352.out) hg (Kd.R_ne HO_353003.out BK352.out (by decide)));replace BK353:=a_ (blk_grown (g:=gb353) (o:=.cells #[.int .i64 a1_0,.int .i64 a1_1,.int .i64 a1_2,.int .i64 a1_3,.string a1_4] 42 (0,0)) (bp_ BK353.out) hg (Kd.R_ne HO_353003.out BK353.out (by decide)));replace BK354:=a_ (blk_grown (g:=gb354) (o:=.cells #[.int .i64 0,.int .i64 0,.slice none 0 0,.slice none 0 0,.int .i64 0,.int .i64 0] 77 (0,0)) (bp_ BK354.out) hg (Kd.R_ne HO_353003.out BK354.out (by decide)));replace BK366:=a_ (blk_grown (g:=gb366) (o:=.cells #[.int .i64 t356,.int .i64 (wrap64 ((wrap64 (t364+(t361.length:Int)))+1)),.int .i64 a1_0,.int .i64 a1_1,.int .i64 a1_2,.int .i64 a1_3,.string a1_4] 44 (0,0)) (bp_ BK366.out) hg (Kd.R_away HO_353003.out (fun _ hk=>hk)));replace HB:=a_ (hb);have HO371:=a_ (ho);clear HO_353003;clear ho hb hg hat;obtain ⟨Ao57,co57,eo57⟩:=Kd.R_slice HO371.out;subst eo57;obtain ⟨Z58_0,Z58_1,Z58_2,Z58_3,Z58_4,Z58_5,Y58_0,Y58_1,Y58_2,Y58_3,Y58_4,Y58_5⟩:=op6_ BK352.out;have hnb59:=NB353_354.out;have hnc59:=NB354_353.out;obtain ⟨Z60_0,Z60_1,Z60_2,Z60_3,Z60_4,Y60_0,Y60_1,Y60_2,Y60_3,Y60_4⟩:=op5_ BK353.out;obtain ⟨Z61_0,Z61_1,Z61_2,Z61_3,Z61_4,Z61_5,Y61_0,Y61_1,Y61_2,Y61_3,Y61_4,Y61_5⟩:=op6_ BK354.out))
       refine bodyPost_ret (results_ct rfl _ _ gb354 77 #[.int .i64 t356,.int .i64 t357,.slice Ao17 t358.length co17,.slice Ao57 y369.length co57,.int .i64 t364,.int .i64 (wrap64 (t365+1))] (0,0) _ rfl (k6p1_ NB354_352.out BK354.out) Tryd.underlying77 rfl (by kernel_rfl)) rfl ?_
       exact ⟨_,_,fi_,by (with_reducible repeat (first|apply Kd.R_alloc|apply Kd.R_drewN|apply Kd.R_drew));exact Kd.R_mono (rf6_ (g:=gb354) (Kd.R_far (p:=⟨gb352,5,none⟩) (Kd.R_far (p:=⟨gb352,3,none⟩) (Kd.R_types (Kd.R_types HO_353002.out BK352.out (by decide)) BK354.out (by decide)) (fun _ hk=>hk.1.2) (.slice Ao57 y369.length co57)) (fun _ hk=>hk.1.2) (.int .i64 (wrap64 (t365+1)))) (fun _ hk=>hk.2) (.int .i64 t356) (.int .i64 t357) (.slice Ao17 t358.length co17) (.slice Ao57 y369.length co57) (.int .i64 t364) (.int .i64 (wrap64 (t365+1)))) (fun _ hk=>trivial),by (with_reducible repeat (first|apply Kd.R_alloc|apply Kd.R_drewN|apply Kd.R_drew));exact Kd.R_mono (rf6_ (g:=gb354) (Kd.R_far (p:=⟨gb352,5,none⟩) (Kd.R_far (p:=⟨gb352,3,none⟩) (Kd.R_types (Kd.R_types HO371.out BK352.out (by decide)) BK354.out (by decide)) (fun _ hk=>hk.1.2) (.slice Ao57 y369.length co57)) (fun _ hk=>hk.1.2) (.int .i64 (wrap64 (t365+1)))) (fun _ hk=>hk.2) (.int .i64 t356) (.int .i64 t357) (.slice Ao17 t358.length co17) (.slice Ao57 y369.length co57) (.int .i64 t364) (.int .i64 (wrap64 (t365+1)))) (fun _ hk=>trivial),bel_⟩
      ·rw [if_neg c48] at H
       have c48b0:(a1_0==1)=false:=bn_ c48
       have c48b1:(a1_0 != 1)=true:=bne_iff_ne.mpr c48
       simp only [Option.some.injEq,Prod.mk.injEq] at H
       obtain ⟨rfl,rfl,rfl,rfl,rfl,rfl,rfl⟩:=H
       have hnb62:=NB352_353.out
       have hnc62:=NB353_352.out
       have hnb63:=NB352_354.out
       have hnc63:=NB354_352.out
       have hnb64:=NB352_366.out
       have hnc64:=NB366_352.out
       obtain ⟨Z65_0,Z65_1,Z65_2,Z65_3,Z65_4,Z65_5,Y65_0,Y65_1,Y65_2,Y65_3,Y65_4,Y65_5⟩:=op6_ (W:=wc) BK352.out
       have hnb66:=NB366_353.out
       have hnc66:=NB353_366.out
       have hnb67:=NB366_354.out
       have hnc67:=NB354_366.out
       obtain ⟨Z68_0,Z68_1,Z68_2,Z68_3,Z68_4,Z68_5,Z68_6,Y68_0,Y68_1,Y68_2,Y68_3,Y68_4,Y68_5,Y68_6⟩:=op7_ (W:=wc) BK366.out
       go_wp2_with (first|((with_reducible refine gate_builtin (b:=.append) (xs:=#[.tmp 45,.tmp 47]) rfl ?_);at_builtin;refine Kd.R_append k44 (w0:=w) w.heap.size rfl (.tmp 45) (.tmp 47) 23 44 (.agg #[(.int .i64 0),(.int .i64 0),(.int .i64 0),(.int .i64 0),(.int .i64 0),(.int .i64 0),(.string ⟨#[]⟩)]) 64 rfl Tryd.underlying23 info44 rfl (by decide) (by omega) (.slice Ao18 t361.length co18) t361 (⟨t356,(wrap64 ((wrap64 (t364+(t361.length:Int)))+1)),(⟨a1_0,a1_1,a1_2,a1_3,a1_4⟩:S42)⟩:S44) [.int .i64 t356,.int .i64 (wrap64 ((wrap64 (t364+(t361.length:Int)))+1)),.int .i64 a1_0,.int .i64 a1_1,.int .i64 a1_2,.int .i64 a1_3,.string a1_4] (fun k_=>k_≠gb366) (fun _=>False) rfl rfl ?aP (fun _ hk=>hk.elim) ?aF ?aO ?aB ?aS ?aL ?_;(case aP=>exact k44_mkM _ _ _ (⟨t356,(wrap64 ((wrap64 (t364+(t361.length:Int)))+1)),(⟨a1_0,a1_1,a1_2,a1_3,a1_4⟩:S42)⟩:S44));(case aB=>exact (bel_));(case aF=>exact (fun k_ hk=>Kd.freshB (g:=gb366) (o:=.cells #[.int .i64 t356,.int .i64 (wrap64 ((wrap64 (t364+(t361.length:Int)))+1)),.int .i64 a1_0,.int .i64 a1_1,.int .i64 a1_2,.int .i64 a1_3,.string a1_4] 44 (0,0)) (bp_ BK366.out) k_ hk));(case aO=>exact (rp_ HO_353003.out));(case aS=>exact (below_size (bel_)));(case aL=>have:=LMc47.out;omega);intro v370 w69 ho hb hg hat;rw [←Ny369.out] at ho;replace HO_353002:=a_ (Kd.R_over' (rp_ HO_353002.out) (Kd.R_typed (rp_ HO_353003.out)) (by decide) hg);replace BK352:=a_ (blk_grown (g:=gb352) (o:=.cells #[.int .i64 t356,.int .i64 t357,.slice Ao17 t358.length co17,.slice Ao18 t361.length co18,.int .i64 t364,.int .i64 t365] 77 (0,0)) (bp_ BK352.out) hg (Kd.R_ne HO_353003.out BK352.out (by decide)));replace BK353:=a_ (blk_grown (g:=gb353) (o:=.cells #[.int .i64 a1_0,.int .i64 a1_1,.int .i64 a1_2,.int .i64 a1_3,.string a1_4] 42 (0,0)) (bp_ BK353.out) hg (Kd.R_ne HO_353003.out BK353.out (by decide)));replace BK354:=a_ (blk_grown (g:=gb354) (o:=.cells #[.int .i64 0,.int .i64 0,.slice none 0 0,.slice none 0 0,.int .i64 0,.int .i64 0] 77 (0,0)) (bp_ BK354.out) hg (Kd.R_ne HO_353003.out BK354.out (by decide)));replace BK366:=a_ (blk_grown (g:=gb366) (o:=.cells #[.int .i64 t356,.int .i64 (wrap64 ((wrap64 (t364+(t361.length:Int)))+1)),.int .i64 a1_0,.int .i64 a1_1,.int .i64 a1_2,.int .i64 a1_3,.string a1_4] 44 (0,0)) (bp_ BK366.out) hg (Kd.R_away HO_353003.out (fun _ hk=>hk)));replace HB:=a_ (hb);have HO371:=a_ (ho);clear HO_353003;clear ho hb hg hat;obtain ⟨Ao70,co70,eo70⟩:=Kd.R_slice HO371.out;subst eo70;obtain ⟨Z71_0,Z71_1,Z71_2,Z71_3,Z71_4,Z71_5,Y71_0,Y71_1,Y71_2,Y71_3,Y71_4,Y71_5⟩:=op6_ BK352.out;have hnb72:=NB353_354.out;have hnc72:=NB354_353.out;obtain ⟨Z73_0,Z73_1,Z73_2,Z73_3,Z73_4,Y73_0,Y73_1,Y73_2,Y73_3,Y73_4⟩:=op5_ BK353.out;obtain ⟨Z74_0,Z74_1,Z74_2,Z74_3,Z74_4,Z74_5,Y74_0,Y74_1,Y74_2,Y74_3,Y74_4,Y74_5⟩:=op6_ BK354.out))
       refine bodyPost_ret (results_ct rfl _ _ gb354 77 #[.int .i64 t356,.int .i64 t357,.slice Ao17 t358.length co17,.slice Ao70 y369.length co70,.int .i64 t364,.int .i64 t365] (0,0) _ rfl (k6p1_ NB354_352.out BK354.out) Tryd.underlying77 rfl (by kernel_rfl)) rfl ?_
       exact ⟨_,_,fi_,by (with_reducible repeat (first|apply Kd.R_alloc|apply Kd.R_drewN|apply Kd.R_drew));exact Kd.R_mono (rf6_ (g:=gb354) (Kd.R_far (p:=⟨gb352,3,none⟩) (Kd.R_types (Kd.R_types HO_353002.out BK352.out (by decide)) BK354.out (by decide)) (fun _ hk=>hk.1.2) (.slice Ao70 y369.length co70)) (fun _ hk=>hk.2) (.int .i64 t356) (.int .i64 t357) (.slice Ao17 t358.length co17) (.slice Ao70 y369.length co70) (.int .i64 t364) (.int .i64 t365)) (fun _ hk=>trivial),by (with_reducible repeat (first|apply Kd.R_alloc|apply Kd.R_drewN|apply Kd.R_drew));exact Kd.R_mono (rf6_ (g:=gb354) (Kd.R_far (p:=⟨gb352,3,none⟩) (Kd.R_types (Kd.R_types HO371.out BK352.out (by decide)) BK354.out (by decide)) (fun _ hk=>hk.1.2) (.slice Ao70 y369.length co70)) (fun _ hk=>hk.2) (.int .i64 t356) (.int .i64 t357) (.slice Ao17 t358.length co17) (.slice Ao70 y369.length co70) (.int .i64 t364) (.int .i64 t365)) (fun _ hk=>trivial),bel_⟩
     ·rw [if_neg c47] at H
      exact absurd H (by simp)
 ·replace c4:=Bool.eq_false_iff.mpr c4
  subst c4
  have H1:(some (0,0,([]:List (S69)),([]:List (S44)),0,0,false))=some (r1,r2,r3,r4,r5,r6,r7):=by rw [if_neg (show ¬ (false=true) by decide)] at H;exact H
  clear H
  have H:=H1
  clear H1
  simp only [Option.some.injEq,Prod.mk.injEq] at H
  obtain ⟨rfl,rfl,rfl,rfl,rfl,rfl,rfl⟩:=H
  go_enter Tryd.func69,Tryd.ntmps69
  go_wp2_with (first|((with_reducible refine gD_ (N:=2) rfl ?_);refine bx_ 2 (#[.int .i64 a0_0,.int .i64 a0_1,.slice A0_2 l0_2.length c0_2,.slice A0_3 l0_3.length c0_3,.int .i64 a0_4,.int .i64 a0_5]) 77 ?_;intro gb352 hg w75 hbox hb;have n0_:=a_ (bS_ (bel_) hb);have n1_:=a_ (hbox);have n2_:=a_ ((by rw [hg];exact (below_size (bel_)):w.heap.size≤gb352));have n3_:=a_ ((by rw [hg];exact (below_size (bel_)):w.heap.size≤gb352));clear HB;have HB:=n0_;have BK352:=n1_;have GW352:=n2_;have GE352:=n3_;clear n0_ n1_ n2_ n3_;clear hb hbox hg)|((with_reducible refine gD_ (N:=3) rfl ?_);refine bx_ 3 (#[.int .i64 a1_0,.int .i64 a1_1,.int .i64 a1_2,.int .i64 a1_3,.string a1_4]) 42 ?_;intro gb353 hg w76 hbox hb;have n0_:=a_ (bb_ BK352.out hb);have n1_:=a_ (bS_ (bel_) hb);have n2_:=a_ (hbox);have n3_:=a_ ((by rw [hg];exact (below_size (bel_)):w.heap.size≤gb353));have n4_:=a_ ((by rw [hg];exact (below_size (bel_)):w.heap.size≤gb353));have n5_:=a_ ((by rw [hg];exact Nat.ne_of_lt (blk_lt (g:=gb352) (o:=.cells #[.int .i64 a0_0,.int .i64 a0_1,.slice A0_2 l0_2.length c0_2,.slice A0_3 l0_3.length c0_3,.int .i64 a0_4,.int .i64 a0_5] 77 (0,0)) (bp_ BK352.out)):gb352≠gb353));have n6_:=a_ ((by rw [hg];exact Nat.ne_of_gt (blk_lt (g:=gb352) (o:=.cells #[.int .i64 a0_0,.int .i64 a0_1,.slice A0_2 l0_2.length c0_2,.slice A0_3 l0_3.length c0_3,.int .i64 a0_4,.int .i64 a0_5] 77 (0,0)) (bp_ BK352.out)):gb353≠gb352));clear BK352;clear HB;have BK352:=n0_;have HB:=n1_;have BK353:=n2_;have GW353:=n3_;have GE353:=n4_;have NB352_353:=n5_;have NB353_352:=n6_;clear n0_ n1_ n2_ n3_ n4_ n5_ n6_;clear hb hbox hg)|((with_reducible refine gD_ (N:=4) rfl ?_);refine bx_ 4 (#[.int .i64 0,.int .i64 0,.slice none 0 0,.slice none 0 0,.int .i64 0,.int .i64 0]) 77 ?_;intro gb354 hg w77 hbox hb;have n0_:=a_ (bb_ BK352.out hb);have n1_:=a_ (bb_ BK353.out hb);have n2_:=a_ (bS_ (bel_) hb);have n3_:=a_ (hbox);have n4_:=a_ ((by rw [hg];exact (below_size (bel_)):w.heap.size≤gb354));have n5_:=a_ ((by rw [hg];exact (below_size (bel_)):w.heap.size≤gb354));have n6_:=a_ ((by rw [hg];exact Nat.ne_of_lt (blk_lt (g:=gb352) (o:=.cells #[.int .i64 a0_0,.int .i64 a0_1,.slice A0_2 l0_2.length c0_2,.slice A0_3 l0_3.length c0_3,.int .i64 a0_4,.int .i64 a0_5] 77 (0,0)) (bp_ BK352.out)):gb352≠gb354));have n7_:=a_ ((by rw [hg];exact Nat.ne_of_gt (blk_lt (g:=gb352) (o:=.cells #[.int .i64 a0_0,.int .i64 a0_1,.slice A0_2 l0_2.length c0_2,.slice A0_3 l0_3.length c0_3,.int .i64 a0_4,.int .i64 a0_5] 77 (0,0)) (bp_ BK352.out)):gb354≠gb352));have n8_:=a_ ((by rw [hg];exact Nat.ne_of_lt (blk_lt (g:=gb353) (o:=.cells #[.int .i64 a1_0,.int .i64 a1_1,.int .i64 a1_2,.int .i64 a1_3,.string a1_4] 42 (0,0)) (bp_ BK353.out)):gb353≠gb354));have n9_:=a_ ((by rw [hg];exact Nat.ne_of_gt (blk_lt (g:=gb353) (o:=.cells #[.int .i64 a1_0,.int .i64 a1_1,.int .i64 a1_2,.int .i64 a1_3,.string a1_4] 42 (0,0)) (bp_ BK353.out)):gb354≠gb353));clear BK352;clear BK353;clear HB;have BK352:=n0_;have BK353:=n1_;have HB:=n2_;have BK354:=n3_;have GW354:=n4_;have GE354:=n5_;have NB352_354:=n6_;have NB354_352:=n7_;have NB353_354:=n8_;have NB354_353:=n9_;clear n0_ n1_ n2_ n3_ n4_ n5_ n6_ n7_ n8_ n9_;clear hb hbox hg;have hnb78:=NB352_353.out;have hnc78:=NB353_352.out;have hnb79:=NB352_354.out;have hnc79:=NB354_352.out;obtain ⟨Z80_0,Z80_1,Z80_2,Z80_3,Z80_4,Z80_5,Y80_0,Y80_1,Y80_2,Y80_3,Y80_4,Y80_5⟩:=op6_ BK352.out)|((with_reducible refine gC_ (f:=60) rfl ?_);refine gl_ 8 Tryd.func60 #[.agg #[.int .i64 a0_0,.int .i64 a0_1,.slice A0_2 l0_2.length c0_2,.slice A0_3 l0_3.length c0_3,.int .i64 a0_4,.int .i64 a0_5]] ?_;(with_reducible refine (impl_ClientOk.calls k a0_0 a0_1 _ _ l0_2 _ _ l0_3 a0_4 a0_5 false _ ?side1 ?side2 ?side3 ?side4 A3.out ?side5).mono ?_);(case side1=>exact cp_ HR0_2.out);(case side2=>exact HC0_2.out);(case side3=>exact cx_ (Kd.C_below HR0_3.out HB.out));(case side4=>exact HC0_3.out);(case side5=>exact Glob.below HG.out (bel_));rintro e w81 ⟨rfl,hb⟩;refine ⟨_,rfl,?_⟩;replace HB:=a_ (bS_ (bel_) hb);replace BK352:=a_ (bb_ BK352.out hb);replace BK353:=a_ (bb_ BK353.out hb);replace BK354:=a_ (bb_ BK354.out hb);(try clear hb);have hnb82:=NB354_353.out;have hnc82:=NB353_354.out;obtain ⟨Z83_0,Z83_1,Z83_2,Z83_3,Z83_4,Z83_5,Y83_0,Y83_1,Y83_2,Y83_3,Y83_4,Y83_5⟩:=op6_ BK354.out))
  refine bodyPost_ret (results_ct rfl _ _ gb354 77 #[.int .i64 0,.int .i64 0,.slice none 0 0,.slice none 0 0,.int .i64 0,.int .i64 0] (0,0) _ rfl (k6p_ BK354.out) Tryd.underlying77 rfl (by kernel_rfl)) rfl ?_
  exact ⟨_,_,fi_,by first|exact Kd.R_nil _ _ _ _ _|exact Kd.N_nil _ _ _ _ _|exact Kd.V_nil _ _ _ _ _|exact Kd.Q_nil _ _ _ _ _|exact Kd.S_nil _ _ _ _ _,by first|exact Kd.R_nil _ _ _ _ _|exact Kd.N_nil _ _ _ _ _|exact Kd.V_nil _ _ _ _ _|exact Kd.Q_nil _ _ _ _ _|exact Kd.S_nil _ _ _ _ _,bel_⟩

def laws_markText.l0:Nat→Int→ByteArray→Option (ByteArray)
 | 0,_,_=>none
 | k+1,x0,x3=>if x0 > 0 then ((some (([(wrap64 (48+(Int.tmod x0 10))) % 256]:List Int):List Int)).bind fun y372=>(if (strOfNums y372).size+x3.size≤9223372036854775807 then (laws_markText.l0 k (wrap64 (Int.tdiv x0 10)) ((strOfNums y372)++x3)) else (none))) else (if 1+x3.size≤9223372036854775807 then (some ((⟨#[109]⟩:ByteArray)++x3)) else (none))
def laws_markText.f (k:Nat) (a0:Int):Option (ByteArray):=if a0≤0 then (some (⟨#[109,48]⟩:ByteArray)) else (laws_markText.l0 k a0 (⟨#[]⟩:ByteArray))
theorem laws_markText.calls (k:Nat) (a0:Int) (r:ByteArray) (w:World) (h:laws_markText.f k a0=some r) :
  Calls Tryd.prog 103 #[.int .i64 a0] w fun e w'=>e=.returned (.string r)∧Below w.heap.size w w':=by
 have HB:=a_ (Below.refl w.heap.size w)
 unfold laws_markText.f at h
 have H:=h
 clear h
 by_cases c2:a0≤0
 ·rw [if_pos c2] at H
  have c2b0:decide (a0≤0)=true:=dt_ c2
  clear c2
  obtain rfl:=sj_ H
  go_enter Tryd.func103,Tryd.ntmps103
  go_wp2
  go_ret
  exact ⟨fi_,bel_⟩
 ·rw [if_neg c2] at H
  have c2b0:decide (a0≤0)=false:=df_ c2
  clear c2
  have H':=a_ H
  clear H
  go_enter Tryd.func103,Tryd.ntmps103
  go_wp2
  go_loopg [0,3] k (fun kq v0 v3 w'=>∃ (x0_1:Int) (x3_1:ByteArray),v0=.int .i64 x0_1∧v3=.string x3_1∧Aside0 (laws_markText.l0 kq x0_1 x3_1=some r)∧Aside0 (kq≤k)∧Aside0 (Below w.heap.size w w'))
  case atStart=>exact ⟨(a0),((⟨#[]⟩:ByteArray)),(si_),(si_),H',⟨Nat.le_refl _⟩,⟨bel_⟩⟩
  case round =>
   clear H'
   try clear c1
   try clear c2
   try clear c2b0
   try clear p2
   obtain ⟨x0_1,x3_1,rfl,rfl,HA,HK1,HB⟩:=hrel
   cases gk with
   | zero=>exact absurd HA.out (by simp [laws_markText.l0])
   | succ k1 =>
    have H:=HA.out
    clear HA
    simp only [laws_markText.l0] at H
    by_cases c3:x0_1 > 0
    ·rw [if_pos c3] at H
     have c3b0:decide (0 < x0_1)=true:=dt_ c3
     clear c3
     obtain ⟨y372,hy372⟩:∃ y_:List Int,y_=(([(wrap64 (48+(Int.tmod x0_1 10))) % 256]:List Int)):=⟨_,rfl⟩
     replace H:(if (strOfNums y372).size+x3_1.size≤9223372036854775807 then (laws_markText.l0 k1 (wrap64 (Int.tdiv x0_1 10)) ((strOfNums y372)++x3_1)) else (none))=some r:=by first|(rw [hy372];with_reducible exact H)|(have H2_:=(Option.bind_some _ _).symm.trans H;rw [hy372];with_reducible exact H2_)|(have H2_:=(Option.bind_some _ _).symm.trans H;with_reducible exact H2_)|with_reducible exact H|(rw [hy372];exact H)|exact H
     have Ny372:=a_ hy372
     clear hy372
     by_cases c4:(strOfNums y372).size+x3_1.size≤9223372036854775807
     ·rw [if_pos c4] at H
      have c4b0:=eq_true c4
      have c4b1:decide ((strOfNums y372).size+x3_1.size≤9223372036854775807)=true:=dt_ c4
      try have c4b2:(9223372036854775807 < (strOfNums y372).size+x3_1.size)=False:=eq_false (Nat.not_lt.2 c4)
      have H':=a_ H
      clear H
      go_wp2_with (first|((with_reducible refine gD_ (N:=12) rfl ?_);refine Kd.R_lit (Kd.int .u8) _ 5 ?hg (N:=12) ?hd (xs:=([(wrap64 (48+(Int.tmod x0_1 10))) % 256]:List Int)) (inner:=[.int .u8 ((wrap64 (48+(Int.tmod x0_1 10))) % 256)]) (ok:=fun _=>True) (okp:=fun _=>True) ?hr ?hp (fun _ hk=>hk) trivial (Below.refl _ _) (Nat.le_refl _) (by simp) ?_;(case hd=>rfl);(case hg=>rfl);(case hr=>first|(go_simp;done)|(go_simp;rfl));(case hp=>exact (Reps.one (show Kd.M (Kd.int .u8) _ _ _ ((wrap64 (48+(Int.tmod x0_1 10))) % 256) [.int .u8 ((wrap64 (48+(Int.tmod x0_1 10))) % 256)] from rfl) (Reps.none _ _)));intro v373 w5 ho6 hb hg_ hnew_;clear hg_ hnew_;(first|rw [←Ny372.out] at ho6|(simp only [Int.reduceToNat] at ho6;rw [←Ny372.out] at ho6));have HO374:=a_ (Kd.R_lower ho6 (below_size (bel_)));replace HB:=a_ (bS_ (bel_) hb);clear hb ho6;have hcv7:=own_string (P:=Tryd.prog) Tryd.underlying22 Tryd.underlying5 Tryd.underlying9 (Kd.own_of_R HO374.out)))
      go_roundg k1
      case measure=>have:=HK1.out;omega
      case rel=>exact ⟨(wrap64 (Int.tdiv x0_1 10)),((strOfNums y372)++x3_1),(si_),(si_),H',⟨by have:=HK1.out;omega⟩,⟨bel_⟩⟩
     ·rw [if_neg c4] at H
      exact absurd H (by simp)
    ·rw [if_neg c3] at H
     have c3b0:decide (0 < x0_1)=false:=df_ c3
     clear c3
     by_cases c8:1+x3_1.size≤9223372036854775807
     ·rw [if_pos c8] at H
      have c8b0:=eq_true c8
      have c8b1:decide (1+x3_1.size≤9223372036854775807)=true:=dt_ c8
      try have c8b2:(9223372036854775807 < 1+x3_1.size)=False:=eq_false (Nat.not_lt.2 c8)
      obtain rfl:=sj_ H
      go_wp2
      go_ret
      exact ⟨fi_,bel_⟩
     ·rw [if_neg c8] at H
      exact absurd H (by simp)

def laws_markEntryS.l0:Nat→List (S44)→Int→Int→Option (Int×(List (S44)))
 | 0,_,_,_=>none
 | k+1,x0,x1,x5=>if x5 < (x0.length:Int) then (if 0≤x5 then ((some (x0.set (x5:Int).toNat (⟨x1,(rd_T44 x0 x5).f1,(⟨(rd_T44 x0 x5).f2.f0,(rd_T44 x0 x5).f2.f1,(rd_T44 x0 x5).f2.f2,(rd_T44 x0 x5).f2.f3,(rd_T44 x0 x5).f2.f4⟩:S42)⟩:S44):List (S44))).bind fun y375=>((some (y375.set (x5:Int).toNat (⟨(rd_T44 y375 x5).f0,wrap64 (x1+1),(⟨(rd_T44 y375 x5).f2.f0,(rd_T44 y375 x5).f2.f1,(rd_T44 y375 x5).f2.f2,(rd_T44 y375 x5).f2.f3,(rd_T44 y375 x5).f2.f4⟩:S42)⟩:S44):List (S44))).bind fun y376=>((some (y376.set (x5:Int).toNat (⟨(rd_T44 y376 x5).f0,(rd_T44 y376 x5).f1,(⟨wrap64 ((wrap64 (x1+1))+1),(rd_T44 y376 x5).f2.f1,(rd_T44 y376 x5).f2.f2,(rd_T44 y376 x5).f2.f3,(rd_T44 y376 x5).f2.f4⟩:S42)⟩:S44):List (S44))).bind fun y377=>((some (y377.set (x5:Int).toNat (⟨(rd_T44 y377 x5).f0,(rd_T44 y377 x5).f1,(⟨(rd_T44 y377 x5).f2.f0,wrap64 ((wrap64 ((wrap64 (x1+1))+1))+1),(rd_T44 y377 x5).f2.f2,(rd_T44 y377 x5).f2.f3,(rd_T44 y377 x5).f2.f4⟩:S42)⟩:S44):List (S44))).bind fun y378=>((some (y378.set (x5:Int).toNat (⟨(rd_T44 y378 x5).f0,(rd_T44 y378 x5).f1,(⟨(rd_T44 y378 x5).f2.f0,(rd_T44 y378 x5).f2.f1,wrap64 ((wrap64 ((wrap64 ((wrap64 (x1+1))+1))+1))+1),(rd_T44 y378 x5).f2.f3,(rd_T44 y378 x5).f2.f4⟩:S42)⟩:S44):List (S44))).bind fun y379=>((some (y379.set (x5:Int).toNat (⟨(rd_T44 y379 x5).f0,(rd_T44 y379 x5).f1,(⟨(rd_T44 y379 x5).f2.f0,(rd_T44 y379 x5).f2.f1,(rd_T44 y379 x5).f2.f2,wrap64 ((wrap64 ((wrap64 ((wrap64 ((wrap64 (x1+1))+1))+1))+1))+1),(rd_T44 y379 x5).f2.f4⟩:S42)⟩:S44):List (S44))).bind fun y380=>((laws_markText.f k (wrap64 ((wrap64 ((wrap64 ((wrap64 ((wrap64 ((wrap64 (x1+1))+1))+1))+1))+1))+1))).bind fun t381=>(laws_markEntryS.l0 k (y380.set (x5:Int).toNat (⟨(rd_T44 y380 x5).f0,(rd_T44 y380 x5).f1,(⟨(rd_T44 y380 x5).f2.f0,(rd_T44 y380 x5).f2.f1,(rd_T44 y380 x5).f2.f2,(rd_T44 y380 x5).f2.f3,t381⟩:S42)⟩:S44)) (wrap64 ((wrap64 ((wrap64 ((wrap64 ((wrap64 ((wrap64 ((wrap64 (x1+1))+1))+1))+1))+1))+1))+1)) (wrap64 (x5+1)))))))))) else (none)) else (some (x1,x0))
def laws_markEntryS.f (k:Nat) (l0:List (S44)) (a1:Int):Option (Int×(List (S44))):=laws_markEntryS.l0 k l0 a1 0
theorem laws_markEntryS.calls (k:Nat) (P0_:Nat→Prop) (u9000_:Value) (l0:List (S44)) (a1:Int) (r1:Int) (r2:List (S44)) (w0 w:World) (hB:Below w0.heap.size w0 w) (ho0:Kd.R k44 44 w w0.heap.size P0_ u9000_ l0) (h:laws_markEntryS.f k l0 a1=some (r1,r2)) :
  Calls Tryd.prog 53 #[u9000_,.int .i64 a1] w fun e w'=>e=.returned (.int .i64 r1)∧Kd.R k44 44 w' w0.heap.size (fun k_=>(P0_ k_∨w.heap.size≤k_)) u9000_ r2∧Below w0.heap.size w0 w'∧Kept w w' (fun k_=>P0_ k_):=by
 have HO0:=a_ (show Kd.R k44 44 w w0.heap.size (fun k_=>(P0_ k_∨w.heap.size≤k_)) u9000_ l0 from Kd.R_mono ho0 (fun k_ hk=>(.inl hk)))
 have HK:=a_ (Kept.refl w (fun k_=>P0_ k_))
 have HW0:=a_ hB.size
 have HB:=a_ hB
 clear hB
 unfold laws_markEntryS.f at h
 have H:=h
 clear h
 have H':=a_ H
 clear H
 go_enter Tryd.func53,Tryd.ntmps53
 go_wp2
 go_loopg [1,5] k (fun kq v1 v5 w'=>∃ (x0_1:List (S44)) (x1_1:Int) (x5_1:Int),v1=.int .i64 x1_1∧v5=.int .i64 x5_1∧Aside0 (laws_markEntryS.l0 kq x0_1 x1_1 x5_1=some (r1,r2))∧Aside0 (kq≤k)∧Aside0 (Kd.R k44 44 w' w0.heap.size (fun k_=>(P0_ k_∨w.heap.size≤k_)) u9000_ x0_1)∧Aside0 (Kept w w' (fun k_=>P0_ k_))∧Aside0 (Below w0.heap.size w0 w'))
 case atStart=>exact ⟨(l0),(a1),(0),(si_),(si_),H',⟨Nat.le_refl _⟩,⟨by (with_reducible repeat (first|apply Kd.R_alloc|apply Kd.R_drewN|apply Kd.R_drew));exact HO0.out⟩,⟨by repeat (first|(with_reducible first|exact HK.out|apply Kept.alloc|apply Kept.drewN|apply Kept.drew)|exact HK.out)⟩,⟨bel_⟩⟩
 case round =>
  clear H'
  try clear p2
  obtain ⟨x0_1,x1_1,x5_1,rfl,rfl,HA,HK1,HO_0,HK,HB⟩:=hrel
  cases gk with
  | zero=>exact absurd HA.out (by simp [laws_markEntryS.l0])
  | succ k1 =>
   have H:=HA.out
   clear HA
   simp only [laws_markEntryS.l0] at H
   by_cases c3:x5_1 < (x0_1.length:Int)
   ·rw [if_pos c3] at H
    have c3b0:decide (x5_1 < (x0_1.length:Int))=true:=dt_ c3
    clear c3
    by_cases c4:0≤x5_1
    ·rw [if_pos c4] at H
     have c4b0:decide (0≤x5_1)=true:=dt_ c4
     clear c4
     obtain ⟨y375,hy375⟩:∃ y_:List (S44),y_=(x0_1.set (x5_1:Int).toNat (⟨x1_1,(rd_T44 x0_1 x5_1).f1,(⟨(rd_T44 x0_1 x5_1).f2.f0,(rd_T44 x0_1 x5_1).f2.f1,(rd_T44 x0_1 x5_1).f2.f2,(rd_T44 x0_1 x5_1).f2.f3,(rd_T44 x0_1 x5_1).f2.f4⟩:S42)⟩:S44)):=⟨_,rfl⟩
     replace H:((some (y375.set (x5_1:Int).toNat (⟨(rd_T44 y375 x5_1).f0,wrap64 (x1_1+1),(⟨(rd_T44 y375 x5_1).f2.f0,(rd_T44 y375 x5_1).f2.f1,(rd_T44 y375 x5_1).f2.f2,(rd_T44 y375 x5_1).f2.f3,(rd_T44 y375 x5_1).f2.f4⟩:S42)⟩:S44):List (S44))).bind fun y376=>((some (y376.set (x5_1:Int).toNat (⟨(rd_T44 y376 x5_1).f0,(rd_T44 y376 x5_1).f1,(⟨wrap64 ((wrap64 (x1_1+1))+1),(rd_T44 y376 x5_1).f2.f1,(rd_T44 y376 x5_1).f2.f2,(rd_T44 y376 x5_1).f2.f3,(rd_T44 y376 x5_1).f2.f4⟩:S42)⟩:S44):List (S44))).bind fun y377=>((some (y377.set (x5_1:Int).toNat (⟨(rd_T44 y377 x5_1).f0,(rd_T44 y377 x5_1).f1,(⟨(rd_T44 y377 x5_1).f2.f0,wrap64 ((wrap64 ((wrap64 (x1_1+1))+1))+1),(rd_T44 y377 x5_1).f2.f2,(rd_T44 y377 x5_1).f2.f3,(rd_T44 y377 x5_1).f2.f4⟩:S42)⟩:S44):List (S44))).bind fun y378=>((some (y378.set (x5_1:Int).toNat (⟨(rd_T44 y378 x5_1).f0,(rd_T44 y378 x5_1).f1,(⟨(rd_T44 y378 x5_1).f2.f0,(rd_T44 y378 x5_1).f2.f1,wrap64 ((wrap64 ((wrap64 ((wrap64 (x1_1+1))+1))+1))+1),(rd_T44 y378 x5_1).f2.f3,(rd_T44 y378 x5_1).f2.f4⟩:S42)⟩:S44):List (S44))).bind fun y379=>((some (y379.set (x5_1:Int).toNat (⟨(rd_T44 y379 x5_1).f0,(rd_T44 y379 x5_1).f1,(⟨(rd_T44 y379 x5_1).f2.f0,(rd_T44 y379 x5_1).f2.f1,(rd_T44 y379 x5_1).f2.f2,wrap64 ((wrap64 ((wrap64 ((wrap64 ((wrap64 (x1_1+1))+1))+1))+1))+1),(rd_T44 y379 x5_1).f2.f4⟩:S42)⟩:S44):List (S44))).bind fun y380=>((laws_markText.f k1 (wrap64 ((wrap64 ((wrap64 ((wrap64 ((wrap64 ((wrap64 (x1_1+1))+1))+1))+1))+1))+1))).bind fun t381=>(laws_markEntryS.l0 k1 (y380.set (x5_1:Int).toNat (⟨(rd_T44 y380 x5_1).f0,(rd_T44 y380 x5_1).f1,(⟨(rd_T44 y380 x5_1).f2.f0,(rd_T44 y380 x5_1).f2.f1,(rd_T44 y380 x5_1).f2.f2,(rd_T44 y380 x5_1).f2.f3,t381⟩:S42)⟩:S44)) (wrap64 ((wrap64 ((wrap64 ((wrap64 ((wrap64 ((wrap64 ((wrap64 (x1_1+1))+1))+1))+1))+1))+1))+1)) (wrap64 (x5_1+1)))))))))=some (r1,r2):=by first|(rw [hy375];with_reducible exact H)|(have H2_:=(Option.bind_some _ _).symm.trans H;rw [hy375];with_reducible exact H2_)|(have H2_:=(Option.bind_some _ _).symm.trans H;with_reducible exact H2_)|with_reducible exact H|(rw [hy375];exact H)|exact H
     have Ny375:=a_ hy375
     clear hy375
     obtain ⟨y376,hy376⟩:∃ y_:List (S44),y_=(y375.set (x5_1:Int).toNat (⟨(rd_T44 y375 x5_1).f0,wrap64 (x1_1+1),(⟨(rd_T44 y375 x5_1).f2.f0,(rd_T44 y375 x5_1).f2.f1,(rd_T44 y375 x5_1).f2.f2,(rd_T44 y375 x5_1).f2.f3,(rd_T44 y375 x5_1).f2.f4⟩:S42)⟩:S44)):=⟨_,rfl⟩
     replace H:((some (y376.set (x5_1:Int).toNat (⟨(rd_T44 y376 x5_1).f0,(rd_T44 y376 x5_1).f1,(⟨wrap64 ((wrap64 (x1_1+1))+1),(rd_T44 y376 x5_1).f2.f1,(rd_T44 y376 x5_1).f2.f2,(rd_T44 y376 x5_1).f2.f3,(rd_T44 y376 x5_1).f2.f4⟩:S42)⟩:S44):List (S44))).bind fun y377=>((some (y377.set (x5_1:Int).toNat (⟨(rd_T44 y377 x5_1).f0,(rd_T44 y377 x5_1).f1,(⟨(rd_T44 y377 x5_1).f2.f0,wrap64 ((wrap64 ((wrap64 (x1_1+1))+1))+1),(rd_T44 y377 x5_1).f2.f2,(rd_T44 y377 x5_1).f2.f3,(rd_T44 y377 x5_1).f2.f4⟩:S42)⟩:S44):List (S44))).bind fun y378=>((some (y378.set (x5_1:Int).toNat (⟨(rd_T44 y378 x5_1).f0,(rd_T44 y378 x5_1).f1,(⟨(rd_T44 y378 x5_1).f2.f0,(rd_T44 y378 x5_1).f2.f1,wrap64 ((wrap64 ((wrap64 ((wrap64 (x1_1+1))+1))+1))+1),(rd_T44 y378 x5_1).f2.f3,(rd_T44 y378 x5_1).f2.f4⟩:S42)⟩:S44):List (S44))).bind fun y379=>((some (y379.set (x5_1:Int).toNat (⟨(rd_T44 y379 x5_1).f0,(rd_T44 y379 x5_1).f1,(⟨(rd_T44 y379 x5_1).f2.f0,(rd_T44 y379 x5_1).f2.f1,(rd_T44 y379 x5_1).f2.f2,wrap64 ((wrap64 ((wrap64 ((wrap64 ((wrap64 (x1_1+1))+1))+1))+1))+1),(rd_T44 y379 x5_1).f2.f4⟩:S42)⟩:S44):List (S44))).bind fun y380=>((laws_markText.f k1 (wrap64 ((wrap64 ((wrap64 ((wrap64 ((wrap64 ((wrap64 (x1_1+1))+1))+1))+1))+1))+1))).bind fun t381=>(laws_markEntryS.l0 k1 (y380.set (x5_1:Int).toNat (⟨(rd_T44 y380 x5_1).f0,(rd_T44 y380 x5_1).f1,(⟨(rd_T44 y380 x5_1).f2.f0,(rd_T44 y380 x5_1).f2.f1,(rd_T44 y380 x5_1).f2.f2,(rd_T44 y380 x5_1).f2.f3,t381⟩:S42)⟩:S44)) (wrap64 ((wrap64 ((wrap64 ((wrap64 ((wrap64 ((wrap64 ((wrap64 (x1_1+1))+1))+1))+1))+1))+1))+1)) (wrap64 (x5_1+1))))))))=some (r1,r2):=by first|(rw [hy376];with_reducible exact H)|(have H2_:=(Option.bind_some _ _).symm.trans H;rw [hy376];with_reducible exact H2_)|(have H2_:=(Option.bind_some _ _).symm.trans H;with_reducible exact H2_)|with_reducible exact H|(rw [hy376];exact H)|exact H
     have Ny376:=a_ hy376
     clear hy376
     obtain ⟨y377,hy377⟩:∃ y_:List (S44),y_=(y376.set (x5_1:Int).toNat (⟨(rd_T44 y376 x5_1).f0,(rd_T44 y376 x5_1).f1,(⟨wrap64 ((wrap64 (x1_1+1))+1),(rd_T44 y376 x5_1).f2.f1,(rd_T44 y376 x5_1).f2.f2,(rd_T44 y376 x5_1).f2.f3,(rd_T44 y376 x5_1).f2.f4⟩:S42)⟩:S44)):=⟨_,rfl⟩
     replace H:((some (y377.set (x5_1:Int).toNat (⟨(rd_T44 y377 x5_1).f0,(rd_T44 y377 x5_1).f1,(⟨(rd_T44 y377 x5_1).f2.f0,wrap64 ((wrap64 ((wrap64 (x1_1+1))+1))+1),(rd_T44 y377 x5_1).f2.f2,(rd_T44 y377 x5_1).f2.f3,(rd_T44 y377 x5_1).f2.f4⟩:S42)⟩:S44):List (S44))).bind fun y378=>((some (y378.set (x5_1:Int).toNat (⟨(rd_T44 y378 x5_1).f0,(rd_T44 y378 x5_1).f1,(⟨(rd_T44 y378 x5_1).f2.f0,(rd_T44 y378 x5_1).f2.f1,wrap64 ((wrap64 ((wrap64 ((wrap64 (x1_1+1))+1))+1))+1),(rd_T44 y378 x5_1).f2.f3,(rd_T44 y378 x5_1).f2.f4⟩:S42)⟩:S44):List (S44))).bind fun y379=>((some (y379.set (x5_1:Int).toNat (⟨(rd_T44 y379 x5_1).f0,(rd_T44 y379 x5_1).f1,(⟨(rd_T44 y379 x5_1).f2.f0,(rd_T44 y379 x5_1).f2.f1,(rd_T44 y379 x5_1).f2.f2,wrap64 ((wrap64 ((wrap64 ((wrap64 ((wrap64 (x1_1+1))+1))+1))+1))+1),(rd_T44 y379 x5_1).f2.f4⟩:S42)⟩:S44):List (S44))).bind fun y380=>((laws_markText.f k1 (wrap64 ((wrap64 ((wrap64 ((wrap64 ((wrap64 ((wrap64 (x1_1+1))+1))+1))+1))+1))+1))).bind fun t381=>(laws_markEntryS.l0 k1 (y380.set (x5_1:Int).toNat (⟨(rd_T44 y380 x5_1).f0,(rd_T44 y380 x5_1).f1,(⟨(rd_T44 y380 x5_1).f2.f0,(rd_T44 y380 x5_1).f2.f1,(rd_T44 y380 x5_1).f2.f2,(rd_T44 y380 x5_1).f2.f3,t381⟩:S42)⟩:S44)) (wrap64 ((wrap64 ((wrap64 ((wrap64 ((wrap64 ((wrap64 ((wrap64 (x1_1+1))+1))+1))+1))+1))+1))+1)) (wrap64 (x5_1+1)))))))=some (r1,r2):=by first|(rw [hy377];with_reducible exact H)|(have H2_:=(Option.bind_some _ _).symm.trans H;rw [hy377];with_reducible exact H2_)|(have H2_:=(Option.bind_some _ _).symm.trans H;with_reducible exact H2_)|with_reducible exact H|(rw [hy377];exact H)|exact H
     have Ny377:=a_ hy377
     clear hy377
     obtain ⟨y378,hy378⟩:∃ y_:List (S44),y_=(y377.set (x5_1:Int).toNat (⟨(rd_T44 y377 x5_1).f0,(rd_T44 y377 x5_1).f1,(⟨(rd_T44 y377 x5_1).f2.f0,wrap64 ((wrap64 ((wrap64 (x1_1+1))+1))+1),(rd_T44 y377 x5_1).f2.f2,(rd_T44 y377 x5_1).f2.f3,(rd_T44 y377 x5_1).f2.f4⟩:S42)⟩:S44)):=⟨_,rfl⟩
     replace H:((some (y378.set (x5_1:Int).toNat (⟨(rd_T44 y378 x5_1).f0,(rd_T44 y378 x5_1).f1,(⟨(rd_T44 y378 x5_1).f2.f0,(rd_T44 y378 x5_1).f2.f1,wrap64 ((wrap64 ((wrap64 ((wrap64 (x1_1+1))+1))+1))+1),(rd_T44 y378 x5_1).f2.f3,(rd_T44 y378 x5_1).f2.f4⟩:S42)⟩:S44):List (S44))).bind fun y379=>((some (y379.set (x5_1:Int).toNat (⟨(rd_T44 y379 x5_1).f0,(rd_T44 y379 x5_1).f1,(⟨(rd_T44 y379 x5_1).f2.f0,(rd_T44 y379 x5_1).f2.f1,(rd_T44 y379 x5_1).f2.f2,wrap64 ((wrap64 ((wrap64 ((wrap64 ((wrap64 (x1_1+1))+1))+1))+1))+1),(rd_T44 y379 x5_1).f2.f4⟩:S42)⟩:S44):List (S44))).bind fun y380=>((laws_markText.f k1 (wrap64 ((wrap64 ((wrap64 ((wrap64 ((wrap64 ((wrap64 (x1_1+1))+1))+1))+1))+1))+1))).bind fun t381=>(laws_markEntryS.l0 k1 (y380.set (x5_1:Int).toNat (⟨(rd_T44 y380 x5_1).f0,(rd_T44 y380 x5_1).f1,(⟨(rd_T44 y380 x5_1).f2.f0,(rd_T44 y380 x5_1).f2.f1,(rd_T44 y380 x5_1).f2.f2,(rd_T44 y380 x5_1).f2.f3,t381⟩:S42)⟩:S44)) (wrap64 ((wrap64 ((wrap64 ((wrap64 ((wrap64 ((wrap64 ((wrap64 (x1_1+1))+1))+1))+1))+1))+1))+1)) (wrap64 (x5_1+1))))))=some (r1,r2):=by first|(rw [hy378];with_reducible exact H)|(have H2_:=(Option.bind_some _ _).symm.trans H;rw [hy378];with_reducible exact H2_)|(have H2_:=(Option.bind_some _ _).symm.trans H;with_reducible exact H2_)|with_reducible exact H|(rw [hy378];exact H)|exact H
     have Ny378:=a_ hy378
     clear hy378
     obtain ⟨y379,hy379⟩:∃ y_:List (S44),y_=(y378.set (x5_1:Int).toNat (⟨(rd_T44 y378 x5_1).f0,(rd_T44 y378 x5_1).f1,(⟨(rd_T44 y378 x5_1).f2.f0,(rd_T44 y378 x5_1).f2.f1,wrap64 ((wrap64 ((wrap64 ((wrap64 (x1_1+1))+1))+1))+1),(rd_T44 y378 x5_1).f2.f3,(rd_T44 y378 x5_1).f2.f4⟩:S42)⟩:S44)):=⟨_,rfl⟩
     replace H:((some (y379.set (x5_1:Int).toNat (⟨(rd_T44 y379 x5_1).f0,(rd_T44 y379 x5_1).f1,(⟨(rd_T44 y379 x5_1).f2.f0,(rd_T44 y379 x5_1).f2.f1,(rd_T44 y379 x5_1).f2.f2,wrap64 ((wrap64 ((wrap64 ((wrap64 ((wrap64 (x1_1+1))+1))+1))+1))+1),(rd_T44 y379 x5_1).f2.f4⟩:S42)⟩:S44):List (S44))).bind fun y380=>((laws_markText.f k1 (wrap64 ((wrap64 ((wrap64 ((wrap64 ((wrap64 ((wrap64 (x1_1+1))+1))+1))+1))+1))+1))).bind fun t381=>(laws_markEntryS.l0 k1 (y380.set (x5_1:Int).toNat (⟨(rd_T44 y380 x5_1).f0,(rd_T44 y380 x5_1).f1,(⟨(rd_T44 y380 x5_1).f2.f0,(rd_T44 y380 x5_1).f2.f1,(rd_T44 y380 x5_1).f2.f2,(rd_T44 y380 x5_1).f2.f3,t381⟩:S42)⟩:S44)) (wrap64 ((wrap64 ((wrap64 ((wrap64 ((wrap64 ((wrap64 ((wrap64 (x1_1+1))+1))+1))+1))+1))+1))+1)) (wrap64 (x5_1+1)))))=some (r1,r2):=by first|(rw [hy379];with_reducible exact H)|(have H2_:=(Option.bind_some _ _).symm.trans H;rw [hy379];with_reducible exact H2_)|(have H2_:=(Option.bind_some _ _).symm.trans H;with_reducible exact H2_)|with_reducible exact H|(rw [hy379];exact H)|exact H
     have Ny379:=a_ hy379
     clear hy379
     obtain ⟨y380,hy380⟩:∃ y_:List (S44),y_=(y379.set (x5_1:Int).toNat (⟨(rd_T44 y379 x5_1).f0,(rd_T44 y379 x5_1).f1,(⟨(rd_T44 y379 x5_1).f2.f0,(rd_T44 y379 x5_1).f2.f1,(rd_T44 y379 x5_1).f2.f2,wrap64 ((wrap64 ((wrap64 ((wrap64 ((wrap64 (x1_1+1))+1))+1))+1))+1),(rd_T44 y379 x5_1).f2.f4⟩:S42)⟩:S44)):=⟨_,rfl⟩
     replace H:((laws_markText.f k1 (wrap64 ((wrap64 ((wrap64 ((wrap64 ((wrap64 ((wrap64 (x1_1+1))+1))+1))+1))+1))+1))).bind fun t381=>(laws_markEntryS.l0 k1 (y380.set (x5_1:Int).toNat (⟨(rd_T44 y380 x5_1).f0,(rd_T44 y380 x5_1).f1,(⟨(rd_T44 y380 x5_1).f2.f0,(rd_T44 y380 x5_1).f2.f1,(rd_T44 y380 x5_1).f2.f2,(rd_T44 y380 x5_1).f2.f3,t381⟩:S42)⟩:S44)) (wrap64 ((wrap64 ((wrap64 ((wrap64 ((wrap64 ((wrap64 ((wrap64 (x1_1+1))+1))+1))+1))+1))+1))+1)) (wrap64 (x5_1+1))))=some (r1,r2):=by first|(rw [hy380];with_reducible exact H)|(have H2_:=(Option.bind_some _ _).symm.trans H;rw [hy380];with_reducible exact H2_)|(have H2_:=(Option.bind_some _ _).symm.trans H;with_reducible exact H2_)|with_reducible exact H|(rw [hy380];exact H)|exact H
     have Ny380:=a_ hy380
     clear hy380
     replace H:=bs_ H
     obtain ⟨t381,A110,H⟩:=H
     try dsimp only at H
     have A11:=a_ A110
     clear A110
     obtain ⟨y382,hy382⟩:∃ y_:List (S44),y_=(y380.set (x5_1:Int).toNat (⟨(rd_T44 y380 x5_1).f0,(rd_T44 y380 x5_1).f1,(⟨(rd_T44 y380 x5_1).f2.f0,(rd_T44 y380 x5_1).f2.f1,(rd_T44 y380 x5_1).f2.f2,(rd_T44 y380 x5_1).f2.f3,t381⟩:S42)⟩:S44)):=⟨_,rfl⟩
     replace H:(laws_markEntryS.l0 k1 y382 (wrap64 ((wrap64 ((wrap64 ((wrap64 ((wrap64 ((wrap64 ((wrap64 (x1_1+1))+1))+1))+1))+1))+1))+1)) (wrap64 (x5_1+1)))=some (r1,r2):=by first|(rw [hy382];with_reducible exact H)|(have H2_:=(Option.bind_some _ _).symm.trans H;rw [hy382];with_reducible exact H2_)|(have H2_:=(Option.bind_some _ _).symm.trans H;with_reducible exact H2_)|with_reducible exact H|(rw [hy382];exact H)|exact H
     have Ny382:=a_ hy382
     clear hy382
     have H':=a_ H
     clear H
     obtain ⟨Ao13,co13,eo13⟩:=Kd.R_slice HO_0.out
     subst eo13
     have p5:0≤(x5_1:Int):=od_
     have q5:(x5_1:Int) < ((x0_1.length:Int):Int):=od_
     obtain ⟨go5,co5,eo5,gb5,gl5,cl5,HG5⟩:=Kd.R_form HO_0.out (by omega)
     (first|cases eo5|(injection eo5 with ea_ en_ ec_;(first|subst ea_|(injection ea_ with ea_;subst ea_));subst ec_;clear en_))
     have GB5:=a_ gb5
     have GG5:=a_ HG5
     clear gb5 gl5 HG5
     have HMgo5:=a_ (show (P0_ go5∨w.heap.size≤go5) from (HO_0.out.1 _ rfl))
     obtain ⟨ce5,hcl5,hM5,hcc5,hfr5⟩:=Kd.R_elem HO_0.out z44 (x5_1:Int) p5 q5
     obtain rfl:=k44_openM hM5
     have hx5_0:wr.cell? ⟨go5,(x5_1:Int).toNat * 7,none⟩=some (.int .i64 ((rd_T44 x0_1 x5_1).f0)):=hcc5 0 _ rfl
     have hx5_1:wr.cell? ⟨go5,(x5_1:Int).toNat * 7+1,none⟩=some (.int .i64 ((rd_T44 x0_1 x5_1).f1)):=hcc5 1 _ rfl
     have hx5_2:wr.cell? ⟨go5,(x5_1:Int).toNat * 7+2,none⟩=some (.int .i64 ((rd_T44 x0_1 x5_1).f2.f0)):=hcc5 2 _ rfl
     have hx5_3:wr.cell? ⟨go5,(x5_1:Int).toNat * 7+3,none⟩=some (.int .i64 ((rd_T44 x0_1 x5_1).f2.f1)):=hcc5 3 _ rfl
     have hx5_4:wr.cell? ⟨go5,(x5_1:Int).toNat * 7+4,none⟩=some (.int .i64 ((rd_T44 x0_1 x5_1).f2.f2)):=hcc5 4 _ rfl
     have hx5_5:wr.cell? ⟨go5,(x5_1:Int).toNat * 7+5,none⟩=some (.int .i64 ((rd_T44 x0_1 x5_1).f2.f3)):=hcc5 5 _ rfl
     have hx5_6:wr.cell? ⟨go5,(x5_1:Int).toNat * 7+6,none⟩=some (.string ((rd_T44 x0_1 x5_1).f2.f4)):=hcc5 6 _ rfl
     have hf5_0:wr.frozen? ⟨go5,(x5_1:Int).toNat * 7,none⟩=false:=hfr5 0
     have hf5_1:wr.frozen? ⟨go5,(x5_1:Int).toNat * 7+1,none⟩=false:=hfr5 1
     have hf5_2:wr.frozen? ⟨go5,(x5_1:Int).toNat * 7+2,none⟩=false:=hfr5 2
     have hf5_3:wr.frozen? ⟨go5,(x5_1:Int).toNat * 7+3,none⟩=false:=hfr5 3
     have hf5_4:wr.frozen? ⟨go5,(x5_1:Int).toNat * 7+4,none⟩=false:=hfr5 4
     have hf5_5:wr.frozen? ⟨go5,(x5_1:Int).toNat * 7+5,none⟩=false:=hfr5 5
     have hf5_6:wr.frozen? ⟨go5,(x5_1:Int).toNat * 7+6,none⟩=false:=hfr5 6
     clear hcl5 hcc5 hfr5 hM5
     replace p5:=eq_true p5
     replace q5:=eq_true q5
     have HX14:=a_ (show Kd.R k44 44 wr w0.heap.size (fun k_=>(P0_ k_∨w.heap.size≤k_)) (.slice (some ⟨go5,0,none⟩) x0_1.length co13) x0_1 from (rp_ HO_0.out))
     obtain ⟨ce14,hcl14,hM14,hcc14,hfr14⟩:=Kd.R_elem HX14.out z44 (x5_1:Int) (od_) (by have h_:(x5_1:Int) < ((x0_1.length:Int):Int):=od_;first|exact h_|(have e_:=(Kd.R_reads' HO_0.out).1;omega)|simpa using h_)
     obtain rfl:=k44_openM hM14
     have HP14:=Kd.R_seg HX14.out (x5_1:Int) (od_) (by have h_:(x5_1:Int) < ((x0_1.length:Int):Int):=od_;first|exact h_|(have e_:=(Kd.R_reads' HO_0.out).1;omega)|simpa using h_) (seg:=[.int .i64 x1_1]) (j:=0) hcl14 hcc14 (show 1≤7 from by decide) (x':=(⟨x1_1,(rd_T44 x0_1 x5_1).f1,(⟨(rd_T44 x0_1 x5_1).f2.f0,(rd_T44 x0_1 x5_1).f2.f1,(rd_T44 x0_1 x5_1).f2.f2,(rd_T44 x0_1 x5_1).f2.f3,(rd_T44 x0_1 x5_1).f2.f4⟩:S42)⟩:S44)) (k44_mkM _ _ _ (⟨x1_1,(rd_T44 x0_1 x5_1).f1,(⟨(rd_T44 x0_1 x5_1).f2.f0,(rd_T44 x0_1 x5_1).f2.f1,(rd_T44 x0_1 x5_1).f2.f2,(rd_T44 x0_1 x5_1).f2.f3,(rd_T44 x0_1 x5_1).f2.f4⟩:S42)⟩:S44) ) (fun _ hk=>hk)
     have hx14_0:=hcc14 0 _ rfl
     (try simp only [show (k44).sz=7 from rfl,Nat.mul_one,Nat.add_zero] at hx14_0)
     have hf14_0:=hfr14 0
     (try simp only [show (k44).sz=7 from rfl,Nat.mul_one,Nat.add_zero] at hf14_0)
     clear hcl14 hcc14 hfr14 hM14
     go_wp2_with (first|((with_reducible refine gate_store (t:=3) (p:=16) rfl ?_);refine store_event (t:=3) (p:=16) (v:=?vo_w15) (w1:=(wr.setCell ⟨go5,(x5_1:Int).toNat * 7,none⟩ (.int .i64 x1_1))) ?hg ?ho ?hn ?hr ?_;(case ho=>rfl);(case hg=>rfl);(case hn=>rfl);(case hr=>first|(go_simp;done)|(go_simp;rfl));intro w15 hw;have hg:wr.grownBy w15 (some go5):=(by rw [hw];exact HP14.2);have hp_:Kd.R k44 44 w15 w0.heap.size (fun k_=>(P0_ k_∨w.heap.size≤k_)) (.slice (some ⟨go5,0,none⟩) x0_1.length co13) y375:=(by rw [hw,Ny375.out];exact HP14.1);clear HP14;have n0_:=a_ (hp_);have n1_:=a_ ((by rw [hw];exact wS_ (HB.out) GB5.out:Below w0.heap.size w0 w15));have n2_:=a_ (Kept.of_grown (S:=(fun k_=>P0_ k_)) hg (by repeat (first|(with_reducible first|exact HK.out|apply Kept.alloc|apply Kept.drewN|apply Kept.drew)|exact HK.out)) (fun k_ e_=>(HO_0.out.1 k_ e_)));clear HO_0;clear HB;clear HK;have HO_0:=n0_;have HB:=n1_;have HK:=n2_;clear n0_ n1_ n2_;clear hg hw hp_;have p6:0≤(x5_1:Int):=od_;have q6:(x5_1:Int) < ((x0_1.length:Int):Int):=od_;obtain ⟨ce6,hcl6,hM6,hcc6,hfr6⟩:=Kd.R_elem HO_0.out z44 (x5_1:Int) p6 q6;obtain rfl:=k44_openM hM6;have hx6_0:w15.cell? ⟨go5,(x5_1:Int).toNat * 7,none⟩=some (.int .i64 ((rd_T44 y375 x5_1).f0)):=hcc6 0 _ rfl;have hx6_1:w15.cell? ⟨go5,(x5_1:Int).toNat * 7+1,none⟩=some (.int .i64 ((rd_T44 y375 x5_1).f1)):=hcc6 1 _ rfl;have hx6_2:w15.cell? ⟨go5,(x5_1:Int).toNat * 7+2,none⟩=some (.int .i64 ((rd_T44 y375 x5_1).f2.f0)):=hcc6 2 _ rfl;have hx6_3:w15.cell? ⟨go5,(x5_1:Int).toNat * 7+3,none⟩=some (.int .i64 ((rd_T44 y375 x5_1).f2.f1)):=hcc6 3 _ rfl;have hx6_4:w15.cell? ⟨go5,(x5_1:Int).toNat * 7+4,none⟩=some (.int .i64 ((rd_T44 y375 x5_1).f2.f2)):=hcc6 4 _ rfl;have hx6_5:w15.cell? ⟨go5,(x5_1:Int).toNat * 7+5,none⟩=some (.int .i64 ((rd_T44 y375 x5_1).f2.f3)):=hcc6 5 _ rfl;have hx6_6:w15.cell? ⟨go5,(x5_1:Int).toNat * 7+6,none⟩=some (.string ((rd_T44 y375 x5_1).f2.f4)):=hcc6 6 _ rfl;have hf6_0:w15.frozen? ⟨go5,(x5_1:Int).toNat * 7,none⟩=false:=hfr6 0;have hf6_1:w15.frozen? ⟨go5,(x5_1:Int).toNat * 7+1,none⟩=false:=hfr6 1;have hf6_2:w15.frozen? ⟨go5,(x5_1:Int).toNat * 7+2,none⟩=false:=hfr6 2;have hf6_3:w15.frozen? ⟨go5,(x5_1:Int).toNat * 7+3,none⟩=false:=hfr6 3;have hf6_4:w15.frozen? ⟨go5,(x5_1:Int).toNat * 7+4,none⟩=false:=hfr6 4;have hf6_5:w15.frozen? ⟨go5,(x5_1:Int).toNat * 7+5,none⟩=false:=hfr6 5;have hf6_6:w15.frozen? ⟨go5,(x5_1:Int).toNat * 7+6,none⟩=false:=hfr6 6;clear hcl6 hcc6 hfr6 hM6;replace p6:=eq_true p6;replace q6:=eq_true q6;have HX16:=a_ (show Kd.R k44 44 w15 w0.heap.size (fun k_=>(P0_ k_∨w.heap.size≤k_)) (.slice (some ⟨go5,0,none⟩) x0_1.length co13) y375 from (rp_ HO_0.out));obtain ⟨ce16,hcl16,hM16,hcc16,hfr16⟩:=Kd.R_elem HX16.out z44 (x5_1:Int) (od_) (by have h_:(x5_1:Int) < ((x0_1.length:Int):Int):=od_;first|exact h_|(have e_:=(Kd.R_reads' HO_0.out).1;omega)|simpa using h_);obtain rfl:=k44_openM hM16;have HP16:=Kd.R_seg HX16.out (x5_1:Int) (od_) (by have h_:(x5_1:Int) < ((x0_1.length:Int):Int):=od_;first|exact h_|(have e_:=(Kd.R_reads' HO_0.out).1;omega)|simpa using h_) (seg:=[.int .i64 (wrap64 (x1_1+1))]) (j:=1) hcl16 hcc16 (show 2≤7 from by decide) (x':=(⟨(rd_T44 y375 x5_1).f0,wrap64 (x1_1+1),(⟨(rd_T44 y375 x5_1).f2.f0,(rd_T44 y375 x5_1).f2.f1,(rd_T44 y375 x5_1).f2.f2,(rd_T44 y375 x5_1).f2.f3,(rd_T44 y375 x5_1).f2.f4⟩:S42)⟩:S44)) (k44_mkM _ _ _ (⟨(rd_T44 y375 x5_1).f0,wrap64 (x1_1+1),(⟨(rd_T44 y375 x5_1).f2.f0,(rd_T44 y375 x5_1).f2.f1,(rd_T44 y375 x5_1).f2.f2,(rd_T44 y375 x5_1).f2.f3,(rd_T44 y375 x5_1).f2.f4⟩:S42)⟩:S44) ) (fun _ hk=>hk);have hx16_1:=hcc16 1 _ rfl;(try simp only [show (k44).sz=7 from rfl,Nat.mul_one,Nat.add_zero] at hx16_1);have hf16_1:=hfr16 1;(try simp only [show (k44).sz=7 from rfl,Nat.mul_one,Nat.add_zero] at hf16_1);clear hcl16 hcc16 hfr16 hM16)|((with_reducible refine gate_store (t:=3) (p:=23) rfl ?_);refine store_event (t:=3) (p:=23) (v:=?vo_w17) (w1:=(w15.setCell ⟨go5,(x5_1:Int).toNat * 7+1,none⟩ (.int .i64 (wrap64 (x1_1+1))))) ?hg ?ho ?hn ?hr ?_;(case ho=>rfl);(case hg=>rfl);(case hn=>rfl);(case hr=>first|(go_simp;done)|(go_simp;rfl));intro w17 hw;have hg:w15.grownBy w17 (some go5):=(by rw [hw];exact HP16.2);have hp_:Kd.R k44 44 w17 w0.heap.size (fun k_=>(P0_ k_∨w.heap.size≤k_)) (.slice (some ⟨go5,0,none⟩) x0_1.length co13) y376:=(by rw [hw,Ny376.out];exact HP16.1);clear HP16;have n0_:=a_ (hp_);have n1_:=a_ ((by rw [hw];exact wS_ (HB.out) GB5.out:Below w0.heap.size w0 w17));have n2_:=a_ (Kept.of_grown (S:=(fun k_=>P0_ k_)) hg (by repeat (first|(with_reducible first|exact HK.out|apply Kept.alloc|apply Kept.drewN|apply Kept.drew)|exact HK.out)) (fun k_ e_=>(HO_0.out.1 k_ e_)));clear HO_0;clear HB;clear HK;have HO_0:=n0_;have HB:=n1_;have HK:=n2_;clear n0_ n1_ n2_;clear hg hw hp_;have p7:0≤(x5_1:Int):=od_;have q7:(x5_1:Int) < ((x0_1.length:Int):Int):=od_;obtain ⟨ce7,hcl7,hM7,hcc7,hfr7⟩:=Kd.R_elem HO_0.out z44 (x5_1:Int) p7 q7;obtain rfl:=k44_openM hM7;have hx7_0:w17.cell? ⟨go5,(x5_1:Int).toNat * 7,none⟩=some (.int .i64 ((rd_T44 y376 x5_1).f0)):=hcc7 0 _ rfl;have hx7_1:w17.cell? ⟨go5,(x5_1:Int).toNat * 7+1,none⟩=some (.int .i64 ((rd_T44 y376 x5_1).f1)):=hcc7 1 _ rfl;have hx7_2:w17.cell? ⟨go5,(x5_1:Int).toNat * 7+2,none⟩=some (.int .i64 ((rd_T44 y376 x5_1).f2.f0)):=hcc7 2 _ rfl;have hx7_3:w17.cell? ⟨go5,(x5_1:Int).toNat * 7+3,none⟩=some (.int .i64 ((rd_T44 y376 x5_1).f2.f1)):=hcc7 3 _ rfl;have hx7_4:w17.cell? ⟨go5,(x5_1:Int).toNat * 7+4,none⟩=some (.int .i64 ((rd_T44 y376 x5_1).f2.f2)):=hcc7 4 _ rfl;have hx7_5:w17.cell? ⟨go5,(x5_1:Int).toNat * 7+5,none⟩=some (.int .i64 ((rd_T44 y376 x5_1).f2.f3)):=hcc7 5 _ rfl;have hx7_6:w17.cell? ⟨go5,(x5_1:Int).toNat * 7+6,none⟩=some (.string ((rd_T44 y376 x5_1).f2.f4)):=hcc7 6 _ rfl;have hf7_0:w17.frozen? ⟨go5,(x5_1:Int).toNat * 7,none⟩=false:=hfr7 0;have hf7_1:w17.frozen? ⟨go5,(x5_1:Int).toNat * 7+1,none⟩=false:=hfr7 1;have hf7_2:w17.frozen? ⟨go5,(x5_1:Int).toNat * 7+2,none⟩=false:=hfr7 2;have hf7_3:w17.frozen? ⟨go5,(x5_1:Int).toNat * 7+3,none⟩=false:=hfr7 3;have hf7_4:w17.frozen? ⟨go5,(x5_1:Int).toNat * 7+4,none⟩=false:=hfr7 4;have hf7_5:w17.frozen? ⟨go5,(x5_1:Int).toNat * 7+5,none⟩=false:=hfr7 5;have hf7_6:w17.frozen? ⟨go5,(x5_1:Int).toNat * 7+6,none⟩=false:=hfr7 6;clear hcl7 hcc7 hfr7 hM7;replace p7:=eq_true p7;replace q7:=eq_true q7;have HX18:=a_ (show Kd.R k44 44 w17 w0.heap.size (fun k_=>(P0_ k_∨w.heap.size≤k_)) (.slice (some ⟨go5,0,none⟩) x0_1.length co13) y376 from (rp_ HO_0.out));obtain ⟨ce18,hcl18,hM18,hcc18,hfr18⟩:=Kd.R_elem HX18.out z44 (x5_1:Int) (od_) (by have h_:(x5_1:Int) < ((x0_1.length:Int):Int):=od_;first|exact h_|(have e_:=(Kd.R_reads' HO_0.out).1;omega)|simpa using h_);obtain rfl:=k44_openM hM18;have HP18:=Kd.R_seg HX18.out (x5_1:Int) (od_) (by have h_:(x5_1:Int) < ((x0_1.length:Int):Int):=od_;first|exact h_|(have e_:=(Kd.R_reads' HO_0.out).1;omega)|simpa using h_) (seg:=[.int .i64 (wrap64 ((wrap64 (x1_1+1))+1))]) (j:=2) hcl18 hcc18 (show 3≤7 from by decide) (x':=(⟨(rd_T44 y376 x5_1).f0,(rd_T44 y376 x5_1).f1,(⟨wrap64 ((wrap64 (x1_1+1))+1),(rd_T44 y376 x5_1).f2.f1,(rd_T44 y376 x5_1).f2.f2,(rd_T44 y376 x5_1).f2.f3,(rd_T44 y376 x5_1).f2.f4⟩:S42)⟩:S44)) (k44_mkM _ _ _ (⟨(rd_T44 y376 x5_1).f0,(rd_T44 y376 x5_1).f1,(⟨wrap64 ((wrap64 (x1_1+1))+1),(rd_T44 y376 x5_1).f2.f1,(rd_T44 y376 x5_1).f2.f2,(rd_T44 y376 x5_1).f2.f3,(rd_T44 y376 x5_1).f2.f4⟩:S42)⟩:S44) ) (fun _ hk=>hk);have hx18_2:=hcc18 2 _ rfl;(try simp only [show (k44).sz=7 from rfl,Nat.mul_one,Nat.add_zero] at hx18_2);have hf18_2:=hfr18 2;(try simp only [show (k44).sz=7 from rfl,Nat.mul_one,Nat.add_zero] at hf18_2);clear hcl18 hcc18 hfr18 hM18)|((with_reducible refine gate_store (t:=3) (p:=31) rfl ?_);refine store_event (t:=3) (p:=31) (v:=?vo_w19) (w1:=(w17.setCell ⟨go5,(x5_1:Int).toNat * 7+2,none⟩ (.int .i64 (wrap64 ((wrap64 (x1_1+1))+1))))) ?hg ?ho ?hn ?hr ?_;(case ho=>rfl);(case hg=>rfl);(case hn=>rfl);(case hr=>first|(go_simp;done)|(go_simp;rfl));intro w19 hw;have hg:w17.grownBy w19 (some go5):=(by rw [hw];exact HP18.2);have hp_:Kd.R k44 44 w19 w0.heap.size (fun k_=>(P0_ k_∨w.heap.size≤k_)) (.slice (some ⟨go5,0,none⟩) x0_1.length co13) y377:=(by rw [hw,Ny377.out];exact HP18.1);clear HP18;have n0_:=a_ (hp_);have n1_:=a_ ((by rw [hw];exact wS_ (HB.out) GB5.out:Below w0.heap.size w0 w19));have n2_:=a_ (Kept.of_grown (S:=(fun k_=>P0_ k_)) hg (by repeat (first|(with_reducible first|exact HK.out|apply Kept.alloc|apply Kept.drewN|apply Kept.drew)|exact HK.out)) (fun k_ e_=>(HO_0.out.1 k_ e_)));clear HO_0;clear HB;clear HK;have HO_0:=n0_;have HB:=n1_;have HK:=n2_;clear n0_ n1_ n2_;clear hg hw hp_;have p8:0≤(x5_1:Int):=od_;have q8:(x5_1:Int) < ((x0_1.length:Int):Int):=od_;obtain ⟨ce8,hcl8,hM8,hcc8,hfr8⟩:=Kd.R_elem HO_0.out z44 (x5_1:Int) p8 q8;obtain rfl:=k44_openM hM8;have hx8_0:w19.cell? ⟨go5,(x5_1:Int).toNat * 7,none⟩=some (.int .i64 ((rd_T44 y377 x5_1).f0)):=hcc8 0 _ rfl;have hx8_1:w19.cell? ⟨go5,(x5_1:Int).toNat * 7+1,none⟩=some (.int .i64 ((rd_T44 y377 x5_1).f1)):=hcc8 1 _ rfl;have hx8_2:w19.cell? ⟨go5,(x5_1:Int).toNat * 7+2,none⟩=some (.int .i64 ((rd_T44 y377 x5_1).f2.f0)):=hcc8 2 _ rfl;have hx8_3:w19.cell? ⟨go5,(x5_1:Int).toNat * 7+3,none⟩=some (.int .i64 ((rd_T44 y377 x5_1).f2.f1)):=hcc8 3 _ rfl;have hx8_4:w19.cell? ⟨go5,(x5_1:Int).toNat * 7+4,none⟩=some (.int .i64 ((rd_T44 y377 x5_1).f2.f2)):=hcc8 4 _ rfl;have hx8_5:w19.cell? ⟨go5,(x5_1:Int).toNat * 7+5,none⟩=some (.int .i64 ((rd_T44 y377 x5_1).f2.f3)):=hcc8 5 _ rfl;have hx8_6:w19.cell? ⟨go5,(x5_1:Int).toNat * 7+6,none⟩=some (.string ((rd_T44 y377 x5_1).f2.f4)):=hcc8 6 _ rfl;have hf8_0:w19.frozen? ⟨go5,(x5_1:Int).toNat * 7,none⟩=false:=hfr8 0;have hf8_1:w19.frozen? ⟨go5,(x5_1:Int).toNat * 7+1,none⟩=false:=hfr8 1;have hf8_2:w19.frozen? ⟨go5,(x5_1:Int).toNat * 7+2,none⟩=false:=hfr8 2;have hf8_3:w19.frozen? ⟨go5,(x5_1:Int).toNat * 7+3,none⟩=false:=hfr8 3;have hf8_4:w19.frozen? ⟨go5,(x5_1:Int).toNat * 7+4,none⟩=false:=hfr8 4;have hf8_5:w19.frozen? ⟨go5,(x5_1:Int).toNat * 7+5,none⟩=false:=hfr8 5;have hf8_6:w19.frozen? ⟨go5,(x5_1:Int).toNat * 7+6,none⟩=false:=hfr8 6;clear hcl8 hcc8 hfr8 hM8;replace p8:=eq_true p8;replace q8:=eq_true q8;have HX20:=a_ (show Kd.R k44 44 w19 w0.heap.size (fun k_=>(P0_ k_∨w.heap.size≤k_)) (.slice (some ⟨go5,0,none⟩) x0_1.length co13) y377 from (rp_ HO_0.out));obtain ⟨ce20,hcl20,hM20,hcc20,hfr20⟩:=Kd.R_elem HX20.out z44 (x5_1:Int) (od_) (by have h_:(x5_1:Int) < ((x0_1.length:Int):Int):=od_;first|exact h_|(have e_:=(Kd.R_reads' HO_0.out).1;omega)|simpa using h_);obtain rfl:=k44_openM hM20;have HP20:=Kd.R_seg HX20.out (x5_1:Int) (od_) (by have h_:(x5_1:Int) < ((x0_1.length:Int):Int):=od_;first|exact h_|(have e_:=(Kd.R_reads' HO_0.out).1;omega)|simpa using h_) (seg:=[.int .i64 (wrap64 ((wrap64 ((wrap64 (x1_1+1))+1))+1))]) (j:=3) hcl20 hcc20 (show 4≤7 from by decide) (x':=(⟨(rd_T44 y377 x5_1).f0,(rd_T44 y377 x5_1).f1,(⟨(rd_T44 y377 x5_1).f2.f0,wrap64 ((wrap64 ((wrap64 (x1_1+1))+1))+1),(rd_T44 y377 x5_1).f2.f2,(rd_T44 y377 x5_1).f2.f3,(rd_T44 y377 x5_1).f2.f4⟩:S42)⟩:S44)) (k44_mkM _ _ _ (⟨(rd_T44 y377 x5_1).f0,(rd_T44 y377 x5_1).f1,(⟨(rd_T44 y377 x5_1).f2.f0,wrap64 ((wrap64 ((wrap64 (x1_1+1))+1))+1),(rd_T44 y377 x5_1).f2.f2,(rd_T44 y377 x5_1).f2.f3,(rd_T44 y377 x5_1).f2.f4⟩:S42)⟩:S44) ) (fun _ hk=>hk);have hx20_3:=hcc20 3 _ rfl;(try simp only [show (k44).sz=7 from rfl,Nat.mul_one,Nat.add_zero] at hx20_3);have hf20_3:=hfr20 3;(try simp only [show (k44).sz=7 from rfl,Nat.mul_one,Nat.add_zero] at hf20_3);clear hcl20 hcc20 hfr20 hM20)|((with_reducible refine gate_store (t:=3) (p:=39) rfl ?_);refine store_event (t:=3) (p:=39) (v:=?vo_w21) (w1:=(w19.setCell ⟨go5,(x5_1:Int).toNat * 7+3,none⟩ (.int .i64 (wrap64 ((wrap64 ((wrap64 (x1_1+1))+1))+1))))) ?hg ?ho ?hn ?hr ?_;(case ho=>rfl);(case hg=>rfl);(case hn=>rfl);(case hr=>first|(go_simp;done)|(go_simp;rfl));intro w21 hw;have hg:w19.grownBy w21 (some go5):=(by rw [hw];exact HP20.2);have hp_:Kd.R k44 44 w21 w0.heap.size (fun k_=>(P0_ k_∨w.heap.size≤k_)) (.slice (some ⟨go5,0,none⟩) x0_1.length co13) y378:=(by rw [hw,Ny378.out];exact HP20.1);clear HP20;have n0_:=a_ (hp_);have n1_:=a_ ((by rw [hw];exact wS_ (HB.out) GB5.out:Below w0.heap.size w0 w21));have n2_:=a_ (Kept.of_grown (S:=(fun k_=>P0_ k_)) hg (by repeat (first|(with_reducible first|exact HK.out|apply Kept.alloc|apply Kept.drewN|apply Kept.drew)|exact HK.out)) (fun k_ e_=>(HO_0.out.1 k_ e_)));clear HO_0;clear HB;clear HK;have HO_0:=n0_;have HB:=n1_;have HK:=n2_;clear n0_ n1_ n2_;clear hg hw hp_;have p9:0≤(x5_1:Int):=od_;have q9:(x5_1:Int) < ((x0_1.length:Int):Int):=od_;obtain ⟨ce9,hcl9,hM9,hcc9,hfr9⟩:=Kd.R_elem HO_0.out z44 (x5_1:Int) p9 q9;obtain rfl:=k44_openM hM9;have hx9_0:w21.cell? ⟨go5,(x5_1:Int).toNat * 7,none⟩=some (.int .i64 ((rd_T44 y378 x5_1).f0)):=hcc9 0 _ rfl;have hx9_1:w21.cell? ⟨go5,(x5_1:Int).toNat * 7+1,none⟩=some (.int .i64 ((rd_T44 y378 x5_1).f1)):=hcc9 1 _ rfl;have hx9_2:w21.cell? ⟨go5,(x5_1:Int).toNat * 7+2,none⟩=some (.int .i64 ((rd_T44 y378 x5_1).f2.f0)):=hcc9 2 _ rfl;have hx9_3:w21.cell? ⟨go5,(x5_1:Int).toNat * 7+3,none⟩=some (.int .i64 ((rd_T44 y378 x5_1).f2.f1)):=hcc9 3 _ rfl;have hx9_4:w21.cell? ⟨go5,(x5_1:Int).toNat * 7+4,none⟩=some (.int .i64 ((rd_T44 y378 x5_1).f2.f2)):=hcc9 4 _ rfl;have hx9_5:w21.cell? ⟨go5,(x5_1:Int).toNat * 7+5,none⟩=some (.int .i64 ((rd_T44 y378 x5_1).f2.f3)):=hcc9 5 _ rfl;have hx9_6:w21.cell? ⟨go5,(x5_1:Int).toNat * 7+6,none⟩=some (.string ((rd_T44 y378 x5_1).f2.f4)):=hcc9 6 _ rfl;have hf9_0:w21.frozen? ⟨go5,(x5_1:Int).toNat * 7,none⟩=false:=hfr9 0;have hf9_1:w21.frozen? ⟨go5,(x5_1:Int).toNat * 7+1,none⟩=false:=hfr9 1;have hf9_2:w21.frozen? ⟨go5,(x5_1:Int).toNat * 7+2,none⟩=false:=hfr9 2;have hf9_3:w21.frozen? ⟨go5,(x5_1:Int).toNat * 7+3,none⟩=false:=hfr9 3;have hf9_4:w21.frozen? ⟨go5,(x5_1:Int).toNat * 7+4,none⟩=false:=hfr9 4;have hf9_5:w21.frozen? ⟨go5,(x5_1:Int).toNat * 7+5,none⟩=false:=hfr9 5;have hf9_6:w21.frozen? ⟨go5,(x5_1:Int).toNat * 7+6,none⟩=false:=hfr9 6;clear hcl9 hcc9 hfr9 hM9;replace p9:=eq_true p9;replace q9:=eq_true q9;have HX22:=a_ (show Kd.R k44 44 w21 w0.heap.size (fun k_=>(P0_ k_∨w.heap.size≤k_)) (.slice (some ⟨go5,0,none⟩) x0_1.length co13) y378 from (rp_ HO_0.out));obtain ⟨ce22,hcl22,hM22,hcc22,hfr22⟩:=Kd.R_elem HX22.out z44 (x5_1:Int) (od_) (by have h_:(x5_1:Int) < ((x0_1.length:Int):Int):=od_;first|exact h_|(have e_:=(Kd.R_reads' HO_0.out).1;omega)|simpa using h_);obtain rfl:=k44_openM hM22;have HP22:=Kd.R_seg HX22.out (x5_1:Int) (od_) (by have h_:(x5_1:Int) < ((x0_1.length:Int):Int):=od_;first|exact h_|(have e_:=(Kd.R_reads' HO_0.out).1;omega)|simpa using h_) (seg:=[.int .i64 (wrap64 ((wrap64 ((wrap64 ((wrap64 (x1_1+1))+1))+1))+1))]) (j:=4) hcl22 hcc22 (show 5≤7 from by decide) (x':=(⟨(rd_T44 y378 x5_1).f0,(rd_T44 y378 x5_1).f1,(⟨(rd_T44 y378 x5_1).f2.f0,(rd_T44 y378 x5_1).f2.f1,wrap64 ((wrap64 ((wrap64 ((wrap64 (x1_1+1))+1))+1))+1),(rd_T44 y378 x5_1).f2.f3,(rd_T44 y378 x5_1).f2.f4⟩:S42)⟩:S44)) (k44_mkM _ _ _ (⟨(rd_T44 y378 x5_1).f0,(rd_T44 y378 x5_1).f1,(⟨(rd_T44 y378 x5_1).f2.f0,(rd_T44 y378 x5_1).f2.f1,wrap64 ((wrap64 ((wrap64 ((wrap64 (x1_1+1))+1))+1))+1),(rd_T44 y378 x5_1).f2.f3,(rd_T44 y378 x5_1).f2.f4⟩:S42)⟩:S44) ) (fun _ hk=>hk);have hx22_4:=hcc22 4 _ rfl;(try simp only [show (k44).sz=7 from rfl,Nat.mul_one,Nat.add_zero] at hx22_4);have hf22_4:=hfr22 4;(try simp only [show (k44).sz=7 from rfl,Nat.mul_one,Nat.add_zero] at hf22_4);clear hcl22 hcc22 hfr22 hM22)|((with_reducible refine gate_store (t:=3) (p:=47) rfl ?_);refine store_event (t:=3) (p:=47) (v:=?vo_w23) (w1:=(w21.setCell ⟨go5,(x5_1:Int).toNat * 7+4,none⟩ (.int .i64 (wrap64 ((wrap64 ((wrap64 ((wrap64 (x1_1+1))+1))+1))+1))))) ?hg ?ho ?hn ?hr ?_;(case ho=>rfl);(case hg=>rfl);(case hn=>rfl);(case hr=>first|(go_simp;done)|(go_simp;rfl));intro w23 hw;have hg:w21.grownBy w23 (some go5):=(by rw [hw];exact HP22.2);have hp_:Kd.R k44 44 w23 w0.heap.size (fun k_=>(P0_ k_∨w.heap.size≤k_)) (.slice (some ⟨go5,0,none⟩) x0_1.length co13) y379:=(by rw [hw,Ny379.out];exact HP22.1);clear HP22;have n0_:=a_ (hp_);have n1_:=a_ ((by rw [hw];exact wS_ (HB.out) GB5.out:Below w0.heap.size w0 w23));have n2_:=a_ (Kept.of_grown (S:=(fun k_=>P0_ k_)) hg (by repeat (first|(with_reducible first|exact HK.out|apply Kept.alloc|apply Kept.drewN|apply Kept.drew)|exact HK.out)) (fun k_ e_=>(HO_0.out.1 k_ e_)));clear HO_0;clear HB;clear HK;have HO_0:=n0_;have HB:=n1_;have HK:=n2_;clear n0_ n1_ n2_;clear hg hw hp_;have p10:0≤(x5_1:Int):=od_;have q10:(x5_1:Int) < ((x0_1.length:Int):Int):=od_;obtain ⟨ce10,hcl10,hM10,hcc10,hfr10⟩:=Kd.R_elem HO_0.out z44 (x5_1:Int) p10 q10;obtain rfl:=k44_openM hM10;have hx10_0:w23.cell? ⟨go5,(x5_1:Int).toNat * 7,none⟩=some (.int .i64 ((rd_T44 y379 x5_1).f0)):=hcc10 0 _ rfl;have hx10_1:w23.cell? ⟨go5,(x5_1:Int).toNat * 7+1,none⟩=some (.int .i64 ((rd_T44 y379 x5_1).f1)):=hcc10 1 _ rfl;have hx10_2:w23.cell? ⟨go5,(x5_1:Int).toNat * 7+2,none⟩=some (.int .i64 ((rd_T44 y379 x5_1).f2.f0)):=hcc10 2 _ rfl;have hx10_3:w23.cell? ⟨go5,(x5_1:Int).toNat * 7+3,none⟩=some (.int .i64 ((rd_T44 y379 x5_1).f2.f1)):=hcc10 3 _ rfl;have hx10_4:w23.cell? ⟨go5,(x5_1:Int).toNat * 7+4,none⟩=some (.int .i64 ((rd_T44 y379 x5_1).f2.f2)):=hcc10 4 _ rfl;have hx10_5:w23.cell? ⟨go5,(x5_1:Int).toNat * 7+5,none⟩=some (.int .i64 ((rd_T44 y379 x5_1).f2.f3)):=hcc10 5 _ rfl;have hx10_6:w23.cell? ⟨go5,(x5_1:Int).toNat * 7+6,none⟩=some (.string ((rd_T44 y379 x5_1).f2.f4)):=hcc10 6 _ rfl;have hf10_0:w23.frozen? ⟨go5,(x5_1:Int).toNat * 7,none⟩=false:=hfr10 0;have hf10_1:w23.frozen? ⟨go5,(x5_1:Int).toNat * 7+1,none⟩=false:=hfr10 1;have hf10_2:w23.frozen? ⟨go5,(x5_1:Int).toNat * 7+2,none⟩=false:=hfr10 2;have hf10_3:w23.frozen? ⟨go5,(x5_1:Int).toNat * 7+3,none⟩=false:=hfr10 3;have hf10_4:w23.frozen? ⟨go5,(x5_1:Int).toNat * 7+4,none⟩=false:=hfr10 4;have hf10_5:w23.frozen? ⟨go5,(x5_1:Int).toNat * 7+5,none⟩=false:=hfr10 5;have hf10_6:w23.frozen? ⟨go5,(x5_1:Int).toNat * 7+6,none⟩=false:=hfr10 6;clear hcl10 hcc10 hfr10 hM10;replace p10:=eq_true p10;replace q10:=eq_true q10;have HX24:=a_ (show Kd.R k44 44 w23 w0.heap.size (fun k_=>(P0_ k_∨w.heap.size≤k_)) (.slice (some ⟨go5,0,none⟩) x0_1.length co13) y379 from (rp_ HO_0.out));obtain ⟨ce24,hcl24,hM24,hcc24,hfr24⟩:=Kd.R_elem HX24.out z44 (x5_1:Int) (od_) (by have h_:(x5_1:Int) < ((x0_1.length:Int):Int):=od_;first|exact h_|(have e_:=(Kd.R_reads' HO_0.out).1;omega)|simpa using h_);obtain rfl:=k44_openM hM24;have HP24:=Kd.R_seg HX24.out (x5_1:Int) (od_) (by have h_:(x5_1:Int) < ((x0_1.length:Int):Int):=od_;first|exact h_|(have e_:=(Kd.R_reads' HO_0.out).1;omega)|simpa using h_) (seg:=[.int .i64 (wrap64 ((wrap64 ((wrap64 ((wrap64 ((wrap64 (x1_1+1))+1))+1))+1))+1))]) (j:=5) hcl24 hcc24 (show 6≤7 from by decide) (x':=(⟨(rd_T44 y379 x5_1).f0,(rd_T44 y379 x5_1).f1,(⟨(rd_T44 y379 x5_1).f2.f0,(rd_T44 y379 x5_1).f2.f1,(rd_T44 y379 x5_1).f2.f2,wrap64 ((wrap64 ((wrap64 ((wrap64 ((wrap64 (x1_1+1))+1))+1))+1))+1),(rd_T44 y379 x5_1).f2.f4⟩:S42)⟩:S44)) (k44_mkM _ _ _ (⟨(rd_T44 y379 x5_1).f0,(rd_T44 y379 x5_1).f1,(⟨(rd_T44 y379 x5_1).f2.f0,(rd_T44 y379 x5_1).f2.f1,(rd_T44 y379 x5_1).f2.f2,wrap64 ((wrap64 ((wrap64 ((wrap64 ((wrap64 (x1_1+1))+1))+1))+1))+1),(rd_T44 y379 x5_1).f2.f4⟩:S42)⟩:S44) ) (fun _ hk=>hk);have hx24_5:=hcc24 5 _ rfl;(try simp only [show (k44).sz=7 from rfl,Nat.mul_one,Nat.add_zero] at hx24_5);have hf24_5:=hfr24 5;(try simp only [show (k44).sz=7 from rfl,Nat.mul_one,Nat.add_zero] at hf24_5);clear hcl24 hcc24 hfr24 hM24)|((with_reducible refine gate_store (t:=3) (p:=55) rfl ?_);refine store_event (t:=3) (p:=55) (v:=?vo_w25) (w1:=(w23.setCell ⟨go5,(x5_1:Int).toNat * 7+5,none⟩ (.int .i64 (wrap64 ((wrap64 ((wrap64 ((wrap64 ((wrap64 (x1_1+1))+1))+1))+1))+1))))) ?hg ?ho ?hn ?hr ?_;(case ho=>rfl);(case hg=>rfl);(case hn=>rfl);(case hr=>first|(go_simp;done)|(go_simp;rfl));intro w25 hw;have hg:w23.grownBy w25 (some go5):=(by rw [hw];exact HP24.2);have hp_:Kd.R k44 44 w25 w0.heap.size (fun k_=>(P0_ k_∨w.heap.size≤k_)) (.slice (some ⟨go5,0,none⟩) x0_1.length co13) y380:=(by rw [hw,Ny380.out];exact HP24.1);clear HP24;have n0_:=a_ (hp_);have n1_:=a_ ((by rw [hw];exact wS_ (HB.out) GB5.out:Below w0.heap.size w0 w25));have n2_:=a_ (Kept.of_grown (S:=(fun k_=>P0_ k_)) hg (by repeat (first|(with_reducible first|exact HK.out|apply Kept.alloc|apply Kept.drewN|apply Kept.drew)|exact HK.out)) (fun k_ e_=>(HO_0.out.1 k_ e_)));clear HO_0;clear HB;clear HK;have HO_0:=n0_;have HB:=n1_;have HK:=n2_;clear n0_ n1_ n2_;clear hg hw hp_)|((with_reducible refine gC_ (f:=103) rfl ?_);refine gl_ 61 Tryd.func103 #[.int .i64 (wrap64 ((wrap64 ((wrap64 ((wrap64 ((wrap64 ((wrap64 (x1_1+1))+1))+1))+1))+1))+1))] ?_;(with_reducible refine (laws_markText.calls k1 (wrap64 ((wrap64 ((wrap64 ((wrap64 ((wrap64 ((wrap64 (x1_1+1))+1))+1))+1))+1))+1)) t381 _ A11.out).mono ?_);rintro e w26 ⟨rfl,hb⟩;refine ⟨_,rfl,?_⟩;replace HO_0:=a_ (Kd.R_below (rp_ HO_0.out) hb);replace HK:=a_ (Kept.below (S:=(fun k_=>P0_ k_)) (by repeat (first|(with_reducible first|exact HK.out|apply Kept.alloc|apply Kept.drewN|apply Kept.drew)|exact HK.out)) hb);replace HB:=a_ (bS_ (bel_) hb);(try clear hb);have p12:0≤(x5_1:Int):=od_;have q12:(x5_1:Int) < ((x0_1.length:Int):Int):=od_;obtain ⟨ce12,hcl12,hM12,hcc12,hfr12⟩:=Kd.R_elem HO_0.out z44 (x5_1:Int) p12 q12;obtain rfl:=k44_openM hM12;have hx12_0:w26.cell? ⟨go5,(x5_1:Int).toNat * 7,none⟩=some (.int .i64 ((rd_T44 y380 x5_1).f0)):=hcc12 0 _ rfl;have hx12_1:w26.cell? ⟨go5,(x5_1:Int).toNat * 7+1,none⟩=some (.int .i64 ((rd_T44 y380 x5_1).f1)):=hcc12 1 _ rfl;have hx12_2:w26.cell? ⟨go5,(x5_1:Int).toNat * 7+2,none⟩=some (.int .i64 ((rd_T44 y380 x5_1).f2.f0)):=hcc12 2 _ rfl;have hx12_3:w26.cell? ⟨go5,(x5_1:Int).toNat * 7+3,none⟩=some (.int .i64 ((rd_T44 y380 x5_1).f2.f1)):=hcc12 3 _ rfl;have hx12_4:w26.cell? ⟨go5,(x5_1:Int).toNat * 7+4,none⟩=some (.int .i64 ((rd_T44 y380 x5_1).f2.f2)):=hcc12 4 _ rfl;have hx12_5:w26.cell? ⟨go5,(x5_1:Int).toNat * 7+5,none⟩=some (.int .i64 ((rd_T44 y380 x5_1).f2.f3)):=hcc12 5 _ rfl;have hx12_6:w26.cell? ⟨go5,(x5_1:Int).toNat * 7+6,none⟩=some (.string ((rd_T44 y380 x5_1).f2.f4)):=hcc12 6 _ rfl;have hf12_0:w26.frozen? ⟨go5,(x5_1:Int).toNat * 7,none⟩=false:=hfr12 0;have hf12_1:w26.frozen? ⟨go5,(x5_1:Int).toNat * 7+1,none⟩=false:=hfr12 1;have hf12_2:w26.frozen? ⟨go5,(x5_1:Int).toNat * 7+2,none⟩=false:=hfr12 2;have hf12_3:w26.frozen? ⟨go5,(x5_1:Int).toNat * 7+3,none⟩=false:=hfr12 3;have hf12_4:w26.frozen? ⟨go5,(x5_1:Int).toNat * 7+4,none⟩=false:=hfr12 4;have hf12_5:w26.frozen? ⟨go5,(x5_1:Int).toNat * 7+5,none⟩=false:=hfr12 5;have hf12_6:w26.frozen? ⟨go5,(x5_1:Int).toNat * 7+6,none⟩=false:=hfr12 6;clear hcl12 hcc12 hfr12 hM12;replace p12:=eq_true p12;replace q12:=eq_true q12;have HX27:=a_ (show Kd.R k44 44 w26 w0.heap.size (fun k_=>(P0_ k_∨w.heap.size≤k_)) (.slice (some ⟨go5,0,none⟩) x0_1.length co13) y380 from (rp_ HO_0.out));obtain ⟨ce27,hcl27,hM27,hcc27,hfr27⟩:=Kd.R_elem HX27.out z44 (x5_1:Int) (od_) (by have h_:(x5_1:Int) < ((x0_1.length:Int):Int):=od_;first|exact h_|(have e_:=(Kd.R_reads' HO_0.out).1;omega)|simpa using h_);obtain rfl:=k44_openM hM27;have HP27:=Kd.R_seg HX27.out (x5_1:Int) (od_) (by have h_:(x5_1:Int) < ((x0_1.length:Int):Int):=od_;first|exact h_|(have e_:=(Kd.R_reads' HO_0.out).1;omega)|simpa using h_) (seg:=[.string t381]) (j:=6) hcl27 hcc27 (show 7≤7 from by decide) (x':=(⟨(rd_T44 y380 x5_1).f0,(rd_T44 y380 x5_1).f1,(⟨(rd_T44 y380 x5_1).f2.f0,(rd_T44 y380 x5_1).f2.f1,(rd_T44 y380 x5_1).f2.f2,(rd_T44 y380 x5_1).f2.f3,t381⟩:S42)⟩:S44)) (k44_mkM _ _ _ (⟨(rd_T44 y380 x5_1).f0,(rd_T44 y380 x5_1).f1,(⟨(rd_T44 y380 x5_1).f2.f0,(rd_T44 y380 x5_1).f2.f1,(rd_T44 y380 x5_1).f2.f2,(rd_T44 y380 x5_1).f2.f3,t381⟩:S42)⟩:S44) ) (fun _ hk=>hk);have hx27_6:=hcc27 6 _ rfl;(try simp only [show (k44).sz=7 from rfl,Nat.mul_one,Nat.add_zero] at hx27_6);have hf27_6:=hfr27 6;(try simp only [show (k44).sz=7 from rfl,Nat.mul_one,Nat.add_zero] at hf27_6);clear hcl27 hcc27 hfr27 hM27)|((with_reducible refine gate_store (t:=9) (p:=64) rfl ?_);refine store_event (t:=9) (p:=64) (v:=?vo_w28) (w1:=(w26.setCell ⟨go5,(x5_1:Int).toNat * 7+6,none⟩ (.string t381))) ?hg ?ho ?hn ?hr ?_;(case ho=>rfl);(case hg=>rfl);(case hn=>rfl);(case hr=>first|(go_simp;done)|(go_simp;rfl));intro w28 hw;have hg:w26.grownBy w28 (some go5):=(by rw [hw];exact HP27.2);have hp_:Kd.R k44 44 w28 w0.heap.size (fun k_=>(P0_ k_∨w.heap.size≤k_)) (.slice (some ⟨go5,0,none⟩) x0_1.length co13) y382:=(by rw [hw,Ny382.out];exact HP27.1);clear HP27;have n0_:=a_ (hp_);have n1_:=a_ ((by rw [hw];exact wS_ (HB.out) GB5.out:Below w0.heap.size w0 w28));have n2_:=a_ (Kept.of_grown (S:=(fun k_=>P0_ k_)) hg (by repeat (first|(with_reducible first|exact HK.out|apply Kept.alloc|apply Kept.drewN|apply Kept.drew)|exact HK.out)) (fun k_ e_=>(HO_0.out.1 k_ e_)));clear HO_0;clear HB;clear HK;have HO_0:=n0_;have HB:=n1_;have HK:=n2_;clear n0_ n1_ n2_;clear hg hw hp_))
     go_roundg k1
     case measure=>have:=HK1.out;omega
     case rel=>exact ⟨(y382),(wrap64 ((wrap64 ((wrap64 ((wrap64 ((wrap64 ((wrap64 ((wrap64 (x1_1+1))+1))+1))+1))+1))+1))+1)),(wrap64 (x5_1+1)),(si_),(si_),H',⟨by have:=HK1.out;omega⟩,⟨by (with_reducible repeat (first|apply Kd.R_alloc|apply Kd.R_drewN|apply Kd.R_drew));exact HO_0.out⟩,⟨by repeat (first|(with_reducible first|exact HK.out|apply Kept.alloc|apply Kept.drewN|apply Kept.drew)|exact HK.out)⟩,⟨bel_⟩⟩
    ·rw [if_neg c4] at H
     exact absurd H (by simp)
   ·rw [if_neg c3] at H
    have c3b0:decide (x5_1 < (x0_1.length:Int))=false:=df_ c3
    clear c3
    simp only [Option.some.injEq,Prod.mk.injEq] at H
    obtain ⟨rfl,rfl⟩:=H
    obtain ⟨Ao29,co29,eo29⟩:=Kd.R_slice HO_0.out
    subst eo29
    go_wp2
    go_ret
    exact ⟨fi_,by (with_reducible repeat (first|apply Kd.R_alloc|apply Kd.R_drewN|apply Kd.R_drew));exact HO_0.out,bel_,by repeat (first|(with_reducible first|exact HK.out|apply Kept.alloc|apply Kept.drewN|apply Kept.drew)|exact HK.out)⟩

def laws_markRowS.l0:Nat→List (S69)→Int→Int→Option (Int×(List (S69)))
 | 0,_,_,_=>none
 | k+1,x0,x1,x5=>if x5 < (x0.length:Int) then (if 0≤x5 then ((some (x0.set (x5:Int).toNat (⟨x1,(rd_T69 x0 x5).f1,(rd_T69 x0 x5).f2⟩:S69):List (S69))).bind fun y383=>((some (y383.set (x5:Int).toNat (⟨(rd_T69 y383 x5).f0,wrap64 (x1+1),(rd_T69 y383 x5).f2⟩:S69):List (S69))).bind fun y384=>((laws_markText.f k (wrap64 ((wrap64 (x1+1))+1))).bind fun t385=>(laws_markRowS.l0 k (y384.set (x5:Int).toNat (⟨(rd_T69 y384 x5).f0,(rd_T69 y384 x5).f1,t385⟩:S69)) (wrap64 ((wrap64 ((wrap64 (x1+1))+1))+1)) (wrap64 (x5+1)))))) else (none)) else (some (x1,x0))
def laws_markRowS.f (k:Nat) (l0:List (S69)) (a1:Int):Option (Int×(List (S69))):=laws_markRowS.l0 k l0 a1 0
theorem laws_markRowS.calls (k:Nat) (P0_:Nat→Prop) (u9000_:Value) (l0:List (S69)) (a1:Int) (r1:Int) (r2:List (S69)) (w0 w:World) (hB:Below w0.heap.size w0 w) (ho0:Kd.R k69 69 w w0.heap.size P0_ u9000_ l0) (h:laws_markRowS.f k l0 a1=some (r1,r2)) :
  Calls Tryd.prog 54 #[u9000_,.int .i64 a1] w fun e w'=>e=.returned (.int .i64 r1)∧Kd.R k69 69 w' w0.heap.size (fun k_=>(P0_ k_∨w.heap.size≤k_)) u9000_ r2∧Below w0.heap.size w0 w'∧Kept w w' (fun k_=>P0_ k_):=by
 have HO0:=a_ (show Kd.R k69 69 w w0.heap.size (fun k_=>(P0_ k_∨w.heap.size≤k_)) u9000_ l0 from Kd.R_mono ho0 (fun k_ hk=>(.inl hk)))
 have HK:=a_ (Kept.refl w (fun k_=>P0_ k_))
 have HW0:=a_ hB.size
 have HB:=a_ hB
 clear hB
 unfold laws_markRowS.f at h
 have H:=h
 clear h
 have H':=a_ H
 clear H
 go_enter Tryd.func54,Tryd.ntmps54
 go_wp2
 go_loopg [1,5] k (fun kq v1 v5 w'=>∃ (x0_1:List (S69)) (x1_1:Int) (x5_1:Int),v1=.int .i64 x1_1∧v5=.int .i64 x5_1∧Aside0 (laws_markRowS.l0 kq x0_1 x1_1 x5_1=some (r1,r2))∧Aside0 (kq≤k)∧Aside0 (Kd.R k69 69 w' w0.heap.size (fun k_=>(P0_ k_∨w.heap.size≤k_)) u9000_ x0_1)∧Aside0 (Kept w w' (fun k_=>P0_ k_))∧Aside0 (Below w0.heap.size w0 w'))
 case atStart=>exact ⟨(l0),(a1),(0),(si_),(si_),H',⟨Nat.le_refl _⟩,⟨by (with_reducible repeat (first|apply Kd.R_alloc|apply Kd.R_drewN|apply Kd.R_drew));exact HO0.out⟩,⟨by repeat (first|(with_reducible first|exact HK.out|apply Kept.alloc|apply Kept.drewN|apply Kept.drew)|exact HK.out)⟩,⟨bel_⟩⟩
 case round =>
  clear H'
  try clear p2
  obtain ⟨x0_1,x1_1,x5_1,rfl,rfl,HA,HK1,HO_0,HK,HB⟩:=hrel
  cases gk with
  | zero=>exact absurd HA.out (by simp [laws_markRowS.l0])
  | succ k1 =>
   have H:=HA.out
   clear HA
   simp only [laws_markRowS.l0] at H
   by_cases c3:x5_1 < (x0_1.length:Int)
   ·rw [if_pos c3] at H
    have c3b0:decide (x5_1 < (x0_1.length:Int))=true:=dt_ c3
    clear c3
    by_cases c4:0≤x5_1
    ·rw [if_pos c4] at H
     have c4b0:decide (0≤x5_1)=true:=dt_ c4
     clear c4
     obtain ⟨y383,hy383⟩:∃ y_:List (S69),y_=(x0_1.set (x5_1:Int).toNat (⟨x1_1,(rd_T69 x0_1 x5_1).f1,(rd_T69 x0_1 x5_1).f2⟩:S69)):=⟨_,rfl⟩
     replace H:((some (y383.set (x5_1:Int).toNat (⟨(rd_T69 y383 x5_1).f0,wrap64 (x1_1+1),(rd_T69 y383 x5_1).f2⟩:S69):List (S69))).bind fun y384=>((laws_markText.f k1 (wrap64 ((wrap64 (x1_1+1))+1))).bind fun t385=>(laws_markRowS.l0 k1 (y384.set (x5_1:Int).toNat (⟨(rd_T69 y384 x5_1).f0,(rd_T69 y384 x5_1).f1,t385⟩:S69)) (wrap64 ((wrap64 ((wrap64 (x1_1+1))+1))+1)) (wrap64 (x5_1+1)))))=some (r1,r2):=by first|(rw [hy383];with_reducible exact H)|(have H2_:=(Option.bind_some _ _).symm.trans H;rw [hy383];with_reducible exact H2_)|(have H2_:=(Option.bind_some _ _).symm.trans H;with_reducible exact H2_)|with_reducible exact H|(rw [hy383];exact H)|exact H
     have Ny383:=a_ hy383
     clear hy383
     obtain ⟨y384,hy384⟩:∃ y_:List (S69),y_=(y383.set (x5_1:Int).toNat (⟨(rd_T69 y383 x5_1).f0,wrap64 (x1_1+1),(rd_T69 y383 x5_1).f2⟩:S69)):=⟨_,rfl⟩
     replace H:((laws_markText.f k1 (wrap64 ((wrap64 (x1_1+1))+1))).bind fun t385=>(laws_markRowS.l0 k1 (y384.set (x5_1:Int).toNat (⟨(rd_T69 y384 x5_1).f0,(rd_T69 y384 x5_1).f1,t385⟩:S69)) (wrap64 ((wrap64 ((wrap64 (x1_1+1))+1))+1)) (wrap64 (x5_1+1))))=some (r1,r2):=by first|(rw [hy384];with_reducible exact H)|(have H2_:=(Option.bind_some _ _).symm.trans H;rw [hy384];with_reducible exact H2_)|(have H2_:=(Option.bind_some _ _).symm.trans H;with_reducible exact H2_)|with_reducible exact H|(rw [hy384];exact H)|exact H
     have Ny384:=a_ hy384
     clear hy384
     replace H:=bs_ H
     obtain ⟨t385,A70,H⟩:=H
     try dsimp only at H
     have A7:=a_ A70
     clear A70
     obtain ⟨y386,hy386⟩:∃ y_:List (S69),y_=(y384.set (x5_1:Int).toNat (⟨(rd_T69 y384 x5_1).f0,(rd_T69 y384 x5_1).f1,t385⟩:S69)):=⟨_,rfl⟩
     replace H:(laws_markRowS.l0 k1 y386 (wrap64 ((wrap64 ((wrap64 (x1_1+1))+1))+1)) (wrap64 (x5_1+1)))=some (r1,r2):=by first|(rw [hy386];with_reducible exact H)|(have H2_:=(Option.bind_some _ _).symm.trans H;rw [hy386];with_reducible exact H2_)|(have H2_:=(Option.bind_some _ _).symm.trans H;with_reducible exact H2_)|with_reducible exact H|(rw [hy386];exact H)|exact H
     have Ny386:=a_ hy386
     clear hy386
     have H':=a_ H
     clear H
     obtain ⟨Ao9,co9,eo9⟩:=Kd.R_slice HO_0.out
     subst eo9
     have p5:0≤(x5_1:Int):=od_
     have q5:(x5_1:Int) < ((x0_1.length:Int):Int):=od_
     obtain ⟨go5,co5,eo5,gb5,gl5,cl5,HG5⟩:=Kd.R_form HO_0.out (by omega)
     (first|cases eo5|(injection eo5 with ea_ en_ ec_;(first|subst ea_|(injection ea_ with ea_;subst ea_));subst ec_;clear en_))
     have GB5:=a_ gb5
     have GG5:=a_ HG5
     clear gb5 gl5 HG5
     have HMgo5:=a_ (show (P0_ go5∨w.heap.size≤go5) from (HO_0.out.1 _ rfl))
     obtain ⟨ce5,hcl5,hM5,hcc5,hfr5⟩:=Kd.R_elem HO_0.out z69 (x5_1:Int) p5 q5
     obtain rfl:=k69_openM hM5
     have hx5_0:wr.cell? ⟨go5,(x5_1:Int).toNat * 3,none⟩=some (.int .i64 ((rd_T69 x0_1 x5_1).f0)):=hcc5 0 _ rfl
     have hx5_1:wr.cell? ⟨go5,(x5_1:Int).toNat * 3+1,none⟩=some (.int .i64 ((rd_T69 x0_1 x5_1).f1)):=hcc5 1 _ rfl
     have hx5_2:wr.cell? ⟨go5,(x5_1:Int).toNat * 3+2,none⟩=some (.string ((rd_T69 x0_1 x5_1).f2)):=hcc5 2 _ rfl
     have hf5_0:wr.frozen? ⟨go5,(x5_1:Int).toNat * 3,none⟩=false:=hfr5 0
     have hf5_1:wr.frozen? ⟨go5,(x5_1:Int).toNat * 3+1,none⟩=false:=hfr5 1
     have hf5_2:wr.frozen? ⟨go5,(x5_1:Int).toNat * 3+2,none⟩=false:=hfr5 2
     clear hcl5 hcc5 hfr5 hM5
     replace p5:=eq_true p5
     replace q5:=eq_true q5
     have HX10:=a_ (show Kd.R k69 69 wr w0.heap.size (fun k_=>(P0_ k_∨w.heap.size≤k_)) (.slice (some ⟨go5,0,none⟩) x0_1.length co9) x0_1 from (rp_ HO_0.out))
     obtain ⟨ce10,hcl10,hM10,hcc10,hfr10⟩:=Kd.R_elem HX10.out z69 (x5_1:Int) (od_) (by have h_:(x5_1:Int) < ((x0_1.length:Int):Int):=od_;first|exact h_|(have e_:=(Kd.R_reads' HO_0.out).1;omega)|simpa using h_)
     obtain rfl:=k69_openM hM10
     have HP10:=Kd.R_seg HX10.out (x5_1:Int) (od_) (by have h_:(x5_1:Int) < ((x0_1.length:Int):Int):=od_;first|exact h_|(have e_:=(Kd.R_reads' HO_0.out).1;omega)|simpa using h_) (seg:=[.int .i64 x1_1]) (j:=0) hcl10 hcc10 (show 1≤3 from by decide) (x':=(⟨x1_1,(rd_T69 x0_1 x5_1).f1,(rd_T69 x0_1 x5_1).f2⟩:S69)) (k69_mkM _ _ _ (⟨x1_1,(rd_T69 x0_1 x5_1).f1,(rd_T69 x0_1 x5_1).f2⟩:S69) ) (fun _ hk=>hk)
     have hx10_0:=hcc10 0 _ rfl
     (try simp only [show (k69).sz=3 from rfl,Nat.mul_one,Nat.add_zero] at hx10_0)
     have hf10_0:=hfr10 0
     (try simp only [show (k69).sz=3 from rfl,Nat.mul_one,Nat.add_zero] at hf10_0)
     clear hcl10 hcc10 hfr10 hM10
     go_wp2_with (first|((with_reducible refine gate_store (t:=3) (p:=16) rfl ?_);refine store_event (t:=3) (p:=16) (v:=?vo_w11) (w1:=(wr.setCell ⟨go5,(x5_1:Int).toNat * 3,none⟩ (.int .i64 x1_1))) ?hg ?ho ?hn ?hr ?_;(case ho=>rfl);(case hg=>rfl);(case hn=>rfl);(case hr=>first|(go_simp;done)|(go_simp;rfl));intro w11 hw;have hg:wr.grownBy w11 (some go5):=(by rw [hw];exact HP10.2);have hp_:Kd.R k69 69 w11 w0.heap.size (fun k_=>(P0_ k_∨w.heap.size≤k_)) (.slice (some ⟨go5,0,none⟩) x0_1.length co9) y383:=(by rw [hw,Ny383.out];exact HP10.1);clear HP10;have n0_:=a_ (hp_);have n1_:=a_ ((by rw [hw];exact wS_ (HB.out) GB5.out:Below w0.heap.size w0 w11));have n2_:=a_ (Kept.of_grown (S:=(fun k_=>P0_ k_)) hg (by repeat (first|(with_reducible first|exact HK.out|apply Kept.alloc|apply Kept.drewN|apply Kept.drew)|exact HK.out)) (fun k_ e_=>(HO_0.out.1 k_ e_)));clear HO_0;clear HB;clear HK;have HO_0:=n0_;have HB:=n1_;have HK:=n2_;clear n0_ n1_ n2_;clear hg hw hp_;have p6:0≤(x5_1:Int):=od_;have q6:(x5_1:Int) < ((x0_1.length:Int):Int):=od_;obtain ⟨ce6,hcl6,hM6,hcc6,hfr6⟩:=Kd.R_elem HO_0.out z69 (x5_1:Int) p6 q6;obtain rfl:=k69_openM hM6;have hx6_0:w11.cell? ⟨go5,(x5_1:Int).toNat * 3,none⟩=some (.int .i64 ((rd_T69 y383 x5_1).f0)):=hcc6 0 _ rfl;have hx6_1:w11.cell? ⟨go5,(x5_1:Int).toNat * 3+1,none⟩=some (.int .i64 ((rd_T69 y383 x5_1).f1)):=hcc6 1 _ rfl;have hx6_2:w11.cell? ⟨go5,(x5_1:Int).toNat * 3+2,none⟩=some (.string ((rd_T69 y383 x5_1).f2)):=hcc6 2 _ rfl;have hf6_0:w11.frozen? ⟨go5,(x5_1:Int).toNat * 3,none⟩=false:=hfr6 0;have hf6_1:w11.frozen? ⟨go5,(x5_1:Int).toNat * 3+1,none⟩=false:=hfr6 1;have hf6_2:w11.frozen? ⟨go5,(x5_1:Int).toNat * 3+2,none⟩=false:=hfr6 2;clear hcl6 hcc6 hfr6 hM6;replace p6:=eq_true p6;replace q6:=eq_true q6;have HX12:=a_ (show Kd.R k69 69 w11 w0.heap.size (fun k_=>(P0_ k_∨w.heap.size≤k_)) (.slice (some ⟨go5,0,none⟩) x0_1.length co9) y383 from (rp_ HO_0.out));obtain ⟨ce12,hcl12,hM12,hcc12,hfr12⟩:=Kd.R_elem HX12.out z69 (x5_1:Int) (od_) (by have h_:(x5_1:Int) < ((x0_1.length:Int):Int):=od_;first|exact h_|(have e_:=(Kd.R_reads' HO_0.out).1;omega)|simpa using h_);obtain rfl:=k69_openM hM12;have HP12:=Kd.R_seg HX12.out (x5_1:Int) (od_) (by have h_:(x5_1:Int) < ((x0_1.length:Int):Int):=od_;first|exact h_|(have e_:=(Kd.R_reads' HO_0.out).1;omega)|simpa using h_) (seg:=[.int .i64 (wrap64 (x1_1+1))]) (j:=1) hcl12 hcc12 (show 2≤3 from by decide) (x':=(⟨(rd_T69 y383 x5_1).f0,wrap64 (x1_1+1),(rd_T69 y383 x5_1).f2⟩:S69)) (k69_mkM _ _ _ (⟨(rd_T69 y383 x5_1).f0,wrap64 (x1_1+1),(rd_T69 y383 x5_1).f2⟩:S69) ) (fun _ hk=>hk);have hx12_1:=hcc12 1 _ rfl;(try simp only [show (k69).sz=3 from rfl,Nat.mul_one,Nat.add_zero] at hx12_1);have hf12_1:=hfr12 1;(try simp only [show (k69).sz=3 from rfl,Nat.mul_one,Nat.add_zero] at hf12_1);clear hcl12 hcc12 hfr12 hM12)|((with_reducible refine gate_store (t:=3) (p:=23) rfl ?_);refine store_event (t:=3) (p:=23) (v:=?vo_w13) (w1:=(w11.setCell ⟨go5,(x5_1:Int).toNat * 3+1,none⟩ (.int .i64 (wrap64 (x1_1+1))))) ?hg ?ho ?hn ?hr ?_;(case ho=>rfl);(case hg=>rfl);(case hn=>rfl);(case hr=>first|(go_simp;done)|(go_simp;rfl));intro w13 hw;have hg:w11.grownBy w13 (some go5):=(by rw [hw];exact HP12.2);have hp_:Kd.R k69 69 w13 w0.heap.size (fun k_=>(P0_ k_∨w.heap.size≤k_)) (.slice (some ⟨go5,0,none⟩) x0_1.length co9) y384:=(by rw [hw,Ny384.out];exact HP12.1);clear HP12;have n0_:=a_ (hp_);have n1_:=a_ ((by rw [hw];exact wS_ (HB.out) GB5.out:Below w0.heap.size w0 w13));have n2_:=a_ (Kept.of_grown (S:=(fun k_=>P0_ k_)) hg (by repeat (first|(with_reducible first|exact HK.out|apply Kept.alloc|apply Kept.drewN|apply Kept.drew)|exact HK.out)) (fun k_ e_=>(HO_0.out.1 k_ e_)));clear HO_0;clear HB;clear HK;have HO_0:=n0_;have HB:=n1_;have HK:=n2_;clear n0_ n1_ n2_;clear hg hw hp_)|((with_reducible refine gC_ (f:=103) rfl ?_);refine gl_ 29 Tryd.func103 #[.int .i64 (wrap64 ((wrap64 (x1_1+1))+1))] ?_;(with_reducible refine (laws_markText.calls k1 (wrap64 ((wrap64 (x1_1+1))+1)) t385 _ A7.out).mono ?_);rintro e w14 ⟨rfl,hb⟩;refine ⟨_,rfl,?_⟩;replace HO_0:=a_ (Kd.R_below (rp_ HO_0.out) hb);replace HK:=a_ (Kept.below (S:=(fun k_=>P0_ k_)) (by repeat (first|(with_reducible first|exact HK.out|apply Kept.alloc|apply Kept.drewN|apply Kept.drew)|exact HK.out)) hb);replace HB:=a_ (bS_ (bel_) hb);(try clear hb);have p8:0≤(x5_1:Int):=od_;have q8:(x5_1:Int) < ((x0_1.length:Int):Int):=od_;obtain ⟨ce8,hcl8,hM8,hcc8,hfr8⟩:=Kd.R_elem HO_0.out z69 (x5_1:Int) p8 q8;obtain rfl:=k69_openM hM8;have hx8_0:w14.cell? ⟨go5,(x5_1:Int).toNat * 3,none⟩=some (.int .i64 ((rd_T69 y384 x5_1).f0)):=hcc8 0 _ rfl;have hx8_1:w14.cell? ⟨go5,(x5_1:Int).toNat * 3+1,none⟩=some (.int .i64 ((rd_T69 y384 x5_1).f1)):=hcc8 1 _ rfl;have hx8_2:w14.cell? ⟨go5,(x5_1:Int).toNat * 3+2,none⟩=some (.string ((rd_T69 y384 x5_1).f2)):=hcc8 2 _ rfl;have hf8_0:w14.frozen? ⟨go5,(x5_1:Int).toNat * 3,none⟩=false:=hfr8 0;have hf8_1:w14.frozen? ⟨go5,(x5_1:Int).toNat * 3+1,none⟩=false:=hfr8 1;have hf8_2:w14.frozen? ⟨go5,(x5_1:Int).toNat * 3+2,none⟩=false:=hfr8 2;clear hcl8 hcc8 hfr8 hM8;replace p8:=eq_true p8;replace q8:=eq_true q8;have HX15:=a_ (show Kd.R k69 69 w14 w0.heap.size (fun k_=>(P0_ k_∨w.heap.size≤k_)) (.slice (some ⟨go5,0,none⟩) x0_1.length co9) y384 from (rp_ HO_0.out));obtain ⟨ce15,hcl15,hM15,hcc15,hfr15⟩:=Kd.R_elem HX15.out z69 (x5_1:Int) (od_) (by have h_:(x5_1:Int) < ((x0_1.length:Int):Int):=od_;first|exact h_|(have e_:=(Kd.R_reads' HO_0.out).1;omega)|simpa using h_);obtain rfl:=k69_openM hM15;have HP15:=Kd.R_seg HX15.out (x5_1:Int) (od_) (by have h_:(x5_1:Int) < ((x0_1.length:Int):Int):=od_;first|exact h_|(have e_:=(Kd.R_reads' HO_0.out).1;omega)|simpa using h_) (seg:=[.string t385]) (j:=2) hcl15 hcc15 (show 3≤3 from by decide) (x':=(⟨(rd_T69 y384 x5_1).f0,(rd_T69 y384 x5_1).f1,t385⟩:S69)) (k69_mkM _ _ _ (⟨(rd_T69 y384 x5_1).f0,(rd_T69 y384 x5_1).f1,t385⟩:S69) ) (fun _ hk=>hk);have hx15_2:=hcc15 2 _ rfl;(try simp only [show (k69).sz=3 from rfl,Nat.mul_one,Nat.add_zero] at hx15_2);have hf15_2:=hfr15 2;(try simp only [show (k69).sz=3 from rfl,Nat.mul_one,Nat.add_zero] at hf15_2);clear hcl15 hcc15 hfr15 hM15)|((with_reducible refine gate_store (t:=9) (p:=31) rfl ?_);refine store_event (t:=9) (p:=31) (v:=?vo_w16) (w1:=(w14.setCell ⟨go5,(x5_1:Int).toNat * 3+2,none⟩ (.string t385))) ?hg ?ho ?hn ?hr ?_;(case ho=>rfl);(case hg=>rfl);(case hn=>rfl);(case hr=>first|(go_simp;done)|(go_simp;rfl));intro w16 hw;have hg:w14.grownBy w16 (some go5):=(by rw [hw];exact HP15.2);have hp_:Kd.R k69 69 w16 w0.heap.size (fun k_=>(P0_ k_∨w.heap.size≤k_)) (.slice (some ⟨go5,0,none⟩) x0_1.length co9) y386:=(by rw [hw,Ny386.out];exact HP15.1);clear HP15;have n0_:=a_ (hp_);have n1_:=a_ ((by rw [hw];exact wS_ (HB.out) GB5.out:Below w0.heap.size w0 w16));have n2_:=a_ (Kept.of_grown (S:=(fun k_=>P0_ k_)) hg (by repeat (first|(with_reducible first|exact HK.out|apply Kept.alloc|apply Kept.drewN|apply Kept.drew)|exact HK.out)) (fun k_ e_=>(HO_0.out.1 k_ e_)));clear HO_0;clear HB;clear HK;have HO_0:=n0_;have HB:=n1_;have HK:=n2_;clear n0_ n1_ n2_;clear hg hw hp_))
     go_roundg k1
     case measure=>have:=HK1.out;omega
     case rel=>exact ⟨(y386),(wrap64 ((wrap64 ((wrap64 (x1_1+1))+1))+1)),(wrap64 (x5_1+1)),(si_),(si_),H',⟨by have:=HK1.out;omega⟩,⟨by (with_reducible repeat (first|apply Kd.R_alloc|apply Kd.R_drewN|apply Kd.R_drew));exact HO_0.out⟩,⟨by repeat (first|(with_reducible first|exact HK.out|apply Kept.alloc|apply Kept.drewN|apply Kept.drew)|exact HK.out)⟩,⟨bel_⟩⟩
    ·rw [if_neg c4] at H
     exact absurd H (by simp)
   ·rw [if_neg c3] at H
    have c3b0:decide (x5_1 < (x0_1.length:Int))=false:=df_ c3
    clear c3
    simp only [Option.some.injEq,Prod.mk.injEq] at H
    obtain ⟨rfl,rfl⟩:=H
    obtain ⟨Ao17,co17,eo17⟩:=Kd.R_slice HO_0.out
    subst eo17
    go_wp2
    go_ret
    exact ⟨fi_,by (with_reducible repeat (first|apply Kd.R_alloc|apply Kd.R_drewN|apply Kd.R_drew));exact HO_0.out,bel_,by repeat (first|(with_reducible first|exact HK.out|apply Kept.alloc|apply Kept.drewN|apply Kept.drew)|exact HK.out)⟩

def laws_markClient.f (k:Nat) (a0_0:Int) (a0_1:Int) (l0_2:List (S69)) (l0_3:List (S44)) (a0_4:Int) (a0_5:Int) (a1:Int):Option (Int×(List (S69))×(List (S44))):=(laws_markRowS.f k l0_2 a1).bind fun bt388=>((laws_markEntryS.f k l0_3 bt388.1).bind fun bt390=>(some (bt390.1,bt388.2,bt390.2)))
theorem laws_markClient.calls (k:Nat) (a0_0:Int) (a0_1:Int) (P0_2_:Nat→Prop) (u9000_:Value) (l0_2:List (S69)) (P0_3_:Nat→Prop) (u9001_:Value) (l0_3:List (S44)) (a0_4:Int) (a0_5:Int) (a1:Int) (r1:Int) (r2:List (S69)) (r3:List (S44)) (w0 w:World) (hB:Below w0.heap.size w0 w) (ho0_2:Kd.R k69 69 w w0.heap.size P0_2_ u9000_ l0_2) (ho0_3:Kd.R k44 44 w w0.heap.size P0_3_ u9001_ l0_3) (h:laws_markClient.f k a0_0 a0_1 l0_2 l0_3 a0_4 a0_5 a1=some (r1,r2,r3)) :
  Calls Tryd.prog 70 #[.agg #[.int .i64 a0_0,.int .i64 a0_1,u9000_,u9001_,.int .i64 a0_4,.int .i64 a0_5],.int .i64 a1] w fun e w'=>e=.returned (.int .i64 r1)∧Kd.R k69 69 w' w0.heap.size (fun k_=>((P0_2_ k_∨P0_3_ k_)∨w.heap.size≤k_)) u9000_ r2∧Kd.R k44 44 w' w0.heap.size (fun k_=>((P0_2_ k_∨P0_3_ k_)∨w.heap.size≤k_)) u9001_ r3∧Below w0.heap.size w0 w'∧Kept w w' (fun k_=>P0_2_ k_∨P0_3_ k_):=by
 have hu77:=Tryd.underlying77
 have HO0_2:=a_ (show Kd.R k69 69 w w0.heap.size (fun k_=>((P0_2_ k_∨P0_3_ k_)∨w.heap.size≤k_)) u9000_ l0_2 from Kd.R_mono ho0_2 (fun k_ hk=>(.inl (.inl hk))))
 have HO0_3:=a_ (show Kd.R k44 44 w w0.heap.size (fun k_=>((P0_2_ k_∨P0_3_ k_)∨w.heap.size≤k_)) u9001_ l0_3 from Kd.R_mono ho0_3 (fun k_ hk=>(.inl (.inr hk))))
 have HK:=a_ (Kept.refl w (fun k_=>P0_2_ k_∨P0_3_ k_))
 have HW0:=a_ hB.size
 have HB:=a_ hB
 clear hB
 unfold laws_markClient.f at h
 have H:=h
 clear h
 replace H:=bs_ H
 obtain ⟨⟨t388,t389⟩,A30,H⟩:=H
 try dsimp only at H
 have A3:=a_ A30
 clear A30
 replace H:=bs_ H
 obtain ⟨⟨t390,t391⟩,A40,H⟩:=H
 try dsimp only at H
 have A4:=a_ A40
 clear A40
 simp only [Option.some.injEq,Prod.mk.injEq] at H
 obtain ⟨rfl,rfl,rfl⟩:=H
 obtain ⟨Ao5,co5,eo5⟩:=Kd.R_slice HO0_2.out
 subst eo5
 obtain ⟨Ao6,co6,eo6⟩:=Kd.R_slice HO0_3.out
 subst eo6
 go_enter Tryd.func70,Tryd.ntmps70
 go_wp2_with (first|((with_reducible refine gD_ (N:=2) rfl ?_);refine bx_ 2 (#[.int .i64 a0_0,.int .i64 a0_1,.slice Ao5 l0_2.length co5,.slice Ao6 l0_3.length co6,.int .i64 a0_4,.int .i64 a0_5]) 77 ?_;intro gb387 hg w7 hbox hb;have n0_:=a_ (Kd.R_below (rp_ HO0_2.out) hb);have n1_:=a_ (Kd.R_below (rp_ HO0_3.out) hb);have n2_:=a_ (Kept.below (S:=(fun k_=>P0_2_ k_∨P0_3_ k_)) (by repeat (first|(with_reducible first|exact HK.out|apply Kept.alloc|apply Kept.drewN|apply Kept.drew)|exact HK.out)) hb);have n3_:=a_ (bS_ (bel_) hb);have n4_:=a_ (hbox);have n5_:=a_ ((by rw [hg];exact (by first|exact HK.out.1|exact (show Kept w _ (fun k_=>P0_2_ k_∨P0_3_ k_) from by repeat (first|(with_reducible first|exact HK.out|apply Kept.alloc|apply Kept.drewN|apply Kept.drew)|exact HK.out)).1):w.heap.size≤gb387));have n6_:=a_ ((by rw [hg];exact (below_size (bel_)):w0.heap.size≤gb387));clear HO0_2;clear HO0_3;clear HK;clear HB;have HO0_2:=n0_;have HO0_3:=n1_;have HK:=n2_;have HB:=n3_;have BK387:=n4_;have GW387:=n5_;have GE387:=n6_;clear n0_ n1_ n2_ n3_ n4_ n5_ n6_;clear hb hbox hg;obtain ⟨Z8_0,Z8_1,Z8_2,Z8_3,Z8_4,Z8_5,Y8_0,Y8_1,Y8_2,Y8_3,Y8_4,Y8_5⟩:=op6_ BK387.out)|((with_reducible refine gC_ (f:=54) rfl ?_);refine gl_ 8 Tryd.func54 #[.slice Ao5 l0_2.length co5,.int .i64 a1] ?_;(with_reducible refine (laws_markRowS.calls k (fun k_=>some k_=(.slice Ao5 l0_2.length co5:Value).ownBlock) (.slice Ao5 l0_2.length co5) l0_2 a1 t388 t389 w0 _ ?side1 ?side2 A3.out).mono ?_);(case side1=>exact bel_);(case side2=>exact Kd.R_tight rfl HO0_2.out);rintro e w9 ⟨rfl,hy0,hb,hkp⟩;refine ⟨_,rfl,?_⟩;replace HO0_3:=a_ (Kd.R_mono (ok':=fun k_=>((P0_2_ k_∨P0_3_ k_)∨w.heap.size≤k_)) (Kd.R_keptB ((Kd.R_apart' HO0_3.out (Kd.R_typed HO0_2.out) (by decide))) hkp (fun k_ hk_ hs_=>(hk_.2) hs_)) (fun k_ hk_=>hk_.1.1));replace BK387:=a_ (blk_kept (bp_ BK387.out) hkp (fun hs_=>(fun e_=>(Kd.R_ne HO0_2.out BK387.out (by decide)) e_) hs_));replace HK:=a_ (Kept.then_ (S:=(fun k_=>P0_2_ k_∨P0_3_ k_)) (by repeat (first|(with_reducible first|exact HK.out|apply Kept.alloc|apply Kept.drewN|apply Kept.drew|refine Kept.setCell ?_ (.inr GW387.out) _)|exact HK.out)) hkp (fun k_ hs_=>(fun e_=>(HO0_2.out.1 k_ e_.symm)) hs_));replace HO0_2:=a_ (Kd.R_reok rfl hy0 (fun k_ e_=>HO0_2.out.1 k_ e_));replace HB:=a_ (hb);(try clear hb hkp hy0);obtain ⟨Z10_0,Z10_1,Z10_2,Z10_3,Z10_4,Z10_5,Y10_0,Y10_1,Y10_2,Y10_3,Y10_4,Y10_5⟩:=op6_ BK387.out)|((with_reducible refine gC_ (f:=53) rfl ?_);refine gl_ 12 Tryd.func53 #[.slice Ao6 l0_3.length co6,.int .i64 t388] ?_;(with_reducible refine (laws_markEntryS.calls k (fun k_=>some k_=(.slice Ao6 l0_3.length co6:Value).ownBlock) (.slice Ao6 l0_3.length co6) l0_3 t388 t390 t391 w0 _ ?side1 ?side2 A4.out).mono ?_);(case side1=>exact bel_);(case side2=>exact Kd.R_tight rfl HO0_3.out);rintro e w11 ⟨rfl,hy0,hb,hkp⟩;refine ⟨_,rfl,?_⟩;replace HO0_2:=a_ (Kd.R_mono (ok':=fun k_=>((P0_2_ k_∨P0_3_ k_)∨w.heap.size≤k_)) (Kd.R_keptB ((Kd.R_apart' HO0_2.out (Kd.R_typed HO0_3.out) (by decide))) hkp (fun k_ hk_ hs_=>(hk_.2) hs_)) (fun k_ hk_=>hk_.1.1));replace BK387:=a_ (blk_kept (bp_ BK387.out) hkp (fun hs_=>(fun e_=>(Kd.R_ne HO0_3.out BK387.out (by decide)) e_) hs_));replace HK:=a_ (Kept.then_ (S:=(fun k_=>P0_2_ k_∨P0_3_ k_)) (by repeat (first|(with_reducible first|exact HK.out|apply Kept.alloc|apply Kept.drewN|apply Kept.drew|refine Kept.setCell ?_ (.inr GW387.out) _)|exact HK.out)) hkp (fun k_ hs_=>(fun e_=>(HO0_3.out.1 k_ e_.symm)) hs_));replace HO0_3:=a_ (Kd.R_reok rfl hy0 (fun k_ e_=>HO0_3.out.1 k_ e_));replace HB:=a_ (hb);(try clear hb hkp hy0)))
 go_ret
 exact ⟨fi_,by (with_reducible repeat (first|apply Kd.R_alloc|apply Kd.R_drewN|apply Kd.R_drew));exact HO0_2.out,by (with_reducible repeat (first|apply Kd.R_alloc|apply Kd.R_drewN|apply Kd.R_drew));exact HO0_3.out,bel_,by repeat (first|(with_reducible first|exact HK.out|apply Kept.alloc|apply Kept.drewN|apply Kept.drew|refine Kept.setCell ?_ (.inr GW387.out) _)|exact HK.out)⟩

def laws_heldRowS.l0:Nat→List (S69)→Int→Int→Option (Int)
 | 0,_,_,_=>none
 | k+1,x0,x1,x5=>if x5 < (x0.length:Int) then (if 0≤x5 then (if ((rd_T69 x0 x5).f0)=x1 then (if ((rd_T69 x0 x5).f1)=(wrap64 (x1+1)) then ((laws_markText.f k (wrap64 ((wrap64 (x1+1))+1))).bind fun t395=>(if ((rd_T69 x0 x5).f2).toList=t395.toList then (laws_heldRowS.l0 k x0 (wrap64 ((wrap64 ((wrap64 (x1+1))+1))+1)) (wrap64 (x5+1))) else (some (-1)))) else (some (-1))) else (some (-1))) else (none)) else (some x1)
def laws_heldRowS.f (k:Nat) (l0:List (S69)) (a1:Int):Option (Int):=laws_heldRowS.l0 k l0 a1 0
def laws_heldRowS.T10:Bool×List (List Nat×List Nat):=(true,[([],[]),([],[]),([0,1],[0,1]),([2],[2]),([3],[3]),([],[]),([5],[5]),([4,6],[4,6])])
def laws_heldRowS.B10:List Nat:=[0,0,3,7,15,0,32,127]
theorem laws_heldRowS.tab10:rtab .any (opsOf Tryd.f55 10)=laws_heldRowS.T10:=by kernel_rfl
theorem laws_heldRowS.bits10:waitsOk laws_heldRowS.T10.2 laws_heldRowS.B10=true:=by kernel_rfl
end Go.Proofs.YtdpklbomhdpimaaDoor.P
