/- Joined by a program (wip/shake.py): the declarations that 'YtdpklbomhdpimaaDoorCardFnExactClientDo' reaches. -/
import Derived.Test.YtdpklbomhdpimaaDoorZLm2
set_option linter.unusedVariables false
set_option linter.unusedSimpArgs false
set_option linter.unusedSectionVars false
set_option maxHeartbeats 8000000
set_option maxRecDepth 100000
namespace Go.Proofs.YtdpklbomhdpimaaDoor.P
open Go.RowKit Go.Proofs.YtdpklbomhdpimaaDoorW.PrintWords Go.Proofs.YtdpklbomhdpimaaDoorW.PrintLast
theorem laws_toClient.calls (k:Nat) (a0_0:Int) (a0_1:Int) (A0_2:Option Addr) (c0_2:Nat) (l0_2:List (S183)) (A0_3:Option Addr) (c0_3:Nat) (l0_3:List (S36)) (a0_4:Int) (a0_5:Int) (r1:Int) (r2:Int) (r3:List (S69)) (r4:List (S44)) (r5:Int) (r6:Int) (w:World) (hr0_2:Kd.C k183 w A0_2 l0_2.length l0_2) (hc0_2:l0_2.length≤c0_2) (hr0_3:Kd.C k36 w A0_3 l0_3.length l0_3) (hc0_3:l0_3.length≤c0_3) (h:laws_toClient.f k a0_0 a0_1 l0_2 l0_3 a0_4 a0_5=some (r1,r2,r3,r4,r5,r6)) :
  Calls Tryd.prog 64 #[.agg #[.int .i64 a0_0,.int .i64 a0_1,.slice A0_2 l0_2.length c0_2,.slice A0_3 l0_3.length c0_3,.int .i64 a0_4,.int .i64 a0_5]] w fun e w'=>∃ v2_ v3_:Value,e=.returned (.agg #[.int .i64 r1,.int .i64 r2,v2_,v3_,.int .i64 r5,.int .i64 r6])∧Kd.R k69 69 w' w.heap.size (fun _=>True) v2_ r3∧Kd.R k44 44 w' w.heap.size (fun _=>True) v3_ r4∧Below w.heap.size w w':=by
 have hu85:=Tryd.underlying85
 have hu77:=Tryd.underlying77
 have HR0_2:=a_ hr0_2
 have HC0_2:=a_ hc0_2
 clear hr0_2 hc0_2
 have HR0_3:=a_ hr0_3
 have HC0_3:=a_ hc0_3
 clear hr0_3 hc0_3
 have HB:=a_ (Below.refl w.heap.size w)
 unfold laws_toClient.f at h
 have H:=h
 clear h
 replace H:=bs_ H
 obtain ⟨t1225,A20,H⟩:=H
 try dsimp only at H
 have A2:=a_ A20
 clear A20
 replace H:=bs_ H
 obtain ⟨t1228,A30,H⟩:=H
 try dsimp only at H
 have A3:=a_ A30
 clear A30
 simp only [Option.some.injEq,Prod.mk.injEq] at H
 obtain ⟨rfl,rfl,rfl,rfl,rfl,rfl⟩:=H
 go_enter Tryd.func64,Tryd.ntmps64
 go_wp2_with (first|((with_reducible refine gD_ (N:=1) rfl ?_);refine bx_ 1 (#[.int .i64 a0_0,.int .i64 a0_1,.slice A0_2 l0_2.length c0_2,.slice A0_3 l0_3.length c0_3,.int .i64 a0_4,.int .i64 a0_5]) 85 ?_;intro gb1222 hg w4 hbox hb;have n0_:=a_ (bS_ (bel_) hb);have n1_:=a_ (hbox);have n2_:=a_ ((by rw [hg];exact (below_size (bel_)):w.heap.size≤gb1222));have n3_:=a_ ((by rw [hg];exact (below_size (bel_)):w.heap.size≤gb1222));clear HB;have HB:=n0_;have BK1222:=n1_;have GW1222:=n2_;have GE1222:=n3_;clear n0_ n1_ n2_ n3_;clear hb hbox hg)|((with_reducible refine gD_ (N:=2) rfl ?_);refine bx_ 2 (#[.int .i64 0,.int .i64 0,.slice none 0 0,.slice none 0 0,.int .i64 0,.int .i64 0]) 77 ?_;intro gb1223 hg w5 hbox hb;have n0_:=a_ (bb_ BK1222.out hb);have n1_:=a_ (bS_ (bel_) hb);have n2_:=a_ (hbox);have n3_:=a_ ((by rw [hg];exact (below_size (bel_)):w.heap.size≤gb1223));have n4_:=a_ ((by rw [hg];exact (below_size (bel_)):w.heap.size≤gb1223));have n5_:=a_ ((by rw [hg];exact Nat.ne_of_lt (blk_lt (g:=gb1222) (o:=.cells #[.int .i64 a0_0,.int .i64 a0_1,.slice A0_2 l0_2.length c0_2,.slice A0_3 l0_3.length c0_3,.int .i64 a0_4,.int .i64 a0_5] 85 (0,0)) (bp_ BK1222.out)):gb1222≠gb1223));have n6_:=a_ ((by rw [hg];exact Nat.ne_of_gt (blk_lt (g:=gb1222) (o:=.cells #[.int .i64 a0_0,.int .i64 a0_1,.slice A0_2 l0_2.length c0_2,.slice A0_3 l0_3.length c0_3,.int .i64 a0_4,.int .i64 a0_5] 85 (0,0)) (bp_ BK1222.out)):gb1223≠gb1222));clear BK1222;clear HB;have BK1222:=n0_;have HB:=n1_;have BK1223:=n2_;have GW1223:=n3_;have GE1223:=n4_;have NB1222_1223:=n5_;have NB1223_1222:=n6_;clear n0_ n1_ n2_ n3_ n4_ n5_ n6_;clear hb hbox hg)|((with_reducible refine gD_ (N:=3) rfl ?_);refine bx_ 3 (#[.int .i64 0,.int .i64 0,.slice none 0 0,.slice none 0 0,.int .i64 0,.int .i64 0]) 77 ?_;intro gb1224 hg w6 hbox hb;have n0_:=a_ (bb_ BK1222.out hb);have n1_:=a_ (bb_ BK1223.out hb);have n2_:=a_ (bS_ (bel_) hb);have n3_:=a_ (hbox);have n4_:=a_ ((by rw [hg];exact (below_size (bel_)):w.heap.size≤gb1224));have n5_:=a_ ((by rw [hg];exact (below_size (bel_)):w.heap.size≤gb1224));have n6_:=a_ ((by rw [hg];exact Nat.ne_of_lt (blk_lt (g:=gb1222) (o:=.cells #[.int .i64 a0_0,.int .i64 a0_1,.slice A0_2 l0_2.length c0_2,.slice A0_3 l0_3.length c0_3,.int .i64 a0_4,.int .i64 a0_5] 85 (0,0)) (bp_ BK1222.out)):gb1222≠gb1224));have n7_:=a_ ((by rw [hg];exact Nat.ne_of_gt (blk_lt (g:=gb1222) (o:=.cells #[.int .i64 a0_0,.int .i64 a0_1,.slice A0_2 l0_2.length c0_2,.slice A0_3 l0_3.length c0_3,.int .i64 a0_4,.int .i64 a0_5] 85 (0,0)) (bp_ BK1222.out)):gb1224≠gb1222));have n8_:=a_ ((by rw [hg];exact Nat.ne_of_lt (blk_lt (g:=gb1223) (o:=.cells #[.int .i64 0,.int .i64 0,.slice none 0 0,.slice none 0 0,.int .i64 0,.int .i64 0] 77 (0,0)) (bp_ BK1223.out)):gb1223≠gb1224));have n9_:=a_ ((by rw [hg];exact Nat.ne_of_gt (blk_lt (g:=gb1223) (o:=.cells #[.int .i64 0,.int .i64 0,.slice none 0 0,.slice none 0 0,.int .i64 0,.int .i64 0] 77 (0,0)) (bp_ BK1223.out)):gb1224≠gb1223));clear BK1222;clear BK1223;clear HB;have BK1222:=n0_;have BK1223:=n1_;have HB:=n2_;have BK1224:=n3_;have GW1224:=n4_;have GE1224:=n5_;have NB1222_1224:=n6_;have NB1224_1222:=n7_;have NB1223_1224:=n8_;have NB1224_1223:=n9_;clear n0_ n1_ n2_ n3_ n4_ n5_ n6_ n7_ n8_ n9_;clear hb hbox hg;have hnb7:=NB1222_1223.out;have hnc7:=NB1223_1222.out;have hnb8:=NB1222_1224.out;have hnc8:=NB1224_1222.out;have Z9_0:=cz_ BK1222.out 0 (.int .i64 a0_0);have Z9_1:=cz_ BK1222.out 1 (.int .i64 a0_1);have Z9_2:=cz_ BK1222.out 2 (.slice A0_2 l0_2.length c0_2);have Z9_3:=cz_ BK1222.out 3 (.slice A0_3 l0_3.length c0_3);have Z9_4:=cz_ BK1222.out 4 (.int .i64 a0_4);have Z9_5:=cz_ BK1222.out 5 (.int .i64 a0_5);have Y9_0:=bF_ BK1222.out 0;have Y9_1:=bF_ BK1222.out 1;have Y9_2:=bF_ BK1222.out 2;have Y9_3:=bF_ BK1222.out 3;have Y9_4:=bF_ BK1222.out 4;have Y9_5:=bF_ BK1222.out 5;have hnb10:=NB1224_1223.out;have hnc10:=NB1223_1224.out;have Z11_0:=cz_ BK1224.out 0 (.int .i64 0);have Z11_1:=cz_ BK1224.out 1 (.int .i64 0);have Z11_2:=cz_ BK1224.out 2 (.slice none 0 0);have Z11_3:=cz_ BK1224.out 3 (.slice none 0 0);have Z11_4:=cz_ BK1224.out 4 (.int .i64 0);have Z11_5:=cz_ BK1224.out 5 (.int .i64 0);have Y11_0:=bF_ BK1224.out 0;have Y11_1:=bF_ BK1224.out 1;have Y11_2:=bF_ BK1224.out 2;have Y11_3:=bF_ BK1224.out 3;have Y11_4:=bF_ BK1224.out 4;have Y11_5:=bF_ BK1224.out 5)|((with_reducible refine gC_ (f:=111) rfl ?_);refine gl_ 12 Tryd.func111 #[.slice A0_2 l0_2.length c0_2] ?_;(with_reducible refine (laws_toRowS.calls k _ _ l0_2 t1225 _ ?side1 ?side2 A2.out).mono ?_);(case side1=>exact Kd.C_below HR0_2.out (bel_));(case side2=>exact HC0_2.out);rintro e w12 ⟨v1226,rfl,ho0,hb⟩;refine ⟨_,rfl,?_⟩;have n0_:=a_ (Kd.R_lower ho0 (below_size (bel_)));have n1_:=a_ (blk_below (g:=gb1222) (o:=.cells #[.int .i64 a0_0,.int .i64 a0_1,.slice A0_2 l0_2.length c0_2,.slice A0_3 l0_3.length c0_3,.int .i64 a0_4,.int .i64 a0_5] 85 (0,0)) (fp1_ NB1222_1224.out BK1222.out) hb);have n2_:=a_ (blk_below (g:=gb1223) (o:=.cells #[.int .i64 0,.int .i64 0,.slice none 0 0,.slice none 0 0,.int .i64 0,.int .i64 0] 77 (0,0)) (fp1_ NB1223_1224.out BK1223.out) hb);have n3_:=a_ (blk_below (g:=gb1224) (o:=.cells #[.int .i64 a0_0,.int .i64 a0_1,.slice none 0 0,.slice none 0 0,.int .i64 0,.int .i64 0] 77 (0,0)) (by (with_reducible repeat (first|refine bN_ ?_ _|refine bD_ ?_|refine bA_ ?_ _));refine blk_put (cs:=#[.int .i64 a0_0,.int .i64 0,.slice none 0 0,.slice none 0 0,.int .i64 0,.int .i64 0]) ?_ 1 _ rfl;(with_reducible repeat (first|refine bN_ ?_ _|refine bD_ ?_|refine bA_ ?_ _));refine blk_put (cs:=#[.int .i64 0,.int .i64 0,.slice none 0 0,.slice none 0 0,.int .i64 0,.int .i64 0]) ?_ 0 _ rfl;(with_reducible repeat (first|refine bN_ ?_ _|refine bD_ ?_|refine bA_ ?_ _));exact BK1224.out) hb);have n4_:=a_ (bS_ (bel_) hb);clear BK1222;clear BK1223;clear BK1224;clear HB;have HO1227:=n0_;have BK1222:=n1_;have BK1223:=n2_;have BK1224:=n3_;have HB:=n4_;clear n0_ n1_ n2_ n3_ n4_;(try clear hb ho0);obtain ⟨Ao13,co13,eo13⟩:=Kd.R_slice HO1227.out;subst eo13;have Z14_0:=cz_ BK1224.out 0 (.int .i64 a0_0);have Z14_1:=cz_ BK1224.out 1 (.int .i64 a0_1);have Z14_2:=cz_ BK1224.out 2 (.slice none 0 0);have Z14_3:=cz_ BK1224.out 3 (.slice none 0 0);have Z14_4:=cz_ BK1224.out 4 (.int .i64 0);have Z14_5:=cz_ BK1224.out 5 (.int .i64 0);have Y14_0:=bF_ BK1224.out 0;have Y14_1:=bF_ BK1224.out 1;have Y14_2:=bF_ BK1224.out 2;have Y14_3:=bF_ BK1224.out 3;have Y14_4:=bF_ BK1224.out 4;have Y14_5:=bF_ BK1224.out 5;have Z15_0:=cz_ BK1222.out 0 (.int .i64 a0_0);have Z15_1:=cz_ BK1222.out 1 (.int .i64 a0_1);have Z15_2:=cz_ BK1222.out 2 (.slice A0_2 l0_2.length c0_2);have Z15_3:=cz_ BK1222.out 3 (.slice A0_3 l0_3.length c0_3);have Z15_4:=cz_ BK1222.out 4 (.int .i64 a0_4);have Z15_5:=cz_ BK1222.out 5 (.int .i64 a0_5);have Y15_0:=bF_ BK1222.out 0;have Y15_1:=bF_ BK1222.out 1;have Y15_2:=bF_ BK1222.out 2;have Y15_3:=bF_ BK1222.out 3;have Y15_4:=bF_ BK1222.out 4;have Y15_5:=bF_ BK1222.out 5)|((with_reducible refine gC_ (f:=50) rfl ?_);refine gl_ 16 Tryd.func50 #[.slice A0_3 l0_3.length c0_3] ?_;(with_reducible refine (laws_toEntryS.calls k _ _ l0_3 t1228 _ ?side1 ?side2 A3.out).mono ?_);(case side1=>exact Kd.C_below HR0_3.out (bel_));(case side2=>exact HC0_3.out);rintro e w16 ⟨v1229,rfl,ho0,hb⟩;refine ⟨_,rfl,?_⟩;have n0_:=a_ (Kd.R_below (by (with_reducible repeat (first|apply Kd.R_alloc|apply Kd.R_drewN|apply Kd.R_drew));exact (Kd.R_mono (Kd.R_far (p:=⟨gb1224,2,none⟩) (Kd.R_types HO1227.out BK1224.out (by decide)) (fun _ hk=>hk.2) (.slice Ao13 t1225.length co13)) (fun _ h_=>h_.1))) hb);have n1_:=a_ (Kd.R_lower ho0 (below_size (bel_)));have n2_:=a_ (blk_below (g:=gb1222) (o:=.cells #[.int .i64 a0_0,.int .i64 a0_1,.slice A0_2 l0_2.length c0_2,.slice A0_3 l0_3.length c0_3,.int .i64 a0_4,.int .i64 a0_5] 85 (0,0)) (fp1_ NB1222_1224.out BK1222.out) hb);have n3_:=a_ (blk_below (g:=gb1223) (o:=.cells #[.int .i64 0,.int .i64 0,.slice none 0 0,.slice none 0 0,.int .i64 0,.int .i64 0] 77 (0,0)) (fp1_ NB1223_1224.out BK1223.out) hb);have n4_:=a_ (blk_below (g:=gb1224) (o:=.cells #[.int .i64 a0_0,.int .i64 a0_1,.slice Ao13 t1225.length co13,.slice none 0 0,.int .i64 0,.int .i64 0] 77 (0,0)) (by (with_reducible repeat (first|refine bN_ ?_ _|refine bD_ ?_|refine bA_ ?_ _));refine blk_put (cs:=#[.int .i64 a0_0,.int .i64 a0_1,.slice none 0 0,.slice none 0 0,.int .i64 0,.int .i64 0]) ?_ 2 _ rfl;(with_reducible repeat (first|refine bN_ ?_ _|refine bD_ ?_|refine bA_ ?_ _));exact BK1224.out) hb);have n5_:=a_ (bS_ (bel_) hb);clear HO1227;clear BK1222;clear BK1223;clear BK1224;clear HB;have HO1227:=n0_;have HO1230:=n1_;have BK1222:=n2_;have BK1223:=n3_;have BK1224:=n4_;have HB:=n5_;clear n0_ n1_ n2_ n3_ n4_ n5_;(try clear hb ho0);obtain ⟨Ao17,co17,eo17⟩:=Kd.R_slice HO1230.out;subst eo17;have Z18_0:=cz_ BK1224.out 0 (.int .i64 a0_0);have Z18_1:=cz_ BK1224.out 1 (.int .i64 a0_1);have Z18_2:=cz_ BK1224.out 2 (.slice Ao13 t1225.length co13);have Z18_3:=cz_ BK1224.out 3 (.slice none 0 0);have Z18_4:=cz_ BK1224.out 4 (.int .i64 0);have Z18_5:=cz_ BK1224.out 5 (.int .i64 0);have Y18_0:=bF_ BK1224.out 0;have Y18_1:=bF_ BK1224.out 1;have Y18_2:=bF_ BK1224.out 2;have Y18_3:=bF_ BK1224.out 3;have Y18_4:=bF_ BK1224.out 4;have Y18_5:=bF_ BK1224.out 5;have Z19_0:=cz_ BK1222.out 0 (.int .i64 a0_0);have Z19_1:=cz_ BK1222.out 1 (.int .i64 a0_1);have Z19_2:=cz_ BK1222.out 2 (.slice A0_2 l0_2.length c0_2);have Z19_3:=cz_ BK1222.out 3 (.slice A0_3 l0_3.length c0_3);have Z19_4:=cz_ BK1222.out 4 (.int .i64 a0_4);have Z19_5:=cz_ BK1222.out 5 (.int .i64 a0_5);have Y19_0:=bF_ BK1222.out 0;have Y19_1:=bF_ BK1222.out 1;have Y19_2:=bF_ BK1222.out 2;have Y19_3:=bF_ BK1222.out 3;have Y19_4:=bF_ BK1222.out 4;have Y19_5:=bF_ BK1222.out 5;have Z20_0:=cz_ BK1223.out 0 (.int .i64 0);have Z20_1:=cz_ BK1223.out 1 (.int .i64 0);have Z20_2:=cz_ BK1223.out 2 (.slice none 0 0);have Z20_3:=cz_ BK1223.out 3 (.slice none 0 0);have Z20_4:=cz_ BK1223.out 4 (.int .i64 0);have Z20_5:=cz_ BK1223.out 5 (.int .i64 0);have Y20_0:=bF_ BK1223.out 0;have Y20_1:=bF_ BK1223.out 1;have Y20_2:=bF_ BK1223.out 2;have Y20_3:=bF_ BK1223.out 3;have Y20_4:=bF_ BK1223.out 4;have Y20_5:=bF_ BK1223.out 5))
 refine bodyPost_ret (results_cell_row rfl _ _ gb1223 77 #[.int .i64 a0_0,.int .i64 a0_1,.slice Ao13 t1225.length co13,.slice Ao17 t1228.length co17,.int .i64 a0_4,.int .i64 a0_5] (0,0) _ rfl (k6p1_ NB1223_1224.out BK1223.out) Tryd.underlying77 rfl (by kernel_rfl)) rfl ?_
 exact ⟨_,_,fi_,by (with_reducible repeat (first|apply Kd.R_alloc|apply Kd.R_drewN|apply Kd.R_drew));exact Kd.R_mono (rf6_ (g:=gb1223) (Kd.R_far (p:=⟨gb1224,5,none⟩) (Kd.R_far (p:=⟨gb1224,4,none⟩) (Kd.R_far (p:=⟨gb1224,3,none⟩) (Kd.R_types (Kd.R_types HO1227.out BK1224.out (by decide)) BK1223.out (by decide)) (fun _ hk=>hk.1.2) (.slice Ao17 t1228.length co17)) (fun _ hk=>hk.1.2) (.int .i64 a0_4)) (fun _ hk=>hk.1.2) (.int .i64 a0_5)) (fun _ hk=>hk.2) (.int .i64 a0_0) (.int .i64 a0_1) (.slice Ao13 t1225.length co13) (.slice Ao17 t1228.length co17) (.int .i64 a0_4) (.int .i64 a0_5)) (fun _ hk=>trivial),by (with_reducible repeat (first|apply Kd.R_alloc|apply Kd.R_drewN|apply Kd.R_drew));exact Kd.R_mono (rf6_ (g:=gb1223) (Kd.R_far (p:=⟨gb1224,5,none⟩) (Kd.R_far (p:=⟨gb1224,4,none⟩) (Kd.R_far (p:=⟨gb1224,3,none⟩) (Kd.R_types (Kd.R_types HO1230.out BK1224.out (by decide)) BK1223.out (by decide)) (fun _ hk=>hk.1.2) (.slice Ao17 t1228.length co17)) (fun _ hk=>hk.1.2) (.int .i64 a0_4)) (fun _ hk=>hk.1.2) (.int .i64 a0_5)) (fun _ hk=>hk.2) (.int .i64 a0_0) (.int .i64 a0_1) (.slice Ao13 t1225.length co13) (.slice Ao17 t1228.length co17) (.int .i64 a0_4) (.int .i64 a0_5)) (fun _ hk=>trivial),bel_⟩

def laws_eqClient.f (k:Nat) (a0_0:Int) (a0_1:Int) (l0_2:List (S69)) (l0_3:List (S44)) (a0_4:Int) (a0_5:Int) (a1_0:Int) (a1_1:Int) (l1_2:List (S69)) (l1_3:List (S44)) (a1_4:Int) (a1_5:Int):Option (Bool):=if a0_0=a1_0 then (if a0_1=a1_1 then ((laws_eqRowS.f k l0_2 l1_2).bind fun t1233=>(if t1233=true then ((laws_eqEntryS.f k l0_3 l1_3).bind fun t1234=>(if t1234=true then (if a0_4=a1_4 then (if a0_5=a1_5 then (some true) else (some false)) else (some false)) else (some false))) else (some false))) else (some false)) else (some false)
theorem laws_eqClient.calls (k:Nat) (a0_0:Int) (a0_1:Int) (A0_2:Option Addr) (c0_2:Nat) (l0_2:List (S69)) (A0_3:Option Addr) (c0_3:Nat) (l0_3:List (S44)) (a0_4:Int) (a0_5:Int) (a1_0:Int) (a1_1:Int) (A1_2:Option Addr) (c1_2:Nat) (l1_2:List (S69)) (A1_3:Option Addr) (c1_3:Nat) (l1_3:List (S44)) (a1_4:Int) (a1_5:Int) (r:Bool) (w:World) (hr0_2:Kd.C k69 w A0_2 l0_2.length l0_2) (hc0_2:l0_2.length≤c0_2) (hr0_3:Kd.C k44 w A0_3 l0_3.length l0_3) (hc0_3:l0_3.length≤c0_3) (hr1_2:Kd.C k69 w A1_2 l1_2.length l1_2) (hc1_2:l1_2.length≤c1_2) (hr1_3:Kd.C k44 w A1_3 l1_3.length l1_3) (hc1_3:l1_3.length≤c1_3) (h:laws_eqClient.f k a0_0 a0_1 l0_2 l0_3 a0_4 a0_5 a1_0 a1_1 l1_2 l1_3 a1_4 a1_5=some r) :
  Calls Tryd.prog 65 #[.agg #[.int .i64 a0_0,.int .i64 a0_1,.slice A0_2 l0_2.length c0_2,.slice A0_3 l0_3.length c0_3,.int .i64 a0_4,.int .i64 a0_5],.agg #[.int .i64 a1_0,.int .i64 a1_1,.slice A1_2 l1_2.length c1_2,.slice A1_3 l1_3.length c1_3,.int .i64 a1_4,.int .i64 a1_5]] w fun e w'=>e=.returned (.bool r)∧Below w.heap.size w w':=by
 have hu77:=Tryd.underlying77
 have HR0_2:=a_ hr0_2
 have HC0_2:=a_ hc0_2
 clear hr0_2 hc0_2
 have HR0_3:=a_ hr0_3
 have HC0_3:=a_ hc0_3
 clear hr0_3 hc0_3
 have HR1_2:=a_ hr1_2
 have HC1_2:=a_ hc1_2
 clear hr1_2 hc1_2
 have HR1_3:=a_ hr1_3
 have HC1_3:=a_ hc1_3
 clear hr1_3 hc1_3
 have HB:=a_ (Below.refl w.heap.size w)
 unfold laws_eqClient.f at h
 have H:=h
 clear h
 by_cases c3:a0_0=a1_0
 ·rw [if_pos c3] at H
  have c3b0:(a0_0==a1_0)=true:=beq_iff_eq.mpr c3
  have c3b1:(a0_0 != a1_0)=false:=be_ c3
  clear c3
  by_cases c4:a0_1=a1_1
  ·rw [if_pos c4] at H
   have c4b0:(a0_1==a1_1)=true:=beq_iff_eq.mpr c4
   have c4b1:(a0_1 != a1_1)=false:=be_ c4
   clear c4
   replace H:=bs_ H
   obtain ⟨t1233,A50,H⟩:=H
   try dsimp only at H
   have A5:=a_ A50
   clear A50
   by_cases c6:t1233=true
   ·subst c6
    have H1:((laws_eqEntryS.f k l0_3 l1_3).bind fun t1234=>(if t1234=true then (if a0_4=a1_4 then (if a0_5=a1_5 then (some true) else (some false)) else (some false)) else (some false)))=some r:=by rw [if_pos rfl] at H;exact H
    clear H
    have H:=H1
    clear H1
    replace H:=bs_ H
    obtain ⟨t1234,A70,H⟩:=H
    try dsimp only at H
    have A7:=a_ A70
    clear A70
    by_cases c8:t1234=true
    ·subst c8
     have H1:(if a0_4=a1_4 then (if a0_5=a1_5 then (some true) else (some false)) else (some false))=some r:=by rw [if_pos rfl] at H;exact H
     clear H
     have H:=H1
     clear H1
     by_cases c9:a0_4=a1_4
     ·rw [if_pos c9] at H
      have c9b0:(a0_4==a1_4)=true:=beq_iff_eq.mpr c9
      have c9b1:(a0_4 != a1_4)=false:=be_ c9
      clear c9
      by_cases c10:a0_5=a1_5
      ·rw [if_pos c10] at H
       have c10b0:(a0_5==a1_5)=true:=beq_iff_eq.mpr c10
       have c10b1:(a0_5 != a1_5)=false:=be_ c10
       clear c10
       obtain rfl:=sj_ H
       go_enter Tryd.func65,Tryd.ntmps65
       go_wp2_with (first|((with_reducible refine gD_ (N:=2) rfl ?_);refine bx_ 2 (#[.int .i64 a0_0,.int .i64 a0_1,.slice A0_2 l0_2.length c0_2,.slice A0_3 l0_3.length c0_3,.int .i64 a0_4,.int .i64 a0_5]) 77 ?_;intro gb1231 hg w11 hbox hb;have n0_:=a_ (bS_ (bel_) hb);have n1_:=a_ (hbox);have n2_:=a_ ((by rw [hg];exact (below_size (bel_)):w.heap.size≤gb1231));have n3_:=a_ ((by rw [hg];exact (below_size (bel_)):w.heap.size≤gb1231));clear HB;have HB:=n0_;have BK1231:=n1_;have GW1231:=n2_;have GE1231:=n3_;clear n0_ n1_ n2_ n3_;clear hb hbox hg)|((with_reducible refine gD_ (N:=3) rfl ?_);refine bx_ 3 (#[.int .i64 a1_0,.int .i64 a1_1,.slice A1_2 l1_2.length c1_2,.slice A1_3 l1_3.length c1_3,.int .i64 a1_4,.int .i64 a1_5]) 77 ?_;intro gb1232 hg w12 hbox hb;have n0_:=a_ (bb_ BK1231.out hb);have n1_:=a_ (bS_ (bel_) hb);have n2_:=a_ (hbox);have n3_:=a_ ((by rw [hg];exact (below_size (bel_)):w.heap.size≤gb1232));have n4_:=a_ ((by rw [hg];exact (below_size (bel_)):w.heap.size≤gb1232));have n5_:=a_ ((by rw [hg];exact Nat.ne_of_lt (blk_lt (g:=gb1231) (o:=.cells #[.int .i64 a0_0,.int .i64 a0_1,.slice A0_2 l0_2.length c0_2,.slice A0_3 l0_3.length c0_3,.int .i64 a0_4,.int .i64 a0_5] 77 (0,0)) (bp_ BK1231.out)):gb1231≠gb1232));have n6_:=a_ ((by rw [hg];exact Nat.ne_of_gt (blk_lt (g:=gb1231) (o:=.cells #[.int .i64 a0_0,.int .i64 a0_1,.slice A0_2 l0_2.length c0_2,.slice A0_3 l0_3.length c0_3,.int .i64 a0_4,.int .i64 a0_5] 77 (0,0)) (bp_ BK1231.out)):gb1232≠gb1231));clear BK1231;clear HB;have BK1231:=n0_;have HB:=n1_;have BK1232:=n2_;have GW1232:=n3_;have GE1232:=n4_;have NB1231_1232:=n5_;have NB1232_1231:=n6_;clear n0_ n1_ n2_ n3_ n4_ n5_ n6_;clear hb hbox hg;have hnb13:=NB1231_1232.out;have hnc13:=NB1232_1231.out;obtain ⟨Z14_0,Z14_1,Z14_2,Z14_3,Z14_4,Z14_5,Y14_0,Y14_1,Y14_2,Y14_3,Y14_4,Y14_5⟩:=op6_ BK1231.out;obtain ⟨Z15_0,Z15_1,Z15_2,Z15_3,Z15_4,Z15_5,Y15_0,Y15_1,Y15_2,Y15_3,Y15_4,Y15_5⟩:=op6_ BK1232.out)|((with_reducible refine gC_ (f:=51) rfl ?_);refine gl_ 19 Tryd.func51 #[.slice A0_2 l0_2.length c0_2,.slice A1_2 l1_2.length c1_2] ?_;(with_reducible refine (laws_eqRowS.calls k _ _ l0_2 _ _ l1_2 true _ ?side1 ?side2 ?side3 ?side4 A5.out).mono ?_);(case side1=>exact cp_ HR0_2.out);(case side2=>exact HC0_2.out);(case side3=>exact cx_ (Kd.C_below HR1_2.out HB.out));(case side4=>exact HC1_2.out);rintro e w16 ⟨rfl,hb⟩;refine ⟨_,rfl,?_⟩;replace HB:=a_ (bS_ (bel_) hb);replace BK1231:=a_ (bb_ BK1231.out hb);replace BK1232:=a_ (bb_ BK1232.out hb);(try clear hb);obtain ⟨Z17_0,Z17_1,Z17_2,Z17_3,Z17_4,Z17_5,Y17_0,Y17_1,Y17_2,Y17_3,Y17_4,Y17_5⟩:=op6_ BK1231.out;obtain ⟨Z18_0,Z18_1,Z18_2,Z18_3,Z18_4,Z18_5,Y18_0,Y18_1,Y18_2,Y18_3,Y18_4,Y18_5⟩:=op6_ BK1232.out)|((with_reducible refine gC_ (f:=52) rfl ?_);refine gl_ 25 Tryd.func52 #[.slice A0_3 l0_3.length c0_3,.slice A1_3 l1_3.length c1_3] ?_;(with_reducible refine (laws_eqEntryS.calls k _ _ l0_3 _ _ l1_3 true _ ?side1 ?side2 ?side3 ?side4 A7.out).mono ?_);(case side1=>exact cp_ HR0_3.out);(case side2=>exact HC0_3.out);(case side3=>exact cx_ (Kd.C_below HR1_3.out HB.out));(case side4=>exact HC1_3.out);rintro e w19 ⟨rfl,hb⟩;refine ⟨_,rfl,?_⟩;replace HB:=a_ (bS_ (bel_) hb);replace BK1231:=a_ (bb_ BK1231.out hb);replace BK1232:=a_ (bb_ BK1232.out hb);(try clear hb);obtain ⟨Z20_0,Z20_1,Z20_2,Z20_3,Z20_4,Z20_5,Y20_0,Y20_1,Y20_2,Y20_3,Y20_4,Y20_5⟩:=op6_ BK1231.out;obtain ⟨Z21_0,Z21_1,Z21_2,Z21_3,Z21_4,Z21_5,Y21_0,Y21_1,Y21_2,Y21_3,Y21_4,Y21_5⟩:=op6_ BK1232.out))
       go_ret
       exact ⟨fi_,bel_⟩
      ·rw [if_neg c10] at H
       have c10b0:(a0_5==a1_5)=false:=bn_ c10
       have c10b1:(a0_5 != a1_5)=true:=bne_iff_ne.mpr c10
       obtain rfl:=sj_ H
       go_enter Tryd.func65,Tryd.ntmps65
       go_wp2_with (first|((with_reducible refine gD_ (N:=2) rfl ?_);refine bx_ 2 (#[.int .i64 a0_0,.int .i64 a0_1,.slice A0_2 l0_2.length c0_2,.slice A0_3 l0_3.length c0_3,.int .i64 a0_4,.int .i64 a0_5]) 77 ?_;intro gb1231 hg w22 hbox hb;have n0_:=a_ (bS_ (bel_) hb);have n1_:=a_ (hbox);have n2_:=a_ ((by rw [hg];exact (below_size (bel_)):w.heap.size≤gb1231));have n3_:=a_ ((by rw [hg];exact (below_size (bel_)):w.heap.size≤gb1231));clear HB;have HB:=n0_;have BK1231:=n1_;have GW1231:=n2_;have GE1231:=n3_;clear n0_ n1_ n2_ n3_;clear hb hbox hg)|((with_reducible refine gD_ (N:=3) rfl ?_);refine bx_ 3 (#[.int .i64 a1_0,.int .i64 a1_1,.slice A1_2 l1_2.length c1_2,.slice A1_3 l1_3.length c1_3,.int .i64 a1_4,.int .i64 a1_5]) 77 ?_;intro gb1232 hg w23 hbox hb;have n0_:=a_ (bb_ BK1231.out hb);have n1_:=a_ (bS_ (bel_) hb);have n2_:=a_ (hbox);have n3_:=a_ ((by rw [hg];exact (below_size (bel_)):w.heap.size≤gb1232));have n4_:=a_ ((by rw [hg];exact (below_size (bel_)):w.heap.size≤gb1232));have n5_:=a_ ((by rw [hg];exact Nat.ne_of_lt (blk_lt (g:=gb1231) (o:=.cells #[.int .i64 a0_0,.int .i64 a0_1,.slice A0_2 l0_2.length c0_2,.slice A0_3 l0_3.length c0_3,.int .i64 a0_4,.int .i64 a0_5] 77 (0,0)) (bp_ BK1231.out)):gb1231≠gb1232));have n6_:=a_ ((by rw [hg];exact Nat.ne_of_gt (blk_lt (g:=gb1231) (o:=.cells #[.int .i64 a0_0,.int .i64 a0_1,.slice A0_2 l0_2.length c0_2,.slice A0_3 l0_3.length c0_3,.int .i64 a0_4,.int .i64 a0_5] 77 (0,0)) (bp_ BK1231.out)):gb1232≠gb1231));clear BK1231;clear HB;have BK1231:=n0_;have HB:=n1_;have BK1232:=n2_;have GW1232:=n3_;have GE1232:=n4_;have NB1231_1232:=n5_;have NB1232_1231:=n6_;clear n0_ n1_ n2_ n3_ n4_ n5_ n6_;clear hb hbox hg;have hnb24:=NB1231_1232.out;have hnc24:=NB1232_1231.out;obtain ⟨Z25_0,Z25_1,Z25_2,Z25_3,Z25_4,Z25_5,Y25_0,Y25_1,Y25_2,Y25_3,Y25_4,Y25_5⟩:=op6_ BK1231.out;obtain ⟨Z26_0,Z26_1,Z26_2,Z26_3,Z26_4,Z26_5,Y26_0,Y26_1,Y26_2,Y26_3,Y26_4,Y26_5⟩:=op6_ BK1232.out)|((with_reducible refine gC_ (f:=51) rfl ?_);refine gl_ 19 Tryd.func51 #[.slice A0_2 l0_2.length c0_2,.slice A1_2 l1_2.length c1_2] ?_;(with_reducible refine (laws_eqRowS.calls k _ _ l0_2 _ _ l1_2 true _ ?side1 ?side2 ?side3 ?side4 A5.out).mono ?_);(case side1=>exact cp_ HR0_2.out);(case side2=>exact HC0_2.out);(case side3=>exact cx_ (Kd.C_below HR1_2.out HB.out));(case side4=>exact HC1_2.out);rintro e w27 ⟨rfl,hb⟩;refine ⟨_,rfl,?_⟩;replace HB:=a_ (bS_ (bel_) hb);replace BK1231:=a_ (bb_ BK1231.out hb);replace BK1232:=a_ (bb_ BK1232.out hb);(try clear hb);obtain ⟨Z28_0,Z28_1,Z28_2,Z28_3,Z28_4,Z28_5,Y28_0,Y28_1,Y28_2,Y28_3,Y28_4,Y28_5⟩:=op6_ BK1231.out;obtain ⟨Z29_0,Z29_1,Z29_2,Z29_3,Z29_4,Z29_5,Y29_0,Y29_1,Y29_2,Y29_3,Y29_4,Y29_5⟩:=op6_ BK1232.out)|((with_reducible refine gC_ (f:=52) rfl ?_);refine gl_ 25 Tryd.func52 #[.slice A0_3 l0_3.length c0_3,.slice A1_3 l1_3.length c1_3] ?_;(with_reducible refine (laws_eqEntryS.calls k _ _ l0_3 _ _ l1_3 true _ ?side1 ?side2 ?side3 ?side4 A7.out).mono ?_);(case side1=>exact cp_ HR0_3.out);(case side2=>exact HC0_3.out);(case side3=>exact cx_ (Kd.C_below HR1_3.out HB.out));(case side4=>exact HC1_3.out);rintro e w30 ⟨rfl,hb⟩;refine ⟨_,rfl,?_⟩;replace HB:=a_ (bS_ (bel_) hb);replace BK1231:=a_ (bb_ BK1231.out hb);replace BK1232:=a_ (bb_ BK1232.out hb);(try clear hb);obtain ⟨Z31_0,Z31_1,Z31_2,Z31_3,Z31_4,Z31_5,Y31_0,Y31_1,Y31_2,Y31_3,Y31_4,Y31_5⟩:=op6_ BK1231.out;obtain ⟨Z32_0,Z32_1,Z32_2,Z32_3,Z32_4,Z32_5,Y32_0,Y32_1,Y32_2,Y32_3,Y32_4,Y32_5⟩:=op6_ BK1232.out))
       go_ret
       exact ⟨fi_,bel_⟩
     ·rw [if_neg c9] at H
      have c9b0:(a0_4==a1_4)=false:=bn_ c9
      have c9b1:(a0_4 != a1_4)=true:=bne_iff_ne.mpr c9
      obtain rfl:=sj_ H
      go_enter Tryd.func65,Tryd.ntmps65
      go_wp2_with (first|((with_reducible refine gD_ (N:=2) rfl ?_);refine bx_ 2 (#[.int .i64 a0_0,.int .i64 a0_1,.slice A0_2 l0_2.length c0_2,.slice A0_3 l0_3.length c0_3,.int .i64 a0_4,.int .i64 a0_5]) 77 ?_;intro gb1231 hg w33 hbox hb;have n0_:=a_ (bS_ (bel_) hb);have n1_:=a_ (hbox);have n2_:=a_ ((by rw [hg];exact (below_size (bel_)):w.heap.size≤gb1231));have n3_:=a_ ((by rw [hg];exact (below_size (bel_)):w.heap.size≤gb1231));clear HB;have HB:=n0_;have BK1231:=n1_;have GW1231:=n2_;have GE1231:=n3_;clear n0_ n1_ n2_ n3_;clear hb hbox hg)|((with_reducible refine gD_ (N:=3) rfl ?_);refine bx_ 3 (#[.int .i64 a1_0,.int .i64 a1_1,.slice A1_2 l1_2.length c1_2,.slice A1_3 l1_3.length c1_3,.int .i64 a1_4,.int .i64 a1_5]) 77 ?_;intro gb1232 hg w34 hbox hb;have n0_:=a_ (bb_ BK1231.out hb);have n1_:=a_ (bS_ (bel_) hb);have n2_:=a_ (hbox);have n3_:=a_ ((by rw [hg];exact (below_size (bel_)):w.heap.size≤gb1232));have n4_:=a_ ((by rw [hg];exact (below_size (bel_)):w.heap.size≤gb1232));have n5_:=a_ ((by rw [hg];exact Nat.ne_of_lt (blk_lt (g:=gb1231) (o:=.cells #[.int .i64 a0_0,.int .i64 a0_1,.slice A0_2 l0_2.length c0_2,.slice A0_3 l0_3.length c0_3,.int .i64 a0_4,.int .i64 a0_5] 77 (0,0)) (bp_ BK1231.out)):gb1231≠gb1232));have n6_:=a_ ((by rw [hg];exact Nat.ne_of_gt (blk_lt (g:=gb1231) (o:=.cells #[.int .i64 a0_0,.int .i64 a0_1,.slice A0_2 l0_2.length c0_2,.slice A0_3 l0_3.length c0_3,.int .i64 a0_4,.int .i64 a0_5] 77 (0,0)) (bp_ BK1231.out)):gb1232≠gb1231));clear BK1231;clear HB;have BK1231:=n0_;have HB:=n1_;have BK1232:=n2_;have GW1232:=n3_;have GE1232:=n4_;have NB1231_1232:=n5_;have NB1232_1231:=n6_;clear n0_ n1_ n2_ n3_ n4_ n5_ n6_;clear hb hbox hg;have hnb35:=NB1231_1232.out;have hnc35:=NB1232_1231.out;obtain ⟨Z36_0,Z36_1,Z36_2,Z36_3,Z36_4,Z36_5,Y36_0,Y36_1,Y36_2,Y36_3,Y36_4,Y36_5⟩:=op6_ BK1231.out;obtain ⟨Z37_0,Z37_1,Z37_2,Z37_3,Z37_4,Z37_5,Y37_0,Y37_1,Y37_2,Y37_3,Y37_4,Y37_5⟩:=op6_ BK1232.out)|((with_reducible refine gC_ (f:=51) rfl ?_);refine gl_ 19 Tryd.func51 #[.slice A0_2 l0_2.length c0_2,.slice A1_2 l1_2.length c1_2] ?_;(with_reducible refine (laws_eqRowS.calls k _ _ l0_2 _ _ l1_2 true _ ?side1 ?side2 ?side3 ?side4 A5.out).mono ?_);(case side1=>exact cp_ HR0_2.out);(case side2=>exact HC0_2.out);(case side3=>exact cx_ (Kd.C_below HR1_2.out HB.out));(case side4=>exact HC1_2.out);rintro e w38 ⟨rfl,hb⟩;refine ⟨_,rfl,?_⟩;replace HB:=a_ (bS_ (bel_) hb);replace BK1231:=a_ (bb_ BK1231.out hb);replace BK1232:=a_ (bb_ BK1232.out hb);(try clear hb);obtain ⟨Z39_0,Z39_1,Z39_2,Z39_3,Z39_4,Z39_5,Y39_0,Y39_1,Y39_2,Y39_3,Y39_4,Y39_5⟩:=op6_ BK1231.out;obtain ⟨Z40_0,Z40_1,Z40_2,Z40_3,Z40_4,Z40_5,Y40_0,Y40_1,Y40_2,Y40_3,Y40_4,Y40_5⟩:=op6_ BK1232.out)|((with_reducible refine gC_ (f:=52) rfl ?_);refine gl_ 25 Tryd.func52 #[.slice A0_3 l0_3.length c0_3,.slice A1_3 l1_3.length c1_3] ?_;(with_reducible refine (laws_eqEntryS.calls k _ _ l0_3 _ _ l1_3 true _ ?side1 ?side2 ?side3 ?side4 A7.out).mono ?_);(case side1=>exact cp_ HR0_3.out);(case side2=>exact HC0_3.out);(case side3=>exact cx_ (Kd.C_below HR1_3.out HB.out));(case side4=>exact HC1_3.out);rintro e w41 ⟨rfl,hb⟩;refine ⟨_,rfl,?_⟩;replace HB:=a_ (bS_ (bel_) hb);replace BK1231:=a_ (bb_ BK1231.out hb);replace BK1232:=a_ (bb_ BK1232.out hb);(try clear hb);obtain ⟨Z42_0,Z42_1,Z42_2,Z42_3,Z42_4,Z42_5,Y42_0,Y42_1,Y42_2,Y42_3,Y42_4,Y42_5⟩:=op6_ BK1231.out;obtain ⟨Z43_0,Z43_1,Z43_2,Z43_3,Z43_4,Z43_5,Y43_0,Y43_1,Y43_2,Y43_3,Y43_4,Y43_5⟩:=op6_ BK1232.out))
      go_ret
      exact ⟨fi_,bel_⟩
    ·replace c8:=Bool.eq_false_iff.mpr c8
     subst c8
     have H1:(some false)=some r:=by rw [if_neg (show ¬ (false=true) by decide)] at H;exact H
     clear H
     have H:=H1
     clear H1
     obtain rfl:=sj_ H
     go_enter Tryd.func65,Tryd.ntmps65
     go_wp2_with (first|((with_reducible refine gD_ (N:=2) rfl ?_);refine bx_ 2 (#[.int .i64 a0_0,.int .i64 a0_1,.slice A0_2 l0_2.length c0_2,.slice A0_3 l0_3.length c0_3,.int .i64 a0_4,.int .i64 a0_5]) 77 ?_;intro gb1231 hg w44 hbox hb;have n0_:=a_ (bS_ (bel_) hb);have n1_:=a_ (hbox);have n2_:=a_ ((by rw [hg];exact (below_size (bel_)):w.heap.size≤gb1231));have n3_:=a_ ((by rw [hg];exact (below_size (bel_)):w.heap.size≤gb1231));clear HB;have HB:=n0_;have BK1231:=n1_;have GW1231:=n2_;have GE1231:=n3_;clear n0_ n1_ n2_ n3_;clear hb hbox hg)|((with_reducible refine gD_ (N:=3) rfl ?_);refine bx_ 3 (#[.int .i64 a1_0,.int .i64 a1_1,.slice A1_2 l1_2.length c1_2,.slice A1_3 l1_3.length c1_3,.int .i64 a1_4,.int .i64 a1_5]) 77 ?_;intro gb1232 hg w45 hbox hb;have n0_:=a_ (bb_ BK1231.out hb);have n1_:=a_ (bS_ (bel_) hb);have n2_:=a_ (hbox);have n3_:=a_ ((by rw [hg];exact (below_size (bel_)):w.heap.size≤gb1232));have n4_:=a_ ((by rw [hg];exact (below_size (bel_)):w.heap.size≤gb1232));have n5_:=a_ ((by rw [hg];exact Nat.ne_of_lt (blk_lt (g:=gb1231) (o:=.cells #[.int .i64 a0_0,.int .i64 a0_1,.slice A0_2 l0_2.length c0_2,.slice A0_3 l0_3.length c0_3,.int .i64 a0_4,.int .i64 a0_5] 77 (0,0)) (bp_ BK1231.out)):gb1231≠gb1232));have n6_:=a_ ((by rw [hg];exact Nat.ne_of_gt (blk_lt (g:=gb1231) (o:=.cells #[.int .i64 a0_0,.int .i64 a0_1,.slice A0_2 l0_2.length c0_2,.slice A0_3 l0_3.length c0_3,.int .i64 a0_4,.int .i64 a0_5] 77 (0,0)) (bp_ BK1231.out)):gb1232≠gb1231));clear BK1231;clear HB;have BK1231:=n0_;have HB:=n1_;have BK1232:=n2_;have GW1232:=n3_;have GE1232:=n4_;have NB1231_1232:=n5_;have NB1232_1231:=n6_;clear n0_ n1_ n2_ n3_ n4_ n5_ n6_;clear hb hbox hg;have hnb46:=NB1231_1232.out;have hnc46:=NB1232_1231.out;obtain ⟨Z47_0,Z47_1,Z47_2,Z47_3,Z47_4,Z47_5,Y47_0,Y47_1,Y47_2,Y47_3,Y47_4,Y47_5⟩:=op6_ BK1231.out;obtain ⟨Z48_0,Z48_1,Z48_2,Z48_3,Z48_4,Z48_5,Y48_0,Y48_1,Y48_2,Y48_3,Y48_4,Y48_5⟩:=op6_ BK1232.out)|((with_reducible refine gC_ (f:=51) rfl ?_);refine gl_ 19 Tryd.func51 #[.slice A0_2 l0_2.length c0_2,.slice A1_2 l1_2.length c1_2] ?_;(with_reducible refine (laws_eqRowS.calls k _ _ l0_2 _ _ l1_2 true _ ?side1 ?side2 ?side3 ?side4 A5.out).mono ?_);(case side1=>exact cp_ HR0_2.out);(case side2=>exact HC0_2.out);(case side3=>exact cx_ (Kd.C_below HR1_2.out HB.out));(case side4=>exact HC1_2.out);rintro e w49 ⟨rfl,hb⟩;refine ⟨_,rfl,?_⟩;replace HB:=a_ (bS_ (bel_) hb);replace BK1231:=a_ (bb_ BK1231.out hb);replace BK1232:=a_ (bb_ BK1232.out hb);(try clear hb);obtain ⟨Z50_0,Z50_1,Z50_2,Z50_3,Z50_4,Z50_5,Y50_0,Y50_1,Y50_2,Y50_3,Y50_4,Y50_5⟩:=op6_ BK1231.out;obtain ⟨Z51_0,Z51_1,Z51_2,Z51_3,Z51_4,Z51_5,Y51_0,Y51_1,Y51_2,Y51_3,Y51_4,Y51_5⟩:=op6_ BK1232.out)|((with_reducible refine gC_ (f:=52) rfl ?_);refine gl_ 25 Tryd.func52 #[.slice A0_3 l0_3.length c0_3,.slice A1_3 l1_3.length c1_3] ?_;(with_reducible refine (laws_eqEntryS.calls k _ _ l0_3 _ _ l1_3 false _ ?side1 ?side2 ?side3 ?side4 A7.out).mono ?_);(case side1=>exact cp_ HR0_3.out);(case side2=>exact HC0_3.out);(case side3=>exact cx_ (Kd.C_below HR1_3.out HB.out));(case side4=>exact HC1_3.out);rintro e w52 ⟨rfl,hb⟩;refine ⟨_,rfl,?_⟩;replace HB:=a_ (bS_ (bel_) hb);replace BK1231:=a_ (bb_ BK1231.out hb);replace BK1232:=a_ (bb_ BK1232.out hb);(try clear hb)))
     go_ret
     exact ⟨fi_,bel_⟩
   ·replace c6:=Bool.eq_false_iff.mpr c6
    subst c6
    have H1:(some false)=some r:=by rw [if_neg (show ¬ (false=true) by decide)] at H;exact H
    clear H
    have H:=H1
    clear H1
    obtain rfl:=sj_ H
    go_enter Tryd.func65,Tryd.ntmps65
    go_wp2_with (first|((with_reducible refine gD_ (N:=2) rfl ?_);refine bx_ 2 (#[.int .i64 a0_0,.int .i64 a0_1,.slice A0_2 l0_2.length c0_2,.slice A0_3 l0_3.length c0_3,.int .i64 a0_4,.int .i64 a0_5]) 77 ?_;intro gb1231 hg w53 hbox hb;have n0_:=a_ (bS_ (bel_) hb);have n1_:=a_ (hbox);have n2_:=a_ ((by rw [hg];exact (below_size (bel_)):w.heap.size≤gb1231));have n3_:=a_ ((by rw [hg];exact (below_size (bel_)):w.heap.size≤gb1231));clear HB;have HB:=n0_;have BK1231:=n1_;have GW1231:=n2_;have GE1231:=n3_;clear n0_ n1_ n2_ n3_;clear hb hbox hg)|((with_reducible refine gD_ (N:=3) rfl ?_);refine bx_ 3 (#[.int .i64 a1_0,.int .i64 a1_1,.slice A1_2 l1_2.length c1_2,.slice A1_3 l1_3.length c1_3,.int .i64 a1_4,.int .i64 a1_5]) 77 ?_;intro gb1232 hg w54 hbox hb;have n0_:=a_ (bb_ BK1231.out hb);have n1_:=a_ (bS_ (bel_) hb);have n2_:=a_ (hbox);have n3_:=a_ ((by rw [hg];exact (below_size (bel_)):w.heap.size≤gb1232));have n4_:=a_ ((by rw [hg];exact (below_size (bel_)):w.heap.size≤gb1232));have n5_:=a_ ((by rw [hg];exact Nat.ne_of_lt (blk_lt (g:=gb1231) (o:=.cells #[.int .i64 a0_0,.int .i64 a0_1,.slice A0_2 l0_2.length c0_2,.slice A0_3 l0_3.length c0_3,.int .i64 a0_4,.int .i64 a0_5] 77 (0,0)) (bp_ BK1231.out)):gb1231≠gb1232));have n6_:=a_ ((by rw [hg];exact Nat.ne_of_gt (blk_lt (g:=gb1231) (o:=.cells #[.int .i64 a0_0,.int .i64 a0_1,.slice A0_2 l0_2.length c0_2,.slice A0_3 l0_3.length c0_3,.int .i64 a0_4,.int .i64 a0_5] 77 (0,0)) (bp_ BK1231.out)):gb1232≠gb1231));clear BK1231;clear HB;have BK1231:=n0_;have HB:=n1_;have BK1232:=n2_;have GW1232:=n3_;have GE1232:=n4_;have NB1231_1232:=n5_;have NB1232_1231:=n6_;clear n0_ n1_ n2_ n3_ n4_ n5_ n6_;clear hb hbox hg;have hnb55:=NB1231_1232.out;have hnc55:=NB1232_1231.out;obtain ⟨Z56_0,Z56_1,Z56_2,Z56_3,Z56_4,Z56_5,Y56_0,Y56_1,Y56_2,Y56_3,Y56_4,Y56_5⟩:=op6_ BK1231.out;obtain ⟨Z57_0,Z57_1,Z57_2,Z57_3,Z57_4,Z57_5,Y57_0,Y57_1,Y57_2,Y57_3,Y57_4,Y57_5⟩:=op6_ BK1232.out)|((with_reducible refine gC_ (f:=51) rfl ?_);refine gl_ 19 Tryd.func51 #[.slice A0_2 l0_2.length c0_2,.slice A1_2 l1_2.length c1_2] ?_;(with_reducible refine (laws_eqRowS.calls k _ _ l0_2 _ _ l1_2 false _ ?side1 ?side2 ?side3 ?side4 A5.out).mono ?_);(case side1=>exact cp_ HR0_2.out);(case side2=>exact HC0_2.out);(case side3=>exact cx_ (Kd.C_below HR1_2.out HB.out));(case side4=>exact HC1_2.out);rintro e w58 ⟨rfl,hb⟩;refine ⟨_,rfl,?_⟩;replace HB:=a_ (bS_ (bel_) hb);replace BK1231:=a_ (bb_ BK1231.out hb);replace BK1232:=a_ (bb_ BK1232.out hb);(try clear hb)))
    go_ret
    exact ⟨fi_,bel_⟩
  ·rw [if_neg c4] at H
   have c4b0:(a0_1==a1_1)=false:=bn_ c4
   have c4b1:(a0_1 != a1_1)=true:=bne_iff_ne.mpr c4
   obtain rfl:=sj_ H
   go_enter Tryd.func65,Tryd.ntmps65
   go_wp2_with (first|((with_reducible refine gD_ (N:=2) rfl ?_);refine bx_ 2 (#[.int .i64 a0_0,.int .i64 a0_1,.slice A0_2 l0_2.length c0_2,.slice A0_3 l0_3.length c0_3,.int .i64 a0_4,.int .i64 a0_5]) 77 ?_;intro gb1231 hg w59 hbox hb;have n0_:=a_ (bS_ (bel_) hb);have n1_:=a_ (hbox);have n2_:=a_ ((by rw [hg];exact (below_size (bel_)):w.heap.size≤gb1231));have n3_:=a_ ((by rw [hg];exact (below_size (bel_)):w.heap.size≤gb1231));clear HB;have HB:=n0_;have BK1231:=n1_;have GW1231:=n2_;have GE1231:=n3_;clear n0_ n1_ n2_ n3_;clear hb hbox hg)|((with_reducible refine gD_ (N:=3) rfl ?_);refine bx_ 3 (#[.int .i64 a1_0,.int .i64 a1_1,.slice A1_2 l1_2.length c1_2,.slice A1_3 l1_3.length c1_3,.int .i64 a1_4,.int .i64 a1_5]) 77 ?_;intro gb1232 hg w60 hbox hb;have n0_:=a_ (bb_ BK1231.out hb);have n1_:=a_ (bS_ (bel_) hb);have n2_:=a_ (hbox);have n3_:=a_ ((by rw [hg];exact (below_size (bel_)):w.heap.size≤gb1232));have n4_:=a_ ((by rw [hg];exact (below_size (bel_)):w.heap.size≤gb1232));have n5_:=a_ ((by rw [hg];exact Nat.ne_of_lt (blk_lt (g:=gb1231) (o:=.cells #[.int .i64 a0_0,.int .i64 a0_1,.slice A0_2 l0_2.length c0_2,.slice A0_3 l0_3.length c0_3,.int .i64 a0_4,.int .i64 a0_5] 77 (0,0)) (bp_ BK1231.out)):gb1231≠gb1232));have n6_:=a_ ((by rw [hg];exact Nat.ne_of_gt (blk_lt (g:=gb1231) (o:=.cells #[.int .i64 a0_0,.int .i64 a0_1,.slice A0_2 l0_2.length c0_2,.slice A0_3 l0_3.length c0_3,.int .i64 a0_4,.int .i64 a0_5] 77 (0,0)) (bp_ BK1231.out)):gb1232≠gb1231));clear BK1231;clear HB;have BK1231:=n0_;have HB:=n1_;have BK1232:=n2_;have GW1232:=n3_;have GE1232:=n4_;have NB1231_1232:=n5_;have NB1232_1231:=n6_;clear n0_ n1_ n2_ n3_ n4_ n5_ n6_;clear hb hbox hg;have hnb61:=NB1231_1232.out;have hnc61:=NB1232_1231.out;obtain ⟨Z62_0,Z62_1,Z62_2,Z62_3,Z62_4,Z62_5,Y62_0,Y62_1,Y62_2,Y62_3,Y62_4,Y62_5⟩:=op6_ BK1231.out;obtain ⟨Z63_0,Z63_1,Z63_2,Z63_3,Z63_4,Z63_5,Y63_0,Y63_1,Y63_2,Y63_3,Y63_4,Y63_5⟩:=op6_ BK1232.out))
   go_ret
   exact ⟨fi_,bel_⟩
 ·rw [if_neg c3] at H
  have c3b0:(a0_0==a1_0)=false:=bn_ c3
  have c3b1:(a0_0 != a1_0)=true:=bne_iff_ne.mpr c3
  obtain rfl:=sj_ H
  go_enter Tryd.func65,Tryd.ntmps65
  go_wp2_with (first|((with_reducible refine gD_ (N:=2) rfl ?_);refine bx_ 2 (#[.int .i64 a0_0,.int .i64 a0_1,.slice A0_2 l0_2.length c0_2,.slice A0_3 l0_3.length c0_3,.int .i64 a0_4,.int .i64 a0_5]) 77 ?_;intro gb1231 hg w64 hbox hb;have n0_:=a_ (bS_ (bel_) hb);have n1_:=a_ (hbox);have n2_:=a_ ((by rw [hg];exact (below_size (bel_)):w.heap.size≤gb1231));have n3_:=a_ ((by rw [hg];exact (below_size (bel_)):w.heap.size≤gb1231));clear HB;have HB:=n0_;have BK1231:=n1_;have GW1231:=n2_;have GE1231:=n3_;clear n0_ n1_ n2_ n3_;clear hb hbox hg)|((with_reducible refine gD_ (N:=3) rfl ?_);refine bx_ 3 (#[.int .i64 a1_0,.int .i64 a1_1,.slice A1_2 l1_2.length c1_2,.slice A1_3 l1_3.length c1_3,.int .i64 a1_4,.int .i64 a1_5]) 77 ?_;intro gb1232 hg w65 hbox hb;have n0_:=a_ (bb_ BK1231.out hb);have n1_:=a_ (bS_ (bel_) hb);have n2_:=a_ (hbox);have n3_:=a_ ((by rw [hg];exact (below_size (bel_)):w.heap.size≤gb1232));have n4_:=a_ ((by rw [hg];exact (below_size (bel_)):w.heap.size≤gb1232));have n5_:=a_ ((by rw [hg];exact Nat.ne_of_lt (blk_lt (g:=gb1231) (o:=.cells #[.int .i64 a0_0,.int .i64 a0_1,.slice A0_2 l0_2.length c0_2,.slice A0_3 l0_3.length c0_3,.int .i64 a0_4,.int .i64 a0_5] 77 (0,0)) (bp_ BK1231.out)):gb1231≠gb1232));have n6_:=a_ ((by rw [hg];exact Nat.ne_of_gt (blk_lt (g:=gb1231) (o:=.cells #[.int .i64 a0_0,.int .i64 a0_1,.slice A0_2 l0_2.length c0_2,.slice A0_3 l0_3.length c0_3,.int .i64 a0_4,.int .i64 a0_5] 77 (0,0)) (bp_ BK1231.out)):gb1232≠gb1231));clear BK1231;clear HB;have BK1231:=n0_;have HB:=n1_;have BK1232:=n2_;have GW1232:=n3_;have GE1232:=n4_;have NB1231_1232:=n5_;have NB1232_1231:=n6_;clear n0_ n1_ n2_ n3_ n4_ n5_ n6_;clear hb hbox hg;have hnb66:=NB1231_1232.out;have hnc66:=NB1232_1231.out;obtain ⟨Z67_0,Z67_1,Z67_2,Z67_3,Z67_4,Z67_5,Y67_0,Y67_1,Y67_2,Y67_3,Y67_4,Y67_5⟩:=op6_ BK1231.out;obtain ⟨Z68_0,Z68_1,Z68_2,Z68_3,Z68_4,Z68_5,Y68_0,Y68_1,Y68_2,Y68_3,Y68_4,Y68_5⟩:=op6_ BK1232.out))
  go_ret
  exact ⟨fi_,bel_⟩

end Go.Proofs.YtdpklbomhdpimaaDoor.P
namespace Go.Proofs.YtdpklbomhdpimaaDoor.PL
open Go.RowKit Go.Proofs.YtdpklbomhdpimaaDoor.P Go.Proofs.YtdpklbomhdpimaaDoorW.PrintWords Go.Proofs.YtdpklbomhdpimaaDoorW.PrintLast
def wfE (e:S44):Prop:=I64 e.f0∧I64 e.f1∧I64 e.f2.f0∧I64 e.f2.f1∧I64 e.f2.f2∧I64 e.f2.f3∧e.f2.f4.size≤9223372036854775807
def entB (e:S44):Bool :=
 decide (1≤e.f0)&&decide (e.f0≤3)&&(decide (1≤e.f1)&&decide (e.f1≤40))&&opB e.f2.f0 e.f2.f1 e.f2.f2 e.f2.f3 e.f2.f4&&(decide (e.f2.f0≠1) || decide (ownI e.f2.f1 - 1=e.f0))
theorem who_made (i:Int) (h:madeB i=true):ownI i - 1=wrap64 (Int.tdiv i 10):=by
 obtain ⟨h0,h1⟩:=made_small i h
 obtain ⟨n,rfl⟩:∃ n:Nat,i=n:=⟨i.toNat,by omega⟩
 rw [tdiv_wrap _ ⟨by omega,by omega⟩]
 exact small_who n (by omega) h
theorem ent_f (e:S44) (h:wfE e):Ev (fun n=>impl_EntryOk.f n e.f0 e.f1 e.f2.f0 e.f2.f1 e.f2.f2 e.f2.f3 e.f2.f4) (entB e):=by
 obtain ⟨h0,h1,h2,h3,h4,h5,h6⟩:=h
 unfold impl_EntryOk.f impl_whoOk.f entB
 by_cases a1:e.f0≥1
 ·simp only [a1,if_true,Option.bind_some,ge_iff_le,decide_true,Bool.true_and]
  cases a2:decide (e.f0≤3) with
  | false=>simp only [Bool.false_eq_true,if_false,Bool.false_and];exact evnow _
  | true =>
   simp only [if_true,Bool.true_and]
   by_cases a3:e.f1 < 1
   ·have:decide (1≤e.f1)=false:=df_ (by omega)
    simp only [a3,if_true,this,Bool.false_and];exact evnow _
   ·have e3:decide (1≤e.f1)=true:=dt_ (by omega)
    by_cases a4:e.f1 > 40
    ·have:decide (e.f1≤40)=false:=df_ (by omega)
     simp only [a3,if_false,a4,if_true,this,Bool.and_false,Bool.false_and];exact evnow _
    ·have e4:decide (e.f1≤40)=true:=dt_ (by omega)
     simp only [a3,if_false,a4,e3,e4,Bool.true_and]
     refine Ev.bind (opOk_f _ _ _ _ _ h6) ?_
     cases ho:opB e.f2.f0 e.f2.f1 e.f2.f2 e.f2.f3 e.f2.f4 with
     | false=>simp only [Bool.false_eq_true,if_false,Bool.false_and];exact evnow _
     | true =>
      simp only [if_true,Bool.true_and]
      have hm:=opB_made _ _ _ _ _ ho
      unfold impl_RowWho.f
      have hn:ownI e.f2.f1≠0:=by
       intro hz
       unfold madeB at hm
       rw [hz] at hm
       simp at hm
      rw [if_neg hn]
      simp only [Option.bind_some]
      by_cases a5:e.f2.f0=1
      ·simp only [a5,if_true,ne_eq,not_true,decide_false,Bool.false_or]
       have:(ownI e.f2.f1 - 1==e.f0)=decide (ownI e.f2.f1 - 1=e.f0):=by by_cases hq:ownI e.f2.f1 - 1=e.f0 <;> simp [hq]
       rw [this];exact evnow _
      ·simp only [a5,if_false,ne_eq,not_false_eq_true,decide_true,Bool.true_or];exact evnow _
 ·have:decide (1≤e.f0)=false:=df_ (by omega)
  simp only [a1,if_false,Option.bind_some,Bool.false_eq_true,this,Bool.false_and];exact evnow _
theorem sent_f (e:S44) (h:wfE e):Ev (fun n=>spec_EntryOk.f n e.f0 e.f1 e.f2.f0 e.f2.f1 e.f2.f2 e.f2.f3 e.f2.f4) (entB e):=by
 obtain ⟨h0,h1,h2,h3,h4,h5,h6⟩:=h
 unfold spec_EntryOk.f entB
 rw [in_f,in_f]
 simp only [Option.bind_some]
 cases (decide (1≤e.f0)&&decide (e.f0≤3)) with
 | false=>simp only [Bool.false_eq_true,if_false,Bool.false_and];exact evnow _
 | true =>
  cases (decide (1≤e.f1)&&decide (e.f1≤40)) with
  | false=>simp only [Bool.false_eq_true,if_true,if_false,Bool.true_and,Bool.false_and];exact evnow _
  | true =>
   simp only [if_true,Bool.true_and]
   refine Ev.bind (sop_f _ _ _ _ _ h3 h4 h5 h6) ?_
   cases ho:opB e.f2.f0 e.f2.f1 e.f2.f2 e.f2.f3 e.f2.f4 with
   | false=>simp only [Bool.false_eq_true,if_false,Bool.false_and];exact evnow _
   | true =>
    simp only [if_true,Bool.true_and]
    have hm:=who_made _ (opB_made _ _ _ _ _ ho)
    by_cases a5:e.f2.f0=1
    ·simp only [a5,if_true,ne_eq,not_true,decide_false,Bool.false_or]
     have:(wrap64 (Int.tdiv e.f2.f1 10)==e.f0)=decide (ownI e.f2.f1 - 1=e.f0):=by rw [hm];by_cases hq:wrap64 (Int.tdiv e.f2.f1 10)=e.f0 <;> simp [hq]
     rw [this];exact evnow _
    ·simp only [a5,if_false,ne_eq,not_false_eq_true,decide_true,Bool.true_or];exact evnow _
def wfL (l:List S44):Prop:=∀ e∈l,wfE e
theorem rdE_get (l:List S44) (i:Nat) (h:i < l.length):rd_T44 l i=l[i]:=by
 unfold rd_T44
 rw [List.getD_eq_getElem?_getD,show ((i:Int)).toNat=i from rfl,List.getElem?_eq_getElem h]
 rfl
end Go.Proofs.YtdpklbomhdpimaaDoor.PL
namespace Go.Proofs.YtdpklbomhdpimaaDoor.P
open Go.RowKit Go.Shelf Go.Proofs.YtdpklbomhdpimaaDoorW.PrintWords Go.Proofs.YtdpklbomhdpimaaDoorW.PrintLast Go.Proofs.YtdpklbomhdpimaaDoorW.PrintMore
attribute [local go_sem] Oper.semAt_some

end Go.Proofs.YtdpklbomhdpimaaDoor.P
namespace Go.Proofs.YtdpklbomhdpimaaDoor.PL
open Go.RowKit Go.Proofs.YtdpklbomhdpimaaDoor.P Go.Proofs.YtdpklbomhdpimaaDoorW.PrintWords Go.Proofs.YtdpklbomhdpimaaDoorW.PrintLast
theorem wrap_id (x:Int) (h0:-9223372036854775808≤x) (h1:x≤9223372036854775807):wrap64 x=x:=by unfold wrap64;omega
theorem rdR_get (t:List S69) (i:Nat) (h:i < t.length):rd_T69 t i=t[i]:=by
 unfold rd_T69
 rw [List.getD_eq_getElem?_getD,show ((i:Int)).toNat=i from rfl,List.getElem?_eq_getElem h]
 rfl
end Go.Proofs.YtdpklbomhdpimaaDoor.PL
namespace Go.Proofs.YtdpklbomhdpimaaDoor.PL
open Go.RowKit Go.Proofs.YtdpklbomhdpimaaDoor.P Go.Proofs.YtdpklbomhdpimaaDoorW.PrintWords Go.Proofs.YtdpklbomhdpimaaDoorW.PrintLast
def wfR (r:S69):Prop:=I64 r.f0∧r.f2.size≤9223372036854775807
theorem treeGo_congr:∀ (l:List S69) (s s':List Int) (roots d:Int),(∀ x,x∈s↔x∈s')→treeGo s roots d l=treeGo s' roots d l
 | [],_,_,_,_,_=>rfl
 | r::rest,s,s',roots,d,h=>by
  have hc:∀ x,x∈r.f0::s↔x∈r.f0::s':=fun x=>by simp only [List.mem_cons,h x]
  have hd:decide (r.f0∉s)=decide (r.f0∉s'):=by simp only [h r.f0]
  unfold treeGo
  rw [hd,treeGo_congr rest _ _ (roots+1) r.f1 hc,treeGo_congr rest _ _ roots r.f1 hc]
theorem rowB_deep {r:S69} (h:rowB r=true):0≤r.f1∧r.f1≤18:=by
 obtain ⟨_,_,d0,d18⟩:=rowB_id h
 exact ⟨d0,d18⟩
theorem st_l1 (t:List S69) (hl:t.length≤1000000000) (roots:Int) (i:Nat) (hi:i < t.length) (b:Bool) (hnext:Ev (fun k=>spec_TreeOk.l0 k t roots ((i:Int)+1)) b):∀ (n j:Nat),j+n=i→Ev (fun k=>spec_TreeOk.l1 k t roots i j) (decide (t[i].f0∉((t.take i).drop j).map (·.f0))&&b)
 | 0,j,h=>by
  have hji:j=i:=by omega
  subst hji
  rw [List.drop_eq_nil_of_le (by rw [List.length_take];omega)]
  refine Ev.step (fun k=>by simp only [spec_TreeOk.l1];rfl) ?_
  refine ev_neg (by omega) ?_
  rw [wrapS j (by omega) (by omega)]
  simpa using hnext
 | n+1,j,h=>by
  have hj:j < (t.take i).length:=by rw [List.length_take];omega
  have hjt:j < t.length:=by omega
  rw [List.drop_eq_getElem_cons hj,List.map_cons,List.getElem_take]
  refine Ev.step (fun k=>by simp only [spec_TreeOk.l1];rfl) ?_
  refine ev_pos (by omega) (ev_pos (by omega) (ev_pos (by omega) (ev_pos (by omega) (ev_pos (by omega) ?_))))
  rw [rdR_get t j hjt,rdR_get t i hi,wrapS j (by omega) (by omega)]
  by_cases hq:t[j].f0=t[i].f0
  ·refine ev_pos hq ?_
   rw [df_ (by simp [hq]),Bool.false_and]
   exact evnow _
  ·refine ev_neg hq ?_
   have ih:=st_l1 t hl roots i hi b hnext n (j+1) (by omega)
   have e:decide (t[i].f0∉t[j].f0::((t.take i).drop (j+1)).map (·.f0))=decide (t[i].f0∉((t.take i).drop (j+1)).map (·.f0)):=by
    rw [decide_eq_decide,List.mem_cons,not_or]
    exact ⟨fun q=>q.2,fun q=>⟨fun e=>hq e.symm,q⟩⟩
   rw [e]
   exact ih
theorem st_l0 (t:List S69) (hl:t.length≤1000000000) (hw:∀ r∈t,wfR r):∀ (n i:Nat) (roots:Int) (h:i+n=t.length) (h1:0 < i) (h2:i≤t.length),0≤roots→roots≤i→rowB (t[i - 1]'(by omega))=true →
  Ev (fun k=>spec_TreeOk.l0 k t roots i) (treeGo ((t.take i).map (·.f0)) roots (t[i - 1]'(by omega)).f1 (t.drop i)&&((t[0]'(by omega)).f0==1))
 | 0,i,roots,h,h1,h2,r0,r1,hp=>by
  rw [List.drop_eq_nil_of_le (by omega)]
  refine Ev.step (fun k=>by simp only [spec_TreeOk.l0];rfl) ?_
  refine ev_neg (by omega) ?_
  unfold treeGo
  by_cases hr:roots=3
  ·refine ev_pos hr (ev_pos (by omega) ?_)
   rw [dt_ hr,Bool.true_and,show rd_T69 t 0=t[0]'(by omega) from rdR_get t 0 (by omega)]
   exact evnow _
  ·refine ev_neg hr ?_
   rw [df_ hr,Bool.false_and]
   exact evnow _
 | n+1,i,roots,h,h1,h2,r0,r1,hp=>by
  have hi:i < t.length:=by omega
  have hi1:i - 1 < t.length:=by omega
  obtain ⟨w0,w1⟩:=hw t[i] (List.getElem_mem hi)
  obtain ⟨d0,d18⟩:=rowB_deep hp
  rw [List.drop_eq_getElem_cons hi]
  refine Ev.step (fun k=>by simp only [spec_TreeOk.l0];rfl) ?_
  refine ev_pos (by omega) (ev_pos (by omega) ?_)
  rw [rdR_get t i hi]
  refine Ev.bind (srow_f t[i] w0 w1) ?_
  unfold treeGo
  cases hrow:rowB t[i] with
  | false =>
   simp only [Bool.false_eq_true,if_false,Bool.false_and]
   refine Ev.step (fun k=>by simp only [spec_TreeOk.j1];rfl) ?_
   exact ev_pos trivial (evnow _)
  | true =>
   simp only [if_true,Bool.true_and]
   have hw1:wrap64 ((i:Int) - 1)=((i - 1:Nat):Int):=by rw [wrap_id _ (by omega) (by omega)];omega
   rw [hw1]
   refine ev_pos (by omega) (ev_pos (by omega) (ev_pos (by omega) ?_))
   rw [rdR_get t (i - 1) hi1,wrap_id (t[i - 1].f1+1) (by omega) (by omega)]
   refine Ev.step (fun k=>by simp only [spec_TreeOk.j1];rfl) ?_
   by_cases hd:t[i].f1 > t[i - 1].f1+1
   ·refine ev_pos (by simpa using hd) ?_
    rw [df_ (show ¬ t[i].f1≤t[i - 1].f1+1 by omega),Bool.false_and,Bool.and_false,Bool.false_and]
    exact evnow _
   ·refine ev_neg (by simpa using hd) (ev_pos (by omega) (ev_pos (by omega) ?_))
    rw [dt_ (show t[i].f1≤t[i - 1].f1+1 by omega),Bool.true_and,rdR_get t i hi,root_f]
    simp only [Option.bind_some]
    have hseen:∀ x,x∈(t.take (i+1)).map (·.f0)↔x∈t[i].f0::(t.take i).map (·.f0):=fun x=>by
     rw [List.take_succ_eq_append_getElem hi,List.map_append,List.mem_append,List.mem_cons]
     simp [or_comm]
    have hstep:∀ (roots':Int),0≤roots'→roots'≤(i+1:Nat)→Ev (fun k=>spec_TreeOk.j2 k t roots' i) (decide (t[i].f0∉(t.take i).map (·.f0))&&(treeGo (t[i].f0::(t.take i).map (·.f0)) roots' t[i].f1 (t.drop (i+1))&&((t[0]'(by omega)).f0==1))):=fun roots' q0 q1=>by
     refine Ev.step (fun k=>by simp only [spec_TreeOk.j2];rfl) ?_
     have ih:=st_l0 t hl hw n (i+1) roots' (by omega) (by omega) (by omega) q0 q1 hrow
     have ih2:Ev (fun k=>spec_TreeOk.l0 k t roots' ((i:Int)+1)) (treeGo (t[i].f0::(t.take i).map (·.f0)) roots' t[i].f1 (t.drop (i+1))&&((t[0]'(by omega)).f0==1)):=by
      rw [←treeGo_congr (t.drop (i+1)) _ _ roots' t[i].f1 hseen]
      exact ih
     have:=st_l1 t hl roots' i hi _ ih2 i 0 (by omega)
     rw [List.drop_zero] at this
     exact this
    cases hroot:rootB t[i].f0 with
    | true =>
     simp only [if_true]
     have hw2:wrap64 (roots+1)=roots+1:=wrap_id _ (by omega) (by omega)
     rw [hw2]
     by_cases he:t[i].f0=roots+1
     ·refine ev_pos he ?_
      rw [dt_ he,Bool.true_and,Bool.and_assoc]
      exact hstep (roots+1) (by omega) (by omega)
     ·refine ev_neg he ?_
      rw [df_ he,Bool.false_and,Bool.and_false,Bool.false_and]
      exact evnow _
    | false =>
     simp only [Bool.false_eq_true,if_false]
     rw [Bool.and_assoc]
     exact hstep roots r0 (by omega)
theorem stree_f (t:List S69) (hl:t.length≤1000000000) (hw:∀ r∈t,wfR r):Ev (fun k=>spec_TreeOk.f k t) (treeB t):=by
 unfold spec_TreeOk.f treeB
 cases t with
 | nil =>
  refine Ev.step (fun k=>by simp only [spec_TreeOk.l0];rfl) ?_
  exact ev_neg (by simp) (ev_neg (by decide) (evnow _))
 | cons r rest =>
  obtain ⟨w0,w1⟩:=hw r List.mem_cons_self
  have hr0:rd_T69 (r::rest) 0=r:=rdR_get (r::rest) 0 (by simp)
  refine Ev.step (fun k=>by simp only [spec_TreeOk.l0];rfl) ?_
  refine ev_pos (by simp) (ev_pos (by omega) ?_)
  rw [hr0]
  refine Ev.bind (srow_f r w0 w1) ?_
  unfold treeGo
  cases hrow:rowB r with
  | false =>
   simp only [Bool.false_eq_true,if_false,Bool.false_and]
   refine Ev.step (fun k=>by simp only [spec_TreeOk.j1];rfl) ?_
   exact ev_pos trivial (evnow _)
  | true =>
   simp only [if_true,Bool.true_and]
   refine ev_neg (by omega) ?_
   refine Ev.step (fun k=>by simp only [spec_TreeOk.j1];rfl) ?_
   refine ev_neg (by decide) (ev_pos (by omega) (ev_pos (by simp) ?_))
   rw [hr0,root_f]
   simp only [Option.bind_some]
   have hstep:∀ (roots':Int),0≤roots'→roots'≤1→Ev (fun k=>spec_TreeOk.j2 k (r::rest) roots' 0) (treeGo [r.f0] roots' r.f1 rest&&(r.f0==1)):=fun roots' q0 q1=>by
    refine Ev.step (fun k=>by simp only [spec_TreeOk.j2];rfl) ?_
    have ih:=st_l0 (r::rest) hl hw rest.length 1 roots' (by simp;omega) (by omega) (by simp) q0 (by omega) hrow
    have:=st_l1 (r::rest) hl roots' 0 (by simp) _ ih 0 0 rfl
    simpa using this
   have hdp:=rowB_deep hrow
   cases hroot:rootB r.f0 with
   | true =>
    simp only [if_true]
    have hd:r.f1=0:=by
     unfold rowB at hrow
     rw [if_pos hroot] at hrow
     simp only [Bool.and_eq_true,decide_eq_true_eq] at hrow
     exact hrow.1
    rw [dt_ (show r.f1≤-1+1 by omega),Bool.true_and,show wrap64 (0+1)=1 from wrap_id (0+1) (by omega) (by omega)]
    by_cases he:r.f0=1
    ·refine ev_pos he ?_
     have:=hstep 1 (by omega) (by omega)
     have e1:(r.f0==1)=true:=beq_iff_eq.2 he
     rw [e1,Bool.and_true] at this
     simpa [he] using this
    ·refine ev_neg he ?_
     rw [df_ (show ¬ r.f0=0+1 by omega),Bool.false_and,Bool.and_false]
     exact evnow _
   | false =>
    simp only [Bool.false_eq_true,if_false]
    have hd:1≤r.f1:=by
     unfold rowB at hrow
     rw [if_neg (by rw [hroot];decide)] at hrow
     simp only [Bool.and_eq_true,decide_eq_true_eq] at hrow
     exact hrow.2.1
    have hne:(r.f0==1)=false:=beq_eq_false_iff_ne.2 fun e=>by rw [e] at hroot;exact absurd hroot (by decide)
    rw [df_ (show ¬ r.f1≤-1+1 by omega),Bool.false_and,Bool.and_false]
    have:=hstep 0 (by omega) (by omega)
    rwa [hne,Bool.and_false] at this
end Go.Proofs.YtdpklbomhdpimaaDoor.PL
namespace Go.Proofs.YtdpklbomhdpimaaDoor.PL
open Go.RowKit Go.Proofs.YtdpklbomhdpimaaDoor.P Go.Proofs.YtdpklbomhdpimaaDoorW.PrintWords Go.Proofs.YtdpklbomhdpimaaDoorW.PrintLast
def waitGo (who done made:Int):Nat→List S44→Bool
 | _,[]=>true
 | i,e::l=>entB e&&(decide (e.f0=who)&&(decide (e.f1=done+i+1)&&((decide (e.f2.f0≠1) || decide (e.f2.f1≤10 * who+made))&&waitGo who done made (i+1) l)))
def cliB (who seen:Int) (b:List S69) (w:List S44) (done made:Int):Bool :=
 (decide (1≤who)&&decide (who≤3))&&((decide (0≤seen)&&decide (seen≤40))&&(treeB b&&((decide (0≤done)&&decide (done≤seen))&&(decide (done+w.length≤40)&&((decide (0≤made)&&decide (made≤6))&&waitGo who done made 0 w)))))
section
variable (who seen done made:Int) (b:List S69) (w:List S44)
theorem icli_j3 (h1:1≤who∧who≤3) (hm:0≤made∧made≤6) (len:Int) (i:Nat) (hi:i≤1000) (e:S44) (R:Bool) (h:Ev (fun k=>impl_ClientOk.l0 k w len ((i+1:Nat):Int) who seen b w done made) R) (f:Bool) :
  Ev (fun k=>impl_ClientOk.j3 k w len i f who seen b w done made e.f0 e.f1 e.f2.f0 e.f2.f1 e.f2.f2 e.f2.f3 e.f2.f4) (!f&&((decide (e.f2.f0≠1) || decide (e.f2.f1≤10 * who+made))&&R)):=by
 refine Ev.step (fun k=>by simp only [impl_ClientOk.j3];rfl) ?_
 cases f with
 | true=>exact ev_pos rfl (evnow _)
 | false =>
  have w1:wrap64 (wrap64 (10 * who)+made)=10 * who+made:=by rw [wrap_id (10 * who) (by omega) (by omega),wrap_id _ (by omega) (by omega)]
  have w2:wrap64 ((i:Int)+1)=((i+1:Nat):Int):=wrap_id _ (by omega) (by omega)
  refine ev_neg (by decide) ?_
  rw [w1,w2]
  by_cases a:e.f2.f0=1
  ·refine ev_pos a ?_
   by_cases g:e.f2.f1 > 10 * who+made
   ·have z:(!false&&((decide (e.f2.f0≠1) || decide (e.f2.f1≤10 * who+made))&&R))=false:=by simp [a];intro;omega
    rw [z]
    exact ev_pos g (evnow _)
   ·have z:(!false&&((decide (e.f2.f0≠1) || decide (e.f2.f1≤10 * who+made))&&R))=R:=by rw [dt_ (show e.f2.f1≤10 * who+made by omega)];simp
    rw [z]
    exact ev_neg g h
  ·have z:(!false&&((decide (e.f2.f0≠1) || decide (e.f2.f1≤10 * who+made))&&R))=R:=by simp [a]
   rw [z]
   exact ev_neg a h
theorem icli_l0 (hw:wfL w) (h1:1≤who∧who≤3) (hd:0≤done∧done≤40) (hm:0≤made∧made≤6) (hl:w.length≤1000):∀ n i:Nat,i+n=w.length→Ev (fun k=>impl_ClientOk.l0 k w (w.length:Int) i who seen b w done made) (waitGo who done made i (w.drop i))
 | 0,i,h=>by
  rw [List.drop_eq_nil_of_le (by omega)]
  refine Ev.step (f:=fun _=>some true) (fun k=>?_) (evnow _)
  simp only [impl_ClientOk.l0];rw [if_neg (by omega)]
 | n+1,i,h=>by
  have hi:i < w.length:=by omega
  rw [List.drop_eq_getElem_cons hi]
  have J:=icli_j3 who seen done made b w h1 hm (w.length:Int) i (by omega) w[i] _ (icli_l0 hw h1 hd hm hl n (i+1) (by omega))
  have ws:wrap64 (wrap64 (done+(i:Int))+1)=done+i+1:=by rw [wrap_id (done+i) (by omega) (by omega),wrap_id _ (by omega) (by omega)]
  refine Ev.step (f:=fun k=>(impl_EntryOk.f k w[i].f0 w[i].f1 w[i].f2.f0 w[i].f2.f1 w[i].f2.f2 w[i].f2.f3 w[i].f2.f4).bind fun t=>if t=true then (if w[i].f0=who then impl_ClientOk.j3 k w (w.length:Int) i (w[i].f1 != done+i+1) who seen b w done made w[i].f0 w[i].f1 w[i].f2.f0 w[i].f2.f1 w[i].f2.f2 w[i].f2.f3 w[i].f2.f4 else impl_ClientOk.j3 k w (w.length:Int) i true who seen b w done made w[i].f0 w[i].f1 w[i].f2.f0 w[i].f2.f1 w[i].f2.f2 w[i].f2.f3 w[i].f2.f4) else impl_ClientOk.j3 k w (w.length:Int) i true who seen b w done made w[i].f0 w[i].f1 w[i].f2.f0 w[i].f2.f1 w[i].f2.f2 w[i].f2.f3 w[i].f2.f4) (fun k=>?_) ?_
  ·simp only [impl_ClientOk.l0]
   rw [if_pos (by omega),if_pos (by omega),if_pos (by omega),rdE_get w i hi,ws]
  ·refine Ev.bind (ent_f _ (hw _ (List.getElem_mem hi))) ?_
   unfold waitGo
   cases entB w[i] with
   | false=>exact ev_neg (by decide) (J true)
   | true =>
    refine ev_pos rfl ?_
    by_cases a:w[i].f0=who
    ·refine ev_pos a ?_
     have q:=J (w[i].f1 != done+i+1)
     have z:(!(w[i].f1 != done+i+1))=decide (w[i].f1=done+i+1):=by by_cases hq:w[i].f1=done+i+1 <;> simp [hq]
     rw [z] at q
     rw [dt_ a,Bool.true_and,Bool.true_and]
     exact q
    ·rw [df_ a]
     exact ev_neg a (J true)
theorem icli_f (hw:wfL w) (hl:w.length≤1099511627776):Ev (fun k=>impl_ClientOk.f k who seen b w done made) (cliB who seen b w done made):=by
 have j0t:Ev (fun k=>impl_ClientOk.j0 k true who seen b w done made) false:=Ev.step (f:=fun _=>some false) (fun k=>by simp only [impl_ClientOk.j0];rfl) (evnow _)
 have j1t:Ev (fun k=>impl_ClientOk.j1 k true who seen b w done made) false:=Ev.step (f:=fun _=>some false) (fun k=>by simp only [impl_ClientOk.j1];rfl) (evnow _)
 unfold impl_ClientOk.f impl_whoOk.f cliB
 by_cases a1:who≥1
 ·rw [if_pos a1]
  simp only [Option.bind_some]
  rw [dt_ (show 1≤who from a1),Bool.true_and]
  by_cases a2:who≤3
  ·rw [dt_ a2,Bool.true_and]
   refine ev_pos rfl ?_
   by_cases a3:seen < 0
   ·rw [df_ (show ¬ 0≤seen by omega)]
    exact ev_pos a3 j0t
   ·rw [dt_ (show 0≤seen by omega),Bool.true_and]
    refine ev_neg a3 ?_
    by_cases a4:seen > 40
    ·rw [df_ (show ¬ seen≤40 by omega)]
     exact ev_pos a4 j0t
    ·rw [dt_ (show seen≤40 by omega),Bool.true_and]
     refine ev_neg a4 ?_
     unfold impl_TreeOk.f
     simp only [Option.bind_some]
     cases treeB b with
     | false=>exact j0t
     | true =>
      rw [Bool.true_and]
      refine Ev.step (fun k=>by simp only [impl_ClientOk.j0];rfl) ?_
      refine ev_neg (by decide) ?_
      by_cases a5:done < 0
      ·rw [df_ (show ¬ 0≤done by omega)]
       exact ev_pos a5 j1t
      ·rw [dt_ (show 0≤done by omega),Bool.true_and]
       refine ev_neg a5 ?_
       by_cases a6:done > seen
       ·rw [df_ (show ¬ done≤seen by omega)]
        exact ev_pos a6 j1t
       ·rw [dt_ (show done≤seen by omega),Bool.true_and]
        refine ev_neg a6 ?_
        rw [wrap_id (40 - done) (by omega) (by omega)]
        by_cases a7:(w.length:Int) > 40 - done
        ·rw [df_ (show ¬ done+w.length≤40 by omega)]
         exact ev_pos a7 j1t
        ·rw [dt_ (show done+w.length≤40 by omega),Bool.true_and]
         refine ev_neg a7 ?_
         by_cases a8:made < 0
         ·rw [df_ (show ¬ 0≤made by omega)]
          exact ev_pos a8 j1t
         ·rw [dt_ (show 0≤made by omega),Bool.true_and]
          refine ev_neg a8 ?_
          by_cases a9:made > 6
          ·rw [df_ (show ¬ made≤6 by omega),dt_ a9]
           exact j1t
          ·rw [dt_ (show made≤6 by omega),df_ a9,Bool.true_and]
           refine Ev.step (fun k=>by simp only [impl_ClientOk.j1];rfl) ?_
           exact ev_neg (by decide) (icli_l0 who seen done made b w hw ⟨by omega,by omega⟩ ⟨by omega,by omega⟩ ⟨by omega,by omega⟩ (by omega) w.length 0 (by omega))
  ·rw [df_ a2]
   exact ev_neg (by decide) j0t
 ·rw [if_neg a1]
  simp only [Option.bind_some]
  rw [df_ (show ¬ 1≤who by omega)]
  exact ev_neg (by decide) j0t
theorem scli_l0 (hw:wfL w) (h1:1≤who∧who≤3) (hd:0≤done∧done≤40) (hm:0≤made∧made≤6) (hl:w.length≤1000):∀ n i:Nat,i+n=w.length→Ev (fun k=>spec_ClientOk.l0 k i who seen b w done made) (waitGo who done made i (w.drop i))
 | 0,i,h=>by
  rw [List.drop_eq_nil_of_le (by omega)]
  refine Ev.step (f:=fun _=>some true) (fun k=>?_) (evnow _)
  simp only [spec_ClientOk.l0];rw [if_neg (by omega)]
 | n+1,i,h=>by
  have hi:i < w.length:=by omega
  have ih:=scli_l0 hw h1 hd hm hl n (i+1) (by omega)
  rw [List.drop_eq_getElem_cons hi]
  have ws:wrap64 (wrap64 (done+(i:Int))+1)=done+i+1:=by rw [wrap_id (done+i) (by omega) (by omega),wrap_id _ (by omega) (by omega)]
  have w1:wrap64 (wrap64 (10 * who)+made)=10 * who+made:=by rw [wrap_id (10 * who) (by omega) (by omega),wrap_id _ (by omega) (by omega)]
  have w2:wrap64 ((i:Int)+1)=((i+1:Nat):Int):=wrap_id _ (by omega) (by omega)
  refine Ev.step (f:=fun k=>(spec_EntryOk.f k w[i].f0 w[i].f1 w[i].f2.f0 w[i].f2.f1 w[i].f2.f2 w[i].f2.f3 w[i].f2.f4).bind fun t=>if t=true then (if w[i].f0=who then (if w[i].f1=done+i+1 then (if w[i].f2.f0=1 then (if w[i].f2.f1 > 10 * who+made then some false else spec_ClientOk.l0 k ((i+1:Nat):Int) who seen b w done made) else spec_ClientOk.l0 k ((i+1:Nat):Int) who seen b w done made) else some false) else some false) else some false) (fun k=>?_) ?_
  ·simp only [spec_ClientOk.l0]
   rw [if_pos (by omega),if_pos (by omega),rdE_get w i hi,ws,w1,w2]
  ·refine Ev.bind (sent_f _ (hw _ (List.getElem_mem hi))) ?_
   unfold waitGo
   cases entB w[i] with
   | false=>exact ev_neg (by decide) (evnow _)
   | true =>
    refine ev_pos rfl ?_
    rw [Bool.true_and]
    by_cases a:w[i].f0=who
    ·rw [dt_ a,Bool.true_and]
     refine ev_pos a ?_
     by_cases c:w[i].f1=done+i+1
     ·rw [dt_ c,Bool.true_and]
      refine ev_pos c ?_
      by_cases g:w[i].f2.f0=1
      ·refine ev_pos g ?_
       rw [df_ (show ¬ w[i].f2.f0≠1 from fun z=>z g),Bool.false_or]
       by_cases o:w[i].f2.f1 > 10 * who+made
       ·rw [df_ (show ¬ w[i].f2.f1≤10 * who+made by omega)]
        exact ev_pos o (evnow _)
       ·rw [dt_ (show w[i].f2.f1≤10 * who+made by omega),Bool.true_and]
        exact ev_neg o ih
      ·rw [dt_ (show w[i].f2.f0≠1 from g),Bool.true_or,Bool.true_and]
       exact ev_neg g ih
     ·rw [df_ c]
      exact ev_neg c (evnow _)
    ·rw [df_ a]
     exact ev_neg a (evnow _)
theorem scli_f (hw:wfL w) (hl:w.length≤1099511627776) (hb:b.length≤1000000000) (hr:∀ r∈b,wfR r) (hs:I64 seen) (hd:I64 done):Ev (fun k=>spec_ClientOk.f k who seen b w done made) (cliB who seen b w done made):=by
 have j0t:Ev (fun k=>spec_ClientOk.j0 k true who seen b w done made) false:=Ev.step (f:=fun _=>some false) (fun k=>by simp only [spec_ClientOk.j0];rfl) (evnow _)
 unfold spec_ClientOk.f cliB
 simp only [in_f,Option.bind_some]
 cases a1:(decide (1≤who)&&decide (who≤3)) with
 | false=>exact ev_neg (by decide) j0t
 | true =>
  rw [Bool.true_and]
  refine ev_pos rfl ?_
  cases a2:(decide (0≤seen)&&decide (seen≤40)) with
  | false=>exact ev_neg (by decide) j0t
  | true =>
   rw [Bool.true_and]
   refine ev_pos rfl (Ev.bind (stree_f b hb hr) ?_)
   cases treeB b with
   | false=>exact ev_neg (by decide) j0t
   | true =>
    rw [Bool.true_and]
    refine ev_pos rfl ?_
    cases a3:(decide (0≤done)&&decide (done≤seen)) with
    | false=>exact ev_neg (by decide) j0t
    | true =>
     rw [Bool.true_and]
     refine ev_pos rfl ?_
     simp only [Bool.and_eq_true,decide_eq_true_eq] at a1 a2 a3
     rw [wrap_id (done+(w.length:Int)) (by omega) (by omega)]
     by_cases a4:done+(w.length:Int) > 40
     ·rw [df_ (show ¬ done+w.length≤40 by omega)]
      exact ev_pos a4 j0t
     ·rw [dt_ (show done+w.length≤40 by omega),Bool.true_and]
      refine ev_neg a4 ?_
      cases a5:(decide (0≤made)&&decide (made≤6)) with
      | false=>exact j0t
      | true =>
       rw [Bool.true_and]
       simp only [Bool.and_eq_true,decide_eq_true_eq] at a5
       refine Ev.step (fun k=>by simp only [spec_ClientOk.j0];rfl) ?_
       exact ev_neg (by decide) (scli_l0 who seen done made b w hw a1 ⟨by omega,by omega⟩ a5 (by omega) w.length 0 (by omega))
end
end Go.Proofs.YtdpklbomhdpimaaDoor.PL
namespace Go.Proofs.YtdpklbomhdpimaaDoor.PL
open Go.RowKit Go.Proofs.YtdpklbomhdpimaaDoor.P Go.Proofs.YtdpklbomhdpimaaDoorW.PrintWords Go.Proofs.YtdpklbomhdpimaaDoorW.PrintLast
theorem take_set_next {α:Type} (x:List α) (i:Int) (v:α) (h0:0≤i) (h:i < x.length):(x.set i.toNat v).take (i+1).toNat=x.take i.toNat++[v]:=by
 have e:(i+1).toNat=i.toNat+1:=by omega
 have hl:i.toNat < (x.set i.toNat v).length:=by rw [List.length_set];omega
 rw [e,List.take_succ_eq_append_getElem hl,List.getElem_set_self]
 congr 1
 rw [List.take_set_of_le (Nat.le_refl _)]
theorem eqOp_refl (a b c d:Int) (e:ByteArray):laws_eqOp.f a b c d e a b c d e=some true:=by simp [laws_eqOp.f]
theorem eqEntry_refl (x y a b c d:Int) (e:ByteArray):laws_eqEntry.f x y a b c d e x y a b c d e=some true:=by simp [laws_eqEntry.f,eqOp_refl]
theorem eqE_ev (d:Nat):∀ (x:List S44) (i:Int),0≤i→(x.length:Int) - i=d→x.length≤1099511627776→Ev (fun k=>laws_eqEntryS.l0 k x x i) true:=by
 induction d with
 | zero =>
  intro x i h0 hd hl
  refine Ev.step (f:=fun _=>some true) (fun k=>?_) (evnow _)
  simp only [laws_eqEntryS.l0];rw [if_neg (by omega)]
 | succ d ih =>
  intro x i h0 hd hl
  have hi:i < (x.length:Int):=by omega
  refine Ev.step (fun k=>?_) (ih x (i+1) (by omega) (by omega) hl)
  simp only [laws_eqEntryS.l0,if_pos hi,if_pos h0,eqEntry_refl,Option.bind_some,if_true,wrapS i h0 (by omega)]
theorem eqE (x:List S44) (hl:x.length≤1099511627776):Ev (fun k=>laws_eqEntryS.f k x x) true :=
 Ev.congr (fun k=>by simp only [laws_eqEntryS.f,if_true]) (eqE_ev x.length x 0 (by omega) (by omega) hl)
def conv (e:S36):S44:=⟨e.f0,e.f1,⟨e.f2.f0,e.f2.f1,e.f2.f2,e.f2.f3,e.f2.f4⟩⟩
def wfX (e:S36):Prop:=I64 e.f0∧I64 e.f1∧I64 e.f2.f0∧I64 e.f2.f1∧I64 e.f2.f2∧I64 e.f2.f3∧e.f2.f4.size≤9223372036854775807
theorem rdX_get (l:List S36) (i:Nat) (h:i < l.length):rd_T36 l i=l[i]:=by
 unfold rd_T36
 rw [List.getD_eq_getElem?_getD,show ((i:Int)).toNat=i from rfl,List.getElem?_eq_getElem h]
 rfl
theorem wf_conv {l:List S36} (h:∀ e∈l,wfX e):wfL (l.map conv):=by
 intro e he
 obtain ⟨x,hx,rfl⟩:=List.mem_map.1 he
 exact h x hx
theorem sz_l0 (l:List S36) (hw:∀ e∈l,wfX e) (hl:l.length≤1099511627776):∀ (n:Nat) (i:Nat) (b:Int),i+n=l.length→0≤b→b≤1048576→∃ r:Int,Ev (fun k=>laws_szEntryS.l0 k l b i) r
 | 0,i,b,h,h0,h1=>⟨b,Ev.step (f:=fun _=>some b) (fun k=>by simp only [laws_szEntryS.l0];rw [if_neg (by omega)]) (evnow _)⟩
 | n+1,i,b,h,h0,h1=>by
  have hi:i < l.length:=by omega
  obtain ⟨_,_,_,_,_,_,hs⟩:=hw _ (List.getElem_mem hi)
  have hww:wrap64 (b - (l[i].f2.f4.size:Int))=b - l[i].f2.f4.size:=by unfold wrap64;omega
  by_cases hb:b - (l[i].f2.f4.size:Int) < 0
  ·refine ⟨-1,Ev.step (f:=fun _=>some (-1)) (fun k=>?_) (evnow _)⟩
   simp only [laws_szEntryS.l0]
   rw [if_pos (by omega),if_pos (by omega),rdX_get l i hi]
   simp only [laws_szEntry.f,laws_szOp.f,hww]
   rw [if_pos hb]
   rfl
  ·obtain ⟨r,hr⟩:=sz_l0 l hw hl n (i+1) (b - l[i].f2.f4.size) (by omega) (by omega) (by omega)
   refine ⟨r,Ev.step (fun k=>?_) hr⟩
   simp only [laws_szEntryS.l0]
   rw [if_pos (by omega),if_pos (by omega),rdX_get l i hi]
   simp only [laws_szEntry.f,laws_szOp.f,hww]
   rw [if_neg hb]
   simp only [Option.bind_some]
   rw [if_neg hb]
   simp only [Option.bind_some]
   rw [if_neg hb,wrapS i (by omega) (by omega)]
   rfl
theorem szE_g (l:List S36) (b:Int) (hw:∀ e∈l,wfX e) (hl:l.length≤9223372036854775807) (h0:0≤b) (h1:b≤1048576):∃ r:Int,Ev (fun k=>laws_szEntryS.f k l b) r∧(¬ r < 0→l.length≤1048576):=by
 unfold laws_szEntryS.f
 have hww:wrap64 (b - (l.length:Int))=b - l.length:=by unfold wrap64;omega
 rw [hww]
 by_cases hb:b - (l.length:Int) < 0
 ·exact ⟨-1,ev_pos hb (evnow _),fun h=>absurd (by decide) h⟩
 ·obtain ⟨r,hr⟩:=sz_l0 l hw (by omega) l.length 0 (b - l.length) (by omega) (by omega) (by omega)
  exact ⟨r,ev_neg hb hr,fun _=>by omega⟩
theorem to_l0 (l:List S36) (hl:l.length≤1099511627776):∀ (n:Nat) (i:Nat) (x:List S44),i+n=l.length→x.length=l.length→x.take i=(l.take i).map conv→Ev (fun k=>laws_toEntryS.l0 k l x i) (l.map conv)
 | 0,i,x,h,hx,ht=>by
  refine Ev.step (f:=fun _=>some x) (fun k=>?_) ?_
  ·simp only [laws_toEntryS.l0];rw [if_neg (by omega)]
  ·rw [List.take_of_length_le (by omega),List.take_of_length_le (by omega)] at ht
   rw [ht];exact evnow _
 | n+1,i,x,h,hx,ht=>by
  have hi:i < l.length:=by omega
  refine Ev.step (fun k=>?_) (to_l0 l hl n (i+1) (x.set i (conv l[i])) (by omega) (by rw [List.length_set];exact hx) ?_)
  ·simp only [laws_toEntryS.l0]
   rw [if_pos (by omega),if_pos (by omega),rdX_get l i hi]
   simp only [laws_toEntry.f,laws_toOp.f,Option.bind_some]
   rw [if_pos (by omega),wrapS i (by omega) (by omega)]
   rfl
  ·have:=take_set_next x (i:Int) (conv l[i]) (by omega) (by omega)
   simp only [Int.toNat_natCast] at this
   rw [show ((i:Int)+1).toNat=i+1 by omega] at this
   rw [this,ht,List.take_succ_eq_append_getElem hi,List.map_append]
   rfl
theorem toE_f (l:List S36) (hl:l.length≤1048576):Ev (fun k=>laws_toEntryS.f k l) (l.map conv):=by
 unfold laws_toEntryS.f
 refine ev_pos (by omega) (ev_pos (by omega) ?_)
 exact to_l0 l (by omega) l.length 0 _ (by omega) (by simp) (by simp)
end Go.Proofs.YtdpklbomhdpimaaDoor.PL
namespace Go.Proofs.YtdpklbomhdpimaaDoor.P
open Go.RowKit Go.Shelf Go.Proofs.YtdpklbomhdpimaaDoorW.PrintWords Go.Proofs.YtdpklbomhdpimaaDoorW.PrintLast Go.Proofs.YtdpklbomhdpimaaDoorW.PrintMore
attribute [local go_sem] Oper.semAt_some
attribute [local go_sem] Oper.semAt_some

end Go.Proofs.YtdpklbomhdpimaaDoor.P
namespace Go.Proofs.YtdpklbomhdpimaaDoor.PL
open Go.RowKit Go.Proofs.YtdpklbomhdpimaaDoor.P Go.Proofs.YtdpklbomhdpimaaDoorW.PrintWords Go.Proofs.YtdpklbomhdpimaaDoorW.PrintLast
theorem take_set_nx {α:Type} (x:List α) (i:Int) (v:α) (h0:0≤i) (h:i < x.length):(x.set i.toNat v).take (i+1).toNat=x.take i.toNat++[v]:=by
 have e:(i+1).toNat=i.toNat+1:=by omega
 have hl:i.toNat < (x.set i.toNat v).length:=by rw [List.length_set];omega
 rw [e,List.take_succ_eq_append_getElem hl,List.getElem_set_self]
 congr 1
 rw [List.take_set_of_le (Nat.le_refl _)]
theorem eqRow_refl (a b:Int) (e:ByteArray):laws_eqRow.f a b e a b e=some true:=by simp [laws_eqRow.f]
theorem eqR_ev (d:Nat):∀ (x:List S69) (i:Int),0≤i→(x.length:Int) - i=d→x.length≤1099511627776→Ev (fun k=>laws_eqRowS.l0 k x x i) true:=by
 induction d with
 | zero =>
  intro x i h0 hd hl
  refine Ev.step (f:=fun _=>some true) (fun k=>?_) (evnow _)
  simp only [laws_eqRowS.l0];rw [if_neg (by omega)]
 | succ d ih =>
  intro x i h0 hd hl
  have hi:i < (x.length:Int):=by omega
  refine Ev.step (fun k=>?_) (ih x (i+1) (by omega) (by omega) hl)
  simp only [laws_eqRowS.l0,if_pos hi,if_pos h0,eqRow_refl,Option.bind_some,if_true,wrapS i h0 (by omega)]
theorem eqR (x:List S69) (hl:x.length≤1099511627776):Ev (fun k=>laws_eqRowS.f k x x) true :=
 Ev.congr (fun k=>by simp only [laws_eqRowS.f,if_true]) (eqR_ev x.length x 0 (by omega) (by omega) hl)
def convR (e:S183):S69:=⟨e.f0,e.f1,e.f2⟩
def wfXR (e:S183):Prop:=I64 e.f0∧I64 e.f1∧e.f2.size≤9223372036854775807
theorem rdXR_get (l:List S183) (i:Nat) (h:i < l.length):rd_T183 l i=l[i]:=by
 unfold rd_T183
 rw [List.getD_eq_getElem?_getD,show ((i:Int)).toNat=i from rfl,List.getElem?_eq_getElem h]
 rfl
theorem wf_convR {l:List S183} (h:∀ e∈l,wfXR e):∀ r∈l.map convR,wfR r:=by
 intro e he
 obtain ⟨x,hx,rfl⟩:=List.mem_map.1 he
 exact ⟨(h x hx).1,(h x hx).2.2⟩
theorem szR_l0 (l:List S183) (hw:∀ e∈l,wfXR e) (hl:l.length≤1099511627776):∀ (n:Nat) (i:Nat) (b:Int),i+n=l.length→0≤b→b≤1048576→∃ r:Int,Ev (fun k=>laws_szRowS.l0 k l b i) r∧r≤1048576
 | 0,i,b,h,h0,h1=>⟨b,Ev.step (f:=fun _=>some b) (fun k=>by simp only [laws_szRowS.l0];rw [if_neg (by omega)]) (evnow _),h1⟩
 | n+1,i,b,h,h0,h1=>by
  have hi:i < l.length:=by omega
  obtain ⟨_,_,hs⟩:=hw _ (List.getElem_mem hi)
  have hww:wrap64 (b - (l[i].f2.size:Int))=b - l[i].f2.size:=by unfold wrap64;omega
  by_cases hb:b - (l[i].f2.size:Int) < 0
  ·refine ⟨-1,Ev.step (f:=fun _=>some (-1)) (fun k=>?_) (evnow _),by omega⟩
   simp only [laws_szRowS.l0]
   rw [if_pos (by omega),if_pos (by omega),rdXR_get l i hi]
   simp only [laws_szRow.f,hww]
   rw [if_pos hb]
   rfl
  ·obtain ⟨r,hr,hr1⟩:=szR_l0 l hw hl n (i+1) (b - l[i].f2.size) (by omega) (by omega) (by omega)
   refine ⟨r,Ev.step (fun k=>?_) hr,hr1⟩
   simp only [laws_szRowS.l0]
   rw [if_pos (by omega),if_pos (by omega),rdXR_get l i hi]
   simp only [laws_szRow.f,hww]
   rw [if_neg hb]
   simp only [Option.bind_some]
   rw [if_neg hb,wrapS i (by omega) (by omega)]
   rfl
theorem szR_f (l:List S183) (hw:∀ e∈l,wfXR e) (hl:l.length≤9223372036854775807):∃ r:Int,Ev (fun k=>laws_szRowS.f k l 1048576) r∧r≤1048576∧(¬ r < 0→l.length≤1048576):=by
 unfold laws_szRowS.f
 have hww:wrap64 (1048576 - (l.length:Int))=1048576 - l.length:=by unfold wrap64;omega
 rw [hww]
 by_cases hb:1048576 - (l.length:Int) < 0
 ·exact ⟨-1,ev_pos hb (evnow _),by omega,fun h=>absurd (by decide) h⟩
 ·obtain ⟨r,hr,hr1⟩:=szR_l0 l hw (by omega) l.length 0 (1048576 - l.length) (by omega) (by omega) (by omega)
  exact ⟨r,ev_neg hb hr,hr1,fun _=>by omega⟩
theorem toR_l0 (l:List S183) (hl:l.length≤1099511627776):∀ (n:Nat) (i:Nat) (x:List S69),i+n=l.length→x.length=l.length→x.take i=(l.take i).map convR→Ev (fun k=>laws_toRowS.l0 k l x i) (l.map convR)
 | 0,i,x,h,hx,ht=>by
  refine Ev.step (f:=fun _=>some x) (fun k=>?_) ?_
  ·simp only [laws_toRowS.l0];rw [if_neg (by omega)]
  ·rw [List.take_of_length_le (by omega),List.take_of_length_le (by omega)] at ht
   rw [ht];exact evnow _
 | n+1,i,x,h,hx,ht=>by
  have hi:i < l.length:=by omega
  refine Ev.step (fun k=>?_) (toR_l0 l hl n (i+1) (x.set i (convR l[i])) (by omega) (by rw [List.length_set];exact hx) ?_)
  ·simp only [laws_toRowS.l0]
   rw [if_pos (by omega),if_pos (by omega),rdXR_get l i hi]
   simp only [laws_toRow.f,Option.bind_some]
   rw [if_pos (by omega),wrapS i (by omega) (by omega)]
   rfl
  ·have:=take_set_nx x (i:Int) (convR l[i]) (by omega) (by omega)
   simp only [Int.toNat_natCast] at this
   rw [show ((i:Int)+1).toNat=i+1 by omega] at this
   rw [this,ht,List.take_succ_eq_append_getElem hi,List.map_append]
   rfl
theorem toR_f (l:List S183) (hl:l.length≤1048576):Ev (fun k=>laws_toRowS.f k l) (l.map convR):=by
 unfold laws_toRowS.f
 refine ev_pos (by omega) (ev_pos (by omega) ?_)
 exact toR_l0 l (by omega) l.length 0 _ (by omega) (by simp) (by simp)
theorem szCli_f (a b c d:Int) (t:List S183) (l:List S36) (hwt:∀ e∈t,wfXR e) (hlt:t.length≤9223372036854775807) (hw:∀ e∈l,wfX e) (hl:l.length≤9223372036854775807):∃ r:Int,Ev (fun k=>laws_szClient.f k a b t l c d 1048576) r∧(¬ r < 0→t.length≤1048576∧l.length≤1048576):=by
 obtain ⟨r,h1,h2,h3⟩:=szR_f t hwt hlt
 unfold laws_szClient.f
 by_cases h0:r < 0
 ·exact ⟨-1,Ev.bind h1 (ev_pos h0 (evnow _)),fun h=>absurd (by decide) h⟩
 ·obtain ⟨q,g1,g2⟩:=szE_g l r hw hl (by omega) h2
  by_cases q0:q < 0
  ·exact ⟨-1,Ev.bind h1 (ev_neg h0 (Ev.bind g1 (ev_pos q0 (evnow _)))),fun h=>absurd (by decide) h⟩
  ·exact ⟨q,Ev.bind h1 (ev_neg h0 (Ev.bind g1 (ev_neg q0 (evnow _)))),fun h=>⟨h3 h0,g2 h⟩⟩
theorem toCli_f (a b c d:Int) (t:List S183) (l:List S36) (hlt:t.length≤1048576) (hl:l.length≤1048576):Ev (fun k=>laws_toClient.f k a b t l c d) (a,b,t.map convR,l.map conv,c,d):=by
 unfold laws_toClient.f
 exact Ev.bind (toR_f t hlt) (Ev.bind (toE_f l hl) (evnow _))
theorem eqCli_f (a b c d:Int) (t:List S69) (l:List S44) (hlt:t.length≤1099511627776) (hl:l.length≤1099511627776):Ev (fun k=>laws_eqClient.f k a b t l c d a b t l c d) true:=by
 unfold laws_eqClient.f
 exact ev_pos rfl (ev_pos rfl (Ev.bind (eqR t hlt) (ev_pos rfl (Ev.bind (eqE l hl) (ev_pos rfl (ev_pos rfl (ev_pos rfl (evnow _))))))))
end Go.Proofs.YtdpklbomhdpimaaDoor.PL
namespace Go.Proofs.YtdpklbomhdpimaaDoor.P
open Go.ChangeShapes Go.WideShapes Go.ChangeAt Go.RowKit
theorem tOwners:(Tryd.prog.globals[0]?).map (·.type)=some 126:=by kernel_rfl
theorem cOwners:Tryd.prog.cellsOf 126=37:=by kernel_rfl
theorem cInt:Tryd.prog.cellsOf 3=1:=by kernel_rfl
abbrev ownCells:Array Value:=(owners.map fun z=>Value.int .i64 z).toArray
theorem glob_of_laid {W:World} (h:laidMet Tryd.prog [("loop.example/plashet/impl.rowOwners",Rows.laid_loop_example_plashet_impl_rowOwners)] W):Glob W :=
 Lib.tabIs_of_head gOwners tOwners Tryd.underlying126 Tryd.underlying3 cInt cOwners h
theorem door_met (os:Os) (args:Array Value):laidMet Tryd.prog [("loop.example/plashet/impl.rowOwners",Rows.laid_loop_example_plashet_impl_rowOwners)] ((World.doorLaid Tryd.prog 400 os).forCall (fun _ _=>0) ⟨#[],args,[]⟩).memory :=
 laidMet_of_run' 8 (by kernel_rfl) (by kernel_rfl)
abbrev tableH {H:Type}:DataW H:=.agg (owners.map fun z=>.lit (.int .i64 z))
theorem reads_table {H:Type} (enc:TypeId×Value→H) (W:World) (sp:Nat→Bool):DataW.trod enc Tryd.prog W 0 sp true 3 126 ownCells.toList=some (tableH,[]):=by kernel_rfl
theorem tab_vars {H:Type} (enc:TypeId×Value→H) {W:World} (h:Glob W) {sp:Nat→Bool}:DataW.TrodVars enc Tryd.prog W sp ["loop.example/plashet/impl.rowOwners"] [tableH] (MemPlace.row ⟨0,0,none⟩ ownCells.size++[]++[]) :=
 ⟨0,126,ownCells,3,[],[],gOwners,tOwners,h,reads_table enc W sp,rfl,rfl⟩
end Go.Proofs.YtdpklbomhdpimaaDoor.P
namespace Go.Proofs.YtdpklbomhdpimaaDoor.PL
set_option maxRecDepth 100000
open Go.ChangeShapes Go.WideShapes Go.ChangeAt Go.RowKit Go.Deep Go.Joins Go.Proofs.YtdpklbomhdpimaaDoor.P Go.Proofs.YtdpklbomhdpimaaDoorW.PrintWords Go.Proofs.YtdpklbomhdpimaaDoorW.PrintLast
section
variable {H:Type} {enc:TypeId×Value→H} {w:World} {base:Nat} {sp:Nat→Bool} {held:Bool}
theorem cO:Tryd.prog.cellsOf 34=5:=by kernel_rfl
theorem cX:Tryd.prog.cellsOf 36=7:=by kernel_rfl
theorem cS:Tryd.prog.cellsOf 9=1:=by kernel_rfl
theorem i64_of {n:Int} (h:(Lit.int .i64 n).wf=true):I64 n:=by
 simp only [Lit.wf,Bool.and_eq_true,decide_eq_true_eq] at h
 obtain ⟨h1,h2⟩:=h
 exact ⟨h1,h2⟩
theorem fld_int {n o:Nat} {cs:List Value} {y:DataW H×List MemPlace} (h:DataW.trod enc Tryd.prog w base sp held n 3 ((cs.drop o).take (Tryd.prog.cellsOf 3))=some y):∃ a:Int,cs[o]?=some (.int .i64 a)∧I64 a:=by
 obtain ⟨a,e,_,hw⟩:=DataW.trod_int Tryd.underlying3 h
 refine ⟨a,?_,i64_of hw⟩
 rw [cInt] at e
 have:=congrArg (·[0]?) e
 simpa [List.getElem?_take,List.getElem?_drop] using this
theorem fld_str {n o:Nat} {cs:List Value} {y:DataW H×List MemPlace} (h:DataW.trod enc Tryd.prog w base sp held n 9 ((cs.drop o).take (Tryd.prog.cellsOf 9))=some y):∃ s:ByteArray,cs[o]?=some (.string s)∧s.size≤9223372036854775807:=by
 obtain ⟨s,e,_,hw⟩:=DataW.trod_string Tryd.underlying9 h
 refine ⟨s,?_,hw⟩
 rw [cS] at e
 have:=congrArg (·[0]?) e
 simpa [List.getElem?_take,List.getElem?_drop] using this
theorem open_op {fuel:Nat} {cs:List Value} {y:DataW H×List MemPlace} (h:DataW.trod enc Tryd.prog w base sp held fuel 34 cs=some y) :
  ∃ (a b c d:Int) (s:ByteArray),cs=[.int .i64 a,.int .i64 b,.int .i64 c,.int .i64 d,.string s]∧I64 a∧I64 b∧I64 c∧I64 d∧s.size≤9223372036854775807:=by
 obtain ⟨xs,n,_,_,hl,hlen,hf⟩:=DataW.trod_struct Tryd.underlying34 h
 rw [cO] at hl
 match xs,hlen,hf with
 | [y0,y1,y2,y3,y4],_,hf =>
  obtain ⟨a,e0,w0⟩:=fld_int (o:=0) (hf 0 _ rfl)
  obtain ⟨b,e1,w1⟩:=fld_int (o:=1) (hf 1 _ rfl)
  obtain ⟨c,e2,w2⟩:=fld_int (o:=2) (hf 2 _ rfl)
  obtain ⟨d,e3,w3⟩:=fld_int (o:=3) (hf 3 _ rfl)
  obtain ⟨s,e4,w4⟩:=fld_str (o:=4) (hf 4 _ rfl)
  match cs,hl,e0,e1,e2,e3,e4 with
  | [c0,c1,c2,c3,c4],_,e0,e1,e2,e3,e4 =>
   simp only [List.getElem?_cons_zero,List.getElem?_cons_succ,Option.some.injEq] at e0 e1 e2 e3 e4
   subst e0 e1 e2 e3 e4
   exact ⟨a,b,c,d,s,rfl,w0,w1,w2,w3,w4⟩
theorem open_entry {fuel:Nat} {cs:List Value} {y:DataW H×List MemPlace} (h:DataW.trod enc Tryd.prog w base sp held fuel 36 cs=some y) :
  ∃ e:S36,cs=[.int .i64 e.f0,.int .i64 e.f1,.int .i64 e.f2.f0,.int .i64 e.f2.f1,.int .i64 e.f2.f2,.int .i64 e.f2.f3,.string e.f2.f4]∧wfX e:=by
 obtain ⟨xs,n,_,_,hl,hlen,hf⟩:=DataW.trod_struct Tryd.underlying36 h
 rw [cX] at hl
 match xs,hlen,hf with
 | [y0,y1,y2],_,hf =>
  obtain ⟨a,e0,w0⟩:=fld_int (o:=0) (hf 0 _ rfl)
  obtain ⟨b,e1,w1⟩:=fld_int (o:=1) (hf 1 _ rfl)
  have h2:DataW.trod enc Tryd.prog w base sp held n 34 ((cs.drop 2).take (Tryd.prog.cellsOf 34))=some y2:=hf 2 _ rfl
  obtain ⟨o0,o1,o2,o3,s,e2,u0,u1,u2,u3,u4⟩:=open_op h2
  rw [cO] at e2
  match cs,hl,e0,e1,e2 with
  | [c0,c1,c2,c3,c4,c5,c6],_,e0,e1,e2 =>
   simp only [List.getElem?_cons_zero,List.getElem?_cons_succ,Option.some.injEq] at e0 e1
   subst e0 e1
   simp only [List.drop_succ_cons,List.drop_zero,List.take_succ_cons,List.take_zero,List.cons.injEq,and_true] at e2
   obtain ⟨rfl,rfl,rfl,rfl,rfl⟩:=e2
   exact ⟨⟨a,b,⟨o0,o1,o2,o3,s⟩⟩,rfl,w0,w1,u0,u1,u2,u3,u4⟩
theorem list_of_all {α:Type} (P:Nat→α→Prop):∀ n:Nat,(∀ i,i < n→∃ e,P i e)→∃ l:List α,l.length=n∧∀ i e,l[i]?=some e→P i e
 | 0,_=>⟨[],rfl,fun i e h=>by simp at h⟩
 | n+1,h=>by
  obtain ⟨l,hl,hp⟩:=list_of_all P n (fun i hi=>h i (by omega))
  obtain ⟨e,he⟩:=h n (by omega)
  refine ⟨l++[e],by simp [hl],fun i x hx=>?_⟩
  rcases Nat.lt_or_ge i l.length with hi|hi
  ·rw [List.getElem?_append_left hi] at hx
   exact hp i x hx
  ·rw [List.getElem?_append_right hi] at hx
   have h0:i - l.length=0:=by
    rcases Nat.eq_zero_or_pos (i - l.length) with h0|h0
    ·exact h0
    ·rw [List.getElem?_eq_none (by simp;omega)] at hx
     cases hx
   rw [h0] at hx
   simp only [List.getElem?_cons_zero,Option.some.injEq] at hx
   subst hx
   rw [show i=n by omega]
   exact he
theorem open_entries {fuel:Nat} {cs:List Value} {y:DataW H×List MemPlace} (h:DataW.trod enc Tryd.prog w base sp held fuel 30 cs=some y) :
  ∃ (A:Option Addr) (cap:Nat) (l:List S36),cs=[.slice A l.length cap]∧Kd.C k36 w A l.length l∧l.length≤cap∧l.length≤9223372036854775807∧∀ e∈l,wfX e:=by
 rcases open_slice Tryd.underlying30 h with ⟨rfl,_⟩|⟨a,len,cap,m,n,D,Pl,rfl,_,hl,hm,hmm,_,hel⟩
 ·exact ⟨none,0,[],rfl,Kd.C_nil _ _,by simp,by simp,fun e he=>by cases he⟩
 ·have hlm:len≤m:=by rw [hmm];split <;> omega
  obtain ⟨l,hlen,hp⟩:=list_of_all (fun i (e:S36)=>wfX e∧w.cells? base (a.add (i * 7)) 7=some [.int .i64 e.f0,.int .i64 e.f1,.int .i64 e.f2.f0,.int .i64 e.f2.f1,.int .i64 e.f2.f2,.int .i64 e.f2.f3,.string e.f2.f4]) len (fun i hi=>by
   obtain ⟨cs',hc,hd⟩:=hel i (by omega)
   obtain ⟨e,rfl,hw⟩:=open_entry hd
   rw [cX] at hc
   exact ⟨e,hw,hc⟩)
  have hmx:cap≤9223372036854775807:=hm
  refine ⟨some a,cap,l,by rw [hlen],⟨rfl,by omega,fun _=>⟨a,rfl,fun j p hj=>?_⟩⟩,by omega,by omega,fun e he=>?_⟩
  ·obtain ⟨_,hc⟩:=hp j p hj
   refine ⟨_,rfl,k36_mk w p,fun i u hu=>?_⟩
   obtain ⟨_,hlc,hc2⟩:=World.cells?_some hc
   have hi:i < 7:=by
    rcases Nat.lt_or_ge i 7 with hi|hi
    ·exact hi
    ·rw [List.getElem?_eq_none (by rw [hlc];exact hi)] at hu
     cases hu
   have:=hc2 i hi
   rw [hu] at this
   show w.cell? (a.add (j * 7+i))=some u
   rw [←this]
   congr 1
   generalize j * 7=x
   unfold Addr.add
   by_cases h1:x=0 <;> by_cases h2:i=0 <;> simp [h1,h2,Nat.add_assoc]
  ·obtain ⟨i,hi,rfl⟩:=List.getElem_of_mem he
   exact (hp i _ (List.getElem?_eq_getElem hi)).1
theorem cR:Tryd.prog.cellsOf 183=3:=by kernel_rfl
theorem open_row {fuel:Nat} {cs:List Value} {y:DataW H×List MemPlace} (h:DataW.trod enc Tryd.prog w base sp held fuel 183 cs=some y) :
  ∃ e:S183,cs=[.int .i64 e.f0,.int .i64 e.f1,.string e.f2]∧wfXR e:=by
 obtain ⟨xs,n,_,_,hl,hlen,hf⟩:=DataW.trod_struct Tryd.underlying183 h
 rw [cR] at hl
 match xs,hlen,hf with
 | [y0,y1,y2],_,hf =>
  obtain ⟨a,e0,w0⟩:=fld_int (o:=0) (hf 0 _ rfl)
  obtain ⟨b,e1,w1⟩:=fld_int (o:=1) (hf 1 _ rfl)
  obtain ⟨s,e2,w2⟩:=fld_str (o:=2) (hf 2 _ rfl)
  match cs,hl,e0,e1,e2 with
  | [c0,c1,c2],_,e0,e1,e2 =>
   simp only [List.getElem?_cons_zero,List.getElem?_cons_succ,Option.some.injEq] at e0 e1 e2
   subst e0 e1 e2
   exact ⟨⟨a,b,s⟩,rfl,w0,w1,w2⟩
theorem open_rowsL {fuel:Nat} {cs:List Value} {y:DataW H×List MemPlace} (h:DataW.trod enc Tryd.prog w base sp held fuel 83 cs=some y) :
  ∃ (A:Option Addr) (cap:Nat) (l:List S183),cs=[.slice A l.length cap]∧Kd.C k183 w A l.length l∧l.length≤cap∧l.length≤9223372036854775807∧∀ e∈l,wfXR e:=by
 rcases open_slice Tryd.underlying83 h with ⟨rfl,_⟩|⟨a,len,cap,m,n,D,Pl,rfl,_,hl,hm,hmm,_,hel⟩
 ·exact ⟨none,0,[],rfl,Kd.C_nil _ _,by simp,by simp,fun e he=>by cases he⟩
 ·have hlm:len≤m:=by rw [hmm];split <;> omega
  obtain ⟨l,hlen,hp⟩:=list_of_all (fun i (e:S183)=>wfXR e∧w.cells? base (a.add (i * 3)) 3=some [.int .i64 e.f0,.int .i64 e.f1,.string e.f2]) len (fun i hi=>by
   obtain ⟨cs',hc,hd⟩:=hel i (by omega)
   obtain ⟨e,rfl,hw⟩:=open_row hd
   rw [cR] at hc
   exact ⟨e,hw,hc⟩)
  have hmx:cap≤9223372036854775807:=hm
  refine ⟨some a,cap,l,by rw [hlen],⟨rfl,by omega,fun _=>⟨a,rfl,fun j p hj=>?_⟩⟩,by omega,by omega,fun e he=>?_⟩
  ·obtain ⟨_,hc⟩:=hp j p hj
   refine ⟨_,rfl,k183_mk w p,fun i u hu=>?_⟩
   obtain ⟨_,hlc,hc2⟩:=World.cells?_some hc
   have hi:i < 3:=by
    rcases Nat.lt_or_ge i 3 with hi|hi
    ·exact hi
    ·rw [List.getElem?_eq_none (by rw [hlc];exact hi)] at hu
     cases hu
   have:=hc2 i hi
   rw [hu] at this
   show w.cell? (a.add (j * 3+i))=some u
   rw [←this]
   congr 1
   generalize j * 3=x
   unfold Addr.add
   by_cases h1:x=0 <;> by_cases h2:i=0 <;> simp [h1,h2,Nat.add_assoc]
  ·obtain ⟨i,hi,rfl⟩:=List.getElem_of_mem he
   exact (hp i _ (List.getElem?_eq_getElem hi)).1
theorem cCl:Tryd.prog.cellsOf 85=6:=by kernel_rfl
theorem cRs:Tryd.prog.cellsOf 83=1:=by kernel_rfl
theorem cXs:Tryd.prog.cellsOf 30=1:=by kernel_rfl
theorem open_clientL {fuel:Nat} {cs:List Value} {y:DataW H×List MemPlace} (h:DataW.trod enc Tryd.prog w base sp held fuel 85 cs=some y) :
  ∃ (a b:Int) (A0:Option Addr) (c0:Nat) (t:List S183) (A1:Option Addr) (c1:Nat) (l:List S36) (c d:Int),cs=[.int .i64 a,.int .i64 b,.slice A0 t.length c0,.slice A1 l.length c1,.int .i64 c,.int .i64 d]∧I64 a∧I64 b∧I64 c∧I64 d ∧
   (Kd.C k183 w A0 t.length t∧t.length≤c0∧t.length≤9223372036854775807∧∀ e∈t,wfXR e)∧(Kd.C k36 w A1 l.length l∧l.length≤c1∧l.length≤9223372036854775807∧∀ e∈l,wfX e):=by
 obtain ⟨xs,n,_,_,hl,hlen,hf⟩:=DataW.trod_struct Tryd.underlying85 h
 rw [cCl] at hl
 match xs,hlen,hf with
 | [y0,y1,y2,y3,y4,y5],_,hf =>
  obtain ⟨a,e0,w0⟩:=fld_int (o:=0) (hf 0 _ rfl)
  obtain ⟨b,e1,w1⟩:=fld_int (o:=1) (hf 1 _ rfl)
  have h2:DataW.trod enc Tryd.prog w base sp held n 83 ((cs.drop 2).take (Tryd.prog.cellsOf 83))=some y2:=hf 2 _ rfl
  have h3:DataW.trod enc Tryd.prog w base sp held n 30 ((cs.drop 3).take (Tryd.prog.cellsOf 30))=some y3:=hf 3 _ rfl
  obtain ⟨A0,c0,t,e2,q0,q1,q2,q3⟩:=open_rowsL h2
  obtain ⟨A1,c1,l,e3,r0,r1,r2,r3⟩:=open_entries h3
  obtain ⟨c,e4,w4⟩:=fld_int (o:=4) (hf 4 _ rfl)
  obtain ⟨d,e5,w5⟩:=fld_int (o:=5) (hf 5 _ rfl)
  rw [cRs] at e2
  rw [cXs] at e3
  match cs,hl,e0,e1,e2,e3,e4,e5 with
  | [x0,x1,x2,x3,x4,x5],_,e0,e1,e2,e3,e4,e5 =>
   simp only [List.getElem?_cons_zero,List.getElem?_cons_succ,Option.some.injEq] at e0 e1 e4 e5
   simp only [List.drop_succ_cons,List.drop_zero,List.take_succ_cons,List.take_zero,List.cons.injEq,and_true] at e2 e3
   subst e0 e1 e2 e3 e4 e5
   exact ⟨a,b,A0,c0,t,A1,c1,l,c,d,rfl,w0,w1,w4,w5,⟨q0,q1,q2,q3⟩,r0,r1,r2,r3⟩
theorem open_clientV {v:Value} {dd:DataW H} {p:List MemPlace} (hv:Value.okWide Tryd.prog w .any base 85 v) (h:DataW.Trod enc Tryd.prog w 0 sp held 85 v dd p) :
  ∃ (a b:Int) (A0:Option Addr) (c0:Nat) (t:List S183) (A1:Option Addr) (c1:Nat) (l:List S36) (c d:Int),v=.agg #[.int .i64 a,.int .i64 b,.slice A0 t.length c0,.slice A1 l.length c1,.int .i64 c,.int .i64 d]∧I64 a∧I64 b∧I64 c∧I64 d ∧
   (Kd.C k183 w A0 t.length t∧t.length≤c0∧t.length≤9223372036854775807∧∀ e∈t,wfXR e)∧(Kd.C k36 w A1 l.length l∧l.length≤c1∧l.length≤9223372036854775807∧∀ e∈l,wfX e):=by
 obtain ⟨cs,rfl,hsz⟩:=okWide_struct Tryd.underlying85 hv
 obtain ⟨fuel,hf⟩:=h
 obtain ⟨a,b,A0,c0,t,A1,c1,l,c,d,he,w0,w1,w2,w3,hR,hE⟩:=open_clientL hf
 refine ⟨a,b,A0,c0,t,A1,c1,l,c,d,?_,w0,w1,w2,w3,hR,hE⟩
 have he':cs.toList=[.int .i64 a,.int .i64 b,.slice A0 t.length c0,.slice A1 l.length c1,.int .i64 c,.int .i64 d]:=he
 rw [show cs=cs.toList.toArray by simp,he']
end
end Go.Proofs.YtdpklbomhdpimaaDoor.PL
namespace Go.Proofs.YtdpklbomhdpimaaDoor.P
open Go.RowKit Go.Proofs.YtdpklbomhdpimaaDoorW.PrintWords Go.Proofs.YtdpklbomhdpimaaDoorW.PrintLast
def spec_RowMade.f (a0:Int) (a1:Int):Option (Int):=(spec_l6In.f a0 1 3).bind fun t272=>(if t272=true then ((spec_l6In.f a1 1 6).bind fun t273=>(if t273=true then (some (wrap64 ((wrap64 (10 * a0))+a1))) else (some 0))) else (some 0))
theorem spec_RowMade.calls (a0:Int) (a1:Int) (r:Int) (w:World) (h:spec_RowMade.f a0 a1=some r) :
  Calls Tryd.prog 143 #[.int .i64 a0,.int .i64 a1] w fun e w'=>e=.returned (.int .i64 r)∧Drawn0 w w':=by
 unfold spec_RowMade.f at h
 have H:=h
 clear h
 replace H:=bs_ H
 obtain ⟨t272,A30,H⟩:=H
 try dsimp only at H
 have A3:=a_ A30
 clear A30
 by_cases c4:t272=true
 ·subst c4
  have H1:((spec_l6In.f a1 1 6).bind fun t273=>(if t273=true then (some (wrap64 ((wrap64 (10 * a0))+a1))) else (some 0)))=some r:=by rw [if_pos rfl] at H;exact H
  clear H
  have H:=H1
  clear H1
  replace H:=bs_ H
  obtain ⟨t273,A50,H⟩:=H
  try dsimp only at H
  have A5:=a_ A50
  clear A50
  by_cases c6:t273=true
  ·subst c6
   have H1:(some (wrap64 ((wrap64 (10 * a0))+a1)))=some r:=by rw [if_pos rfl] at H;exact H
   clear H
   have H:=H1
   clear H1
   obtain rfl:=sj_ H
   go_enter Tryd.func143,Tryd.ntmps143
   go_wp2_with (first|((with_reducible refine gC_ (f:=75) rfl ?_);refine gl_ 6 Tryd.func75 #[.int .i64 a0,.int .i64 1,.int .i64 3] ?_;(with_reducible refine (spec_l6In.calls a0 1 3 true _ A3.out).mono ?_);rintro e w' ⟨rfl,⟨nd,rfl⟩⟩;refine ⟨_,rfl,?_⟩)|(go_at_call 75;(with_reducible refine (spec_l6In.calls a1 1 6 true _ A5.out).mono ?_);rintro e w' ⟨rfl,⟨nd,rfl⟩⟩))
   go_ret
   exact ⟨si_,by repeat (first|exact Drawn0.refl _|apply Drawn0.step)⟩
  ·replace c6:=Bool.eq_false_iff.mpr c6
   subst c6
   have H1:(some 0)=some r:=by rw [if_neg (show ¬ (false=true) by decide)] at H;exact H
   clear H
   have H:=H1
   clear H1
   obtain rfl:=sj_ H
   go_enter Tryd.func143,Tryd.ntmps143
   go_wp2_with (first|((with_reducible refine gC_ (f:=75) rfl ?_);refine gl_ 6 Tryd.func75 #[.int .i64 a0,.int .i64 1,.int .i64 3] ?_;(with_reducible refine (spec_l6In.calls a0 1 3 true _ A3.out).mono ?_);rintro e w' ⟨rfl,⟨nd,rfl⟩⟩;refine ⟨_,rfl,?_⟩)|(go_at_call 75;(with_reducible refine (spec_l6In.calls a1 1 6 false _ A5.out).mono ?_);rintro e w' ⟨rfl,⟨nd,rfl⟩⟩))
   go_ret
   exact ⟨si_,by repeat (first|exact Drawn0.refl _|apply Drawn0.step)⟩
 ·replace c4:=Bool.eq_false_iff.mpr c4
  subst c4
  have H1:(some 0)=some r:=by rw [if_neg (show ¬ (false=true) by decide)] at H;exact H
  clear H
  have H:=H1
  clear H1
  obtain rfl:=sj_ H
  go_enter Tryd.func143,Tryd.ntmps143
  go_wp2_with (first|((with_reducible refine gC_ (f:=75) rfl ?_);refine gl_ 6 Tryd.func75 #[.int .i64 a0,.int .i64 1,.int .i64 3] ?_;(with_reducible refine (spec_l6In.calls a0 1 3 false _ A3.out).mono ?_);rintro e w' ⟨rfl,⟨nd,rfl⟩⟩;refine ⟨_,rfl,?_⟩))
  go_ret
  exact ⟨si_,by repeat (first|exact Drawn0.refl _|apply Drawn0.step)⟩

def spec_l21Do.j0:Nat→Bool→Int→Int→List (S69)→List (S44)→Int→Int→Int→Int→Int→Int→ByteArray→Int→Int→Int→Int→Int→Int→ByteArray→Option (Int×Int×(List (S69))×(List (S44))×Int×Int×Bool)
 | 0,_,_,_,_,_,_,_,_,_,_,_,_,_,_,_,_,_,_,_=>none
 | k+1,x36,x275000,x275001,x275002,x275003,x275004,x275005,x276000,x276001,x276002,x276003,x276004,x278000,x278001,x278002,x278003,x278004,x278005,x278006=>if x36=true then (some (x275000,x275001,x275002,x275003,x275004,x275005,false)) else (if x276000=1 then ((some (([]:List (S44)):List (S44))).bind fun y280=>(if y280.length+x275003.length < 2199023255552 then ((some (y280++x275003:List (S44))).bind fun y283=>((some (([(⟨x278000,x278001,(⟨x278002,x278003,x278004,x278005,x278006⟩:S42)⟩:S44)]:List (S44)):List (S44))).bind fun y286=>(if y283.length+y286.length < 2199023255552 then (some (x275000,x275001,x275002,(y283++y286),x275004,wrap64 (x275005+1),true)) else (none)))) else (none))) else ((some (([]:List (S44)):List (S44))).bind fun y292=>(if y292.length+x275003.length < 2199023255552 then ((some (y292++x275003:List (S44))).bind fun y295=>((some (([(⟨x278000,x278001,(⟨x278002,x278003,x278004,x278005,x278006⟩:S42)⟩:S44)]:List (S44)):List (S44))).bind fun y298=>(if y295.length+y298.length < 2199023255552 then (some (x275000,x275001,x275002,(y295++y298),x275004,x275005,true)) else (none)))) else (none))))
def spec_l21Do.f (k:Nat) (a0_0:Int) (a0_1:Int) (l0_2:List (S69)) (l0_3:List (S44)) (a0_4:Int) (a0_5:Int) (a1_0:Int) (a1_1:Int) (a1_2:Int) (a1_3:Int) (a1_4:ByteArray):Option (Int×Int×(List (S69))×(List (S44))×Int×Int×Bool):=(spec_EntryOk.f k a0_0 (wrap64 ((wrap64 (a0_4+(l0_3.length:Int)))+1)) a1_0 a1_1 a1_2 a1_3 a1_4).bind fun t278=>(if t278=true then (if a1_0=1 then ((spec_RowMade.f a0_0 (wrap64 (a0_5+1))).bind fun t279=>(spec_l21Do.j0 k (a1_1 != t279) a0_0 a0_1 l0_2 l0_3 a0_4 a0_5 a1_0 a1_1 a1_2 a1_3 a1_4 a0_0 (wrap64 ((wrap64 (a0_4+(l0_3.length:Int)))+1)) a1_0 a1_1 a1_2 a1_3 a1_4)) else (spec_l21Do.j0 k false a0_0 a0_1 l0_2 l0_3 a0_4 a0_5 a1_0 a1_1 a1_2 a1_3 a1_4 a0_0 (wrap64 ((wrap64 (a0_4+(l0_3.length:Int)))+1)) a1_0 a1_1 a1_2 a1_3 a1_4)) else (spec_l21Do.j0 k true a0_0 a0_1 l0_2 l0_3 a0_4 a0_5 a1_0 a1_1 a1_2 a1_3 a1_4 a0_0 (wrap64 ((wrap64 (a0_4+(l0_3.length:Int)))+1)) a1_0 a1_1 a1_2 a1_3 a1_4))
def spec_l21Do.T2:Bool×List (List Nat×List Nat):=(true,[([],[]),([0],[0]),([1],[1]),([2,1],[2]),([3],[3]),([4,3],[3,4]),([5,3],[3,5]),([6,3,3],[3,6]),([7],[7]),([8,7],[7,8]),([7],[7]),([10,7],[7,10]),([7],[7]),([12,7],[7,12]),([13,7],[7,13]),([11,14,7,7],[7,11,14]),([9,15,7],[7,9,15]),([7,16,3],[3,7,16]),([3,17],[3,17])])
def spec_l21Do.B2:List Nat:=[0,1,3,7,15,31,63,127,255,511,255,1279,255,4351,12543,31999,65535,131071,262143]
theorem spec_l21Do.tab2:rtab .any (opsOf Tryd.f112 2)=spec_l21Do.T2:=by kernel_rfl
theorem spec_l21Do.bits2:waitsOk spec_l21Do.T2.2 spec_l21Do.B2=true:=by kernel_rfl
def spec_l21Do.T6:Bool×List (List Nat×List Nat):=(true,[([],[]),([],[]),([1],[1]),([0,2],[0,2]),([],[]),([4],[4]),([3,5,3],[3,5]),([0,1,2,3,4,5,6],[]),([7,6,6,0,1,2,3,4,5,6],[6,7])])
def spec_l21Do.B6:List Nat:=[0,0,2,7,0,16,63,127,255]
theorem spec_l21Do.tab6:rtab .any (opsOf Tryd.f112 6)=spec_l21Do.T6:=by kernel_rfl
theorem spec_l21Do.bits6:waitsOk spec_l21Do.T6.2 spec_l21Do.B6=true:=by kernel_rfl
end Go.Proofs.YtdpklbomhdpimaaDoor.P
