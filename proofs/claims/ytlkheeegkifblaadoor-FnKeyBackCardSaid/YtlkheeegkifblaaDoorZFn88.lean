/- FnKeyBack: a part. -/
import Derived.Test.YtlkheeegkifblaaDoorZFn87
set_option linter.unusedVariables false
set_option linter.unusedSimpArgs false
set_option linter.unusedSectionVars false
set_option maxHeartbeats 8000000
set_option maxRecDepth 100000
namespace Go.Proofs.YtlkheeegkifblaaDoor.P
open Go.RowKit Go.Proofs.YtlkheeegkifblaaDoorW.PrintWords Go.Proofs.YtlkheeegkifblaaDoorW.PrintLast
attribute [local go_sem high] eqA27
theorem laws_FnKeyBack.calls (k:Nat) (A0:Option Addr) (c0:Nat) (l0:List Int) (r:Bool) (w:World) (hr0:Kd.C (Kd.int .u8) w A0 l0.length l0) (hc0:l0.length≤c0) (h:laws_FnKeyBack.f k l0=some r) (hG:Glob w) :
  Calls Tryd.prog 13 #[.slice A0 l0.length c0] w fun e w'=>e=.returned (.bool r)∧Below w.heap.size w w':=by
 have hu27:=Tryd.underlying27
 have HR0:=a_ hr0
 have HC0:=a_ hc0
 clear hr0 hc0
 have HB:=a_ (Below.refl w.heap.size w)
 have HG:=a_ hG
 clear hG
 have H:(if (l0.length:Int) > 1048576 then (some true) else ((spec_DrawKeyBack.f k l0).bind fun bt989=>((spec_KeyBack.f k bt989.1 bt989.2.1 bt989.2.2.1 bt989.2.2.2.1 bt989.2.2.2.2.1 bt989.2.2.2.2.2).bind fun bt998=>((impl_KeyBack.f k bt989.1 bt989.2.1 bt989.2.2.1 bt989.2.2.2.1 bt989.2.2.2.2.1 bt989.2.2.2.2.2).bind fun bt1005=>(if (bt1005.2.2.2.2.2 != bt998.2.2.2.2.2)=true then (none) else (if (!(bt1005.1==bt998.1) || (!(bt1005.2.1==bt998.2.1) || (!(bt1005.2.2.1==bt998.2.2.1) || (!(bt1005.2.2.2.1==bt998.2.2.2.1) || (!(bt1005.2.2.2.2.1.toList==bt998.2.2.2.2.1.toList))))))=true then (laws_FnKeyBack.j0 k bt989.1 bt998.2.2.2.2.2 bt1005.2.2.2.2.2 true bt989.2.1 bt989.2.2.1 bt989.2.2.2.1 bt989.2.2.2.2.1 bt989.2.2.2.2.2 bt998.1 bt998.2.1 bt998.2.2.1 bt998.2.2.2.1 bt998.2.2.2.2.1 bt1005.1 bt1005.2.1 bt1005.2.2.1 bt1005.2.2.2.1 bt1005.2.2.2.2.1) else (laws_FnKeyBack.j0 k bt989.1 bt998.2.2.2.2.2 bt1005.2.2.2.2.2 (!bt1005.2.2.2.2.2) bt989.2.1 bt989.2.2.1 bt989.2.2.2.1 bt989.2.2.2.2.1 bt989.2.2.2.2.2 bt998.1 bt998.2.1 bt998.2.2.1 bt998.2.2.2.1 bt998.2.2.2.2.1 bt1005.1 bt1005.2.1 bt1005.2.2.1 bt1005.2.2.2.1 bt1005.2.2.2.2.1)))))))=some r:=h
 clear h
 by_cases c2:(l0.length:Int) > 1048576
 ·rw [if_pos c2] at H
  have c2b0:decide (1048576 < (l0.length:Int))=true:=dt_ c2
  have c2b1:decide (1048576 < l0.length)=true:=dt_ (by omega)
  clear c2
  obtain rfl:=sj_ H
  go_enter Tryd.func13,Tryd.ntmps13
  go_wp2
  go_ret
  exact ⟨fi_,bel_⟩
 ·rw [if_neg c2] at H
  have c2b0:decide (1048576 < (l0.length:Int))=false:=df_ c2
  have c2b1:decide (1048576 < l0.length)=false:=df_ (by omega)
  clear c2
  replace H:=bs_ H
  obtain ⟨⟨t989,t992,t993,t994,t995,t996⟩,A30,H⟩:=H
  replace H:((spec_KeyBack.f k t989 t992 t993 t994 t995 t996).bind fun bt998=>((impl_KeyBack.f k t989 t992 t993 t994 t995 t996).bind fun bt1005=>(if (bt1005.2.2.2.2.2 != bt998.2.2.2.2.2)=true then (none) else (if (!(bt1005.1==bt998.1) || (!(bt1005.2.1==bt998.2.1) || (!(bt1005.2.2.1==bt998.2.2.1) || (!(bt1005.2.2.2.1==bt998.2.2.2.1) || (!(bt1005.2.2.2.2.1.toList==bt998.2.2.2.2.1.toList))))))=true then (laws_FnKeyBack.j0 k t989 bt998.2.2.2.2.2 bt1005.2.2.2.2.2 true t992 t993 t994 t995 t996 bt998.1 bt998.2.1 bt998.2.2.1 bt998.2.2.2.1 bt998.2.2.2.2.1 bt1005.1 bt1005.2.1 bt1005.2.2.1 bt1005.2.2.2.1 bt1005.2.2.2.2.1) else (laws_FnKeyBack.j0 k t989 bt998.2.2.2.2.2 bt1005.2.2.2.2.2 (!bt1005.2.2.2.2.2) t992 t993 t994 t995 t996 bt998.1 bt998.2.1 bt998.2.2.1 bt998.2.2.2.1 bt998.2.2.2.2.1 bt1005.1 bt1005.2.1 bt1005.2.2.1 bt1005.2.2.2.1 bt1005.2.2.2.2.1)))))=some r:=H
  have A3:=a_ A30
  clear A30
  replace H:=bs_ H
  obtain ⟨⟨t998,t999,t1000,t1001,t1002,t1003⟩,A40,H⟩:=H
  replace H:((impl_KeyBack.f k t989 t992 t993 t994 t995 t996).bind fun bt1005=>(if (bt1005.2.2.2.2.2 != t1003)=true then (none) else (if (!(bt1005.1==t998) || (!(bt1005.2.1==t999) || (!(bt1005.2.2.1==t1000) || (!(bt1005.2.2.2.1==t1001) || (!(bt1005.2.2.2.2.1.toList==t1002.toList))))))=true then (laws_FnKeyBack.j0 k t989 t1003 bt1005.2.2.2.2.2 true t992 t993 t994 t995 t996 t998 t999 t1000 t1001 t1002 bt1005.1 bt1005.2.1 bt1005.2.2.1 bt1005.2.2.2.1 bt1005.2.2.2.2.1) else (laws_FnKeyBack.j0 k t989 t1003 bt1005.2.2.2.2.2 (!bt1005.2.2.2.2.2) t992 t993 t994 t995 t996 t998 t999 t1000 t1001 t1002 bt1005.1 bt1005.2.1 bt1005.2.2.1 bt1005.2.2.2.1 bt1005.2.2.2.2.1))))=some r:=H
  have A4:=a_ A40
  clear A40
  replace H:=bs_ H
  obtain ⟨⟨t1005,t1006,t1007,t1008,t1009,t1010⟩,A50,H⟩:=H
  replace H:(if (t1010 != t1003)=true then (none) else (if (!(t1005==t998) || (!(t1006==t999) || (!(t1007==t1000) || (!(t1008==t1001) || (!(t1009.toList==t1002.toList))))))=true then (laws_FnKeyBack.j0 k t989 t1003 t1010 true t992 t993 t994 t995 t996 t998 t999 t1000 t1001 t1002 t1005 t1006 t1007 t1008 t1009) else (laws_FnKeyBack.j0 k t989 t1003 t1010 (!t1010) t992 t993 t994 t995 t996 t998 t999 t1000 t1001 t1002 t1005 t1006 t1007 t1008 t1009)))=some r:=H
  have A5:=a_ A50
  clear A50
  have HC6:=a_ H
  clear H
  go_enter Tryd.func13,Tryd.ntmps13
  go_upto_region 6 with (first|((with_reducible refine gC_ (f:=46) rfl ?_);refine gl_ 16 Tryd.func46 #[.slice A0 l0.length c0] ?_;(with_reducible refine (spec_DrawKeyBack.calls k _ _ l0 t989 t992 t993 t994 t995 t996 _ ?side1 ?side2 A3.out).mono ?_);(case side1=>exact cx_ HR0.out);(case side2=>exact HC0.out);rintro e w7 ⟨v990,rfl,ho0,hb⟩;refine ⟨_,rfl,?_⟩;have HO991:=a_ (Kd.Q_lower ho0 (below_size (bel_)));replace HB:=a_ (bS_ (bel_) hb);(try clear hb ho0))|((with_reducible refine gD_ (N:=4) rfl ?_);refine bx_ 4 (#[.int .i64 0,.int .i64 0,.int .i64 0,.int .i64 0,.string (⟨#[]⟩:ByteArray)]) 27 ?_;intro gb997 hg w8 hbox hb;have n0_:=a_ (Kd.Q_below (qp_ HO991.out) hb);have n1_:=a_ (bS_ (bel_) hb);have n2_:=a_ (hbox);have n3_:=a_ ((by rw [hg];exact (below_size (bel_)):w.heap.size≤gb997));have n4_:=a_ ((by rw [hg];exact (below_size (bel_)):w.heap.size≤gb997));clear HO991;clear HB;have HO991:=n0_;have HB:=n1_;have BK997:=n2_;have GW997:=n3_;have GE997:=n4_;clear n0_ n1_ n2_ n3_ n4_;clear hb hbox hg;have Z9_0:=cz_ BK997.out 0 (.int .i64 0);have Z9_1:=cz_ BK997.out 1 (.int .i64 0);have Z9_2:=cz_ BK997.out 2 (.int .i64 0);have Z9_3:=cz_ BK997.out 3 (.int .i64 0);have Z9_4:=cz_ BK997.out 4 (.string (⟨#[]⟩:ByteArray));have Y9_0:=bF_ BK997.out 0;have Y9_1:=bF_ BK997.out 1;have Y9_2:=bF_ BK997.out 2;have Y9_3:=bF_ BK997.out 3;have Y9_4:=bF_ BK997.out 4;obtain ⟨Ao10,co10,eo10,_⟩:=Kd.Q_slice HO991.out;subst eo10)|((with_reducible refine gC_ (f:=41) rfl ?_);refine gl_ 22 Tryd.func41 #[.slice Ao10 t989.length co10,.agg #[.int .i64 t992,.int .i64 t993,.int .i64 t994,.int .i64 t995,.string t996]] ?_;(with_reducible refine (spec_KeyBack.calls k _ _ t989 t992 t993 t994 t995 t996 t998 t999 t1000 t1001 t1002 t1003 _ ?side1 ?side2 A4.out).mono ?_);(case side1=>refine (Kd.Q_reads' (e:=37) (base:=w.heap.size) (ok:=fun k_=>True) (n:=t989.length) (c:=co10) ?_).2.2;exact (by (with_reducible repeat (first|apply Kd.Q_alloc|apply Kd.Q_drewN|apply Kd.Q_drew));exact (Kd.Q_mono (Kd.Q_far (p:=⟨gb997,4,none⟩) (Kd.Q_far (p:=⟨gb997,3,none⟩) (Kd.Q_far (p:=⟨gb997,2,none⟩) (Kd.Q_far (p:=⟨gb997,1,none⟩) (Kd.Q_far (p:=⟨gb997,0,none⟩) (Kd.Q_types HO991.out BK997.out (by decide)) (fun _ hk=>hk.2) (.int .i64 t992)) (fun _ hk=>hk.2) (.int .i64 t993)) (fun _ hk=>hk.2) (.int .i64 t994)) (fun _ hk=>hk.2) (.int .i64 t995)) (fun _ hk=>hk.2) (.string t996)) (fun _ h_=>h_.1))));(case side2=>exact (Kd.Q_reads' HO991.out).2.1);rintro e w11 ⟨rfl,hb⟩;refine ⟨_,rfl,?_⟩;have n0_:=a_ (Kd.Q_below (by (with_reducible repeat (first|apply Kd.Q_alloc|apply Kd.Q_drewN|apply Kd.Q_drew));exact (Kd.Q_mono (Kd.Q_far (p:=⟨gb997,4,none⟩) (Kd.Q_far (p:=⟨gb997,3,none⟩) (Kd.Q_far (p:=⟨gb997,2,none⟩) (Kd.Q_far (p:=⟨gb997,1,none⟩) (Kd.Q_far (p:=⟨gb997,0,none⟩) (Kd.Q_types HO991.out BK997.out (by decide)) (fun _ hk=>hk.2) (.int .i64 t992)) (fun _ hk=>hk.2) (.int .i64 t993)) (fun _ hk=>hk.2) (.int .i64 t994)) (fun _ hk=>hk.2) (.int .i64 t995)) (fun _ hk=>hk.2) (.string t996)) (fun _ h_=>h_.1))) hb);have n1_:=a_ (blk_below (g:=gb997) (o:=.cells #[.int .i64 t992,.int .i64 t993,.int .i64 t994,.int .i64 t995,.string t996] 27 (0,0)) (by (with_reducible repeat (first|refine bN_ ?_ _|refine bD_ ?_|refine bA_ ?_ _));refine blk_put (cs:=#[.int .i64 t992,.int .i64 t993,.int .i64 t994,.int .i64 t995,.string (⟨#[]⟩:ByteArray)]) ?_ 4 _ rfl;(with_reducible repeat (first|refine bN_ ?_ _|refine bD_ ?_|refine bA_ ?_ _));refine blk_put (cs:=#[.int .i64 t992,.int .i64 t993,.int .i64 t994,.int .i64 0,.string (⟨#[]⟩:ByteArray)]) ?_ 3 _ rfl;(with_reducible repeat (first|refine bN_ ?_ _|refine bD_ ?_|refine bA_ ?_ _));refine blk_put (cs:=#[.int .i64 t992,.int .i64 t993,.int .i64 0,.int .i64 0,.string (⟨#[]⟩:ByteArray)]) ?_ 2 _ rfl;(with_reducible repeat (first|refine bN_ ?_ _|refine bD_ ?_|refine bA_ ?_ _));refine blk_put (cs:=#[.int .i64 t992,.int .i64 0,.int .i64 0,.int .i64 0,.string (⟨#[]⟩:ByteArray)]) ?_ 1 _ rfl;(with_reducible repeat (first|refine bN_ ?_ _|refine bD_ ?_|refine bA_ ?_ _));refine blk_put (cs:=#[.int .i64 0,.int .i64 0,.int .i64 0,.int .i64 0,.string (⟨#[]⟩:ByteArray)]) ?_ 0 _ rfl;(with_reducible repeat (first|refine bN_ ?_ _|refine bD_ ?_|refine bA_ ?_ _));exact BK997.out) hb);have n2_:=a_ (bS_ (bel_) hb);clear HO991;clear BK997;clear HB;have HO991:=n0_;have BK997:=n1_;have HB:=n2_;clear n0_ n1_ n2_;(try clear hb))|((with_reducible refine gD_ (N:=5) rfl ?_);refine bx_ 5 (#[.int .i64 0,.int .i64 0,.int .i64 0,.int .i64 0,.string (⟨#[]⟩:ByteArray)]) 27 ?_;intro gb1004 hg w12 hbox hb;have n0_:=a_ (Kd.Q_below (qp_ HO991.out) hb);have n1_:=a_ (blk_below (g:=gb997) (o:=.cells #[.int .i64 t992,.int .i64 t993,.int .i64 t994,.int .i64 t995,.string t996] 27 (0,0)) (bp_ BK997.out) hb);have n2_:=a_ (bS_ (bel_) hb);have n3_:=a_ (hbox);have n4_:=a_ ((by rw [hg];exact (below_size (bel_)):w.heap.size≤gb1004));have n5_:=a_ ((by rw [hg];exact (below_size (bel_)):w.heap.size≤gb1004));have n6_:=a_ ((by rw [hg];exact Nat.ne_of_lt (blk_lt (g:=gb997) (o:=.cells #[.int .i64 t992,.int .i64 t993,.int .i64 t994,.int .i64 t995,.string t996] 27 (0,0)) (bp_ BK997.out)):gb997≠gb1004));have n7_:=a_ ((by rw [hg];exact Nat.ne_of_gt (blk_lt (g:=gb997) (o:=.cells #[.int .i64 t992,.int .i64 t993,.int .i64 t994,.int .i64 t995,.string t996] 27 (0,0)) (bp_ BK997.out)):gb1004≠gb997));clear HO991;clear BK997;clear HB;have HO991:=n0_;have BK997:=n1_;have HB:=n2_;have BK1004:=n3_;have GW1004:=n4_;have GE1004:=n5_;have NB997_1004:=n6_;have NB1004_997:=n7_;clear n0_ n1_ n2_ n3_ n4_ n5_ n6_ n7_;clear hb hbox hg;have hnb13:=NB1004_997.out;have hnc13:=NB997_1004.out;have Z14_0:=cz_ BK1004.out 0 (.int .i64 0);have Z14_1:=cz_ BK1004.out 1 (.int .i64 0);have Z14_2:=cz_ BK1004.out 2 (.int .i64 0);have Z14_3:=cz_ BK1004.out 3 (.int .i64 0);have Z14_4:=cz_ BK1004.out 4 (.string (⟨#[]⟩:ByteArray));have Y14_0:=bF_ BK1004.out 0;have Y14_1:=bF_ BK1004.out 1;have Y14_2:=bF_ BK1004.out 2;have Y14_3:=bF_ BK1004.out 3;have Y14_4:=bF_ BK1004.out 4;have Z15_0:=cz_ BK997.out 0 (.int .i64 t992);have Z15_1:=cz_ BK997.out 1 (.int .i64 t993);have Z15_2:=cz_ BK997.out 2 (.int .i64 t994);have Z15_3:=cz_ BK997.out 3 (.int .i64 t995);have Z15_4:=cz_ BK997.out 4 (.string t996);have Y15_0:=bF_ BK997.out 0;have Y15_1:=bF_ BK997.out 1;have Y15_2:=bF_ BK997.out 2;have Y15_3:=bF_ BK997.out 3;have Y15_4:=bF_ BK997.out 4)|((with_reducible refine gC_ (f:=31) rfl ?_);refine gl_ 28 Tryd.func31 #[.slice Ao10 t989.length co10,.agg #[.int .i64 t992,.int .i64 t993,.int .i64 t994,.int .i64 t995,.string t996]] ?_;(with_reducible refine (impl_KeyBack.calls k _ _ t989 t992 t993 t994 t995 t996 t1005 t1006 t1007 t1008 t1009 t1010 _ ?side1 ?side2 A5.out ?side3).mono ?_);(case side1=>refine (Kd.Q_reads' (e:=37) (base:=w.heap.size) (ok:=fun k_=>True) (n:=t989.length) (c:=co10) ?_).2.2;exact (by (with_reducible repeat (first|apply Kd.Q_alloc|apply Kd.Q_drewN|apply Kd.Q_drew));exact (Kd.Q_mono (Kd.Q_far (p:=⟨gb1004,4,none⟩) (Kd.Q_far (p:=⟨gb1004,3,none⟩) (Kd.Q_far (p:=⟨gb1004,2,none⟩) (Kd.Q_far (p:=⟨gb1004,1,none⟩) (Kd.Q_far (p:=⟨gb1004,0,none⟩) (Kd.Q_types HO991.out BK1004.out (by decide)) (fun _ hk=>hk.2) (.int .i64 t998)) (fun _ hk=>hk.2) (.int .i64 t999)) (fun _ hk=>hk.2) (.int .i64 t1000)) (fun _ hk=>hk.2) (.int .i64 t1001)) (fun _ hk=>hk.2) (.string t1002)) (fun _ h_=>h_.1))));(case side2=>exact (Kd.Q_reads' HO991.out).2.1);(case side3=>exact Glob.below HG.out (bel_));rintro e w16 ⟨rfl,hb⟩;refine ⟨_,rfl,?_⟩;have n0_:=a_ (Kd.Q_below (by (with_reducible repeat (first|apply Kd.Q_alloc|apply Kd.Q_drewN|apply Kd.Q_drew));exact (Kd.Q_mono (Kd.Q_far (p:=⟨gb1004,4,none⟩) (Kd.Q_far (p:=⟨gb1004,3,none⟩) (Kd.Q_far (p:=⟨gb1004,2,none⟩) (Kd.Q_far (p:=⟨gb1004,1,none⟩) (Kd.Q_far (p:=⟨gb1004,0,none⟩) (Kd.Q_types HO991.out BK1004.out (by decide)) (fun _ hk=>hk.2) (.int .i64 t998)) (fun _ hk=>hk.2) (.int .i64 t999)) (fun _ hk=>hk.2) (.int .i64 t1000)) (fun _ hk=>hk.2) (.int .i64 t1001)) (fun _ hk=>hk.2) (.string t1002)) (fun _ h_=>h_.1))) hb);have n1_:=a_ (blk_below (g:=gb997) (o:=.cells #[.int .i64 t992,.int .i64 t993,.int .i64 t994,.int .i64 t995,.string t996] 27 (0,0)) (by (with_reducible repeat (first|refine bN_ ?_ _|refine bD_ ?_|refine bA_ ?_ _));refine blk_far ?_ NB997_1004.out _;(with_reducible repeat (first|refine bN_ ?_ _|refine bD_ ?_|refine bA_ ?_ _));refine blk_far ?_ NB997_1004.out _;(with_reducible repeat (first|refine bN_ ?_ _|refine bD_ ?_|refine bA_ ?_ _));refine blk_far ?_ NB997_1004.out _;(with_reducible repeat (first|refine bN_ ?_ _|refine bD_ ?_|refine bA_ ?_ _));refine blk_far ?_ NB997_1004.out _;(with_reducible repeat (first|refine bN_ ?_ _|refine bD_ ?_|refine bA_ ?_ _));refine blk_far ?_ NB997_1004.out _;(with_reducible repeat (first|refine bN_ ?_ _|refine bD_ ?_|refine bA_ ?_ _));exact BK997.out) hb);have n2_:=a_ (blk_below (g:=gb1004) (o:=.cells #[.int .i64 t998,.int .i64 t999,.int .i64 t1000,.int .i64 t1001,.string t1002] 27 (0,0)) (by (with_reducible repeat (first|refine bN_ ?_ _|refine bD_ ?_|refine bA_ ?_ _));refine blk_put (cs:=#[.int .i64 t998,.int .i64 t999,.int .i64 t1000,.int .i64 t1001,.string (⟨#[]⟩:ByteArray)]) ?_ 4 _ rfl;(with_reducible repeat (first|refine bN_ ?_ _|refine bD_ ?_|refine bA_ ?_ _));refine blk_put (cs:=#[.int .i64 t998,.int .i64 t999,.int .i64 t1000,.int .i64 0,.string (⟨#[]⟩:ByteArray)]) ?_ 3 _ rfl;(with_reducible repeat (first|refine bN_ ?_ _|refine bD_ ?_|refine bA_ ?_ _));refine blk_put (cs:=#[.int .i64 t998,.int .i64 t999,.int .i64 0,.int .i64 0,.string (⟨#[]⟩:ByteArray)]) ?_ 2 _ rfl;(with_reducible repeat (first|refine bN_ ?_ _|refine bD_ ?_|refine bA_ ?_ _));refine blk_put (cs:=#[.int .i64 t998,.int .i64 0,.int .i64 0,.int .i64 0,.string (⟨#[]⟩:ByteArray)]) ?_ 1 _ rfl;(with_reducible repeat (first|refine bN_ ?_ _|refine bD_ ?_|refine bA_ ?_ _));refine blk_put (cs:=#[.int .i64 0,.int .i64 0,.int .i64 0,.int .i64 0,.string (⟨#[]⟩:ByteArray)]) ?_ 0 _ rfl;(with_reducible repeat (first|refine bN_ ?_ _|refine bD_ ?_|refine bA_ ?_ _));exact BK1004.out) hb);have n3_:=a_ (bS_ (bel_) hb);clear HO991;clear BK997;clear BK1004;clear HB;have HO991:=n0_;have BK997:=n1_;have BK1004:=n2_;have HB:=n3_;clear n0_ n1_ n2_ n3_;(try clear hb))|((with_reducible refine gD_ (N:=7) rfl ?_);refine bx_ 7 (#[.int .i64 0,.int .i64 0,.int .i64 0,.int .i64 0,.string (⟨#[]⟩:ByteArray)]) 27 ?_;intro gb1011 hg w17 hbox hb;have n0_:=a_ (Kd.Q_below (qp_ HO991.out) hb);have n1_:=a_ (blk_below (g:=gb997) (o:=.cells #[.int .i64 t992,.int .i64 t993,.int .i64 t994,.int .i64 t995,.string t996] 27 (0,0)) (bp_ BK997.out) hb);have n2_:=a_ (blk_below (g:=gb1004) (o:=.cells #[.int .i64 t998,.int .i64 t999,.int .i64 t1000,.int .i64 t1001,.string t1002] 27 (0,0)) (bp_ BK1004.out) hb);have n3_:=a_ (bS_ (bel_) hb);have n4_:=a_ (hbox);have n5_:=a_ ((by rw [hg];exact (below_size (bel_)):w.heap.size≤gb1011));have n6_:=a_ ((by rw [hg];exact (below_size (bel_)):w.heap.size≤gb1011));have n7_:=a_ ((by rw [hg];exact Nat.ne_of_lt (blk_lt (g:=gb997) (o:=.cells #[.int .i64 t992,.int .i64 t993,.int .i64 t994,.int .i64 t995,.string t996] 27 (0,0)) (bp_ BK997.out)):gb997≠gb1011));have n8_:=a_ ((by rw [hg];exact Nat.ne_of_gt (blk_lt (g:=gb997) (o:=.cells #[.int .i64 t992,.int .i64 t993,.int .i64 t994,.int .i64 t995,.string t996] 27 (0,0)) (bp_ BK997.out)):gb1011≠gb997));have n9_:=a_ ((by rw [hg];exact Nat.ne_of_lt (blk_lt (g:=gb1004) (o:=.cells #[.int .i64 t998,.int .i64 t999,.int .i64 t1000,.int .i64 t1001,.string t1002] 27 (0,0)) (bp_ BK1004.out)):gb1004≠gb1011));have n10_:=a_ ((by rw [hg];exact Nat.ne_of_gt (blk_lt (g:=gb1004) (o:=.cells #[.int .i64 t998,.int .i64 t999,.int .i64 t1000,.int .i64 t1001,.string t1002] 27 (0,0)) (bp_ BK1004.out)):gb1011≠gb1004));clear HO991;clear BK997;clear BK1004;clear HB;have HO991:=n0_;have BK997:=n1_;have BK1004:=n2_;have HB:=n3_;have BK1011:=n4_;have GW1011:=n5_;have GE1011:=n6_;have NB997_1011:=n7_;have NB1011_997:=n8_;have NB1004_1011:=n9_;have NB1011_1004:=n10_;clear n0_ n1_ n2_ n3_ n4_ n5_ n6_ n7_ n8_ n9_ n10_;clear hb hbox hg;have hnb18:=NB1011_997.out;have hnc18:=NB997_1011.out;have hnb19:=NB1011_1004.out;have hnc19:=NB1004_1011.out;have Z20_0:=cz_ BK1011.out 0 (.int .i64 0);have Z20_1:=cz_ BK1011.out 1 (.int .i64 0);have Z20_2:=cz_ BK1011.out 2 (.int .i64 0);have Z20_3:=cz_ BK1011.out 3 (.int .i64 0);have Z20_4:=cz_ BK1011.out 4 (.string (⟨#[]⟩:ByteArray));have Y20_0:=bF_ BK1011.out 0;have Y20_1:=bF_ BK1011.out 1;have Y20_2:=bF_ BK1011.out 2;have Y20_3:=bF_ BK1011.out 3;have Y20_4:=bF_ BK1011.out 4))
  (try simp only [Act.put,List.setIfInBounds_toArray,List.set_cons_zero,List.set_cons_succ])
  go_cut [42] (fun v42 wc=>∃ (kq:Nat) (x42_5:Bool),v42=.bool x42_5∧Aside0 (laws_FnKeyBack.j0 kq t989 t1003 t1010 x42_5 t992 t993 t994 t995 t996 t998 t999 t1000 t1001 t1002 t1005 t1006 t1007 t1008 t1009=some r)∧Aside0 (kq≤k)∧Aside0 (Kd.Q k37 37 wc w.heap.size (fun _=>True) (.slice Ao10 t989.length co10) t989)∧Aside0 (wc.heap[gb997]?=some (.cells #[.int .i64 t992,.int .i64 t993,.int .i64 t994,.int .i64 t995,.string t996] 27 (0,0)))∧Aside0 (wc.heap[gb1004]?=some (.cells #[.int .i64 t998,.int .i64 t999,.int .i64 t1000,.int .i64 t1001,.string t1002] 27 (0,0)))∧Aside0 (wc.heap[gb1011]?=some (.cells #[.int .i64 t1005,.int .i64 t1006,.int .i64 t1007,.int .i64 t1008,.string t1009] 27 (0,0)))∧Aside0 (Below w.heap.size w wc))
  case first =>
   have H:=HC6.out
   clear HC6
   by_cases c21:(t1010 != t1003)=true
   ·rw [if_pos c21] at H
    exact absurd H (by simp)
   ·rw [if_neg c21] at H
    have c21b0:(t1010 != t1003)=false:=by simpa using c21
    (try (have c21b1:decide (t1010=t1003)=true:=by simpa using c21))
    (try (have c21b2:(t1010==t1003)=true:=by simpa using c21))
    clear c21
    (first|rw [c21b0]|(simp only [i64_w,i32_w];rw [c21b0])|skip)
    by_cases c22:(!(t1005==t998) || (!(t1006==t999) || (!(t1007==t1000) || (!(t1008==t1001) || (!(t1009.toList==t1002.toList))))))=true
    ·rw [if_pos c22] at H
     have c22b0:(!(t1005==t998) || (!(t1006==t999) || (!(t1007==t1000) || (!(t1008==t1001) || (!(t1009.toList==t1002.toList))))))=true:=c22
     clear c22
     have H':=a_ H
     clear H
     have hnb23:=NB1011_997.out
     have hnc23:=NB997_1011.out
     have hnb24:=NB1011_1004.out
     have hnc24:=NB1004_1011.out
     have Z25_0:=cz_ BK1011.out 0 (.int .i64 0)
     have Z25_1:=cz_ BK1011.out 1 (.int .i64 0)
     have Z25_2:=cz_ BK1011.out 2 (.int .i64 0)
     have Z25_3:=cz_ BK1011.out 3 (.int .i64 0)
     have Z25_4:=cz_ BK1011.out 4 (.string (⟨#[]⟩:ByteArray))
     have Y25_0:=bF_ BK1011.out 0
     have Y25_1:=bF_ BK1011.out 1
     have Y25_2:=bF_ BK1011.out 2
     have Y25_3:=bF_ BK1011.out 3
     have Y25_4:=bF_ BK1011.out 4
     have hnb26:=NB1004_997.out
     have hnc26:=NB997_1004.out
     have Z27_0:=cz_ BK1004.out 0 (.int .i64 t998)
     have Z27_1:=cz_ BK1004.out 1 (.int .i64 t999)
     have Z27_2:=cz_ BK1004.out 2 (.int .i64 t1000)
     have Z27_3:=cz_ BK1004.out 3 (.int .i64 t1001)
     have Z27_4:=cz_ BK1004.out 4 (.string t1002)
     have Y27_0:=bF_ BK1004.out 0
     have Y27_1:=bF_ BK1004.out 1
     have Y27_2:=bF_ BK1004.out 2
     have Y27_3:=bF_ BK1004.out 3
     have Y27_4:=bF_ BK1004.out 4
     go_wp2
     go_meet
     case rel=>exact ⟨_,(true),(si_),H',⟨by first|omega|exact Nat.le_refl _⟩,⟨by (with_reducible repeat (first|apply Kd.Q_alloc|apply Kd.Q_drewN|apply Kd.Q_drew));exact Kd.Q_mono (Kd.Q_far (p:=⟨gb1011,4,none⟩) (Kd.Q_far (p:=⟨gb1011,3,none⟩) (Kd.Q_far (p:=⟨gb1011,2,none⟩) (Kd.Q_far (p:=⟨gb1011,1,none⟩) (Kd.Q_far (p:=⟨gb1011,0,none⟩) (Kd.Q_types HO991.out BK1011.out (by decide)) (fun _ hk=>hk.2) (.int .i64 t1005)) (fun _ hk=>hk.2) (.int .i64 t1006)) (fun _ hk=>hk.2) (.int .i64 t1007)) (fun _ hk=>hk.2) (.int .i64 t1008)) (fun _ hk=>hk.2) (.string t1009)) (fun _ hk=>trivial)⟩,⟨by (with_reducible repeat (first|refine bN_ ?_ _|refine bD_ ?_|refine bA_ ?_ _));refine blk_far ?_ NB997_1011.out _;(with_reducible repeat (first|refine bN_ ?_ _|refine bD_ ?_|refine bA_ ?_ _));refine blk_far ?_ NB997_1011.out _;(with_reducible repeat (first|refine bN_ ?_ _|refine bD_ ?_|refine bA_ ?_ _));refine blk_far ?_ NB997_1011.out _;(with_reducible repeat (first|refine bN_ ?_ _|refine bD_ ?_|refine bA_ ?_ _));refine blk_far ?_ NB997_1011.out _;(with_reducible repeat (first|refine bN_ ?_ _|refine bD_ ?_|refine bA_ ?_ _));refine blk_far ?_ NB997_1011.out _;(with_reducible repeat (first|refine bN_ ?_ _|refine bD_ ?_|refine bA_ ?_ _));exact BK997.out⟩,⟨by (with_reducible repeat (first|refine bN_ ?_ _|refine bD_ ?_|refine bA_ ?_ _));refine blk_far ?_ NB1004_1011.out _;(with_reducible repeat (first|refine bN_ ?_ _|refine bD_ ?_|refine bA_ ?_ _));refine blk_far ?_ NB1004_1011.out _;(with_reducible repeat (first|refine bN_ ?_ _|refine bD_ ?_|refine bA_ ?_ _));refine blk_far ?_ NB1004_1011.out _;(with_reducible repeat (first|refine bN_ ?_ _|refine bD_ ?_|refine bA_ ?_ _));refine blk_far ?_ NB1004_1011.out _;(with_reducible repeat (first|refine bN_ ?_ _|refine bD_ ?_|refine bA_ ?_ _));refine blk_far ?_ NB1004_1011.out _;(with_reducible repeat (first|refine bN_ ?_ _|refine bD_ ?_|refine bA_ ?_ _));exact BK1004.out⟩,⟨by (with_reducible repeat (first|refine bN_ ?_ _|refine bD_ ?_|refine bA_ ?_ _));refine blk_put (cs:=#[.int .i64 t1005,.int .i64 t1006,.int .i64 t1007,.int .i64 t1008,.string (⟨#[]⟩:ByteArray)]) ?_ 4 _ rfl;(with_reducible repeat (first|refine bN_ ?_ _|refine bD_ ?_|refine bA_ ?_ _));refine blk_put (cs:=#[.int .i64 t1005,.int .i64 t1006,.int .i64 t1007,.int .i64 0,.string (⟨#[]⟩:ByteArray)]) ?_ 3 _ rfl;(with_reducible repeat (first|refine bN_ ?_ _|refine bD_ ?_|refine bA_ ?_ _));refine blk_put (cs:=#[.int .i64 t1005,.int .i64 t1006,.int .i64 0,.int .i64 0,.string (⟨#[]⟩:ByteArray)]) ?_ 2 _ rfl;(with_reducible repeat (first|refine bN_ ?_ _|refine bD_ ?_|refine bA_ ?_ _));refine blk_put (cs:=#[.int .i64 t1005,.int .i64 0,.int .i64 0,.int .i64 0,.string (⟨#[]⟩:ByteArray)]) ?_ 1 _ rfl;(with_reducible repeat (first|refine bN_ ?_ _|refine bD_ ?_|refine bA_ ?_ _));refine blk_put (cs:=#[.int .i64 0,.int .i64 0,.int .i64 0,.int .i64 0,.string (⟨#[]⟩:ByteArray)]) ?_ 0 _ rfl;(with_reducible repeat (first|refine bN_ ?_ _|refine bD_ ?_|refine bA_ ?_ _));exact BK1011.out⟩,⟨bel_⟩⟩
    ·rw [if_neg c22] at H
     have c22b0:(!(t1005==t998) || (!(t1006==t999) || (!(t1007==t1000) || (!(t1008==t1001) || (!(t1009.toList==t1002.toList))))))=false:=by simpa using c22
     clear c22
     have H':=a_ H
     clear H
     have hnb28:=NB1011_997.out
     have hnc28:=NB997_1011.out
     have hnb29:=NB1011_1004.out
     have hnc29:=NB1004_1011.out
     have Z30_0:=cz_ BK1011.out 0 (.int .i64 0)
     have Z30_1:=cz_ BK1011.out 1 (.int .i64 0)
     have Z30_2:=cz_ BK1011.out 2 (.int .i64 0)
     have Z30_3:=cz_ BK1011.out 3 (.int .i64 0)
     have Z30_4:=cz_ BK1011.out 4 (.string (⟨#[]⟩:ByteArray))
     have Y30_0:=bF_ BK1011.out 0
     have Y30_1:=bF_ BK1011.out 1
     have Y30_2:=bF_ BK1011.out 2
     have Y30_3:=bF_ BK1011.out 3
     have Y30_4:=bF_ BK1011.out 4
     have hnb31:=NB1004_997.out
     have hnc31:=NB997_1004.out
     have Z32_0:=cz_ BK1004.out 0 (.int .i64 t998)
     have Z32_1:=cz_ BK1004.out 1 (.int .i64 t999)
     have Z32_2:=cz_ BK1004.out 2 (.int .i64 t1000)
     have Z32_3:=cz_ BK1004.out 3 (.int .i64 t1001)
     have Z32_4:=cz_ BK1004.out 4 (.string t1002)
     have Y32_0:=bF_ BK1004.out 0
     have Y32_1:=bF_ BK1004.out 1
     have Y32_2:=bF_ BK1004.out 2
     have Y32_3:=bF_ BK1004.out 3
     have Y32_4:=bF_ BK1004.out 4
     go_wp2
     go_meet
     case rel=>exact ⟨_,(!t1010),(si_),H',⟨by first|omega|exact Nat.le_refl _⟩,⟨by (with_reducible repeat (first|apply Kd.Q_alloc|apply Kd.Q_drewN|apply Kd.Q_drew));exact Kd.Q_mono (Kd.Q_far (p:=⟨gb1011,4,none⟩) (Kd.Q_far (p:=⟨gb1011,3,none⟩) (Kd.Q_far (p:=⟨gb1011,2,none⟩) (Kd.Q_far (p:=⟨gb1011,1,none⟩) (Kd.Q_far (p:=⟨gb1011,0,none⟩) (Kd.Q_types HO991.out BK1011.out (by decide)) (fun _ hk=>hk.2) (.int .i64 t1005)) (fun _ hk=>hk.2) (.int .i64 t1006)) (fun _ hk=>hk.2) (.int .i64 t1007)) (fun _ hk=>hk.2) (.int .i64 t1008)) (fun _ hk=>hk.2) (.string t1009)) (fun _ hk=>trivial)⟩,⟨by (with_reducible repeat (first|refine bN_ ?_ _|refine bD_ ?_|refine bA_ ?_ _));refine blk_far ?_ NB997_1011.out _;(with_reducible repeat (first|refine bN_ ?_ _|refine bD_ ?_|refine bA_ ?_ _));refine blk_far ?_ NB997_1011.out _;(with_reducible repeat (first|refine bN_ ?_ _|refine bD_ ?_|refine bA_ ?_ _));refine blk_far ?_ NB997_1011.out _;(with_reducible repeat (first|refine bN_ ?_ _|refine bD_ ?_|refine bA_ ?_ _));refine blk_far ?_ NB997_1011.out _;(with_reducible repeat (first|refine bN_ ?_ _|refine bD_ ?_|refine bA_ ?_ _));refine blk_far ?_ NB997_1011.out _;(with_reducible repeat (first|refine bN_ ?_ _|refine bD_ ?_|refine bA_ ?_ _));exact BK997.out⟩,⟨by (with_reducible repeat (first|refine bN_ ?_ _|refine bD_ ?_|refine bA_ ?_ _));refine blk_far ?_ NB1004_1011.out _;(with_reducible repeat (first|refine bN_ ?_ _|refine bD_ ?_|refine bA_ ?_ _));refine blk_far ?_ NB1004_1011.out _;(with_reducible repeat (first|refine bN_ ?_ _|refine bD_ ?_|refine bA_ ?_ _));refine blk_far ?_ NB1004_1011.out _;(with_reducible repeat (first|refine bN_ ?_ _|refine bD_ ?_|refine bA_ ?_ _));refine blk_far ?_ NB1004_1011.out _;(with_reducible repeat (first|refine bN_ ?_ _|refine bD_ ?_|refine bA_ ?_ _));refine blk_far ?_ NB1004_1011.out _;(with_reducible repeat (first|refine bN_ ?_ _|refine bD_ ?_|refine bA_ ?_ _));exact BK1004.out⟩,⟨by (with_reducible repeat (first|refine bN_ ?_ _|refine bD_ ?_|refine bA_ ?_ _));refine blk_put (cs:=#[.int .i64 t1005,.int .i64 t1006,.int .i64 t1007,.int .i64 t1008,.string (⟨#[]⟩:ByteArray)]) ?_ 4 _ rfl;(with_reducible repeat (first|refine bN_ ?_ _|refine bD_ ?_|refine bA_ ?_ _));refine blk_put (cs:=#[.int .i64 t1005,.int .i64 t1006,.int .i64 t1007,.int .i64 0,.string (⟨#[]⟩:ByteArray)]) ?_ 3 _ rfl;(with_reducible repeat (first|refine bN_ ?_ _|refine bD_ ?_|refine bA_ ?_ _));refine blk_put (cs:=#[.int .i64 t1005,.int .i64 t1006,.int .i64 0,.int .i64 0,.string (⟨#[]⟩:ByteArray)]) ?_ 2 _ rfl;(with_reducible repeat (first|refine bN_ ?_ _|refine bD_ ?_|refine bA_ ?_ _));refine blk_put (cs:=#[.int .i64 t1005,.int .i64 0,.int .i64 0,.int .i64 0,.string (⟨#[]⟩:ByteArray)]) ?_ 1 _ rfl;(with_reducible repeat (first|refine bN_ ?_ _|refine bD_ ?_|refine bA_ ?_ _));refine blk_put (cs:=#[.int .i64 0,.int .i64 0,.int .i64 0,.int .i64 0,.string (⟨#[]⟩:ByteArray)]) ?_ 0 _ rfl;(with_reducible repeat (first|refine bN_ ?_ _|refine bD_ ?_|refine bA_ ?_ _));exact BK1011.out⟩,⟨bel_⟩⟩
  case rest =>
   clear HC6
   try clear c1
   try clear c2
   try clear c2b0
   try clear c2b1
   try clear p2
   try clear c3
   try clear c4
   try clear c13
   try clear c18
   try clear c19
   try clear c21
   try clear c21b0
   try clear c21b1
   try clear c21b2
   try clear c22
   try clear c22b0
   try clear c23
   try clear c24
   try clear c26
   try clear c28
   try clear c29
   try clear c31
   try clear Z14_0
   try clear Z14_1
   try clear Z14_2
   try clear Z14_3
   try clear Z14_4
   try clear Z15_0
   try clear Z15_1
   try clear Z15_2
   try clear Z15_3
   try clear Z15_4
   try clear Z20_0
   try clear Z20_1
   try clear Z20_2
   try clear Z20_3
   try clear Z20_4
   try clear Z25_0
   try clear Z25_1
   try clear Z25_2
   try clear Z25_3
   try clear Z25_4
   try clear Z27_0
   try clear Z27_1
   try clear Z27_2
   try clear Z27_3
   try clear Z27_4
   try clear Z30_0
   try clear Z30_1
   try clear Z30_2
   try clear Z30_3
   try clear Z30_4
   try clear Z32_0
   try clear Z32_1
   try clear Z32_2
   try clear Z32_3
   try clear Z32_4
   try clear Z9_0
   try clear Z9_1
   try clear Z9_2
   try clear Z9_3
   try clear Z9_4
   try clear Y14_0
   try clear Y14_1
   try clear Y14_2
   try clear Y14_3
   try clear Y14_4
   try clear Y15_0
   try clear Y15_1
   try clear Y15_2
   try clear Y15_3
   try clear Y15_4
   try clear Y20_0
   try clear Y20_1
   try clear Y20_2
   try clear Y20_3
   try clear Y20_4
   try clear Y25_0
   try clear Y25_1
   try clear Y25_2
   try clear Y25_3
   try clear Y25_4
   try clear Y27_0
   try clear Y27_1
   try clear Y27_2
   try clear Y27_3
   try clear Y27_4
   try clear Y30_0
   try clear Y30_1
   try clear Y30_2
   try clear Y30_3
   try clear Y30_4
   try clear Y32_0
   try clear Y32_1
   try clear Y32_2
   try clear Y32_3
   try clear Y32_4
   try clear Y9_0
   try clear Y9_1
   try clear Y9_2
   try clear Y9_3
   try clear Y9_4
   obtain ⟨kq,x42_5,rfl,HA,HJ5,HO_3,BK997,BK1004,BK1011,HB⟩:=hcut
   cases kq with
   | zero=>exact absurd HA.out (by simp [laws_FnKeyBack.j0])
   | succ kj5 =>
    have H:=HA.out
    clear HA
    simp only [laws_FnKeyBack.j0] at H
    by_cases c33:x42_5=true
    ·subst c33
     have H1:(if (t1010==t1003)=true then (some (t1005==t998&&(t1006==t999&&(t1007==t1000&&(t1008==t1001&&(t1009.toList==t1002.toList)))))) else (none))=some r:=by rw [if_pos rfl] at H;exact H
     clear H
     have H:=H1
     clear H1
     by_cases c34:(t1010==t1003)=true
     ·rw [if_pos c34] at H
      have c34b0:(t1010==t1003)=true:=c34
      (try (have c34b1:decide (t1010=t1003)=true:=by simpa using c34))
      (try (have c34b2:(t1010==t1003)=true:=by simpa using c34))
      clear c34
      obtain rfl:=sj_ H
      have hnb35:=NB1011_997.out
      have hnc35:=NB997_1011.out
      have hnb36:=NB1011_1004.out
      have hnc36:=NB1004_1011.out
      have Z37_0:wc.cell? ⟨gb1011,0,none⟩=some (.int .i64 t1005):=(bC_ BK1011.out 0).trans rfl
      have Z37_1:wc.cell? ⟨gb1011,1,none⟩=some (.int .i64 t1006):=(bC_ BK1011.out 1).trans rfl
      have Z37_2:wc.cell? ⟨gb1011,2,none⟩=some (.int .i64 t1007):=(bC_ BK1011.out 2).trans rfl
      have Z37_3:wc.cell? ⟨gb1011,3,none⟩=some (.int .i64 t1008):=(bC_ BK1011.out 3).trans rfl
      have Z37_4:wc.cell? ⟨gb1011,4,none⟩=some (.string t1009):=(bC_ BK1011.out 4).trans rfl
      have Y37_0:=bF_ BK1011.out 0
      have Y37_1:=bF_ BK1011.out 1
      have Y37_2:=bF_ BK1011.out 2
      have Y37_3:=bF_ BK1011.out 3
      have Y37_4:=bF_ BK1011.out 4
      have hnb38:=NB1004_997.out
      have hnc38:=NB997_1004.out
      have Z39_0:wc.cell? ⟨gb1004,0,none⟩=some (.int .i64 t998):=(bC_ BK1004.out 0).trans rfl
      have Z39_1:wc.cell? ⟨gb1004,1,none⟩=some (.int .i64 t999):=(bC_ BK1004.out 1).trans rfl
      have Z39_2:wc.cell? ⟨gb1004,2,none⟩=some (.int .i64 t1000):=(bC_ BK1004.out 2).trans rfl
      have Z39_3:wc.cell? ⟨gb1004,3,none⟩=some (.int .i64 t1001):=(bC_ BK1004.out 3).trans rfl
      have Z39_4:wc.cell? ⟨gb1004,4,none⟩=some (.string t1002):=(bC_ BK1004.out 4).trans rfl
      have Y39_0:=bF_ BK1004.out 0
      have Y39_1:=bF_ BK1004.out 1
      have Y39_2:=bF_ BK1004.out 2
      have Y39_3:=bF_ BK1004.out 3
      have Y39_4:=bF_ BK1004.out 4
      go_wp2
      go_ret
      exact ⟨fi_,bel_⟩
     ·rw [if_neg c34] at H
      exact absurd H (by simp)
    ·replace c33:=Bool.eq_false_iff.mpr c33
     subst c33
     have H1:((impl_OpDo.f kj5 t989 t992 t993 t994 t995 t996).bind fun t1012=>((impl_OpDo.f kj5 t1012 t1005 t1006 t1007 t1008 t1009).bind fun t1015=>(if t992=1 then ((impl_TreeUnder.f kj5 t1015 t993 2).bind fun t1018=>(if t1018=true then (some ((t1015.length:Int)==(wrap64 ((t989.length:Int)+1)))) else (none))) else ((laws_lpRows.f kj5 t1015 t989).bind fun t1019=>(if t1019=true then ((laws_lpRows.f kj5 t1012 t989).bind fun t1020=>(if t1020=true then (none) else ((impl_OpOk.f kj5 t1005 t1006 t1007 t1008 t1009).bind fun t1021=>(some t1021)))) else (none))))))=some r:=by rw [if_neg (show ¬ (false=true) by decide)] at H;exact H
     clear H
     have H:=H1
     clear H1
     replace H:=bs_ H
     obtain ⟨t1012,A400,H⟩:=H
     replace H:((impl_OpDo.f kj5 t1012 t1005 t1006 t1007 t1008 t1009).bind fun t1015=>(if t992=1 then ((impl_TreeUnder.f kj5 t1015 t993 2).bind fun t1018=>(if t1018=true then (some ((t1015.length:Int)==(wrap64 ((t989.length:Int)+1)))) else (none))) else ((laws_lpRows.f kj5 t1015 t989).bind fun t1019=>(if t1019=true then ((laws_lpRows.f kj5 t1012 t989).bind fun t1020=>(if t1020=true then (none) else ((impl_OpOk.f kj5 t1005 t1006 t1007 t1008 t1009).bind fun t1021=>(some t1021)))) else (none)))))=some r:=H
     have A40:=a_ A400
     clear A400
     replace H:=bs_ H
     obtain ⟨t1015,A410,H⟩:=H
     replace H:(if t992=1 then ((impl_TreeUnder.f kj5 t1015 t993 2).bind fun t1018=>(if t1018=true then (some ((t1015.length:Int)==(wrap64 ((t989.length:Int)+1)))) else (none))) else ((laws_lpRows.f kj5 t1015 t989).bind fun t1019=>(if t1019=true then ((laws_lpRows.f kj5 t1012 t989).bind fun t1020=>(if t1020=true then (none) else ((impl_OpOk.f kj5 t1005 t1006 t1007 t1008 t1009).bind fun t1021=>(some t1021)))) else (none))))=some r:=H
     have A41:=a_ A410
     clear A410
     by_cases c42:t992=1
     ·rw [if_pos c42] at H
      have c42b0:(t992==1)=true:=beq_iff_eq.mpr c42
      have c42b1:(t992 != 1)=false:=be_ c42
      clear c42
      replace H:=bs_ H
      obtain ⟨t1018,A430,H⟩:=H
      replace H:(if t1018=true then (some ((t1015.length:Int)==(wrap64 ((t989.length:Int)+1)))) else (none))=some r:=H
      have A43:=a_ A430
      clear A430
      by_cases c44:t1018=true
      ·subst c44
       have H1:(some ((t1015.length:Int)==(wrap64 ((t989.length:Int)+1))))=some r:=by rw [if_pos rfl] at H;exact H
       clear H
       have H:=H1
       clear H1
       obtain rfl:=sj_ H
       have hnb45:=NB997_1004.out
       have hnc45:=NB1004_997.out
       have hnb46:=NB997_1011.out
       have hnc46:=NB1011_997.out
       have Z47_0:wc.cell? ⟨gb997,0,none⟩=some (.int .i64 t992):=(bC_ BK997.out 0).trans rfl
       have Z47_1:wc.cell? ⟨gb997,1,none⟩=some (.int .i64 t993):=(bC_ BK997.out 1).trans rfl
       have Z47_2:wc.cell? ⟨gb997,2,none⟩=some (.int .i64 t994):=(bC_ BK997.out 2).trans rfl
       have Z47_3:wc.cell? ⟨gb997,3,none⟩=some (.int .i64 t995):=(bC_ BK997.out 3).trans rfl
       have Z47_4:wc.cell? ⟨gb997,4,none⟩=some (.string t996):=(bC_ BK997.out 4).trans rfl
       have Y47_0:=bF_ BK997.out 0
       have Y47_1:=bF_ BK997.out 1
       have Y47_2:=bF_ BK997.out 2
       have Y47_3:=bF_ BK997.out 3
       have Y47_4:=bF_ BK997.out 4
       go_wp2_with (first|((with_reducible refine gC_ (f:=23) rfl ?_);refine gl_ 53 Tryd.func23 #[.slice Ao10 t989.length co10,.agg #[.int .i64 t992,.int .i64 t993,.int .i64 t994,.int .i64 t995,.string t996]] ?_;(with_reducible refine (impl_OpDo.calls kj5 _ _ t989 t992 t993 t994 t995 t996 t1012 _ ?side1 ?side2 A40.out ?side3).mono ?_);(case side1=>exact cx_ (Kd.Q_reads' HO_3.out).2.2);(case side2=>exact (Kd.Q_reads' HO_3.out).2.1);(case side3=>exact Glob.below HG.out (bel_));rintro e w48 ⟨v1013,rfl,ho0,hb⟩;refine ⟨_,rfl,?_⟩;have HO1014:=a_ (Kd.R_lower (Kd.R_new' ho0 (Kd.Q_lt (qp_ HO_3.out))) (below_size (bel_)));replace HO_3:=a_ (Kd.Q_elder' (qp_ HO_3.out) (Kd.R_base ho0) hb);replace HB:=a_ (bS_ (bel_) hb);replace BK997:=a_ (blk_below (g:=gb997) (o:=.cells #[.int .i64 t992,.int .i64 t993,.int .i64 t994,.int .i64 t995,.string t996] 27 (0,0)) (bp_ BK997.out) hb);replace BK1004:=a_ (blk_below (g:=gb1004) (o:=.cells #[.int .i64 t998,.int .i64 t999,.int .i64 t1000,.int .i64 t1001,.string t1002] 27 (0,0)) (bp_ BK1004.out) hb);replace BK1011:=a_ (blk_below (g:=gb1011) (o:=.cells #[.int .i64 t1005,.int .i64 t1006,.int .i64 t1007,.int .i64 t1008,.string t1009] 27 (0,0)) (bp_ BK1011.out) hb);(try clear hb ho0);have hnb49:=NB1011_1004.out;have hnc49:=NB1004_1011.out;have Z50_0:=cz_ BK1011.out 0 (.int .i64 t1005);have Z50_1:=cz_ BK1011.out 1 (.int .i64 t1006);have Z50_2:=cz_ BK1011.out 2 (.int .i64 t1007);have Z50_3:=cz_ BK1011.out 3 (.int .i64 t1008);have Z50_4:=cz_ BK1011.out 4 (.string t1009);have Y50_0:=bF_ BK1011.out 0;have Y50_1:=bF_ BK1011.out 1;have Y50_2:=bF_ BK1011.out 2;have Y50_3:=bF_ BK1011.out 3;have Y50_4:=bF_ BK1011.out 4;obtain ⟨Ao51,co51,eo51⟩:=Kd.R_slice HO1014.out;subst eo51)|((with_reducible refine gC_ (f:=23) rfl ?_);refine gl_ 56 Tryd.func23 #[.slice Ao51 t1012.length co51,.agg #[.int .i64 t1005,.int .i64 t1006,.int .i64 t1007,.int .i64 t1008,.string t1009]] ?_;(with_reducible refine (impl_OpDo.calls kj5 _ _ t1012 t1005 t1006 t1007 t1008 t1009 t1015 _ ?side1 ?side2 A41.out ?side3).mono ?_);(case side1=>exact cx_ (Kd.R_reads' HO1014.out).2.2);(case side2=>exact (Kd.R_reads' HO1014.out).2.1);(case side3=>exact Glob.below HG.out (bel_));rintro e w52 ⟨v1016,rfl,ho0,hb⟩;refine ⟨_,rfl,?_⟩;have HO1017:=a_ (Kd.R_lower (Kd.R_new' (Kd.R_new' ho0 (Kd.Q_lt (qp_ HO_3.out))) (Kd.R_lt (rp_ HO1014.out))) (below_size (bel_)));replace HO_3:=a_ (Kd.Q_elder' (qp_ HO_3.out) (Kd.R_base ho0) hb);replace HO1014:=a_ (Kd.R_elder' (rp_ HO1014.out) (Kd.R_base ho0) hb);replace HB:=a_ (bS_ (bel_) hb);replace BK997:=a_ (blk_below (g:=gb997) (o:=.cells #[.int .i64 t992,.int .i64 t993,.int .i64 t994,.int .i64 t995,.string t996] 27 (0,0)) (bp_ BK997.out) hb);replace BK1004:=a_ (blk_below (g:=gb1004) (o:=.cells #[.int .i64 t998,.int .i64 t999,.int .i64 t1000,.int .i64 t1001,.string t1002] 27 (0,0)) (bp_ BK1004.out) hb);replace BK1011:=a_ (blk_below (g:=gb1011) (o:=.cells #[.int .i64 t1005,.int .i64 t1006,.int .i64 t1007,.int .i64 t1008,.string t1009] 27 (0,0)) (bp_ BK1011.out) hb);(try clear hb ho0);have Z53_0:=cz_ BK997.out 0 (.int .i64 t992);have Z53_1:=cz_ BK997.out 1 (.int .i64 t993);have Z53_2:=cz_ BK997.out 2 (.int .i64 t994);have Z53_3:=cz_ BK997.out 3 (.int .i64 t995);have Z53_4:=cz_ BK997.out 4 (.string t996);have Y53_0:=bF_ BK997.out 0;have Y53_1:=bF_ BK997.out 1;have Y53_2:=bF_ BK997.out 2;have Y53_3:=bF_ BK997.out 3;have Y53_4:=bF_ BK997.out 4;obtain ⟨Ao54,co54,eo54⟩:=Kd.R_slice HO1017.out;subst eo54)|((with_reducible refine gC_ (f:=22) rfl ?_);refine gl_ 63 Tryd.func22 #[.slice Ao54 t1015.length co54,.int .i64 t993,.int .i64 2] ?_;(with_reducible refine (impl_TreeUnder.calls kj5 _ _ t1015 t993 2 true _ ?side1 ?side2 A43.out ?side3).mono ?_);(case side1=>exact cx_ (Kd.R_reads' HO1017.out).2.2);(case side2=>exact (Kd.R_reads' HO1017.out).2.1);(case side3=>exact Glob.below HG.out (bel_));rintro e w55 ⟨rfl,hb⟩;refine ⟨_,rfl,?_⟩;replace HO_3:=a_ (Kd.Q_below (qp_ HO_3.out) hb);replace HO1014:=a_ (Kd.R_below (rp_ HO1014.out) hb);replace HO1017:=a_ (Kd.R_below (rp_ HO1017.out) hb);replace HB:=a_ (bS_ (bel_) hb);replace BK997:=a_ (blk_below (g:=gb997) (o:=.cells #[.int .i64 t992,.int .i64 t993,.int .i64 t994,.int .i64 t995,.string t996] 27 (0,0)) (bp_ BK997.out) hb);replace BK1004:=a_ (blk_below (g:=gb1004) (o:=.cells #[.int .i64 t998,.int .i64 t999,.int .i64 t1000,.int .i64 t1001,.string t1002] 27 (0,0)) (bp_ BK1004.out) hb);replace BK1011:=a_ (blk_below (g:=gb1011) (o:=.cells #[.int .i64 t1005,.int .i64 t1006,.int .i64 t1007,.int .i64 t1008,.string t1009] 27 (0,0)) (bp_ BK1011.out) hb);(try clear hb)))
       go_ret
       exact ⟨fi_,bel_⟩
      ·replace c44:=Bool.eq_false_iff.mpr c44
       subst c44
       have H1:(none)=some r:=by rw [if_neg (show ¬ (false=true) by decide)] at H;exact H
       clear H
       have H:=H1
       clear H1
       exact absurd H (by simp)
     ·rw [if_neg c42] at H
      have c42b0:(t992==1)=false:=bn_ c42
      have c42b1:(t992 != 1)=true:=bne_iff_ne.mpr c42
      replace H:=bs_ H
      obtain ⟨t1019,A560,H⟩:=H
      replace H:(if t1019=true then ((laws_lpRows.f kj5 t1012 t989).bind fun t1020=>(if t1020=true then (none) else ((impl_OpOk.f kj5 t1005 t1006 t1007 t1008 t1009).bind fun t1021=>(some t1021)))) else (none))=some r:=H
      have A56:=a_ A560
      clear A560
      by_cases c57:t1019=true
      ·subst c57
       have H1:((laws_lpRows.f kj5 t1012 t989).bind fun t1020=>(if t1020=true then (none) else ((impl_OpOk.f kj5 t1005 t1006 t1007 t1008 t1009).bind fun t1021=>(some t1021))))=some r:=by rw [if_pos rfl] at H;exact H
       clear H
       have H:=H1
       clear H1
       replace H:=bs_ H
       obtain ⟨t1020,A580,H⟩:=H
       replace H:(if t1020=true then (none) else ((impl_OpOk.f kj5 t1005 t1006 t1007 t1008 t1009).bind fun t1021=>(some t1021)))=some r:=H
       have A58:=a_ A580
       clear A580
       by_cases c59:t1020=true
       ·subst c59
        have H1:(none)=some r:=by rw [if_pos rfl] at H;exact H
        clear H
        have H:=H1
        clear H1
        exact absurd H (by simp)
       ·replace c59:=Bool.eq_false_iff.mpr c59
        subst c59
        have H1:((impl_OpOk.f kj5 t1005 t1006 t1007 t1008 t1009).bind fun t1021=>(some t1021))=some r:=by rw [if_neg (show ¬ (false=true) by decide)] at H;exact H
        clear H
        have H:=H1
        clear H1
        replace H:=bs_ H
        obtain ⟨t1021,A600,H⟩:=H
        replace H:(some t1021)=some r:=H
        have A60:=a_ A600
        clear A600
        obtain rfl:=sj_ H
        have hnb61:=NB997_1004.out
        have hnc61:=NB1004_997.out
        have hnb62:=NB997_1011.out
        have hnc62:=NB1011_997.out
        have Z63_0:wc.cell? ⟨gb997,0,none⟩=some (.int .i64 t992):=(bC_ BK997.out 0).trans rfl
        have Z63_1:wc.cell? ⟨gb997,1,none⟩=some (.int .i64 t993):=(bC_ BK997.out 1).trans rfl
        have Z63_2:wc.cell? ⟨gb997,2,none⟩=some (.int .i64 t994):=(bC_ BK997.out 2).trans rfl
        have Z63_3:wc.cell? ⟨gb997,3,none⟩=some (.int .i64 t995):=(bC_ BK997.out 3).trans rfl
        have Z63_4:wc.cell? ⟨gb997,4,none⟩=some (.string t996):=(bC_ BK997.out 4).trans rfl
        have Y63_0:=bF_ BK997.out 0
        have Y63_1:=bF_ BK997.out 1
        have Y63_2:=bF_ BK997.out 2
        have Y63_3:=bF_ BK997.out 3
        have Y63_4:=bF_ BK997.out 4
        go_wp2_with (first|((with_reducible refine gC_ (f:=23) rfl ?_);refine gl_ 53 Tryd.func23 #[.slice Ao10 t989.length co10,.agg #[.int .i64 t992,.int .i64 t993,.int .i64 t994,.int .i64 t995,.string t996]] ?_;(with_reducible refine (impl_OpDo.calls kj5 _ _ t989 t992 t993 t994 t995 t996 t1012 _ ?side1 ?side2 A40.out ?side3).mono ?_);(case side1=>exact cx_ (Kd.Q_reads' HO_3.out).2.2);(case side2=>exact (Kd.Q_reads' HO_3.out).2.1);(case side3=>exact Glob.below HG.out (bel_));rintro e w64 ⟨v1013,rfl,ho0,hb⟩;refine ⟨_,rfl,?_⟩;have HO1014:=a_ (Kd.R_lower (Kd.R_new' ho0 (Kd.Q_lt (qp_ HO_3.out))) (below_size (bel_)));replace HO_3:=a_ (Kd.Q_elder' (qp_ HO_3.out) (Kd.R_base ho0) hb);replace HB:=a_ (bS_ (bel_) hb);replace BK997:=a_ (blk_below (g:=gb997) (o:=.cells #[.int .i64 t992,.int .i64 t993,.int .i64 t994,.int .i64 t995,.string t996] 27 (0,0)) (bp_ BK997.out) hb);replace BK1004:=a_ (blk_below (g:=gb1004) (o:=.cells #[.int .i64 t998,.int .i64 t999,.int .i64 t1000,.int .i64 t1001,.string t1002] 27 (0,0)) (bp_ BK1004.out) hb);replace BK1011:=a_ (blk_below (g:=gb1011) (o:=.cells #[.int .i64 t1005,.int .i64 t1006,.int .i64 t1007,.int .i64 t1008,.string t1009] 27 (0,0)) (bp_ BK1011.out) hb);(try clear hb ho0);have hnb65:=NB1011_1004.out;have hnc65:=NB1004_1011.out;have Z66_0:=cz_ BK1011.out 0 (.int .i64 t1005);have Z66_1:=cz_ BK1011.out 1 (.int .i64 t1006);have Z66_2:=cz_ BK1011.out 2 (.int .i64 t1007);have Z66_3:=cz_ BK1011.out 3 (.int .i64 t1008);have Z66_4:=cz_ BK1011.out 4 (.string t1009);have Y66_0:=bF_ BK1011.out 0;have Y66_1:=bF_ BK1011.out 1;have Y66_2:=bF_ BK1011.out 2;have Y66_3:=bF_ BK1011.out 3;have Y66_4:=bF_ BK1011.out 4;obtain ⟨Ao67,co67,eo67⟩:=Kd.R_slice HO1014.out;subst eo67)|((with_reducible refine gC_ (f:=23) rfl ?_);refine gl_ 56 Tryd.func23 #[.slice Ao67 t1012.length co67,.agg #[.int .i64 t1005,.int .i64 t1006,.int .i64 t1007,.int .i64 t1008,.string t1009]] ?_;(with_reducible refine (impl_OpDo.calls kj5 _ _ t1012 t1005 t1006 t1007 t1008 t1009 t1015 _ ?side1 ?side2 A41.out ?side3).mono ?_);(case side1=>exact cx_ (Kd.R_reads' HO1014.out).2.2);(case side2=>exact (Kd.R_reads' HO1014.out).2.1);(case side3=>exact Glob.below HG.out (bel_));rintro e w68 ⟨v1016,rfl,ho0,hb⟩;refine ⟨_,rfl,?_⟩;have HO1017:=a_ (Kd.R_lower (Kd.R_new' (Kd.R_new' ho0 (Kd.Q_lt (qp_ HO_3.out))) (Kd.R_lt (rp_ HO1014.out))) (below_size (bel_)));replace HO_3:=a_ (Kd.Q_elder' (qp_ HO_3.out) (Kd.R_base ho0) hb);replace HO1014:=a_ (Kd.R_elder' (rp_ HO1014.out) (Kd.R_base ho0) hb);replace HB:=a_ (bS_ (bel_) hb);replace BK997:=a_ (blk_below (g:=gb997) (o:=.cells #[.int .i64 t992,.int .i64 t993,.int .i64 t994,.int .i64 t995,.string t996] 27 (0,0)) (bp_ BK997.out) hb);replace BK1004:=a_ (blk_below (g:=gb1004) (o:=.cells #[.int .i64 t998,.int .i64 t999,.int .i64 t1000,.int .i64 t1001,.string t1002] 27 (0,0)) (bp_ BK1004.out) hb);replace BK1011:=a_ (blk_below (g:=gb1011) (o:=.cells #[.int .i64 t1005,.int .i64 t1006,.int .i64 t1007,.int .i64 t1008,.string t1009] 27 (0,0)) (bp_ BK1011.out) hb);(try clear hb ho0);have Z69_0:=cz_ BK997.out 0 (.int .i64 t992);have Z69_1:=cz_ BK997.out 1 (.int .i64 t993);have Z69_2:=cz_ BK997.out 2 (.int .i64 t994);have Z69_3:=cz_ BK997.out 3 (.int .i64 t995);have Z69_4:=cz_ BK997.out 4 (.string t996);have Y69_0:=bF_ BK997.out 0;have Y69_1:=bF_ BK997.out 1;have Y69_2:=bF_ BK997.out 2;have Y69_3:=bF_ BK997.out 3;have Y69_4:=bF_ BK997.out 4;obtain ⟨Ao70,co70,eo70⟩:=Kd.R_slice HO1017.out;subst eo70)|((with_reducible refine gC_ (f:=30) rfl ?_);refine gl_ 74 Tryd.func30 #[.slice Ao70 t1015.length co70,.slice Ao10 t989.length co10] ?_;(with_reducible refine (laws_lpRows.calls kj5 _ _ t1015 _ _ t989 true _ ?side1 ?side2 ?side3 ?side4 A56.out).mono ?_);(case side1=>exact cx_ (Kd.R_reads' HO1017.out).2.2);(case side2=>exact (Kd.R_reads' HO1017.out).2.1);(case side3=>exact cx_ (Kd.Q_reads' HO_3.out).2.2);(case side4=>exact (Kd.Q_reads' HO_3.out).2.1);rintro e w' ⟨rfl,⟨nd,rfl⟩⟩;refine ⟨_,rfl,?_⟩)|(go_at_call 30;(with_reducible refine (laws_lpRows.calls kj5 _ _ t1012 _ _ t989 false _ ?side1 ?side2 ?side3 ?side4 A58.out).mono ?_);(case side1=>exact cx_ (Kd.R_reads' HO1014.out).2.2);(case side2=>exact (Kd.R_reads' HO1014.out).2.1);(case side3=>exact cx_ (Kd.Q_reads' HO_3.out).2.2);(case side4=>exact (Kd.Q_reads' HO_3.out).2.1);rintro e w' ⟨rfl,⟨nd,rfl⟩⟩;have Z71_0:=cz_ BK1011.out 0 (.int .i64 t1005);have Z71_1:=cz_ BK1011.out 1 (.int .i64 t1006);have Z71_2:=cz_ BK1011.out 2 (.int .i64 t1007);have Z71_3:=cz_ BK1011.out 3 (.int .i64 t1008);have Z71_4:=cz_ BK1011.out 4 (.string t1009);have Y71_0:=bF_ BK1011.out 0;have Y71_1:=bF_ BK1011.out 1;have Y71_2:=bF_ BK1011.out 2;have Y71_3:=bF_ BK1011.out 3;have Y71_4:=bF_ BK1011.out 4)|(go_at_call 36;(with_reducible refine (impl_OpOk.calls kj5 t1005 t1006 t1007 t1008 t1009 t1021 _ A60.out ?side1).mono ?_);(case side1=>exact Glob.below HG.out (bel_));rintro e w72 ⟨rfl,hb⟩;replace HO_3:=a_ (Kd.Q_below (qp_ HO_3.out) hb);replace HO1014:=a_ (Kd.R_below (rp_ HO1014.out) hb);replace HO1017:=a_ (Kd.R_below (rp_ HO1017.out) hb);replace HB:=a_ (bS_ (bel_) hb);replace BK997:=a_ (blk_below (g:=gb997) (o:=.cells #[.int .i64 t992,.int .i64 t993,.int .i64 t994,.int .i64 t995,.string t996] 27 (0,0)) (bp_ BK997.out) hb);replace BK1004:=a_ (blk_below (g:=gb1004) (o:=.cells #[.int .i64 t998,.int .i64 t999,.int .i64 t1000,.int .i64 t1001,.string t1002] 27 (0,0)) (bp_ BK1004.out) hb);replace BK1011:=a_ (blk_below (g:=gb1011) (o:=.cells #[.int .i64 t1005,.int .i64 t1006,.int .i64 t1007,.int .i64 t1008,.string t1009] 27 (0,0)) (bp_ BK1011.out) hb);(try clear hb)))
        go_ret
        exact ⟨fi_,bel_⟩
      ·replace c57:=Bool.eq_false_iff.mpr c57
       subst c57
       have H1:(none)=some r:=by rw [if_neg (show ¬ (false=true) by decide)] at H;exact H
       clear H
       have H:=H1
       clear H1
       exact absurd H (by simp)
def laws_FnKeyBack.Pure:Prop:=∀ (l0:List Int),l0.length≤maxLen→l0.length * 1≤140737488351232→(∀ x∈l0,(Lit.int .u8 x).wf=true)→∃ k,laws_FnKeyBack.f k l0=some true
theorem laws_FnKeyBack.walk (P:laws_FnKeyBack.Pure) (a0:Option Addr) (len0 cap0:Nat) (z0:List Int) (w:World) (w0:(a0=none∧len0=0∧cap0=0∧z0=[])∨∃ x,a0=some x∧len0≤cap0∧cap0≤maxLen∧z0.length=cap0∧(∀ i,i < z0.length→w.cell? (x.add i)=some (.int .u8 (z0.getD i 0)))∧∀ n∈z0,(Lit.int .u8 n).wf=true) (y0:len0 * 1≤140737488351232) (hG:Glob w) :
  Calls Tryd.prog 13 #[.slice a0 len0 cap0] w fun e w'=>e=.returned (.bool true)∧Below w.heap.size w w':=by
 obtain ⟨l0,rfl,hr0,hm0,hw0,hc0⟩:=ReadsInt.ofRowC w0
 obtain ⟨k,h⟩:=P l0 hm0 y0 hw0
 refine (laws_FnKeyBack.calls k _ _ l0 true w (Kd.C_of_reads (d:=(0:Int)) (h1:=fun _=>rfl) hr0) hc0 h hG).mono ?_
 rintro e w' ⟨rfl,hd⟩
 exact ⟨rfl,hd⟩
end Go.Proofs.YtlkheeegkifblaaDoor.P
namespace Go.Proofs.YtlkheeegkifblaaDoor.PL
open Go.RowKit Go.Proofs.YtlkheeegkifblaaDoor.P Go.Proofs.YtlkheeegkifblaaDoorW.PrintWords Go.Proofs.YtlkheeegkifblaaDoorW.PrintLast
theorem of_f (b:List Int) (p:Int) (m:Nat) (l:List ByteArray) (hb:Bytes b) (hp:Rd p (m+1)) (h1:1≤l.length) (h2:l.length≤1000):∃ (s:ByteArray),Ev (fun k=>spec_l6Rd_of.f k b p l) (s,p+1)∧s∈l:=by
 obtain ⟨r,hr,_,h0,hlt,_⟩:=pick_f b p (l.length:Int) m hb hp
 have hlt:=hlt (by omega)
 have hi:r.toNat < l.length:=by omega
 refine ⟨l[r.toNat],?_,List.getElem_mem hi⟩
 unfold spec_l6Rd_of.f
 refine Ev.bind hr ?_
 refine ev_pos h0 (ev_pos hlt ?_)
 have:rdOf ByteArray.empty l r=l[r.toNat]:=by
  unfold rdOf
  rw [List.getD_eq_getElem?_getD,List.getElem?_eq_getElem hi]
  rfl
 rw [this]
 exact evnow _
theorem text_l0_f (b:List Int) (hb:Bytes b):∀ (n:Nat) (s:ByteArray) (p:Int) (m:Nat),s.size+n≤1000→Rd p (m+n+2)→∃ (s':ByteArray) (p':Int),Ev (fun k=>spec_l71Text.l0 k s n b p) (s',p')∧Rd p' m∧s'.size≤1010
 | 0,s,p,m,hs,hp=>by
  obtain ⟨r,hr,hR,_,_,_⟩:=pick_f b p 40 (m+1) hb hp
  by_cases h0:r=0
  ·obtain ⟨u,hu,hm⟩:=of_f b (p+1) m [(⟨#[101]⟩:ByteArray),(⟨#[32]⟩:ByteArray),(⟨#[97,97,97,97]⟩:ByteArray),(⟨#[39]⟩:ByteArray)] hb hR (by simp) (by simp)
   have hz:u.size≤4:=by
    simp only [List.mem_cons,List.not_mem_nil,or_false] at hm
    rcases hm with rfl|rfl|rfl|rfl <;> decide
   refine ⟨s++u,p+1+1,?_,⟨by have:=hR.1;omega,by have:=hR.2;omega⟩,by rw [ByteArray.size_append];omega⟩
   refine Ev.step (fun k=>by simp only [spec_l71Text.l0];rfl) ?_
   refine ev_neg (by omega) (Ev.bind hr (ev_pos h0 (Ev.bind hu (ev_pos (show s.size+u.size≤9223372036854775807 by omega) (evnow _)))))
  ·refine ⟨s,p+1,?_,hR.less (by omega),by omega⟩
   refine Ev.step (fun k=>by simp only [spec_l71Text.l0];rfl) ?_
   exact ev_neg (by omega) (Ev.bind hr (ev_neg h0 (evnow _)))
 | n+1,s,p,m,hs,hp=>by
  obtain ⟨u,hu,hm⟩:=of_f b p (m+n+2) [(⟨#[97]⟩:ByteArray),(⟨#[98]⟩:ByteArray),(⟨#[99]⟩:ByteArray),(⟨#[100]⟩:ByteArray)] hb (hp.less (by omega)) (by simp) (by simp)
  have hz:u.size=1:=by
   simp only [List.mem_cons,List.not_mem_nil,or_false] at hm
   rcases hm with rfl|rfl|rfl|rfl <;> decide
  obtain ⟨s',p',h1,h2,h3⟩:=text_l0_f b hb n (s++u) (p+1) m (by rw [ByteArray.size_append];omega) ⟨by have:=hp.1;omega,by have:=hp.2;omega⟩
  refine ⟨s',p',?_,h2,h3⟩
  refine Ev.step (fun k=>by simp only [spec_l71Text.l0];rfl) ?_
  refine ev_pos (by omega) (Ev.bind hu (ev_pos (show s.size+u.size≤9223372036854775807 by omega) ?_))
  have hw:wrap64 (((n+1:Nat):Int) - 1)=n:=by rw [wrap_id _ (by omega) (by have:=hs;omega)];omega
  rw [hw]
  exact h1
theorem dtext_f (b:List Int) (p:Int) (m:Nat) (hb:Bytes b) (hp:Rd p (m+6)):∃ (s:ByteArray) (p':Int),Ev (fun k=>spec_l71Text.f k b p) (s,p')∧Rd p' m∧s.size≤1010:=by
 obtain ⟨r,hr,hR,h0,hlt,_⟩:=pick_f b p 4 (m+5) hb hp
 have hlt:=hlt (by omega)
 obtain ⟨n,rfl⟩:∃ n:Nat,r=n:=⟨r.toNat,by omega⟩
 obtain ⟨s',p',h1,h2,h3⟩:=text_l0_f b hb n ⟨#[]⟩ (p+1) m (by show 0+n≤1000;omega) (hR.less (by omega))
 refine ⟨s',p',?_,h2,h3⟩
 unfold spec_l71Text.f
 exact Ev.bind hr h1
theorem did_f (b:List Int) (p:Int) (m:Nat) (hb:Bytes b) (hp:Rd p (m+2)):∃ r p':Int,Ev (fun k=>spec_l71Id.f k b p) (r,p')∧Rd p' m∧11≤r∧r≤44:=by
 obtain ⟨x,hx,hR,x0,x1,_⟩:=pick_f b p 3 (m+1) hb hp
 obtain ⟨y,hy,hR2,y0,y1,_⟩:=pick_f b (p+1) 4 m hb hR
 have x1:=x1 (by omega)
 have y1:=y1 (by omega)
 have e:wrap64 (wrap64 (wrap64 (10 * wrap64 (1+x))+1)+y)=10 * (1+x)+1+y:=by
  rw [wrap_id (1+x) (by omega) (by omega),wrap_id (10 * (1+x)) (by omega) (by omega),wrap_id (10 * (1+x)+1) (by omega) (by omega),wrap_id _ (by omega) (by omega)]
 refine ⟨10 * (1+x)+1+y,p+1+1,?_,hR2,by omega,by omega⟩
 unfold spec_l71Id.f
 refine Ev.bind hx (Ev.bind hy ?_)
 rw [e]
 exact evnow _
theorem i64_small {x:Int} (h0:-1000≤x) (h1:x≤1000):I64 x:=⟨by omega,by omega⟩
def OpX (k i u a:Int) (s:ByteArray):Prop:=I64 k∧I64 i∧I64 u∧I64 a∧s.size≤2000
theorem opx_j1 (b:List Int) (hb:Bytes b) (k i u a p:Int) (s:ByteArray) (m:Nat) (h:OpX k i u a s) (hp:Rd p (m+2)) :
  ∃ (k' i' u' a':Int) (s':ByteArray) (p':Int),Ev (fun n=>spec_l71Op.j1 n b p k i u a s) (k',i',u',a',s',p')∧OpX k' i' u' a' s'∧Rd p' m:=by
 obtain ⟨h1,h2,h3,h4,h5⟩:=h
 obtain ⟨r,hr,hR,r0,r1,_⟩:=pick_f b p 30 (m+1) hb hp
 obtain ⟨x,hx,hX,x0,x1,_⟩:=pick_f b (p+1) 5 m hb hR
 obtain ⟨y,hy,hY,y0,y1,_⟩:=pick_f b (p+1) 50 m hb hR
 have x1:=x1 (by omega)
 have y1:=y1 (by omega)
 have ix:I64 x:=i64_small (by omega) (by omega)
 have iy:I64 y:=i64_small (by omega) (by omega)
 by_cases e0:r=0
 ·refine ⟨x,i,u,a,s,p+1+1,?_,⟨ix,h2,h3,h4,h5⟩,hX⟩
  refine Ev.step (fun n=>by simp only [spec_l71Op.j1];rfl) ?_
  exact Ev.bind hr (ev_pos e0 (Ev.bind hx (evnow _)))
 ·by_cases e1:r=1
  ·refine ⟨k,y,u,a,s,p+1+1,?_,⟨h1,iy,h3,h4,h5⟩,hX⟩
   refine Ev.step (fun n=>by simp only [spec_l71Op.j1];rfl) ?_
   exact Ev.bind hr (ev_neg e0 (ev_pos e1 (Ev.bind hy (evnow _))))
  ·by_cases e2:r=2
   ·refine ⟨k,i,y,a,s,p+1+1,?_,⟨h1,h2,iy,h4,h5⟩,hX⟩
    refine Ev.step (fun n=>by simp only [spec_l71Op.j1];rfl) ?_
    exact Ev.bind hr (ev_neg e0 (ev_neg e1 (ev_pos e2 (Ev.bind hy (evnow _)))))
   ·by_cases e3:r=3
    ·refine ⟨k,i,u,y,s,p+1+1,?_,⟨h1,h2,h3,iy,h5⟩,hX⟩
     refine Ev.step (fun n=>by simp only [spec_l71Op.j1];rfl) ?_
     exact Ev.bind hr (ev_neg e0 (ev_neg e1 (ev_neg e2 (ev_pos e3 (Ev.bind hy (evnow _))))))
    ·refine ⟨k,i,u,a,s,p+1,?_,⟨h1,h2,h3,h4,h5⟩,hR.less (by omega)⟩
     refine Ev.step (fun n=>by simp only [spec_l71Op.j1];rfl) ?_
     exact Ev.bind hr (ev_neg e0 (ev_neg e1 (ev_neg e2 (ev_neg e3 (evnow _)))))
theorem opx_j0 (b:List Int) (hb:Bytes b) (up at_ w:Int) (f:Bool) (k i u a p:Int) (s:ByteArray) (m:Nat) (h:OpX k i u a s) (hu:I64 up) (ha:I64 at_) (hp:Rd p (m+2)) :
  ∃ (k' i' u' a':Int) (s':ByteArray) (p':Int),Ev (fun n=>spec_l71Op.j0 n up at_ w f b p k i u a s) (k',i',u',a',s',p')∧OpX k' i' u' a' s'∧Rd p' m:=by
 obtain ⟨h1,h2,h3,h4,h5⟩:=h
 have j1:I64 1:=i64_small (by omega) (by omega)
 have j3:I64 3:=i64_small (by omega) (by omega)
 cases f with
 | true =>
  obtain ⟨k',i',u',a',s',p',g1,g2,g3⟩:=opx_j1 b hb 1 i up at_ p s m ⟨j1,h2,hu,ha,h5⟩ hp
  refine ⟨k',i',u',a',s',p',?_,g2,g3⟩
  refine Ev.step (fun n=>by simp only [spec_l71Op.j0];rfl) ?_
  exact ev_pos (by simp) g1
 | false =>
  obtain ⟨k',i',u',a',s',p',g1,g2,g3⟩:=opx_j1 b hb 3 i up at_ p ⟨#[]⟩ m ⟨j3,h2,hu,ha,by decide⟩ hp
  by_cases w2:w=2
  ·refine ⟨k',i',u',a',s',p',?_,g2,g3⟩
   refine Ev.step (fun n=>by simp only [spec_l71Op.j0];rfl) ?_
   exact ev_neg (by decide) (ev_pos w2 g1)
  ·by_cases w3:w=3
   ·refine ⟨k',i',u',a',s',p',?_,g2,g3⟩
    refine Ev.step (fun n=>by simp only [spec_l71Op.j0];rfl) ?_
    exact ev_neg (by decide) (ev_neg w2 (ev_pos w3 g1))
   ·obtain ⟨k',i',u',a',s',p',g1,g2,g3⟩:=opx_j1 b hb k i u a p s m ⟨h1,h2,h3,h4,h5⟩ hp
    refine ⟨k',i',u',a',s',p',?_,g2,g3⟩
    refine Ev.step (fun n=>by simp only [spec_l71Op.j0];rfl) ?_
    exact ev_neg (by decide) (ev_neg w2 (ev_neg w3 g1))
theorem rd_mem (l:List Int) (r:Int) (h0:0≤r) (h1:r < l.length):rd l r∈l:=by
 have hi:r.toNat < l.length:=by omega
 unfold rd
 rw [List.getD_eq_getElem?_getD,List.getElem?_eq_getElem hi]
 exact List.getElem_mem hi
theorem op71_f (b:List Int) (hb:Bytes b) (p:Int) (m:Nat) (hp:Rd p (m+17)) :
  ∃ (k i u a:Int) (s:ByteArray) (p':Int),Ev (fun n=>spec_l71Op.f n b p) (k,i,u,a,s,p')∧OpX k i u a s∧Rd p' m:=by
 obtain ⟨i,p1,hi,R1,i0,i1⟩:=did_f b p (m+15) hb hp
 obtain ⟨s,p2,hs,R2,s0⟩:=dtext_f b p1 (m+9) hb R1
 obtain ⟨u,p3,hu,R3,u0,u1⟩:=did_f b p2 (m+7) hb R2
 obtain ⟨x,hx,R4,x0,x1,_⟩:=pick_f b p3 5 (m+6) hb R3
 have x1:=x1 (by omega)
 obtain ⟨v,p5,hv,R5,v0,v1⟩:=did_f b (p3+1) (m+4) hb R4
 obtain ⟨y,hy,R6,y0,y1,_⟩:=pick_f b p5 2 (m+3) hb R5
 have y1:=y1 (by omega)
 obtain ⟨z,hz,R7,z0,z1,_⟩:=pick_f b (p5+1) 5 (m+2) hb R6
 have iu:I64 (rd ([1,1,u,2,3]:List Int) x):=by
  have:=rd_mem ([1,1,u,2,3]:List Int) x x0 (by simpa using x1)
  simp only [List.mem_cons,List.not_mem_nil,or_false] at this
  exact i64_small (by omega) (by omega)
 have ia:I64 (rd ([0,v]:List Int) y):=by
  have:=rd_mem ([0,v]:List Int) y y0 (by simpa using y1)
  simp only [List.mem_cons,List.not_mem_nil,or_false] at this
  exact i64_small (by omega) (by omega)
 have hX:OpX 2 i 0 0 s:=⟨i64_small (by omega) (by omega),i64_small (by omega) (by omega),i64_small (by omega) (by omega),i64_small (by omega) (by omega),by omega⟩
 unfold spec_l71Op.f
 by_cases e0:z=0
 ·obtain ⟨k',i',u',a',s',p',g1,g2,g3⟩:=opx_j0 b hb _ _ z (z==0) 2 i 0 0 (p5+1+1) s m hX iu ia R7
  refine ⟨k',i',u',a',s',p',?_,g2,g3⟩
  refine Ev.bind hi (Ev.bind hs (Ev.bind hu ?_))
  simp only [Option.bind_some]
  refine Ev.bind hx (ev_pos x0 (ev_pos (by simpa using x1) (Ev.bind hv ?_)))
  refine Ev.bind hy (ev_pos y0 (ev_pos (by simpa using y1) (Ev.bind hz (ev_pos e0 g1))))
 ·obtain ⟨k',i',u',a',s',p',g1,g2,g3⟩:=opx_j0 b hb _ _ z (z==1) 2 i 0 0 (p5+1+1) s m hX iu ia R7
  refine ⟨k',i',u',a',s',p',?_,g2,g3⟩
  refine Ev.bind hi (Ev.bind hs (Ev.bind hu ?_))
  simp only [Option.bind_some]
  refine Ev.bind hx (ev_pos x0 (ev_pos (by simpa using x1) (Ev.bind hv ?_)))
  refine Ev.bind hy (ev_pos y0 (ev_pos (by simpa using y1) (Ev.bind hz (ev_neg e0 g1))))
theorem open_f (code:List Int) (h:∀ x∈code,0≤x∧x≤255):∃ b:List Int,spec_l6Open.f code=some (b,0)∧Bytes b:=by
 unfold spec_l6Open.f
 by_cases hl:(code.length:Int) > 2000
 ·refine ⟨code.take 2000,by rw [if_pos hl,if_pos (by omega)],by rw [List.length_take];omega,fun x hx=>h x (List.mem_of_mem_take hx)⟩
 ·exact ⟨code,by rw [if_neg hl],by omega,h⟩
theorem byte_of {x:Int} (h:(Lit.int .u8 x).wf=true):0≤x∧x≤255:=by
 simp only [Lit.wf,Bool.and_eq_true,decide_eq_true_eq] at h
 exact ⟨h.1,h.2⟩
def wfD (r:S37):Prop:=I64 r.f0∧r.f2.size≤2000
theorem do_wf (t:List S37) (B kd id up at_:Int) (s:ByteArray) (hI:Inv t B) (hB0:0≤B) (hB:B≤1099511627776) (hk:kd=1∨kd=2∨kd=3) (hid:id≠3) (hid64:I64 id) (hl:t.length≤100000) (hs:s.size≤2000) (hw:∀ r∈t,wfD r) :
  ∃ t':List S37,Ev (fun n=>spec_l3Do.f n t kd id up at_ s) t'∧Inv t' (2 * B+1)∧(t'.length≤t.length+1∧t.length≤t'.length)∧∀ r∈t',wfD r:=by
 obtain ⟨t',h1,h2,h3⟩:=do_f t B kd id up at_ s hI hB0 hB hk hid hid64 hl hs
 exact ⟨t',h1,h2,h3,h2.ids⟩
theorem mem_set_wf {t:List S37} (h:∀ r∈t,wfD r) {k:Nat} {v:S37} (hv:wfD v):∀ r∈t.set k v,wfD r:=fun r hr=>by
 rcases List.mem_or_eq_of_mem_set hr with hr|rfl
 ·exact h r hr
 ·exact hv
theorem tree_l1 (b:List Int) (hb:Bytes b):∀ (n:Nat) (t:List S37) (i:Nat) (p:Int) (m:Nat),i+n=t.length→(∀ r∈t,wfD r)→3≤t.length→t.length≤20→Rd p (m+n+3) →
  ∃ (t':List S37) (p':Int),Ev (fun k=>spec_l71Tree.l1 k t i b p) (t',p')∧(∀ r∈t',wfD r)∧2≤t'.length∧t'.length≤21∧Rd p' m
 | 0,t,i,p,m,h,hw,h3,h20,hp=>by
  obtain ⟨r,hr,hR,r0,r1,_⟩:=pick_f b p 24 (m+2) hb hp
  obtain ⟨x,hx,hX,x0,x1,_⟩:=pick_f b (p+1) (t.length:Int) (m+1) hb hR
  obtain ⟨y,hy,hY,y0,y1,_⟩:=pick_f b (p+1+1) 5 m hb hX
  have x1:=x1 (by omega)
  obtain ⟨j,rfl⟩:∃ n:Nat,x=n:=⟨x.toNat,by omega⟩
  have hj:j < t.length:=by omega
  have hwj:=hw _ (List.getElem_mem hj)
  by_cases e0:r=0
  ·refine ⟨t.set j ⟨t[j].f0,y,t[j].f2⟩,p+1+1+1,?_,mem_set_wf hw hwj,by rw [List.length_set];omega,by rw [List.length_set];omega,hY⟩
   refine Ev.step (fun n=>by simp only [spec_l71Tree.l1];rfl) ?_
   refine ev_neg (by omega) (Ev.bind hr (ev_pos e0 (Ev.bind hx (Ev.bind hy (ev_pos x0 (ev_pos x1 ?_))))))
   simp only [rdR_get t j hj,Int.toNat_natCast]
   exact evnow _
  ·by_cases e1:r=1
   ·refine ⟨t++[⟨t[j].f0,t[j].f1,t[j].f2⟩],p+1+1,?_,fun q hq=>?_,by simp;omega,by simp;omega,hX.less (by omega)⟩
    ·refine Ev.step (fun n=>by simp only [spec_l71Tree.l1];rfl) ?_
     refine ev_neg (by omega) (Ev.bind hr (ev_neg e0 (ev_pos e1 (Ev.bind hx (ev_pos x0 (ev_pos x1 (ev_pos (by omega) ?_)))))))
     simp only [rdR_get t j hj]
     exact evnow _
    ·rcases List.mem_append.1 hq with hq|hq
     ·exact hw q hq
     ·rw [List.mem_singleton.1 hq];exact hwj
   ·by_cases e2:r=2
    ·refine ⟨t.drop (1:Int).toNat,p+1,?_,fun q hq=>hw q (List.mem_of_mem_drop hq),by rw [List.length_drop];simp;omega,by rw [List.length_drop];omega,hR.less (by omega)⟩
     refine Ev.step (fun n=>by simp only [spec_l71Tree.l1];rfl) ?_
     exact ev_neg (by omega) (Ev.bind hr (ev_neg e0 (ev_neg e1 (ev_pos e2 (ev_pos (by omega) (evnow _))))))
    ·refine ⟨t,p+1,?_,hw,by omega,by omega,hR.less (by omega)⟩
     refine Ev.step (fun n=>by simp only [spec_l71Tree.l1];rfl) ?_
     exact ev_neg (by omega) (Ev.bind hr (ev_neg e0 (ev_neg e1 (ev_neg e2 (evnow _)))))
 | n+1,t,i,p,m,h,hw,h3,h20,hp=>by
  have hi:i < t.length:=by omega
  have hwi:=hw _ (List.getElem_mem hi)
  have hsz:t[i].f2.size≤2000:=hwi.2
  have ht:=text_f t[i].f2 (by omega)
  have wi:wrap64 ((i:Int)+1)=((i+1:Nat):Int):=by rw [wrap_id _ (by omega) (by omega)];omega
  cases hB:textB t[i].f2 with
  | true =>
   rw [hB] at ht
   obtain ⟨t',p',h1,h2⟩:=tree_l1 b hb n t (i+1) p m (by omega) hw h3 h20 (hp.less (by omega))
   refine ⟨t',p',?_,h2⟩
   refine Ev.step (fun n=>by simp only [spec_l71Tree.l1];rfl) ?_
   refine ev_pos (by omega) (ev_pos (by omega) ?_)
   rw [rdR_get t i hi,wi]
   exact Ev.bind ht (ev_pos rfl h1)
  | false =>
   rw [hB] at ht
   obtain ⟨r,hr,hR,r0,r1,_⟩:=pick_f b p 2 (m+n+3) hb (hp.less (by omega))
   by_cases e0:r=0
   ·obtain ⟨t',p',h1,h2⟩:=tree_l1 b hb n (t.set i ⟨t[i].f0,t[i].f1,⟨#[]⟩⟩) (i+1) (p+1) m (by rw [List.length_set];omega) (mem_set_wf hw ⟨hwi.1,by show (0:Nat)≤2000;omega⟩) (by rw [List.length_set];omega) (by rw [List.length_set];omega) hR
    refine ⟨t',p',?_,h2⟩
    refine Ev.step (fun n=>by simp only [spec_l71Tree.l1];rfl) ?_
    refine ev_pos (by omega) (ev_pos (by omega) ?_)
    rw [rdR_get t i hi,wi,Int.toNat_natCast]
    exact Ev.bind ht (ev_neg (by decide) (Ev.bind hr (ev_pos e0 h1)))
   ·obtain ⟨t',p',h1,h2⟩:=tree_l1 b hb n t (i+1) (p+1) m (by omega) hw h3 h20 hR
    refine ⟨t',p',?_,h2⟩
    refine Ev.step (fun n=>by simp only [spec_l71Tree.l1];rfl) ?_
    refine ev_pos (by omega) (ev_pos (by omega) ?_)
    rw [rdR_get t i hi,wi]
    exact Ev.bind ht (ev_neg (by decide) (Ev.bind hr (ev_neg e0 h1)))
theorem tree_j2 (b:List Int) (hb:Bytes b) (x4:Int) (t:List S37) (B:Nat) (up p:Int) (m:Nat) (hI:Inv t B) (hB:B≤100000) (hw:∀ r∈t,wfD r) (hl:t.length≤1000) (hp:Rd p (m+10)) :
  ∃ (t':List S37) (p':Int),(∀ (r:List S37×Int),Ev (fun k=>spec_l71Tree.l0 k t' (wrap64 (x4 - 1)) b p') r→Ev (fun k=>spec_l71Tree.j2 k t x4 up b p) r)∧Inv t' ((2 * B+1:Nat):Int)∧(t'.length≤t.length+1∧t.length≤t'.length)∧(∀ r∈t',wfD r)∧Rd p' m:=by
 obtain ⟨ks,hks,hkl,hkk⟩:=kids_f t up (by omega)
 have tail:∀ (at_ q:Int),Rd q (m+8)→∃ (t':List S37) (p':Int),(∀ (f:Nat→Option (List S37×Int)) (r:List S37×Int),(∀ n,f n=((spec_l71Id.f n b q).bind fun z=>((spec_l71Text.f n b z.2).bind fun y=>((spec_l3Do.f n t 1 z.1 up at_ y.1).bind fun t'=>(spec_l71Tree.l0 n t' (wrap64 (x4 - 1)) b y.2)))))→Ev (fun k=>spec_l71Tree.l0 k t' (wrap64 (x4 - 1)) b p') r→Ev f r)∧Inv t' ((2 * B+1:Nat):Int)∧(t'.length≤t.length+1∧t.length≤t'.length)∧(∀ r∈t',wfD r)∧Rd p' m:=by
  intro at_ q hq
  obtain ⟨z,p1,hz,hZ,z0,z1⟩:=did_f b q (m+6) hb hq
  obtain ⟨y,p2,hy,hY,y0⟩:=dtext_f b p1 m hb hZ
  obtain ⟨t',ht',hI',hlt,hwt⟩:=do_wf t B 1 z up at_ y hI (by omega) (by omega) (Or.inl rfl) (by omega) (i64_small (by omega) (by omega)) (by omega) (by omega) hw
  exact ⟨t',p2,fun f r hf h=>Ev.congr hf (Ev.bind hz (Ev.bind hy (Ev.bind ht' h))),hI'.more (by omega),hlt,hwt,hY⟩
 by_cases hz:(ks.length:Int) > 0
 ·obtain ⟨x,hx,hX,x0,x1,_⟩:=pick_f b p 2 (m+9) hb hp
  by_cases e0:x=0
  ·obtain ⟨y,hy,hY,y0,y1,_⟩:=pick_f b (p+1) (ks.length:Int) (m+8) hb hX
   have y1:=y1 (by omega)
   obtain ⟨t',p',h1,h2⟩:=tail (rd ks y) (p+1+1) hY
   refine ⟨t',p',fun r hr=>?_,h2⟩
   refine Ev.step (fun n=>by simp only [spec_l71Tree.j2];rfl) ?_
   refine Ev.bind hks (ev_pos hz (Ev.bind hx ?_))
   refine Ev.step (fun n=>by simp only [spec_l71Tree.j3];rfl) ?_
   refine ev_pos (by simp [e0]) (Ev.bind hy (ev_pos y0 (ev_pos y1 ?_)))
   exact h1 _ r (fun n=>rfl) hr
  ·obtain ⟨t',p',h1,h2⟩:=tail 0 (p+1) (hX.less (by omega))
   refine ⟨t',p',fun r hr=>?_,h2⟩
   refine Ev.step (fun n=>by simp only [spec_l71Tree.j2];rfl) ?_
   refine Ev.bind hks (ev_pos hz (Ev.bind hx ?_))
   refine Ev.step (fun n=>by simp only [spec_l71Tree.j3];rfl) ?_
   refine ev_neg (by simp [e0]) ?_
   exact h1 _ r (fun n=>rfl) hr
 ·obtain ⟨t',p',h1,h2⟩:=tail 0 p (hp.less (by omega))
  refine ⟨t',p',fun r hr=>?_,h2⟩
  refine Ev.step (fun n=>by simp only [spec_l71Tree.j2];rfl) ?_
  refine Ev.bind hks (ev_neg hz ?_)
  refine Ev.step (fun n=>by simp only [spec_l71Tree.j3];rfl) ?_
  refine ev_neg (by decide) ?_
  exact h1 _ r (fun n=>rfl) hr
theorem tree_l0 (b:List Int) (hb:Bytes b):∀ (n:Nat) (t:List S37) (B:Nat) (p:Int) (m:Nat),Inv t B→(B+1) * 2 ^ n≤16384→(∀ r∈t,wfD r)→3≤t.length→t.length+n≤20→Rd p (m+12 * n+30) →
  ∃ (t':List S37) (p':Int),Ev (fun k=>spec_l71Tree.l0 k t n b p) (t',p')∧(∀ r∈t',wfD r)∧2≤t'.length∧t'.length≤21∧Rd p' m
 | 0,t,B,p,m,hI,hB,hw,h3,hl,hp=>by
  obtain ⟨t',p',h1,h2⟩:=tree_l1 b hb t.length t 0 p m (by omega) hw h3 (by omega) (hp.less (by omega))
  refine ⟨t',p',?_,h2⟩
  refine Ev.step (fun n=>by simp only [spec_l71Tree.l0];rfl) ?_
  exact ev_neg (by omega) h1
 | n+1,t,B,p,m,hI,hB,hw,h3,hl,hp=>by
  have hB2:B+1≤16384:=Nat.le_trans (Nat.le_mul_of_pos_right _ (Nat.two_pow_pos _)) hB
  have hB3:(2 * B+1+1) * 2 ^ n≤16384:=by
   have e:(2 * B+1+1) * 2 ^ n=(B+1) * 2 ^ (n+1):=by rw [Nat.pow_succ,show 2 * B+1+1=(B+1) * 2 by omega,Nat.mul_assoc,Nat.mul_comm 2]
   rw [e];exact hB
  have wn:wrap64 (((n+1:Nat):Int) - 1)=n:=by rw [wrap_id _ (by omega) (by omega)];omega
  have go:∀ (up q:Int),Rd q (m+12 * n+40)→∃ (t':List S37) (p':Int),Ev (fun k=>spec_l71Tree.j2 k t (n+1:Nat) up b q) (t',p')∧(∀ r∈t',wfD r)∧2≤t'.length∧t'.length≤21∧Rd p' m:=by
   intro up q hq
   obtain ⟨t1,p1,h1,h2,h3',h4,h5⟩:=tree_j2 b hb (n+1:Nat) t B up q (m+12 * n+30) hI (by omega) hw (by omega) hq
   obtain ⟨t',p',g1,g2⟩:=tree_l0 b hb n t1 (2 * B+1) p1 m h2 hB3 h4 (by omega) (by omega) h5
   exact ⟨t',p',h1 _ (by rw [wn];exact g1),g2⟩
  by_cases e3:(t.length:Int) > 3
  ·obtain ⟨x,hx,hX,x0,x1,_⟩:=pick_f b p 3 (m+12 * n+41) hb (hp.less (by omega))
   by_cases e0:x > 0
   ·obtain ⟨y,hy,hY,y0,y1,_⟩:=pick_f b (p+1) (t.length:Int) (m+12 * n+40) hb hX
    have y1:=y1 (by omega)
    obtain ⟨t',p',g1,g2⟩:=go (rd_T37 t y).f0 (p+1+1) hY
    refine ⟨t',p',?_,g2⟩
    refine Ev.step (fun n=>by simp only [spec_l71Tree.l0];rfl) ?_
    refine ev_pos (by omega) (ev_pos e3 (Ev.bind hx ?_))
    refine Ev.step (fun n=>by simp only [spec_l71Tree.j1];rfl) ?_
    exact ev_pos (by simpa using e0) (Ev.bind hy (ev_pos y0 (ev_pos y1 g1)))
   ·obtain ⟨t',p',g1,g2⟩:=go 1 (p+1) (hX.less (by omega))
    refine ⟨t',p',?_,g2⟩
    refine Ev.step (fun n=>by simp only [spec_l71Tree.l0];rfl) ?_
    refine ev_pos (by omega) (ev_pos e3 (Ev.bind hx ?_))
    refine Ev.step (fun n=>by simp only [spec_l71Tree.j1];rfl) ?_
    exact ev_neg (by simpa using e0) g1
  ·obtain ⟨t',p',g1,g2⟩:=go 1 p (hp.less (by omega))
   refine ⟨t',p',?_,g2⟩
   refine Ev.step (fun n=>by simp only [spec_l71Tree.l0];rfl) ?_
   refine ev_pos (by omega) (ev_neg e3 ?_)
   refine Ev.step (fun n=>by simp only [spec_l71Tree.j1];rfl) ?_
   exact ev_neg (by decide) g1
theorem tree71_f (b:List Int) (hb:Bytes b) (p:Int) (m:Nat) (hp:Rd p (m+200)):∃ (t:List S37) (p':Int),Ev (fun k=>spec_l71Tree.f k b p) (t,p')∧(∀ r∈t,wfD r)∧2≤t.length∧t.length≤21∧Rd p' m:=by
 obtain ⟨r,hr,hR,r0,r1,_⟩:=pick_f b p 11 (m+199) hb hp
 have r1:=r1 (by omega)
 obtain ⟨n,rfl⟩:∃ n:Nat,r=n:=⟨r.toNat,by omega⟩
 have hI:Inv ([⟨1,0,⟨#[]⟩⟩,⟨2,0,⟨#[]⟩⟩,⟨3,0,⟨#[]⟩⟩]:List S37) ((0:Nat):Int):=by
  refine ⟨fun x hx=>?_,fun x hx h3=>?_,⟨⟨3,0,⟨#[]⟩⟩,by simp,rfl⟩,fun x hx=>?_⟩
  all_goals simp only [List.mem_cons,List.not_mem_nil,or_false] at hx
  ·rcases hx with rfl|rfl|rfl <;> exact ⟨Int.le_refl _,Int.le_refl _⟩
  ·rcases hx with rfl|rfl|rfl <;> rfl
  ·rcases hx with rfl|rfl|rfl <;> exact ⟨i64_small (by decide) (by decide),by decide⟩
 have hwf:∀ r∈([⟨1,0,⟨#[]⟩⟩,⟨2,0,⟨#[]⟩⟩,⟨3,0,⟨#[]⟩⟩]:List S37),wfD r:=fun x hx=>by
  simp only [List.mem_cons,List.not_mem_nil,or_false] at hx
  rcases hx with rfl|rfl|rfl <;> exact ⟨i64_small (by decide) (by decide),by decide⟩
 have hpow:(0+1) * 2 ^ n≤16384:=by
  have:2 ^ n≤2 ^ 14:=Nat.pow_le_pow_right (by decide) (by omega)
  omega
 obtain ⟨t,p',h1,h2⟩:=tree_l0 b hb n _ 0 (p+1) m hI hpow hwf (by simp) (by simp;omega) (hR.less (by omega))
 refine ⟨t,p',?_,h2⟩
 unfold spec_l71Tree.f spec_TreeNew.f
 simp only [Option.bind_some]
 exact Ev.bind hr h1
theorem row_l0 (b:List Int) (hb:Bytes b):∀ (n:Nat) (t:List S37) (i:Nat) (p:Int) (m:Nat),i+n=6→(∀ r∈t,wfD r)→2≤t.length→t.length≤21→Rd p (m+202 * n+10) →
  ∃ (t':List S37) (id p':Int),Ev (fun k=>spec_l71Row.l0 k t i b p) (t',id,p')∧(∀ r∈t',wfD r)∧2≤t'.length∧t'.length≤21∧I64 id∧Rd p' m:=by
 intro n
 have last:∀ (t:List S37) (i:Nat) (p:Int) (m:Nat),(∀ r∈t,wfD r)→2≤t.length→t.length≤21→Rd p (m+3)→∃ (t':List S37) (id p':Int),Ev (fun k=>spec_l71Row.j1 k t i false b p) (t',id,p')∧(∀ r∈t',wfD r)∧2≤t'.length∧t'.length≤21∧I64 id∧Rd p' m:=by
  intro t i p m hw h2 h21 hp
  obtain ⟨z,p1,hz,hZ,z0,z1⟩:=did_f b p (m+1) hb hp
  obtain ⟨y,hy,hY,y0,y1,_⟩:=pick_f b p1 5 m hb hZ
  have y1:=y1 (by omega)
  refine ⟨t,rd [1,2,3,z,0] y,p1+1,?_,hw,h2,h21,?_,hY⟩
  ·refine Ev.step (fun n=>by simp only [spec_l71Row.j1];rfl) ?_
   refine ev_neg (by decide) (Ev.bind hz ?_)
   simp only [Option.bind_some]
   exact Ev.bind hy (ev_pos y0 (ev_pos (by simpa using y1) (evnow _)))
  ·have:=rd_mem ([1,2,3,z,0]:List Int) y y0 (by simpa using y1)
   simp only [List.mem_cons,List.not_mem_nil,or_false] at this
   exact i64_small (by omega) (by omega)
 induction n with
 | zero =>
  intro t i p m h hw h2 h21 hp
  obtain ⟨t',id,p',g1,g2⟩:=last t i p m hw h2 h21 (hp.less (by omega))
  refine ⟨t',id,p',?_,g2⟩
  refine Ev.step (fun n=>by simp only [spec_l71Row.l0];rfl) ?_
  exact ev_neg (by omega) g1
 | succ n ih =>
  intro t i p m h hw h2 h21 hp
  obtain ⟨x,hx,hX,x0,x1,_⟩:=pick_f b p 12 (m+202 * n+211) hb (hp.less (by omega))
  by_cases e0:x > 0
  ·obtain ⟨y,hy,hY,y0,y1,_⟩:=pick_f b (p+1) (t.length:Int) (m+202 * n+210) hb hX
   have y1:=y1 (by omega)
   obtain ⟨j,rfl⟩:∃ n:Nat,y=n:=⟨y.toNat,by omega⟩
   have hj:j < t.length:=by omega
   have hwj:=hw _ (List.getElem_mem hj)
   have wi:wrap64 ((i:Int)+1)=((i+1:Nat):Int):=by rw [wrap_id _ (by omega) (by omega)];omega
   cases hm:madeB t[j].f0 with
   | true =>
    refine ⟨t,t[j].f0,p+1+1,?_,hw,h2,h21,hwj.1,hY.less (by omega)⟩
    refine Ev.step (fun n=>by simp only [spec_l71Row.l0];rfl) ?_
    refine ev_pos (by omega) (Ev.bind hx ?_)
    refine Ev.step (fun n=>by simp only [spec_l71Row.j1];rfl) ?_
    refine ev_pos (by simpa using e0) (Ev.bind hy (ev_pos y0 (ev_pos y1 ?_)))
    rw [rdR_get t j hj,made_f _ hwj.1,hm]
    simp only [Option.bind_some]
    exact ev_pos (by simp) (evnow _)
   | false =>
    by_cases e3:(i:Int)=3
    ·obtain ⟨t1,p1,g1,g2,g3,g4,g5⟩:=tree71_f b hb (p+1+1) (m+202 * n+10) hY
     obtain ⟨t',id,p',k1,k2⟩:=ih t1 (i+1) p1 m (by omega) g2 g3 g4 g5
     refine ⟨t',id,p',?_,k2⟩
     refine Ev.step (fun n=>by simp only [spec_l71Row.l0];rfl) ?_
     refine ev_pos (by omega) (Ev.bind hx ?_)
     refine Ev.step (fun n=>by simp only [spec_l71Row.j1];rfl) ?_
     refine ev_pos (by simpa using e0) (Ev.bind hy (ev_pos y0 (ev_pos y1 ?_)))
     rw [rdR_get t j hj,made_f _ hwj.1,hm,wi]
     simp only [Option.bind_some]
     exact ev_neg (by decide) (ev_pos e3 (Ev.bind g1 k1))
    ·obtain ⟨t',id,p',k1,k2⟩:=ih t (i+1) (p+1+1) m (by omega) hw h2 h21 (hY.less (by omega))
     refine ⟨t',id,p',?_,k2⟩
     refine Ev.step (fun n=>by simp only [spec_l71Row.l0];rfl) ?_
     refine ev_pos (by omega) (Ev.bind hx ?_)
     refine Ev.step (fun n=>by simp only [spec_l71Row.j1];rfl) ?_
     refine ev_pos (by simpa using e0) (Ev.bind hy (ev_pos y0 (ev_pos y1 ?_)))
     rw [rdR_get t j hj,made_f _ hwj.1,hm,wi]
     simp only [Option.bind_some]
     exact ev_neg (by decide) (ev_neg e3 k1)
  ·obtain ⟨t',id,p',g1,g2⟩:=last t i (p+1) m hw h2 h21 (hX.less (by omega))
   refine ⟨t',id,p',?_,g2⟩
   refine Ev.step (fun n=>by simp only [spec_l71Row.l0];rfl) ?_
   refine ev_pos (by omega) (Ev.bind hx ?_)
   rw [df_ e0]
   exact g1
theorem row71_f (b:List Int) (hb:Bytes b) (p:Int) (m:Nat) (hp:Rd p (m+1500)):∃ (t:List S37) (id p':Int),Ev (fun k=>spec_l71Row.f k b p) (t,id,p')∧(∀ r∈t,wfD r)∧2≤t.length∧t.length≤21∧I64 id∧Rd p' m:=by
 obtain ⟨t,p1,h1,h2,h3,h4,h5⟩:=tree71_f b hb p (m+1300) hp
 obtain ⟨t',id,p',g1,g2⟩:=row_l0 b hb 6 t 0 p1 m (by omega) h2 h3 h4 (h5.less (by omega))
 exact ⟨t',id,p',Ev.bind h1 g1,g2⟩
structure Dr (t:List S37) (k i u a:Int) (s:ByteArray):Prop where
 wf:∀ r∈t,wfD r
 two:2≤t.length
 few:t.length≤21
 op:OpX k i u a s
theorem fits_j2 (b:List Int) (hb:Bytes b) (t:List S37) (f:Bool) (k i u a p:Int) (s:ByteArray) (m:Nat) (d:Dr t k i u a s) (hp:Rd p (m+2)) :
  ∃ (k' i' u' a':Int) (s':ByteArray) (p':Int),Ev (fun n=>spec_l71Fits.j2 n t f b p k i u a s) (t,k',i',u',a',s',p')∧Dr t k' i' u' a' s'∧Rd p' m:=by
 obtain ⟨hw,h2,h21,h3,h4,h5,h6,h7⟩:=d
 cases f with
 | false =>
  refine ⟨k,i,u,a,s,p,?_,⟨hw,h2,h21,h3,h4,h5,h6,h7⟩,hp.less (by omega)⟩
  refine Ev.step (fun n=>by simp only [spec_l71Fits.j2];rfl) ?_
  exact ev_neg (by decide) (evnow _)
 | true =>
  obtain ⟨y,hy,hY,y0,y1,_⟩:=pick_f b p (t.length:Int) (m+1) hb hp
  have y1:=y1 (by omega)
  obtain ⟨j,rfl⟩:∃ n:Nat,y=n:=⟨y.toNat,by omega⟩
  have hj:j < t.length:=by omega
  have hwj:=hw _ (List.getElem_mem hj)
  obtain ⟨ks,hks,hkl,hkk⟩:=kids_f t t[j].f0 (by omega)
  have hk64:∀ x∈ks,I64 x:=fun x hx=>by
   obtain ⟨_,_,_,q,hq,_,_,e,_⟩:=hkk x hx
   rw [←e]
   exact (hw _ (List.getElem_mem hq)).1
  by_cases hz:(ks.length:Int) > 0
  ·obtain ⟨x,hx,hX,x0,x1,_⟩:=pick_f b (p+1) (ks.length:Int) m hb hY
   have x1:=x1 (by omega)
   refine ⟨k,i,t[j].f0,rd ks x,s,p+1+1,?_,⟨hw,h2,h21,h3,h4,hwj.1,hk64 _ (rd_mem ks x x0 x1),h7⟩,hX⟩
   refine Ev.step (fun n=>by simp only [spec_l71Fits.j2];rfl) ?_
   refine ev_pos (by simp) (Ev.bind hy (ev_pos y0 (ev_pos y1 ?_)))
   simp only [rdR_get t j hj]
   exact Ev.bind hks (ev_pos hz (Ev.bind hx (ev_pos x0 (ev_pos x1 (evnow _)))))
  ·refine ⟨k,i,t[j].f0,a,s,p+1,?_,⟨hw,h2,h21,h3,h4,hwj.1,h6,h7⟩,hY.less (by omega)⟩
   refine Ev.step (fun n=>by simp only [spec_l71Fits.j2];rfl) ?_
   refine ev_pos (by simp) (Ev.bind hy (ev_pos y0 (ev_pos y1 ?_)))
   simp only [rdR_get t j hj]
   exact Ev.bind hks (ev_neg hz (evnow _))
theorem fits_j1 (b:List Int) (hb:Bytes b) (t:List S37) (k i u a p:Int) (s:ByteArray) (m:Nat) (d:Dr t k i u a s) (hp:Rd p (m+3)) :
  ∃ (k' i' u' a':Int) (s':ByteArray) (p':Int),Ev (fun n=>spec_l71Fits.j1 n t b p k i u a s) (t,k',i',u',a',s',p')∧Dr t k' i' u' a' s'∧Rd p' m:=by
 obtain ⟨x,hx,hX,x0,x1,_⟩:=pick_f b p 3 (m+2) hb hp
 by_cases e0:x=0
 ·by_cases e3:k=3
  ·obtain ⟨k',i',u',a',s',p',h1,h2⟩:=fits_j2 b hb t true k i u a (p+1) s m d hX
   refine ⟨k',i',u',a',s',p',?_,h2⟩
   refine Ev.step (fun n=>by simp only [spec_l71Fits.j1];rfl) ?_
   exact Ev.bind hx (ev_pos e0 (ev_pos e3 h1))
  ·obtain ⟨k',i',u',a',s',p',h1,h2⟩:=fits_j2 b hb t (k==1) k i u a (p+1) s m d hX
   refine ⟨k',i',u',a',s',p',?_,h2⟩
   refine Ev.step (fun n=>by simp only [spec_l71Fits.j1];rfl) ?_
   exact Ev.bind hx (ev_pos e0 (ev_neg e3 h1))
 ·obtain ⟨k',i',u',a',s',p',h1,h2⟩:=fits_j2 b hb t false k i u a (p+1) s m d hX
  refine ⟨k',i',u',a',s',p',?_,h2⟩
  refine Ev.step (fun n=>by simp only [spec_l71Fits.j1];rfl) ?_
  exact Ev.bind hx (ev_neg e0 h1)
theorem fits_j0 (b:List Int) (hb:Bytes b) (t:List S37) (id:Int) (f:Bool) (k i u a p:Int) (s:ByteArray) (m:Nat) (d:Dr t k i u a s) (hid:I64 id) (hp:Rd p (m+3)) :
  ∃ (k' i' u' a':Int) (s':ByteArray) (p':Int),Ev (fun n=>spec_l71Fits.j0 n t id f b p k i u a s) (t,k',i',u',a',s',p')∧Dr t k' i' u' a' s'∧Rd p' m:=by
 cases f with
 | true =>
  obtain ⟨k',i',u',a',s',p',h1,h2⟩:=fits_j1 b hb t k id u a p s m ⟨d.wf,d.two,d.few,d.op.1,hid,d.op.2.2.1,d.op.2.2.2.1,d.op.2.2.2.2⟩ hp
  refine ⟨k',i',u',a',s',p',?_,h2⟩
  refine Ev.step (fun n=>by simp only [spec_l71Fits.j0];rfl) ?_
  exact ev_pos (by simp) h1
 | false =>
  obtain ⟨k',i',u',a',s',p',h1,h2⟩:=fits_j1 b hb t k i u a p s m d hp
  refine ⟨k',i',u',a',s',p',?_,h2⟩
  refine Ev.step (fun n=>by simp only [spec_l71Fits.j0];rfl) ?_
  exact ev_neg (by decide) h1
theorem fits71_f (b:List Int) (hb:Bytes b) (p:Int) (m:Nat) (hp:Rd p (m+1530)) :
  ∃ (t:List S37) (k i u a:Int) (s:ByteArray) (p':Int),Ev (fun n=>spec_l71Fits.f n b p) (t,k,i,u,a,s,p')∧Dr t k i u a s∧Rd p' m:=by
 obtain ⟨t,id,p1,h1,h2,h3,h4,h5,h6⟩:=row71_f b hb p (m+30) hp
 obtain ⟨k,i,u,a,s,p2,g1,g2,g3⟩:=op71_f b hb p1 (m+13) h6
 obtain ⟨x,hx,hX,x0,x1,_⟩:=pick_f b p2 5 (m+12) hb g3
 have d:Dr t k i u a s:=⟨h2,h3,h4,g2⟩
 unfold spec_l71Fits.f
 by_cases e0:x > 0
 ·by_cases e1:k=1
  ·obtain ⟨k',i',u',a',s',p',q1,q2⟩:=fits_j0 b hb t id false k i u a (p2+1) s m d h5 (hX.less (by omega))
   exact ⟨t,k',i',u',a',s',p',Ev.bind h1 (Ev.bind g1 (Ev.bind hx (ev_pos e0 (ev_pos e1 q1)))),q2⟩
  ·obtain ⟨k',i',u',a',s',p',q1,q2⟩:=fits_j0 b hb t id (madeB id) k i u a (p2+1) s m d h5 (hX.less (by omega))
   refine ⟨t,k',i',u',a',s',p',Ev.bind h1 (Ev.bind g1 (Ev.bind hx (ev_pos e0 (ev_neg e1 ?_)))),q2⟩
   simp only [made_f id h5,Option.bind_some]
   exact q1
 ·obtain ⟨k',i',u',a',s',p',q1,q2⟩:=fits_j0 b hb t id false k i u a (p2+1) s m d h5 (hX.less (by omega))
  exact ⟨t,k',i',u',a',s',p',Ev.bind h1 (Ev.bind g1 (Ev.bind hx (ev_neg e0 q1))),q2⟩
end Go.Proofs.YtlkheeegkifblaaDoor.PL
namespace Go.Proofs.YtlkheeegkifblaaDoor.PL
open Go.RowKit Go.Proofs.YtlkheeegkifblaaDoor.P Go.Proofs.YtlkheeegkifblaaDoorW.PrintWords Go.Proofs.YtlkheeegkifblaaDoorW.PrintLast Go.Proofs.YtlkheeegkifblaaDoor.FP
theorem doF_len {G:Fo} (g:Good G) (kd:Int) (i:Nat) (hit:i∉G.tops) (up at_:Int) (s:ByteArray):(doF G kd (i:Int) up at_ s).ids.length≤2000:=by
 have hg:=g.len
 unfold doF
 rcases fndF_cases g i with ⟨hi,hf⟩|⟨hi,hf⟩
 ·have hi0:=g.ne0 i hi
  rw [hf,if_neg hi0,if_neg hi0,if_neg hi0]
  split
  ·rw [setF_ids];omega
  ·split
   ·omega
   ·split
    ·omega
    ·rename_i hu
     obtain ⟨h,hr⟩:=reptop_ex G g.nd g.ne0
     have hp:=near_del hr g.nd g.three hi hit (id:=(i:Int)) (up:=up) (at_:=at_) rfl hu
     have hperm:=ids_del i G g.nd hi
     obtain ⟨n1,n2⟩:=List.nodup_cons.1 (hperm.nodup_iff.1 g.nd)
     obtain ⟨n3,n4,n5⟩:=List.nodup_append.1 n2
     have e1:=(putF_ids (p:=nearF G (i:Int) up at_) (i:=i) (t:=txtF i G) (s:=sub i G) n4 hp.1 (hp.2.imp id And.left)).length_eq
     have e2:=hperm.length_eq
     simp only [List.length_cons,List.length_append] at e1 e2
     omega
 ·rw [hf,if_pos rfl,if_pos rfl,if_pos rfl]
  have hp:=near_ok (G:=G) (tops_ids g.three) (i:Int) up at_
  have e1:=(putF_ids (p:=nearF G (i:Int) up at_) (i:=(i:Int).toNat) (t:=s) (s:=.nil) g.nd hp.up (hp.at_.imp id And.left)).length_eq
  simp only [List.length_cons,List.length_append,Fo.ids,List.length_nil] at e1
  split
  ·omega
  ·split <;> omega
theorem opDoR_len (l:List S37) (k i u a:Int) (s:ByteArray):(opDoR l k i u a s).length≤2000:=by
 unfold opDoR
 split
 ·rename_i ho
  split
  ·rename_i ht
   obtain ⟨m,rfl,h4,h37⟩:=made_num (opB_made k i u a s ho)
   have g:=good_of ht
   rw [fl_len]
   exact doF_len g k m (by rw [g.tops];simp;omega) u a s
  ·simp
 ·simp
theorem lpR_l0 (l:List S37) (hl:l.length≤1099511627776):∀ (n i:Nat),i+n=l.length→Ev (fun k=>laws_lpRows.l0 k l l i) true
 | 0,i,h=>by
  refine Ev.step (f:=fun _=>some true) (fun k=>?_) (evnow _)
  simp only [laws_lpRows.l0];rw [if_neg (by omega)]
 | n+1,i,h=>by
  refine Ev.step (fun k=>?_) (lpR_l0 l hl n (i+1) (by omega))
  simp only [laws_lpRows.l0]
  rw [if_pos (by omega),if_pos (by omega),if_pos (by omega)]
  simp only [BEq.rfl,Bool.not_true,Bool.or_false,Bool.false_eq_true,if_false]
  rw [wrapS i (by omega) (by omega)]
  rfl
theorem lpR_f (l:List S37) (hl:l.length≤1099511627776):Ev (fun k=>laws_lpRows.f k l l) true:=by
 unfold laws_lpRows.f
 exact ev_pos rfl (lpR_l0 l hl l.length 0 (by omega))
theorem lpR_eq {a b:List S37} (h:a=b) (hl:a.length≤1099511627776):Ev (fun k=>laws_lpRows.f k a b) true:=h ▸ lpR_f a hl
theorem Dr.wfR {t:List S37} {k i u a:Int} {s:ByteArray} (d:Dr t k i u a s):∀ r∈t,wfR r:=fun r hr=>⟨(d.wf r hr).1,by have:=(d.wf r hr).2;omega⟩
theorem Dr.size {t:List S37} {k i u a:Int} {s:ByteArray} (d:Dr t k i u a s):s.size≤9223372036854775807:=by have:=d.op.2.2.2.2;omega
theorem Dr.iop {t:List S37} {k i u a:Int} {s:ByteArray} (d:Dr t k i u a s):Ev (fun n=>impl_OpDo.f n t k i u a s) (opDoR t k i u a s):=iopDo_f t k i u a s d.size
theorem Dr.tree {t:List S37} {k i u a:Int} {s:ByteArray} (d:Dr t k i u a s):Ev (fun n=>spec_TreeOk.f n t) (treeB t):=stree_f t (by have:=d.few;omega) d.wfR
theorem opDoR_val {l:List S37} {k u a:Int} {i:Nat} {s:ByteArray} (ho:opB k (i:Int) u a s=true) (ht:treeB l=true):opDoR l k i u a s=(FP.doF (toFo l) k i u a s).fl 0:=(opDo_val ho ht).1
theorem le40 (l:List S37) (k i u a:Int) (s:ByteArray):(opDoR l k i u a s).length≤1099511627776:=by have:=opDoR_len l k i u a s;omega
theorem pure_of {f:Nat→Option Bool} (h:Ev f true):∃ k,f k=some true:=by
 obtain ⟨K,hK⟩:=h
 exact ⟨K,hK K (Nat.le_refl K)⟩
theorem where3_f {G:Fo} (g:Good G) (k:Int) (i:Nat) (hi0:i≠0) (u a:Int) (s:ByteArray) (hk:k=1∨k=2∨k=3):Ev (fun n=>spec_l3Where.f n (G.fl 0) k (i:Int) u a s) (if whB G k i u=true then (((whP G k i u a).1:Int),((whP G k i u a).2:Int),true) else (0,0,false)):=by
 rcases hk with rfl|rfl|rfl
 ·have:=where_x g 1 i hi0 u a s (Or.inl rfl)
  refine Eq.mp (congrArg (Ev _) ?_) this
  unfold whP
  rw [whB_make]
  rcases fndF_cases g i with ⟨h1,h2⟩|⟨h1,h2⟩
  ·rw [h2];simp [h1,hi0]
  ·rw [h2];simp [h1]
 ·rw [whB_text,if_neg (by decide)]
  unfold spec_l3Where.f
  have hll:=fl_len G 0
  have hg:=g.len
  refine Ev.bind (at_f (G.fl 0) i (by omega)) (ev_pos rfl ?_)
  refine Ev.step (f:=fun _=>some (0,0,false)) (fun n=>by simp only [spec_l3Where.j0,if_true]) (evnow _)
 ·have:=where_x g 3 i hi0 u a s (Or.inr rfl)
  refine Eq.mp (congrArg (Ev _) ?_) this
  unfold whP
  rw [whB_move]
  rcases fndF_cases g i with ⟨h1,h2⟩|⟨h1,h2⟩
  ·rw [h2];by_cases hu:under i (fndF G u) G <;> simp [h1,hi0,hu]
  ·rw [h2];simp [h1]
theorem wrapM (i:Int) (h0:0≤i) (h:i≤4611686018427387904):wrap64 (i - 1)=i - 1:=by unfold wrap64;omega
theorem take_rev (t:List S37) (i:Nat) (hi:i < t.length):(t.take (i+1)).reverse=t[i]::(t.take i).reverse:=by
 rw [List.take_succ_eq_append_getElem hi,List.reverse_append];rfl
theorem up_l0 (t:List S37) (a:Nat) (ha:a < t.length) (hl:t.length≤2000000):∀ i,i≤t.length→Ev (fun k=>spec_l2Up.l0 k t a ((i:Int) - 1)) ((upO t[a].f1 (t.take i).reverse).getD 0)
 | 0,_=>by
  refine Ev.step (f:=fun _=>some 0) (fun k=>?_) (evnow _)
  simp only [spec_l2Up.l0];rw [if_neg (by omega)]
 | i+1,h=>by
  have hi:i < t.length:=by omega
  rw [take_rev t i hi]
  unfold upO
  rw [show ((i+1:Nat):Int) - 1=i by omega]
  by_cases hq:t[i].f1 < t[a].f1
  ·rw [if_pos hq]
   refine Ev.step (f:=fun _=>some t[i].f0) (fun k=>?_) (evnow _)
   simp only [spec_l2Up.l0]
   rw [if_pos (by omega),if_pos (by omega),if_pos (by omega),if_pos (by omega),if_pos (by omega),rdR_get t i hi,rdR_get t a ha,if_pos hq]
  ·rw [if_neg hq]
   refine Ev.step (fun k=>?_) (up_l0 t a ha hl i (by omega))
   simp only [spec_l2Up.l0]
   rw [if_pos (by omega),if_pos (by omega),if_pos (by omega),if_pos (by omega),if_pos (by omega),rdR_get t i hi,rdR_get t a ha,if_neg hq,wrapM i (by omega) (by omega)]
theorem ahead_l0 (t:List S37) (a:Nat) (ha:a < t.length) (hl:t.length≤2000000):∀ i,i≤t.length→Ev (fun k=>spec_l2Ahead.l0 k t a ((i:Int) - 1)) ((aheadO t[a].f1 (t.take i).reverse).getD 0)
 | 0,_=>by
  refine Ev.step (f:=fun k=>spec_l2Ahead.j1 k t a (((0:Nat):Int) - 1) false) (fun k=>?_) ?_
  ·simp only [spec_l2Ahead.l0];rw [if_neg (by omega)]
  ·refine Ev.step (f:=fun _=>some 0) (fun k=>?_) (evnow _)
   simp only [spec_l2Ahead.j1];rfl
 | i+1,h=>by
  have hi:i < t.length:=by omega
  rw [take_rev t i hi]
  unfold aheadO
  rw [show ((i+1:Nat):Int) - 1=i by omega]
  refine Ev.step (f:=fun k=>spec_l2Ahead.j1 k t a i (decide (t[i].f1≥t[a].f1))) (fun k=>?_) ?_
  ·simp only [spec_l2Ahead.l0]
   rw [if_pos (by omega),if_pos (by omega),if_pos (by omega),if_pos (by omega),if_pos (by omega),rdR_get t i hi,rdR_get t a ha]
  ·by_cases hq:t[i].f1 < t[a].f1
   ·rw [if_pos hq,df_ (by omega)]
    refine Ev.step (f:=fun _=>some 0) (fun k=>?_) (evnow _)
    simp only [spec_l2Ahead.j1];rfl
   ·rw [if_neg hq,dt_ (by omega)]
    by_cases he:t[i].f1=t[a].f1
    ·rw [if_pos he]
     refine Ev.step (f:=fun _=>some t[i].f0) (fun k=>?_) (evnow _)
     simp only [spec_l2Ahead.j1]
     rw [if_pos True.intro,if_pos (by omega),if_pos (by omega),if_pos (by omega),if_pos (by omega),rdR_get t i hi,rdR_get t a ha,if_pos he]
    ·rw [if_neg he]
     refine Ev.step (fun k=>?_) (ahead_l0 t a ha hl i (by omega))
     simp only [spec_l2Ahead.j1]
     rw [if_pos True.intro,if_pos (by omega),if_pos (by omega),if_pos (by omega),if_pos (by omega),rdR_get t i hi,rdR_get t a ha,if_neg he,wrapM i (by omega) (by omega)]
theorem spot_take {x d:Nat} {G:Fo} {pre post:List S37} (s:Spot x d G pre post):(G.fl d).take pre.length=pre:=by rw [s.all];exact List.take_left
theorem up_x {G:Fo} (g:Good G) {x:Nat} (hx:x∈G.ids) {pre post:List S37} (s:Spot x 0 G pre post):Ev (fun k=>spec_l2Up.f k (G.fl 0) (pre.length:Int)) (par x 0 G:Int):=by
 have hl:=spot_len s
 have ha:pre.length < (G.fl 0).length:=by omega
 have hn:(G.fl 0).length≤1000:=by rw [fl_len];exact g.len
 have:=up_l0 (G.fl 0) pre.length ha (by omega) pre.length (by omega)
 rw [spot_get s ha,spot_take s] at this
 have hp:=spot_pre g.nd hx s
 have hu:=up_pre x G 0 0 g.nd hx
 rw [←hp] at hu
 simp only at this
 rw [hu] at this
 unfold spec_l2Up.f
 rw [wrapM _ (by omega) (by omega)]
 refine Eq.mp (congrArg (Ev _) ?_) this
 by_cases ht:x∈G.tops
 ·rw [if_pos ht,par_top0 (G:=G) g.nd ht];rfl
 ·rw [if_neg ht];rfl
theorem ahead_x {G:Fo} (g:Good G) {x:Nat} (hx:x∈G.ids) (ht:x∉G.tops) {pre post:List S37} (s:Spot x 0 G pre post):Ev (fun k=>spec_l2Ahead.f k (G.fl 0) (pre.length:Int)) (sibT x G:Int):=by
 have hl:=spot_len s
 have ha:pre.length < (G.fl 0).length:=by omega
 have hn:(G.fl 0).length≤1000:=by rw [fl_len];exact g.len
 have:=ahead_l0 (G.fl 0) pre.length ha (by omega) pre.length (by omega)
 rw [spot_get s ha,spot_take s] at this
 have hp:=spot_pre g.nd hx s
 have hu:=ahead_top (g.ne0 x hx) G 0 g.nd hx ht
 rw [←hp] at hu
 simp only at this
 rw [hu] at this
 unfold spec_l2Ahead.f
 rw [wrapM _ (by omega) (by omega)]
 exact this
theorem found {l:List S37} (ht:treeB l=true) {id:Int} (h:fndF (toFo l) id≠0):∃ m:Nat,id=(m:Int)∧fndF (toFo l) id=m∧m∈(toFo l).ids∧∃ pre post,Spot m 0 (toFo l) pre post∧atI l id=(pre.length:Int):=by
 obtain ⟨h1,h2⟩:=fndF_mem h
 obtain ⟨pre,post,s⟩:=spot (fndF (toFo l) id) (toFo l) 0 (val_of ht).nd h1
 refine ⟨fndF (toFo l) id,h2.symm,rfl,h1,pre,post,s,?_⟩
 have:=spot_at s
 rw [toFo_fl ht,h2] at this
 exact this
theorem lost {l:List S37} (ht:treeB l=true) {id:Int} (h:fndF (toFo l) id=0):atI l id=-1:=by
 have:=at_fnd0 h (val_of ht).ne0
 rwa [toFo_fl ht] at this
end Go.Proofs.YtlkheeegkifblaaDoor.PL
namespace Go.Proofs.YtlkheeegkifblaaDoor.PL
open Go.Proofs.YtlkheeegkifblaaDoor.P
def decL (n:Nat):List UInt8:=if n < 10 then [UInt8.ofNat (48+n)] else [UInt8.ofNat (48+n / 10),UInt8.ofNat (48+n % 10)]
def bodyL (r:S37):List UInt8:=List.replicate r.f1.toNat 46++(decL r.f0.toNat++(if r.f2.data.toList=[] then [] else 32::r.f2.data.toList))
def textL (l:List S37):List UInt8:=(l.map fun r=>bodyL r++[10]).flatten
structure Line (r:S37):Prop where
 id0:0≤r.f0
 id1:r.f0 < 100
 deep:0≤r.f1
 txt:∀ x∈r.f2.data.toList,97≤x.toNat∧x.toNat≤100
theorem split_at {c:UInt8}:∀ {a b r r':List UInt8},c∉a→c∉b→a++c::r=b++c::r'→a=b∧r=r'
 | [],[],_,_,_,_,h=>⟨rfl,(List.cons.inj h).2⟩
 | [],y::b,_,_,_,hb,h=>absurd ((List.cons.inj h).1 ▸ List.mem_cons_self) hb
 | x::a,[],_,_,ha,_,h=>absurd ((List.cons.inj h).1.symm ▸ List.mem_cons_self) ha
 | x::a,y::b,r,r',ha,hb,h=>by
  obtain ⟨h1,h2⟩:=List.cons.inj h
  obtain ⟨h3,h4⟩:=split_at (fun g=>ha (List.mem_cons_of_mem _ g)) (fun g=>hb (List.mem_cons_of_mem _ g)) h2
  exact ⟨by rw [h1,h3],h4⟩
theorem dots {c:UInt8}:∀ {a b:Nat} {x y:List UInt8},(∀ z,x.head?=some z→z≠c)→(∀ z,y.head?=some z→z≠c)→List.replicate a c++x=List.replicate b c++y→a=b∧x=y
 | 0,0,_,_,_,_,h=>⟨rfl,h⟩
 | 0,b+1,x,y,hx,_,h=>absurd rfl (hx c (by rw [show x=_ from h];rfl))
 | a+1,0,x,y,_,hy,h=>absurd rfl (hy c (by rw [←show _=y from h];rfl))
 | a+1,b+1,x,y,hx,hy,h=>by
  obtain ⟨h1,h2⟩:=dots hx hy (List.cons.inj h).2
  exact ⟨by omega,h2⟩
theorem dec_mem {n:Nat} (h:n < 100) {x:UInt8} (hx:x∈decL n):48≤x.toNat∧x.toNat≤57:=by
 have e:∀ d,d < 10→(UInt8.ofNat (48+d)).toNat=48+d:=fun d hd=>by rw [UInt8.toNat_ofNat'];omega
 unfold decL at hx
 split at hx
 ·rw [List.mem_singleton] at hx;rw [hx,e _ (by omega)];omega
 ·simp only [List.mem_cons,List.not_mem_nil,or_false] at hx
  rcases hx with rfl|rfl
  ·rw [e _ (by omega)];omega
  ·rw [e _ (by omega)];omega
theorem dec_inj {n m:Nat} (hn:n < 100) (hm:m < 100) {x y:List UInt8} (hx:∀ z,x.head?=some z→z.toNat=32) (hy:∀ z,y.head?=some z→z.toNat=32) (h:decL n++x=decL m++y):n=m∧x=y:=by
 have e:∀ d,d < 10→(UInt8.ofNat (48+d)).toNat=48+d:=fun d hd=>by rw [UInt8.toNat_ofNat'];omega
 have inj:∀ {a b:Nat},a < 10→b < 10→UInt8.ofNat (48+a)=UInt8.ofNat (48+b)→a=b:=fun ha hb h=>by
  have:=congrArg UInt8.toNat h
  rw [e _ ha,e _ hb] at this
  omega
 unfold decL at h
 by_cases h1:n < 10
 ·by_cases h2:m < 10
  ·rw [if_pos h1,if_pos h2] at h
   obtain ⟨g1,g2⟩:=List.cons.inj h
   exact ⟨inj h1 h2 g1,g2⟩
  ·rw [if_pos h1,if_neg h2] at h
   obtain ⟨_,g2⟩:=List.cons.inj h
   have:=hx (UInt8.ofNat (48+m % 10)) (by rw [show x=_ from g2];rfl)
   rw [e _ (by omega)] at this
   omega
 ·by_cases h2:m < 10
  ·rw [if_neg h1,if_pos h2] at h
   obtain ⟨_,g2⟩:=List.cons.inj h
   have:=hy (UInt8.ofNat (48+n % 10)) (by rw [←show _=y from g2];rfl)
   rw [e _ (by omega)] at this
   omega
  ·rw [if_neg h1,if_neg h2] at h
   obtain ⟨g1,g2⟩:=List.cons.inj h
   obtain ⟨g3,g4⟩:=List.cons.inj g2
   have a1:=inj (by omega) (by omega) g1
   have a2:=inj (by omega) (by omega) g3
   exact ⟨by omega,g4⟩
theorem body_out {r:S37} (o:Line r):(10:UInt8)∉bodyL r:=fun h=>by
 unfold bodyL at h
 rcases List.mem_append.1 h with g|g
 ·have:=(List.mem_replicate.1 g).2;cases this
 ·rcases List.mem_append.1 g with g|g
  ·have:=(dec_mem (n:=r.f0.toNat) (by have:=o.id1;have:=o.id0;omega) g).1
   exact absurd this (by decide)
  ·split at g
   ·cases g
   ·rcases List.mem_cons.1 g with g|g
    ·cases g
    ·exact absurd (o.txt _ g).1 (by decide)
theorem body_inj {r q:S37} (o:Line r) (o':Line q) (h:bodyL r=bodyL q):r=q:=by
 unfold bodyL at h
 have hd:∀ {n:Nat} (y:List UInt8),n < 100→∀ z,(decL n++y).head?=some z→z≠46:=fun {n} y hn z hz e=>by
  have:z∈decL n:=by
   unfold decL at hz ⊢
   split at hz
   ·rename_i g;rw [if_pos g];simp only [List.cons_append,List.nil_append,List.head?_cons,Option.some.injEq] at hz;rw [hz];exact List.mem_cons_self
   ·rename_i g;rw [if_neg g];simp only [List.cons_append,List.nil_append,List.head?_cons,Option.some.injEq] at hz;rw [hz];exact List.mem_cons_self
  have:=(dec_mem hn this).1
  rw [e] at this
  exact absurd this (by decide)
 have h1:r.f0.toNat < 100:=by have:=o.id1;have:=o.id0;omega
 have h2:q.f0.toNat < 100:=by have:=o'.id1;have:=o'.id0;omega
 obtain ⟨e1,g⟩:=dots (hd _ h1) (hd _ h2) h
 have ht:∀ (t:ByteArray),∀ z,(if t.data.toList=[] then [] else 32::t.data.toList:List UInt8).head?=some z→z.toNat=32:=fun t z hz=>by
  split at hz
  ·cases hz
  ·rw [←sj_ hz];rfl
 obtain ⟨e2,g⟩:=dec_inj h1 h2 (ht _) (ht _) g
 have e3:r.f2.data.toList=q.f2.data.toList:=by
  by_cases a:r.f2.data.toList=[]
  ·by_cases b:q.f2.data.toList=[]
   ·rw [a,b]
   ·rw [if_pos a,if_neg b] at g;cases g
  ·by_cases b:q.f2.data.toList=[]
   ·rw [if_neg a,if_pos b] at g;cases g
   ·rw [if_neg a,if_neg b] at g;exact (List.cons.inj g).2
 have e4:r.f2=q.f2:=ByteArray.ext (Array.toList_inj.1 e3)
 have e5:r.f0=q.f0:=by have:=o.id0;have:=o'.id0;omega
 have e6:r.f1=q.f1:=by have:=o.deep;have:=o'.deep;omega
 obtain ⟨a,b,c⟩:=r
 obtain ⟨a',b',c'⟩:=q
 simp only at e4 e5 e6
 rw [e4,e5,e6]
theorem text_inj:∀ {l m:List S37},(∀ r∈l,Line r)→(∀ r∈m,Line r)→textL l=textL m→l=m
 | [],[],_,_,_=>rfl
 | [],q::m,_,_,h=>by
  simp only [textL,List.map_nil,List.flatten_nil,List.map_cons,List.flatten_cons] at h
  have:=congrArg List.length h
  simp at this
 | r::l,[],_,_,h=>by
  simp only [textL,List.map_nil,List.flatten_nil,List.map_cons,List.flatten_cons] at h
  have:=congrArg List.length h
  simp at this
 | r::l,q::m,hl,hm,h=>by
  simp only [textL,List.map_cons,List.flatten_cons,List.append_assoc,List.cons_append,List.nil_append] at h
  obtain ⟨h1,h2⟩:=split_at (body_out (hl r List.mem_cons_self)) (body_out (hm q List.mem_cons_self)) h
  rw [body_inj (hl r List.mem_cons_self) (hm q List.mem_cons_self) h1,text_inj (fun x hx=>hl x (List.mem_cons_of_mem _ hx)) (fun x hx=>hm x (List.mem_cons_of_mem _ hx)) h2]
end Go.Proofs.YtlkheeegkifblaaDoor.PL
namespace Go.Proofs.YtlkheeegkifblaaDoor.PL
open Go.RowKit Go.Proofs.YtlkheeegkifblaaDoor.P Go.Proofs.YtlkheeegkifblaaDoorW.PrintWords Go.Proofs.YtlkheeegkifblaaDoorW.PrintLast
theorem many_f:∀ (n:Nat) (x out:ByteArray),n≤1000000→x.size * n≤1000000→out.size+x.size * n≤2000000→∃ r,Ev (fun k=>spec_l6Many.l0 k x (n:Int) out) r∧r.data.toList=out.data.toList++(List.replicate n x.data.toList).flatten:=by
 intro n
 induction n using Nat.strongRecOn with
 | ind n ih =>
  intro x out hbig h1 h2
  by_cases h0:n=0
  ·subst h0
   refine ⟨out,Ev.step (f:=fun _=>some out) (fun k=>?_) (evnow _),by simp⟩
   simp only [spec_l6Many.l0];rw [if_neg (by omega)]
  ·have hx:x.size≤1000000:=Nat.le_trans (by have:=Nat.le_mul_of_pos_right x.size (show 0 < n by omega);exact this) h1
   have hd:Int.tdiv (n:Int) 2=((n / 2:Nat):Int):=by rw [Int.tdiv_eq_ediv_of_nonneg (by omega)];omega
   have hm:Int.tmod (n:Int) 2=((n % 2:Nat):Int):=by rw [Int.tmod_eq_emod_of_nonneg (by omega)];omega
   have hs2:(x++x).size * (n / 2)≤x.size * n:=by
    rw [ByteArray.size_append,show x.size+x.size=x.size * 2 by omega,Nat.mul_assoc]
    exact Nat.mul_le_mul_left _ (by omega)
   have hw:wrap64 (Int.tdiv (n:Int) 2)=((n / 2:Nat):Int):=by rw [hd];exact wrap_id _ (by omega) (by omega)
   have hrep:(List.replicate n x.data.toList).flatten=(if n % 2=1 then x.data.toList else [])++(List.replicate (n / 2) (x++x).data.toList).flatten:=by
    have key:∀ j,(List.replicate (2 * j) x.data.toList).flatten=(List.replicate j (x++x).data.toList).flatten:=by
     intro j
     induction j with
     | zero=>rfl
     | succ j ih=>rw [show 2 * (j+1)=2 * j+1+1 by omega,List.replicate_succ,List.replicate_succ,List.replicate_succ,List.flatten_cons,List.flatten_cons,List.flatten_cons,ih,ByteArray.toList_data_append,List.append_assoc]
    by_cases hp:n % 2=1
    ·rw [if_pos hp,←key,show n=2 * (n / 2)+1 by omega,List.replicate_succ,List.flatten_cons]
     rw [show (2 * (n / 2)+1) / 2=n / 2 by omega]
    ·rw [if_neg hp,←key,show 2 * (n / 2)=n by omega];rfl
   by_cases hp:n % 2=1
   ·obtain ⟨r,hr,e⟩:=ih (n / 2) (by omega) (x++x) (out++x) (by omega) (by omega) (by
     rw [ByteArray.size_append,ByteArray.size_append,show x.size+x.size=x.size * 2 by omega,Nat.mul_assoc]
     have:x.size+x.size * (2 * (n / 2))=x.size * n:=by rw [show x.size+x.size * (2 * (n / 2))=x.size * (1+2 * (n / 2)) by rw [Nat.mul_add,Nat.mul_one],show 1+2 * (n / 2)=n by omega]
     omega)
    refine ⟨r,?_,by rw [e,hrep,if_pos hp,ByteArray.toList_data_append,List.append_assoc]⟩
    refine Ev.step (fun k=>by simp only [spec_l6Many.l0];rfl) ?_
    refine ev_pos (by omega) (ev_pos (by rw [hm];omega) (ev_pos (by have:=h2;have:x.size≤x.size * n:=Nat.le_mul_of_pos_right _ (by omega);omega) (ev_pos (by omega) ?_)))
    rw [hw]
    exact hr
   ·obtain ⟨r,hr,e⟩:=ih (n / 2) (by omega) (x++x) out (by omega) (by omega) (by omega)
    refine ⟨r,?_,by rw [e,hrep,if_neg hp];rfl⟩
    refine Ev.step (fun k=>by simp only [spec_l6Many.l0];rfl) ?_
    refine ev_pos (by omega) (ev_neg (by rw [hm];omega) (ev_pos (by omega) ?_))
    rw [hw]
    exact hr
theorem dots_f (d:Nat) (hd:d≤1000):∃ r,Ev (fun k=>spec_l6Many.f k ⟨#[46]⟩ (d:Int)) r∧r.data.toList=List.replicate d 46:=by
 obtain ⟨r,h,e⟩:=many_f d ⟨#[46]⟩ ⟨#[]⟩ (by omega) (by show 1 * d≤_;omega) (by show 0+1 * d≤_;omega)
 refine ⟨r,h,?_⟩
 rw [e]
 show []++(List.replicate d [46]).flatten=_
 rw [List.nil_append]
 clear h e hd r
 induction d with
 | zero=>rfl
 | succ d ih=>rw [List.replicate_succ,List.flatten_cons,ih];rfl
theorem dec_f (n:Nat) (hn:n < 100):∃ r,Ev (fun k=>spec_l6Dec.f k (n:Int)) r∧r.data.toList=decL n:=by
 have hb:∀ d:Nat,d < 10→strOfNums [(wrap64 (48+(d:Int))) % 256]=⟨#[UInt8.ofNat (48+d)]⟩:=fun d hd=>by
  rw [wrap_id _ (by omega) (by omega)]
  unfold strOfNums
  have:((48+(d:Int)) % 256).toNat=48+d:=by omega
  simp [this]
 by_cases h:n < 10
 ·refine ⟨_,Ev.step (f:=fun _=>some (strOfNums [(wrap64 (48+(n:Int))) % 256])) (fun k=>?_) (evnow _),?_⟩
  ·simp only [spec_l6Dec.f];rw [if_neg (by omega),if_neg (by omega),if_pos (by omega)]
  ·rw [hb n h];unfold decL;rw [if_pos h]
 ·have hd:Int.tdiv (n:Int) 10=((n / 10:Nat):Int):=by rw [Int.tdiv_eq_ediv_of_nonneg (by omega)];omega
  have hm:Int.tmod (n:Int) 10=((n % 10:Nat):Int):=by rw [Int.tmod_eq_emod_of_nonneg (by omega)];omega
  have h1:Ev (fun k=>spec_l6Dec.f k (wrap64 (Int.tdiv (n:Int) 10))) (⟨#[UInt8.ofNat (48+n / 10)]⟩:ByteArray):=by
   rw [hd,wrap_id _ (by omega) (by omega),←hb (n / 10) (by omega)]
   refine Ev.step (f:=fun _=>some (strOfNums [(wrap64 (48+((n / 10:Nat):Int))) % 256])) (fun k=>?_) (evnow _)
   simp only [spec_l6Dec.f];rw [if_neg (by omega),if_neg (by omega),if_pos (by omega)]
  refine ⟨(⟨#[UInt8.ofNat (48+n / 10)]⟩:ByteArray)++(⟨#[UInt8.ofNat (48+n % 10)]⟩:ByteArray),?_,?_⟩
  ·refine Ev.step (fun k=>by simp only [spec_l6Dec.f];rfl) ?_
   refine ev_neg (by omega) (ev_neg (by omega) (ev_neg (by omega) (Ev.bind h1 ?_)))
   rw [hm]
   simp only [Option.bind_some]
   rw [hb (n % 10) (by omega)]
   exact ev_pos (by show 1+1≤_;omega) (evnow _)
  ·unfold decL;rw [if_neg h];rfl
theorem lines_l0 (t:List S37) (hl:t.length≤1000) (ht:∀ r∈t,Line r∧r.f1≤100∧r.f2.size≤100):∀ (n i:Nat) (out:ByteArray),i+n=t.length→out.size≤1000 * i→∃ r,Ev (fun k=>spec_l2Text.l0 k t out (i:Int)) r∧r.data.toList=out.data.toList++textL (t.drop i)
 | 0,i,out,h,ho=>by
  refine ⟨out,Ev.step (f:=fun _=>some out) (fun k=>?_) (evnow _),?_⟩
  ·simp only [spec_l2Text.l0];rw [if_neg (by omega)]
  ·rw [List.drop_eq_nil_of_le (by omega)];simp [textL]
 | n+1,i,out,h,ho=>by
  have hi:i < t.length:=by omega
  obtain ⟨o,h1,h2⟩:=ht _ (List.getElem_mem hi)
  obtain ⟨d,hd⟩:∃ d:Nat,t[i].f1=(d:Int):=⟨t[i].f1.toNat,by have:=o.deep;omega⟩
  obtain ⟨m,hm⟩:∃ m:Nat,t[i].f0=(m:Int):=⟨t[i].f0.toNat,by have:=o.id0;omega⟩
  have hm1:m < 100:=by have:=o.id1;omega
  obtain ⟨r1,e1,q1⟩:=dots_f d (by omega)
  obtain ⟨r2,e2,q2⟩:=dec_f m hm1
  have z1:r1.size=d:=by show r1.data.size=d;rw [←Array.length_toList,q1,List.length_replicate]
  have z2:r2.size≤2:=by
   show r2.data.size≤2
   rw [←Array.length_toList,q2]
   unfold decL
   split <;> simp
  have hempty:t[i].f2.toList=([]:List UInt8)↔t[i].f2.data.toList=[]:=by rw [Go.ByteArray.toList_eq]
  have hdrop:=List.drop_eq_getElem_cons hi
  have hb:bodyL t[i]=List.replicate d 46++(decL m++(if t[i].f2.data.toList=[] then [] else 32::t[i].f2.data.toList)):=by unfold bodyL;rw [hd,hm];rfl
  by_cases he:t[i].f2.toList=([]:List UInt8)
  ·obtain ⟨r,er,qr⟩:=lines_l0 t hl ht n (i+1) (((out++r1)++r2)++(⟨#[10]⟩:ByteArray)) (by omega) (by simp only [ByteArray.size_append];show out.size+r1.size+r2.size+1≤_;omega)
   refine ⟨r,?_,?_⟩
   ·refine Ev.step (fun k=>by simp only [spec_l2Text.l0];rfl) ?_
    refine ev_pos (by omega) (ev_pos (by omega) ?_)
    simp only [rdR_get t i hi,hd,hm]
    refine Ev.bind e1 (ev_pos (by omega) (Ev.bind e2 (ev_pos (by rw [ByteArray.size_append];omega) (ev_pos he (ev_pos (by simp only [ByteArray.size_append];omega) ?_)))))
    rw [wrapS i (by omega) (by omega)]
    exact er
   ·rw [qr,hdrop]
    simp only [ByteArray.toList_data_append,q1,q2,textL,List.map_cons,List.flatten_cons,hb,if_pos (hempty.1 he),List.append_nil,List.append_assoc]
    try rfl
  ·obtain ⟨r,er,qr⟩:=lines_l0 t hl ht n (i+1) ((((((out++r1)++r2)++(⟨#[32]⟩:ByteArray))++t[i].f2))++(⟨#[10]⟩:ByteArray)) (by omega) (by simp only [ByteArray.size_append];show out.size+r1.size+r2.size+1+t[i].f2.size+1≤_;omega)
   refine ⟨r,?_,?_⟩
   ·refine Ev.step (fun k=>by simp only [spec_l2Text.l0];rfl) ?_
    refine ev_pos (by omega) (ev_pos (by omega) ?_)
    simp only [rdR_get t i hi,hd,hm]
    refine Ev.bind e1 (ev_pos (by omega) (Ev.bind e2 (ev_pos (by rw [ByteArray.size_append];omega) (ev_neg he (ev_pos (by simp only [ByteArray.size_append];omega) (ev_pos (by simp only [ByteArray.size_append];show out.size+r1.size+r2.size+1+t[i].f2.size≤_;omega) (ev_pos (by simp only [ByteArray.size_append];show out.size+r1.size+r2.size+1+t[i].f2.size+1≤_;omega) ?_)))))))
    rw [wrapS i (by omega) (by omega)]
    exact er
   ·rw [qr,hdrop]
    simp only [ByteArray.toList_data_append,q1,q2,textL,List.map_cons,List.flatten_cons,hb,if_neg (fun e=>he (hempty.2 e)),List.append_assoc]
    try rfl
theorem lines_f (t:List S37) (hl:t.length≤1000) (ht:∀ r∈t,Line r∧r.f1≤100∧r.f2.size≤100):∃ r,Ev (fun k=>spec_l2Text.f k t) r∧r.data.toList=textL t:=by
 obtain ⟨r,h,e⟩:=lines_l0 t hl ht t.length 0 ⟨#[]⟩ (by omega) (by show 0≤_;omega)
 exact ⟨r,h,by rw [e];rfl⟩
end Go.Proofs.YtlkheeegkifblaaDoor.PL
namespace Go.Proofs.YtlkheeegkifblaaDoor.PL
open Go.RowKit Go.Proofs.YtlkheeegkifblaaDoor.P Go.Proofs.YtlkheeegkifblaaDoorW.PrintWords Go.Proofs.YtlkheeegkifblaaDoorW.PrintLast Go.Proofs.YtlkheeegkifblaaDoor.FP
theorem ikeyBack_f (l:List S37) (k i u a:Int) (s:ByteArray) (hs:s.size≤9223372036854775807):Ev (fun n=>impl_KeyBack.f n l k i u a s) (keyBackR (opB k i u a s) l k i u a s):=by
 unfold impl_KeyBack.f
 exact Ev.bind (opOk_f k i u a s hs) (evnow _)
theorem textFrom_all (s:ByteArray):∀ (n i:Nat),textFrom s i n=true→∀ j,i≤j→j < i+n→97≤bt s j∧bt s j≤100
 | 0,i,_,j,h1,h2=>absurd h2 (by omega)
 | n+1,i,h,j,h1,h2=>by
  simp only [textFrom,Bool.and_eq_true,decide_eq_true_eq] at h
  by_cases e:j=i
  ·subst e;exact h.1
  ·exact textFrom_all s n (i+1) h.2 j (by omega) (by omega)
theorem textB_bytes {s:ByteArray} (h:textB s=true):s.size≤4∧∀ x∈s.data.toList,97≤x.toNat∧x.toNat≤100:=by
 unfold textB at h
 rw [Bool.and_eq_true,decide_eq_true_eq] at h
 refine ⟨h.2,fun x hx=>?_⟩
 obtain ⟨j,hj,e⟩:=List.mem_iff_getElem.1 hx
 have hj2:j < s.size:=by show j < s.data.size;simpa using hj
 have:=textFrom_all s s.size 0 h.1 j (by omega) (by omega)
 unfold bt at this
 rw [Int.toNat_natCast,dif_pos hj2] at this
 have e2:s[j]'hj2=x:=by rw [←e];simp;rfl
 rw [e2] at this
 omega
theorem line_of {r:S37} (h:rowB r=true):Line r∧r.f1≤100∧r.f2.size≤100:=by
 unfold rowB at h
 split at h
 ·rename_i hr
  rw [Bool.and_eq_true,decide_eq_true_eq] at h
  unfold rootB at hr
  rw [Bool.and_eq_true,decide_eq_true_eq,decide_eq_true_eq] at hr
  have e:r.f2.toList=[]:=by simpa using h.2
  have e2:r.f2.data.toList=[]:=by rw [←Go.ByteArray.toList_eq];exact e
  have e3:r.f2.size=0:=by show r.f2.data.size=0;rw [←Array.length_toList,e2];rfl
  exact ⟨⟨by omega,by omega,by omega,fun x hx=>by rw [e2] at hx;cases hx⟩,by omega,by omega⟩
 ·simp only [Bool.and_eq_true,decide_eq_true_eq] at h
  obtain ⟨h1,h2,h3,h4⟩:=h
  obtain ⟨h5,h6⟩:=made_small _ h1
  obtain ⟨h7,h8⟩:=textB_bytes h4
  exact ⟨⟨h5,by omega,by omega,h8⟩,by omega,by omega⟩
theorem lines_of {l:List S37} (h:treeB l=true):∀ r∈l,Line r∧r.f1≤100∧r.f2.size≤100:=fun r hr=>line_of (treeGo_rows l _ _ _ h r hr)
theorem few_of {l:List S37} (h:treeB l=true):l.length≤1000:=by
 have h1:=(val_of h).len
 have h2:=fl_len (toFo l) 0
 rw [toFo_fl h] at h2
 omega
theorem lines_eq {l m:List S37} (hl:treeB l=true) (hm:treeB m=true) {r q:ByteArray} (er:r.data.toList=textL l) (eq_:q.data.toList=textL m):(r.toList==q.toList)=decide (l=m):=by
 rw [Go.ByteArray.toList_eq,Go.ByteArray.toList_eq,er,eq_]
 by_cases h:l=m
 ·subst h;rw [dt_ rfl];exact beq_self_eq_true _
 ·rw [df_ h]
  exact beq_eq_false_iff_ne.2 fun e=>h (text_inj (fun r hr=>(lines_of hl r hr).1) (fun r hr=>(lines_of hm r hr).1) e)
theorem whB_not {G:Fo} (g:Good G) {k u a:Int} {m:Nat} {s:ByteArray} (hm0:m≠0) (hk:k=1∨k=3) (h:whB G k (m:Int) u=false):FP.doF G k (m:Int) u a s=G:=by
 rcases hk with rfl|rfl
 ·rw [whB_make] at h
  rcases fndF_cases g m with ⟨h1,h2⟩|⟨h1,h2⟩
  ·exact doF_make_not h1 hm0 u a s
  ·rw [h2] at h;simp at h
 ·rw [whB_move] at h
  refine doF_loop u a s fun hm=>?_
  rw [fnd_nat hm] at h
  simpa [hm0] using h
theorem skeyBack_f (l:List S37) (k i u a:Int) (s:ByteArray) (hl:l.length≤2000000) (hw:∀ r∈l,wfR r) (hi:I64 i) (hu:I64 u) (ha:I64 a) (hs:s.size≤9223372036854775807):Ev (fun n=>spec_KeyBack.f n l k i u a s) (keyBackR (opB k i u a s) l k i u a s):=by
 have no:Ev (fun n=>spec_KeyBack.j0 n l true k i u a s) kNo:=by
  refine Ev.step (f:=fun _=>some kNo) (fun n=>?_) (evnow _)
  simp only [spec_KeyBack.j0];rfl
 unfold spec_KeyBack.f keyBackR
 refine Ev.bind (stree_f l (by omega) hw) ?_
 cases ht:treeB l with
 | false=>rw [if_neg (by decide)];exact ev_neg (by decide) no
 | true =>
  rw [if_pos rfl]
  refine ev_pos rfl (Ev.bind (sop_f k i u a s hi hu ha hs) ?_)
  cases ho:opB k i u a s with
  | false=>rw [if_neg (by decide)];exact no
  | true =>
   rw [if_pos rfl]
   obtain ⟨m,rfl,h4,h37,hmd⟩:=made_nat ho
   have v:=val_of ht
   have g:=v.good
   have hfl:=toFo_fl ht
   have hm0:m≠0:=by omega
   refine Ev.step (fun n=>by simp only [spec_KeyBack.j0];rfl) ?_
   refine ev_neg (by decide) (Ev.bind (at_f l m (by omega)) ?_)
   by_cases h2:k=2
   ·subst h2
    refine ev_pos rfl ?_
    by_cases hm:m∈(toFo l).ids
    ·obtain ⟨m',e0,_,_,pre,post,sp,hat⟩:=found ht (id:=(m:Int)) (by rw [fnd_nat hm];exact hm0)
     obtain rfl:m=m':=by omega
     have hlt:pre.length < l.length:=by
      have:=spot_len sp
      rw [hfl] at this
      omega
     have hget:l[pre.length]=⟨(m:Int),(dep m 0 (toFo l):Int),txtF m (toFo l)⟩:=by
      have:=spot_get sp (by rw [hfl];exact hlt)
      simpa only [hfl] using this
     rw [hat]
     refine ev_neg (by omega) (ev_pos (by omega) (ev_pos (by omega) ?_))
     rw [rdR_get l pre.length hlt,hget]
     rw [doF_text hm hm0]
     by_cases he:txtF m (toFo l)=s
     ·subst he
      refine ev_pos rfl ?_
      rw [set_same m (toFo l) v.nd,hfl,if_pos rfl]
      exact evnow _
     ·refine ev_neg (fun e=>he (bytes_inj e)) ?_
      rw [if_neg (fun e=>he (by
       have e1:=fl_inj _ _ 0 (e.trans hfl.symm)
       have e2:=set_txt_eq m s hm
       rw [e1] at e2
       exact e2))]
      unfold backF
      rw [if_neg (by decide),if_pos rfl,Int.toNat_natCast]
      exact evnow _
    ·rw [doF_text_not hm,hfl,if_pos rfl]
     rw [lost ht (id:=(m:Int)) (fnd_not hm)]
     exact ev_pos (by omega) (evnow _)
   ·have hk13:k=1∨k=3:=by rcases opB_kind ho with h|h|h;exact Or.inl h;exact absurd h h2;exact Or.inr h
    refine ev_neg h2 ?_
    have hwh:=where3_f g k m hm0 u a s (opB_kind ho)
    rw [hfl] at hwh
    refine Ev.bind hwh ?_
    cases hb:whB (toFo l) k m u with
    | false =>
     rw [if_neg (by decide),whB_not g hm0 hk13 hb,hfl,if_pos rfl]
     refine ev_neg (by decide) ?_
     refine Ev.step (f:=fun _=>some kNo) (fun n=>?_) (evnow _)
     simp only [spec_KeyBack.j1];rfl
    | true =>
     rw [if_pos rfl]
     refine ev_pos rfl ?_
     have hdo:=do_x g k m hm0 (by rw [g.tops];simp;omega) u a s (opB_kind ho)
     rw [hfl] at hdo
     have v':=v.doF ho
     have ht':=treeB_fl v'
     obtain ⟨r1,e1,q1⟩:=lines_f _ (few_of ht') (lines_of ht')
     obtain ⟨r2,e2,q2⟩:=lines_f l (few_of ht) (lines_of ht)
     refine Ev.bind hdo (Ev.bind e1 (Ev.bind e2 ?_))
     rw [lines_eq ht' ht q1 q2]
     by_cases he:(FP.doF (toFo l) k m u a s).fl 0=l
     ·rw [dt_ he,if_pos he]
      refine Ev.step (f:=fun _=>some kNo) (fun n=>?_) (evnow _)
      simp only [spec_KeyBack.j1];rfl
     ·rw [df_ he,if_neg he,Int.toNat_natCast]
      unfold backF
      refine Ev.step (fun n=>by simp only [spec_KeyBack.j1];rfl) ?_
      refine ev_neg (by decide) ?_
      by_cases h1:k=1
      ·rw [if_pos h1]
       exact ev_pos h1 (evnow _)
      ·rw [if_neg h1,if_neg h2]
       refine ev_neg h1 ?_
       obtain rfl:k=3:=hk13.resolve_left h1
       have hm:m∈(toFo l).ids:=by
        rw [whB_move] at hb
        rcases fndF_cases g m with ⟨h5,h6⟩|⟨h5,h6⟩
        ·exact h5
        ·rw [h6] at hb;simp at hb
       obtain ⟨m',e0,_,_,pre,post,sp,hat⟩:=found ht (id:=(m:Int)) (by rw [fnd_nat hm];exact hm0)
       obtain rfl:m=m':=by omega
       rw [hat]
       have hu1:=up_x g hm sp
       have ha1:=ahead_x g hm (v.top hmd) sp
       rw [hfl] at hu1 ha1
       exact Ev.bind hu1 (Ev.bind ha1 (evnow _))
theorem drawBack_l0 (b:List Int) (hb:Bytes b):∀ (n i:Nat) (t:List S37) (p k id u a:Int) (s:ByteArray),i+n=5→Dr t k id u a s→Rd p (1531 * n+1) →
  ∃ (t':List S37) (k' id' u' a':Int) (s':ByteArray),Ev (fun m=>spec_DrawKeyBack.l0 m t i b p k id u a s) (t',k',id',u',a',s')∧Dr t' k' id' u' a' s'
 | 0,i,t,p,k,id,u,a,s,h,d,hp=>by
  refine ⟨t,k,id,u,a,s,?_,d⟩
  refine Ev.step (f:=fun m=>spec_DrawKeyBack.j1 m t i false b p k id u a s) (fun m=>?_) ?_
  ·simp only [spec_DrawKeyBack.l0];rw [if_neg (by omega)]
  ·refine Ev.step (f:=fun _=>some (t,k,id,u,a,s)) (fun m=>?_) (evnow _)
   simp only [spec_DrawKeyBack.j1];rfl
 | n+1,i,t,p,k,id,u,a,s,h,d,hp=>by
  obtain ⟨x,hx,hX,x0,x1,_⟩:=pick_f b p 8 (1531 * n+1531) hb (hp.less (by omega))
  have stop:Ev (fun m=>spec_DrawKeyBack.j1 m t i false b (p+1) k id u a s) (t,k,id,u,a,s):=by
   refine Ev.step (f:=fun _=>some (t,k,id,u,a,s)) (fun m=>?_) (evnow _)
   simp only [spec_DrawKeyBack.j1];rfl
  have bk:=skeyBack_f t k id u a s (by have:=d.few;omega) d.wfR d.op.2.1 d.op.2.2.1 d.op.2.2.2.1 d.size
  by_cases e0:x > 0
  ·by_cases e1:(keyBackR (opB k id u a s) t k id u a s).2.2.2.2.2=true
   ·refine ⟨t,k,id,u,a,s,?_,d⟩
    refine Ev.step (fun m=>by simp only [spec_DrawKeyBack.l0];rfl) ?_
    refine ev_pos (by omega) (Ev.bind hx ?_)
    rw [dt_ e0]
    refine Ev.step (fun m=>by simp only [spec_DrawKeyBack.j1];rfl) ?_
    exact ev_pos (by simp) (Ev.bind bk (ev_pos e1 (evnow _)))
   ·obtain ⟨t1,k1,i1,u1,a1,s1,p1,h1,d1,r1⟩:=fits71_f b hb (p+1) (1531 * n+1) (hX.less (by omega))
    obtain ⟨t',k',id',u',a',s',h2,d2⟩:=drawBack_l0 b hb n (i+1) t1 p1 k1 i1 u1 a1 s1 (by omega) d1 r1
    refine ⟨t',k',id',u',a',s',?_,d2⟩
    refine Ev.step (fun m=>by simp only [spec_DrawKeyBack.l0];rfl) ?_
    refine ev_pos (by omega) (Ev.bind hx ?_)
    rw [dt_ e0]
    refine Ev.step (fun m=>by simp only [spec_DrawKeyBack.j1];rfl) ?_
    refine ev_pos (by simp) (Ev.bind bk (ev_neg e1 (Ev.bind h1 ?_)))
    rw [wrapS i (by omega) (by omega)]
    exact h2
  ·refine ⟨t,k,id,u,a,s,?_,d⟩
   refine Ev.step (fun m=>by simp only [spec_DrawKeyBack.l0];rfl) ?_
   refine ev_pos (by omega) (Ev.bind hx ?_)
   rw [df_ e0]
   exact stop
theorem drawBack_f (code:List Int) (h:∀ x∈code,(Lit.int .u8 x).wf=true):∃ (t:List S37) (k i u a:Int) (s:ByteArray),Ev (fun n=>spec_DrawKeyBack.f n code) (t,k,i,u,a,s)∧Dr t k i u a s:=by
 obtain ⟨b,hb,hB⟩:=open_f code (fun x hx=>byte_of (h x hx))
 obtain ⟨t,k,i,u,a,s,p,h1,d1,r1⟩:=fits71_f b hB 0 7700 ⟨by omega,by omega⟩
 obtain ⟨t',k',i',u',a',s',h2,d2⟩:=drawBack_l0 b hB 5 0 t p k i u a s (by omega) d1 (r1.less (by omega))
 refine ⟨t',k',i',u',a',s',?_,d2⟩
 unfold spec_DrawKeyBack.f
 rw [hb]
 simp only [Option.bind_some]
 exact Ev.bind h1 h2
end Go.Proofs.YtlkheeegkifblaaDoor.PL
namespace Go.Proofs.YtlkheeegkifblaaDoor.P
open Go.RowKit Go.Shelf Go.Proofs.YtlkheeegkifblaaDoorW.PrintWords Go.Proofs.YtlkheeegkifblaaDoorW.PrintLast Go.Proofs.YtlkheeegkifblaaDoorW.PrintMore Go.Proofs.YtlkheeegkifblaaDoor.PL Go.Proofs.YtlkheeegkifblaaDoor.FP
attribute [local go_sem] Oper.semAt_some
attribute [local go_sem] Oper.semAt_some
attribute [local go_sem] Oper.semAt_some
end Go.Proofs.YtlkheeegkifblaaDoor.P
namespace Go.Proofs.YtlkheeegkifblaaDoor.PL
open Go.RowKit Go.Proofs.YtlkheeegkifblaaDoor.P Go.Proofs.YtlkheeegkifblaaDoorW.PrintWords Go.Proofs.YtlkheeegkifblaaDoorW.PrintLast Go.Proofs.YtlkheeegkifblaaDoor.FP
structure Mk (l:List S37) (m:Nat):Prop where
 tree:treeB l=true
 made:madeB (m:Int)=true
 mem:m∈(toFo l).ids
theorem Mk.v {l:List S37} {m:Nat} (k:Mk l m):Val (toFo l):=val_of k.tree
theorem Mk.top {l:List S37} {m:Nat} (k:Mk l m):m∉(toFo l).tops:=k.v.top k.made
theorem Mk.ne {l:List S37} {m:Nat} (k:Mk l m):m≠0:=k.v.ne0 m k.mem
theorem Mk.par {l:List S37} {m:Nat} (k:Mk l m):FP.par m 0 (toFo l)∈(toFo l).ids:=(back_top k.ne (toFo l) k.v.nd k.v.ne0 k.mem k.top).up
theorem Mk.fnd {l:List S37} {m:Nat} (k:Mk l m):fndF (toFo l) (m:Int)=m:=fnd_nat k.mem
theorem Mk.key {l:List S37} {m:Nat} (k:Mk l m) (K:Fo→Nat→Int×Int×Int×Int×ByteArray×Bool):keyR K l m=K (toFo l) m:=by
 unfold keyR;rw [k.tree,k.made,if_pos rfl,if_pos rfl,k.fnd,if_neg k.ne]
theorem id_of {G:Fo} (v:Val G) {x:Nat} (hx:x∈G.ids):idB (x:Int)=true:=by
 unfold idB
 by_cases h4:4≤x
 ·rw [(made_of_ok (v.ok x hx) h4).1,Bool.or_true]
 ·have:=v.ne0 x hx
  have hc:x=1∨x=2∨x=3:=by omega
  rcases hc with rfl|rfl|rfl <;> decide
theorem made_of_top {G:Fo} (v:Val G) {x:Nat} (hx:x∈G.ids) (ht:x∉G.tops):madeB (x:Int)=true:=by
 have h4:4≤x:=by
  rw [v.tops] at ht
  simp only [List.mem_cons,List.not_mem_nil,or_false,not_or] at ht
  have:=v.ne0 x hx
  omega
 exact (made_of_ok (v.ok x hx) h4).1
theorem opB_mv {G:Fo} (v:Val G) {m u a:Nat} (hm:madeB (m:Int)=true) (hu:u∈G.ids) (ha:a=0∨(a∈G.ids∧a∉G.tops)):opB 3 (m:Int) (u:Int) (a:Int) ⟨#[]⟩=true:=by
 have he:(⟨#[]⟩:ByteArray).toList.isEmpty=true:=by rw [Go.ByteArray.toList_eq];rfl
 unfold opB placeB
 rw [hm,id_of v hu,he]
 rcases ha with rfl|⟨h1,h2⟩
 ·simp
 ·rw [made_of_top v h1 h2];simp
theorem mv_do {l:List S37} {m u a:Nat} (k:Mk l m) (hu:u∈(toFo l).ids) (ha:a=0∨(a∈(toFo l).ids∧a∉(toFo l).tops)) (hw:¬ under m u (toFo l)) (hn:nearF (toFo l) (m:Int) (u:Int) (a:Int)=(u,a)) :
  opB 3 (m:Int) (u:Int) (a:Int) ⟨#[]⟩=true∧opDoR l 3 m u a ⟨#[]⟩=(mvF (toFo l) (u,a) m).fl 0∧treeB (opDoR l 3 m u a ⟨#[]⟩)=true∧toFo (opDoR l 3 m u a ⟨#[]⟩)=mvF (toFo l) (u,a) m∧Val (mvF (toFo l) (u,a) m):=by
 have ho:=opB_mv k.v k.made hu ha
 obtain ⟨e,h2,h3,v'⟩:=opDo_val ho k.tree
 have e2:FP.doF (toFo l) 3 (m:Int) (u:Int) (a:Int) ⟨#[]⟩=mvF (toFo l) (u,a) m:=by
  rw [doF_move k.mem k.ne _ _ _ (by rw [fnd_nat hu];exact hw),hn]
 rw [e2] at e h3 v'
 exact ⟨ho,e,h2,h3,v'⟩
theorem mv_back {l:List S37} {m:Nat} (k:Mk l m) {x:List S37} {q:Nat×Nat} (o:MvOk (toFo l) m q) (ht:treeB x=true) (e:toFo x=mvF (toFo l) q m) :
  opB 3 (m:Int) (FP.par m 0 (toFo l):Nat) (sibT m (toFo l):Nat) ⟨#[]⟩=true∧opDoR x 3 m (FP.par m 0 (toFo l):Nat) (sibT m (toFo l):Nat) ⟨#[]⟩=l:=by
 have hs:sibT m (toFo l)=0∨(sibT m (toFo l)∈(toFo l).ids∧sibT m (toFo l)∉(toFo l).tops):=by
  by_cases h0:sibT m (toFo l)=0
  ·exact Or.inl h0
  ·have so:=sib_ok k.v.nd k.v.ne0 k.mem k.top h0
   exact Or.inr ⟨so.mem,so.top⟩
 have ho:=opB_mv k.v k.made k.par hs
 refine ⟨ho,?_⟩
 rw [opDoR_val ho ht,e,move_back k.v.nd k.v.ne0 k.mem k.top o ⟨#[]⟩,toFo_fl k.tree]
theorem lpR_dec_l0 (a b:List S37) (h:a.length=b.length) (hl:a.length≤1099511627776):∀ (n i:Nat),i+n=a.length→Ev (fun k=>laws_lpRows.l0 k a b i) (decide (a.drop i=b.drop i))
 | 0,i,hi=>by
  refine Ev.step (f:=fun _=>some true) (fun k=>?_) ?_
  ·simp only [laws_lpRows.l0];rw [if_neg (by omega)]
  ·rw [List.drop_eq_nil_of_le (by omega),List.drop_eq_nil_of_le (by omega),dt_ rfl];exact evnow _
 | n+1,i,hi=>by
  have ha:i < a.length:=by omega
  have hb:i < b.length:=by omega
  have da:=List.drop_eq_getElem_cons ha
  have db:=List.drop_eq_getElem_cons hb
  by_cases e:a[i]=b[i]
  ·refine Ev.step (fun k=>?_) (Eq.mp (congrArg (Ev _) ?_) (lpR_dec_l0 a b h hl n (i+1) (by omega)))
   ·simp only [laws_lpRows.l0]
    rw [if_pos (by omega),if_pos (by omega),if_pos (by omega),rdR_get a i ha,rdR_get b i hb,row_ne,dt_ e]
    rw [if_neg (by decide),wrapS i (by omega) (by omega)]
    rfl
   ·have:(a.drop i=b.drop i)↔(a.drop (i+1)=b.drop (i+1)):=by rw [da,db,e];exact ⟨fun h=>(List.cons.inj h).2,fun h=>by rw [h]⟩
    exact decide_eq_decide.2 this.symm
  ·refine Ev.step (f:=fun _=>some false) (fun k=>?_) ?_
   ·simp only [laws_lpRows.l0]
    rw [if_pos (by omega),if_pos (by omega),if_pos (by omega),rdR_get a i ha,rdR_get b i hb,row_ne,df_ e]
    rfl
   ·rw [df_ fun g=>e (List.cons.inj (da.symm.trans (g.trans db))).1];exact evnow _
theorem lpR_dec (a b:List S37) (hl:a.length≤1099511627776):Ev (fun k=>laws_lpRows.f k a b) (decide (a=b)):=by
 unfold laws_lpRows.f
 by_cases h:a.length=b.length
 ·exact ev_pos (by omega) (lpR_dec_l0 a b h hl a.length 0 (by omega))
 ·refine ev_neg (by omega) ?_
  rw [df_ fun e=>h (by rw [e])]
  exact evnow _
theorem keyBack_yes {ok:Bool} {l:List S37} {k i u a:Int} {s:ByteArray} (h:(keyBackR ok l k i u a s).2.2.2.2.2=true):treeB l=true∧ok=true∧(FP.doF (toFo l) k i u a s).fl 0≠l∧keyBackR ok l k i u a s=backF (toFo l) k i.toNat:=by
 unfold keyBackR at h ⊢
 cases ht:treeB l with
 | false=>rw [ht,if_neg (by decide)] at h;cases h
 | true =>
  rw [ht,if_pos rfl] at h
  cases ok with
  | false=>rw [if_neg (by decide)] at h;cases h
  | true =>
   rw [if_pos rfl] at h
   by_cases h0:(FP.doF (toFo l) k i u a s).fl 0=l
   ·rw [if_pos h0] at h;cases h
   ·rw [if_pos rfl,if_pos rfl,if_neg h0];exact ⟨rfl,rfl,h0,rfl⟩
theorem empty_size:(⟨#[]⟩:ByteArray).size≤9223372036854775807:=by show 0≤_;omega
end Go.Proofs.YtlkheeegkifblaaDoor.PL
namespace Go.Proofs.YtlkheeegkifblaaDoor.P
open Go.RowKit Go.Proofs.YtlkheeegkifblaaDoorW.PrintWords Go.Proofs.YtlkheeegkifblaaDoorW.PrintLast
attribute [local go_sem high] eqA27
end Go.Proofs.YtlkheeegkifblaaDoor.P
namespace Go.Proofs.YtlkheeegkifblaaDoor.PL
open Go.RowKit Go.Proofs.YtlkheeegkifblaaDoor.P Go.Proofs.YtlkheeegkifblaaDoorW.PrintWords Go.Proofs.YtlkheeegkifblaaDoorW.PrintLast Go.Proofs.YtlkheeegkifblaaDoor.FP
theorem Mk.two {l:List S37} {m:Nat} (k:Mk l m):2∈(toFo l).ids:=tops_ids (by rw [k.v.tops];simp)
theorem Mk.two_top {l:List S37} {m:Nat} (k:Mk l m):2∈(toFo l).tops:=by rw [k.v.tops];simp
theorem Mk.not_two {l:List S37} {m:Nat} (k:Mk l m):¬ under m 2 (toFo l):=tops_not_under k.v.nd k.v.ne0 k.top k.two_top
theorem under_par {G:Fo} (hn:G.ids.Nodup) (h0:∀ x∈G.ids,x≠0) {u x:Nat} (hu:u∈G.ids) (hx:x∈G.ids) (hp:par x 0 G=u):under u x G:=⟨hu,Or.inr (tops_ids ((kids_par hn h0 hu).2 ⟨hx,hp⟩))⟩
theorem gone_do {l:List S37} {m:Nat} (k:Mk l m):MvOk (toFo l) m (2,0)∧opB 3 (m:Int) 2 0 ⟨#[]⟩=true∧opDoR l 3 m 2 0 ⟨#[]⟩=(mvF (toFo l) (2,0) m).fl 0∧treeB (opDoR l 3 m 2 0 ⟨#[]⟩)=true∧toFo (opDoR l 3 m 2 0 ⟨#[]⟩)=mvF (toFo l) (2,0) m∧Val (mvF (toFo l) (2,0) m):=by
 have hn:nearF (toFo l) (m:Int) ((2:Nat):Int) ((0:Nat):Int)=(2,0):=near_first (fnd_nat k.two) (by decide) (fnd_not fun g=>k.v.ne0 0 g rfl)
 have mo:=move_ok k.v.nd k.v.ne0 k.v.three k.mem k.top (up:=((2:Nat):Int)) (at_:=((0:Nat):Int)) (by rw [fnd_nat k.two];exact k.not_two)
 rw [hn] at mo
 exact ⟨mo,mv_do k k.two (Or.inl rfl) k.not_two hn⟩
theorem near_again {G:Fo} (h0:∀ x∈G.ids,x≠0) {m:Nat} {q:Nat×Nat} (p:PlaceOk G (m:Int) q):nearF G (m:Int) (q.1:Int) (q.2:Int)=q:=by
 have h1:=h0 _ p.up
 unfold nearF
 rw [fnd_nat p.up,if_neg h1]
 rcases p.at_ with e|⟨e1,e2,e3⟩
 ·have:fndF G ((q.2:Nat):Int)=0:=by rw [e];exact fnd_not fun g=>h0 0 g rfl
  rw [if_pos this];exact Prod.ext rfl e.symm
 ·rw [fnd_nat e1,if_neg (h0 _ e1),if_neg (by simp [e2]),if_neg e3]
theorem place_at {G:Fo} (hn:G.ids.Nodup) (h0:∀ x∈G.ids,x≠0) {m:Nat} {q:Nat×Nat} (p:PlaceOk G (m:Int) q):q.2=0∨(q.2∈G.ids∧q.2∉G.tops) :=
 p.at_.imp id fun h=>⟨h.1,fun g=>h0 _ p.up (by rw [←h.2.1];exact par_top0 (G:=G) hn g)⟩
theorem back_text {t:List S37} {m:Nat} {u a:Int} {s:ByteArray} (ht:treeB t=true) (ho:opB 2 (m:Int) u a s=true) (hne:opDoR t 2 m u a s≠t) :
  Mk t m∧opB 2 (m:Int) 0 0 (txtF m (toFo t))=true∧opDoR (opDoR t 2 m u a s) 2 m 0 0 (txtF m (toFo t))=t∧keyBackR (opB 2 (m:Int) 0 0 (txtF m (toFo t))) (opDoR t 2 m u a s) 2 m 0 0 (txtF m (toFo t))=(2,(m:Int),0,0,s,true)∧opDoR t 2 m 0 0 s=opDoR t 2 m u a s:=by
 obtain ⟨m',e0,h4,h37,hm⟩:=made_nat ho
 obtain rfl:m=m':=by omega
 have hm0:m≠0:=by omega
 have v:=val_of ht
 obtain ⟨e,h2,h3,v'⟩:=opDo_val ho ht
 have hmem:m∈(toFo t).ids:=Decidable.byContradiction fun g=>hne (by rw [e,doF_text_not g,toFo_fl ht])
 have k:Mk t m:=⟨ht,hm,hmem⟩
 have hx:FP.doF (toFo t) 2 (m:Int) u a s=setF m s (toFo t):=doF_text hmem hm0 u a s
 rw [hx] at e h3 v'
 have htx:textB (txtF m (toFo t))=true:=(made_of_ok (v.ok m hmem) h4).2
 have ho2:opB 2 (m:Int) 0 0 (txtF m (toFo t))=true:=by
  unfold opB;rw [hm,htx];simp
 have hmem':m∈(setF m s (toFo t)).ids:=by rw [setF_ids];exact hmem
 have hback:(FP.doF (toFo (opDoR t 2 m u a s)) 2 (m:Int) 0 0 (txtF m (toFo t))).fl 0=t:=by
  rw [h3,doF_text hmem' hm0,set_set,set_same m (toFo t) v.nd,toFo_fl ht]
 have ho3:opB 2 (m:Int) 0 0 s=true:=by
  unfold opB;rw [hm,opB_text ho (Or.inr rfl)];simp
 refine ⟨k,ho2,by rw [opDoR_val ho2 h2,hback],?_,?_⟩
 ·unfold keyBackR
  rw [h2,ho2,if_pos rfl,if_pos rfl,hback,if_neg (fun g=>hne g.symm)]
  unfold backF
  rw [if_neg (by decide),if_pos rfl,Int.toNat_natCast,h3,set_txt_eq m s hmem]
 ·rw [opDoR_val ho3 ht,opDoR_val ho ht,doF_text hmem hm0,doF_text hmem hm0]
theorem back_move {t:List S37} {m:Nat} {u a:Int} {s:ByteArray} (ht:treeB t=true) (ho:opB 3 (m:Int) u a s=true) (hne:opDoR t 3 m u a s≠t) :
  Mk t m∧opB 3 (m:Int) (FP.par m 0 (toFo t):Nat) (sibT m (toFo t):Nat) ⟨#[]⟩=true∧opDoR (opDoR t 3 m u a s) 3 m (FP.par m 0 (toFo t):Nat) (sibT m (toFo t):Nat) ⟨#[]⟩=t ∧
  ∃ (c d:Nat),keyBackR (opB 3 (m:Int) (FP.par m 0 (toFo t):Nat) (sibT m (toFo t):Nat) ⟨#[]⟩) (opDoR t 3 m u a s) 3 m (FP.par m 0 (toFo t):Nat) (sibT m (toFo t):Nat) ⟨#[]⟩=kMv m c d∧opDoR t 3 m c d ⟨#[]⟩=opDoR t 3 m u a s:=by
 obtain ⟨m',e0,h4,h37,hm⟩:=made_nat ho
 obtain rfl:m=m':=by omega
 have hm0:m≠0:=by omega
 have v:=val_of ht
 obtain ⟨e,h2,h3,v'⟩:=opDo_val ho ht
 have hd:=v.does ho
 generalize hG:FP.doF (toFo t) 3 (m:Int) u a s=G' at hd e h3 v'
 cases hd with
 | text h hi=>exact absurd h (by decide)
 | make h hi o=>exact absurd h (by decide)
 | none h=>exact absurd (by rw [e,toFo_fl ht]) hne
 | move h hmem hw mo =>
  have k:Mk t m:=⟨ht,hm,hmem⟩
  have p:=near_ok (G:=toFo t) (tops_ids v.three) (m:Int) u a
  obtain ⟨b1,b2⟩:=mv_back k mo h2 h3
  refine ⟨k,b1,b2,(nearF (toFo t) (m:Int) u a).1,(nearF (toFo t) (m:Int) u a).2,?_,?_⟩
  ·have hb:(FP.doF (toFo (opDoR t 3 m u a s)) 3 (m:Int) (FP.par m 0 (toFo t):Nat) (sibT m (toFo t):Nat) ⟨#[]⟩).fl 0=t:=by rw [←opDoR_val b1 h2,b2]
   unfold keyBackR
   rw [h2,b1,if_pos rfl,if_pos rfl,hb,if_neg (fun g=>hne g.symm)]
   unfold backF kMv
   rw [if_neg (by decide),if_neg (by decide),Int.toNat_natCast,h3,mo.par_new,mo.sib v.ne0]
  ·have hu:(nearF (toFo t) (m:Int) u a).1∈(toFo t).ids:=p.up
   have hnw:¬ under m (nearF (toFo t) (m:Int) u a).1 (toFo t):=fun g=>by
    have h5:=(mem_del v.nd hmem).1 mo.put.up
    rcases g.2 with g|g
    ·exact h5.2.1 g
    ·exact h5.2.2 g
   obtain ⟨_,q2,_,_,_⟩:=mv_do k hu (place_at v.nd v.ne0 p) hnw (near_again v.ne0 p)
   rw [q2,e]
theorem back_make {t:List S37} {m:Nat} {u a:Int} {s:ByteArray} (ht:treeB t=true) (ho:opB 1 (m:Int) u a s=true) (hne:opDoR t 1 m u a s≠t) :
  ((opDoR (opDoR t 1 m u a s) 3 m 2 0 ⟨#[]⟩).length:Int)=(t.length:Int)+1∧treeB (opDoR (opDoR t 1 m u a s) 3 m 2 0 ⟨#[]⟩)=true∧m∈(toFo (opDoR (opDoR t 1 m u a s) 3 m 2 0 ⟨#[]⟩)).ids∧under 2 m (toFo (opDoR (opDoR t 1 m u a s) 3 m 2 0 ⟨#[]⟩)):=by
 obtain ⟨m',e0,h4,h37,hm⟩:=made_nat ho
 obtain rfl:m=m':=by omega
 have hm0:m≠0:=by omega
 have v:=val_of ht
 obtain ⟨e,h2,h3,v'⟩:=opDo_val ho ht
 have hmem:m∉(toFo t).ids:=fun g=>hne (by rw [e,doF_make_not g hm0,toFo_fl ht])
 have po:=make_ok v.nd v.three hmem (up:=u) (at_:=a)
 have hx:=doF_make hmem u a s
 have k':Mk (opDoR t 1 m u a s) m:=⟨h2,hm,by rw [h3,hx];exact (po.mem m).2 (Or.inl rfl)⟩
 obtain ⟨mo,o1,o2,o3,o4,o5⟩:=gone_do k'
 refine ⟨?_,o3,by rw [o4,mo.ids];exact k'.mem,?_⟩
 ·rw [o2,fl_len,mo.perm.length_eq,h3,hx,po.perm.length_eq]
  have:(toFo t).ids.length=t.length:=by rw [←fl_len (toFo t) 0,toFo_fl ht]
  simp only [List.length_cons,Fo.ids,List.nil_append]
  omega
 ·rw [o4]
  have h2m:2∈(mvF (toFo (opDoR t 1 m u a s)) (2,0) m).ids:=by rw [mo.ids];exact k'.two
  exact under_par o5.nd o5.ne0 h2m (by rw [mo.ids];exact k'.mem) mo.par_new
end Go.Proofs.YtlkheeegkifblaaDoor.PL
namespace Go.Proofs.YtlkheeegkifblaaDoor.P
open Go.RowKit Go.Proofs.YtlkheeegkifblaaDoorW.PrintWords Go.Proofs.YtlkheeegkifblaaDoorW.PrintLast
attribute [local go_sem high] eqA27
end Go.Proofs.YtlkheeegkifblaaDoor.P
namespace Go.Proofs.YtlkheeegkifblaaDoor.PL
open Go.RowKit Go.Proofs.YtlkheeegkifblaaDoor.P Go.Proofs.YtlkheeegkifblaaDoorW.PrintWords Go.Proofs.YtlkheeegkifblaaDoorW.PrintLast Go.Proofs.YtlkheeegkifblaaDoor.FP
theorem text_size {t:List S37} {m:Nat} (k:Mk t m) (h4:4≤m):(txtF m (toFo t)).size≤9223372036854775807:=by
 have:=(textB_bytes (made_of_ok (k.v.ok m k.mem) h4).2).1
 omega
theorem keyBack_j0 {t:List S37} {k i u a:Int} {s:ByteArray} (d:Dr t k i u a s) (r:Int×Int×Int×Int×ByteArray×Bool) (hr:r=keyBackR (opB k i u a s) t k i u a s) (f:Bool) (hf:f=false→r.2.2.2.2.2=true):Ev (fun n=>laws_FnKeyBack.j0 n t r.2.2.2.2.2 r.2.2.2.2.2 f k i u a s r.1 r.2.1 r.2.2.1 r.2.2.2.1 r.2.2.2.2.1 r.1 r.2.1 r.2.2.1 r.2.2.2.1 r.2.2.2.2.1) true:=by
 cases f with
 | true=>exact Ev.step (f:=fun _=>some true) (fun n=>by simp [laws_FnKeyBack.j0]) (evnow _)
 | false =>
  have h:=hf rfl
  rw [hr] at h
  obtain ⟨ht,ho,hne,he⟩:=keyBack_yes h
  obtain ⟨m,rfl,h4,h37,hm⟩:=made_nat ho
  rw [←opDoR_val ho ht] at hne
  have hfew:=d.few
  rw [hr,he]
  unfold backF
  rw [Int.toNat_natCast]
  refine Ev.step (fun n=>by simp only [laws_FnKeyBack.j0];rfl) ?_
  refine ev_neg (by decide) (Ev.bind d.iop ?_)
  by_cases hk1:k=1
  ·subst hk1
   obtain ⟨b1,b2,b3,b4⟩:=back_make ht ho hne
   rw [if_pos rfl]
   refine Ev.bind (iopDo_f _ 3 m 2 0 ⟨#[]⟩ empty_size) (ev_pos rfl (Ev.bind (evnow (underR (opDoR (opDoR t 1 m u a s) 3 m 2 0 ⟨#[]⟩) m 2)) ?_))
   have hu:underR (opDoR (opDoR t 1 m u a s) 3 m 2 0 ⟨#[]⟩) m 2=true:=by
    unfold underR
    have h2:fndF (toFo (opDoR (opDoR t 1 m u a s) 3 m 2 0 ⟨#[]⟩)) 2=2:=fnd_nat (y:=2) b4.1
    rw [b2,fnd_nat b3,h2,dt_ b4]
    simp;omega
   refine ev_pos hu ?_
   rw [b1,wrap_id _ (by omega) (by omega),BEq.rfl]
   exact evnow _
  ·rw [if_neg hk1]
   by_cases hk2:k=2
   ·subst hk2
    obtain ⟨kk,b1,b2,b3,b4⟩:=back_text ht ho hne
    rw [if_pos rfl]
    refine Ev.bind (iopDo_f _ 2 m 0 0 (txtF m (toFo t)) (text_size kk h4)) (ev_neg hk1 (Ev.bind (lpR_eq b2 (le40 ..)) (ev_pos rfl (Ev.bind (lpR_dec _ t (le40 ..)) ?_))))
    rw [df_ hne]
    have:=opOk_f 2 m 0 0 (txtF m (toFo t)) (text_size kk h4)
    rw [b1] at this
    exact ev_neg (by decide) (Ev.bind this (evnow _))
   ·have hk3:k=3:=by rcases opB_kind ho with h|h|h;exact absurd h hk1;exact absurd h hk2;exact h
    subst hk3
    obtain ⟨kk,b1,b2,_⟩:=back_move ht ho hne
    rw [if_neg hk2]
    refine Ev.bind (iopDo_f _ 3 m (FP.par m 0 (toFo t):Nat) (sibT m (toFo t):Nat) ⟨#[]⟩ empty_size) (ev_neg hk1 (Ev.bind (lpR_eq b2 (le40 ..)) (ev_pos rfl (Ev.bind (lpR_dec _ t (le40 ..)) ?_))))
    rw [df_ hne]
    have:=opOk_f 3 m (FP.par m 0 (toFo t):Nat) (sibT m (toFo t):Nat) ⟨#[]⟩ empty_size
    rw [b1] at this
    exact ev_neg (by decide) (Ev.bind this (evnow _))
theorem FnKeyBack:laws_FnKeyBack.Pure:=by
 intro l0 _ _ h0
 refine pure_of ?_
 unfold laws_FnKeyBack.f
 by_cases h:(l0.length:Int) > 1048576
 ·exact ev_pos h (evnow _)
 ·obtain ⟨t,k,i,u,a,s,hd,d⟩:=drawBack_f l0 h0
  refine ev_neg h (Ev.bind hd (Ev.bind (skeyBack_f t k i u a s (by have:=d.few;omega) d.wfR d.op.2.1 d.op.2.2.1 d.op.2.2.2.1 d.size) (Ev.bind (ikeyBack_f t k i u a s d.size) (ev_neg (by simp) (ev_neg (by simp) ?_)))))
  exact keyBack_j0 d _ rfl _ fun h=>by simpa using h
end Go.Proofs.YtlkheeegkifblaaDoor.PL
namespace Go.Proofs.YtlkheeegkifblaaDoor.P
open Go.ChangeShapes Go.WideShapes Go.ChangeAt Go.RowKit
theorem tOwners:(Tryd.prog.globals[0]?).map (·.type)=some 66:=by kernel_rfl
theorem cOwners:Tryd.prog.cellsOf 66=37:=by kernel_rfl
theorem cInt:Tryd.prog.cellsOf 3=1:=by kernel_rfl
abbrev ownCells:Array Value:=(owners.map fun z=>Value.int .i64 z).toArray
theorem glob_of_laid {W:World} (h:laidMet Tryd.prog [("loop.example/plashet/impl.rowOwners",Rows.laid_loop_example_plashet_impl_rowOwners)] W):Glob W :=
 Lib.tabIs_of_head gOwners tOwners Tryd.underlying66 Tryd.underlying3 cInt cOwners h
theorem door_met (os:Os) (args:Array Value):laidMet Tryd.prog [("loop.example/plashet/impl.rowOwners",Rows.laid_loop_example_plashet_impl_rowOwners)] ((World.doorLaid Tryd.prog 400 os).forCall (fun _ _=>0) ⟨#[],args,[]⟩).memory :=
 laidMet_of_run' 8 (by kernel_rfl) (by kernel_rfl)
abbrev tableH {H:Type}:DataW H:=.agg (owners.map fun z=>.lit (.int .i64 z))
theorem reads_table {H:Type} (enc:TypeId×Value→H) (W:World) (sp:Nat→Bool):DataW.trod enc Tryd.prog W 0 sp true 3 66 ownCells.toList=some (tableH,[]):=by kernel_rfl
theorem tab_vars {H:Type} (enc:TypeId×Value→H) {W:World} (h:Glob W) {sp:Nat→Bool}:DataW.TrodVars enc Tryd.prog W sp ["loop.example/plashet/impl.rowOwners"] [tableH] (MemPlace.row ⟨0,0,none⟩ ownCells.size++[]++[]) :=
 ⟨0,66,ownCells,3,[],[],gOwners,tOwners,h,reads_table enc W sp,rfl,rfl⟩
end Go.Proofs.YtlkheeegkifblaaDoor.P
namespace Go.Proofs.YtlkheeegkifblaaDoor.fnKeyBack
open Go.ChangeMaps (open_string shut_string)
open Go.ChangeShapes Go.WideShapes Go.ChangeAt Go.RowKit
theorem own:ownKnob Tryd.prog.godebug=none:=by kernel_rfl
theorem laidOut:laidOutB Tryd.prog=true:=by kernel_rfl
def IsRow (k:IntKind) (w:World) (a:Option Addr) (len cap:Nat) (zs:List Int):Prop :=
 (a=none∧len=0∧cap=0∧zs=[]) ∨
 ∃ x,a=some x∧len≤cap∧cap≤maxLen∧zs.length=cap∧(∀ i,i < zs.length→w.cell? (x.add i)=some (.int k (zs.getD i 0)))∧∀ n∈zs,(Lit.int k n).wf=true
theorem lifted (os:Os) (started:os.Started) (H:Type) (enc:TypeId×Value→H) :
  ReturnsInHanded {} Tryd.checked os 13 .any (fun w args=>(Rows.fnKeyBackSpec.pre enc Tryd.prog Tryd.f13 [] false w args∧laidMet Tryd.prog [("loop.example/plashet/impl.rowOwners",Rows.laid_loop_example_plashet_impl_rowOwners)] w)∧sizedMet enc Tryd.prog Tryd.f13 (OpenSpec.ofChange Rows.fnKeyBackSpec) false w args) (Rows.fnKeyBackSpec.post enc Tryd.prog Tryd.f13 false true false false):=by
 refine returnsInHanded_of_change_and (C:=Tryd.checked) (X:=fun w _=>laidMet Tryd.prog [("loop.example/plashet/impl.rowOwners",Rows.laid_loop_example_plashet_impl_rowOwners)] w) (fun _ _ _ hh h=>h.of_heap hh) own started (by kernel_rfl) Tryd.func13
  (ChangeSpec.witness_shaped (enc:=enc) (C:=Tryd.checked) (os:=os) (X:=fun w _=>laidMet Tryd.prog [("loop.example/plashet/impl.rowOwners",Rows.laid_loop_example_plashet_impl_rowOwners)] w) false (World.doorLaid Tryd.prog 400 os) #[.slice none 0 0] 8 rfl (World.shaped_of_RefB (by kernel_rfl) (by kernel_rfl)) (by kernel_rfl) (by kernel_rfl) (by kernel_rfl) (P.door_met os _)) ?_
 intro W base args ds gs before hval0 hW _ hsz0 hL _
 have hsz:(DataW.weightsEach Tryd.prog (Tryd.f13.params.toList++Rows.fnKeyBackSpec.plain.varTypes Tryd.prog) (ds++gs)).all (·≤reachBytes)=true:=hsz0
 have hval:∀ (j:Nat) t v,Tryd.f13.params[j]?=some t→args[j]?=some v→Value.okWide Tryd.prog W .any base t v:=hval0
 have hW':=hW
 obtain ⟨p,q,hA0,hV,rfl,hfz,hnd⟩:=hW
 have hA:DataW.TrodAll enc Tryd.prog W 0 (fun _=>true) true Tryd.f13.params.toList args.toList ds p:=hA0
 rw [Tryd.params13] at hA hval hsz
 obtain ⟨v0,vs0,d0,ds0,p0,q0,hargs,rfl,rfl,h0,r0⟩:=trodAll_cons hA
 obtain ⟨rfl,rfl,rfl⟩:=trodAll_nil r0
 obtain rfl:args=#[v0]:=by cases args;simp_all
 have hG:P.Glob W:=P.glob_of_laid hL
 obtain ⟨gv,tv,csv,fuelv,dv,pv,rfl,hgv,htv,hvarv,hdv,rfl⟩:=trodVars_one hV
 obtain rfl:csv=P.ownCells:=Option.some.inj (hvarv.symm.trans hG)
 obtain rfl:=Option.some.inj (P.tOwners.symm.trans (by rw [Option.some.inj (P.gOwners.symm.trans hgv)];exact htv))
 obtain ⟨rfl,rfl⟩:=DataW.Trod.unique (v:=.agg P.ownCells) ⟨fuelv,hdv⟩ ⟨3,P.reads_table enc W _⟩
 obtain ⟨a0,len0,cap0,rfl⟩:=okWide_slice Tryd.underlying22 (hval 0 22 v0 rfl rfl)
 have k0:=h0
 have lt0:∀ x∈p0,x.block < W.heap.size:=by obtain ⟨m,hm⟩:=k0;exact DataW.trod_lt m _ _ _ hm
 obtain ⟨z0,w0⟩:∃ zs,IsRow .u8 W a0 len0 cap0 zs:=by
  obtain ⟨fuel,hf⟩:=h0
  rcases open_ints Tryd.underlying22 Tryd.underlying5 (by kernel_rfl) hf with ⟨hcs,_⟩|⟨x,l,c,zs,hcs,_,hl,hm,hz,_,hcell,hwz⟩
  ·simp [Value.cells] at hcs
   obtain ⟨rfl,rfl,rfl⟩:=hcs
   exact ⟨[],.inl ⟨rfl,rfl,rfl,rfl⟩⟩
  ·simp [Value.cells] at hcs
   obtain ⟨rfl,rfl,rfl⟩:=hcs
   exact ⟨zs,.inr ⟨_,rfl,hl,hm,by simpa using hz,hcell,hwz⟩⟩
 have y0:len0 * 1≤140737488351232:=Go.Proofs.YtlkheeegkifblaaDoorW.PrintWords.sized_ints hsz (j:=0) (t:=22) rfl rfl Tryd.underlying22 Tryd.underlying5 (by kernel_rfl) (by kernel_rfl) h0
 clear hA0 hval0 hsz0 hsz
 refine (P.laws_FnKeyBack.walk PL.FnKeyBack a0 len0 cap0 z0 W w0 y0 hG).mono fun e W' ⟨he,bel⟩=>?_
 subst he
 exact ⟨_,rfl,_,_,_,_,_,_,hW',trodAll_mk1 (shut_bool Tryd.underlying4 _),(trodAll_cons_mk (Below.trod laidOut (by kernel_rfl) (of_decide_eq_true (by kernel_rfl)) k0 bel lt0) trodAll_mk0),P.tab_vars enc (hG.below bel),bel.frame _,fun h=>by cases h⟩
theorem over:Rows.fnKeyBackRow.holds Tryd.pinned (OpenSpec.ofChange Rows.fnKeyBackSpec) :=
 OpenClaim.holds_of_wide 13 Tryd.f13 rfl rfl rfl rfl rfl rfl rfl ⟨rfl,rfl,rfl,rfl,rfl⟩ rfl rfl rfl rfl rfl (by kernel_rfl) Tryd.func13 (by kernel_rfl)
  (of_decide_eq_true (by kernel_rfl)) (by unfold Func.isWrapper;first|(rw [if_pos (by decide +kernel)];kernel_rfl)|(rw [if_neg (by decide +kernel)];exact ⟨rfl,rfl⟩))
  (fun os started H enc _=>lifted os started H enc)
theorem proved:Rows.FnKeyBackSaid:=over
#print axioms proved
end Go.Proofs.YtlkheeegkifblaaDoor.fnKeyBack
namespace Go.Proofs.YtlkheeegkifblaaDoor
theorem fnKeyBack_holds:Rows.FnKeyBackSaid:=fnKeyBack.proved
end Go.Proofs.YtlkheeegkifblaaDoor
namespace Go.Proofs.YtlkheeegkifblaaDoor
open Go
theorem fnKeyBackCard_holds:Rows.FnKeyBackCardSaid :=
 Claim7.holds_tied_plain_at .later [] [.data] true (true, "eaacb49e37206468e585e4739738b6d4558eee5b1031375a36bb2efdb5ba73e0") true
  fnKeyBack_holds (fun _ h=>by cases h) (by kernel_rfl) (fun _ h=>by cases h) fnKeyBack_row_tie rfl ⟨rfl,rfl⟩ (by kernel_rfl) rfl
  (fun f fn hf hfn=>by
   obtain rfl:f=13:=Option.some.inj ((show Tryd.prog.funcNamed "loop.example/plashet/laws.FnKeyBack" = some 13 by kernel_rfl).symm.trans hf) |>.symm
   obtain rfl:fn=Tryd.f13:=(Option.some.inj (Tryd.func13.symm.trans hfn)).symm
   exact ⟨by kernel_rfl,fun j t ht=>by
    rw [Tryd.params13] at ht
    have hm:t∈[22]:=by have:=Array.mem_of_getElem? ht;simp at this;first|(subst this;simp;done)|(rcases this with h|h <;> simp [h];done)|(rcases this with h|h|h <;> simp [h];done)
    have hall:([22].all fun u=>!Tryd.prog.wantsStandIn u)=true:=by kernel_rfl
    exact (show Tryd.prog.wantsStandIn t=false by simpa using List.all_eq_true.1 hall t hm)⟩)
  (by kernel_rfl)
#print axioms fnKeyBackCard_holds
end Go.Proofs.YtlkheeegkifblaaDoor
