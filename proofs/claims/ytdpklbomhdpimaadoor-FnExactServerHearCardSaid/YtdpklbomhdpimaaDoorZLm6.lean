/- Joined by a program (wip/shake.py): the declarations that 'YtdpklbomhdpimaaDoorCardFnExactServerHear' reaches. -/
import Derived.Test.YtdpklbomhdpimaaDoorZLm5
set_option linter.unusedVariables false
set_option linter.unusedSimpArgs false
set_option linter.unusedSectionVars false
set_option maxHeartbeats 8000000
set_option maxRecDepth 100000
namespace Go.Proofs.YtdpklbomhdpimaaDoor.P
open Go.RowKit Go.Proofs.YtdpklbomhdpimaaDoorW.PrintWords Go.Proofs.YtdpklbomhdpimaaDoorW.PrintLast
theorem laws_FnExactServerHear.calls (k:Nat) (A0_0:Option Addr) (c0_0:Nat) (l0_0:List (S36)) (a0_1:Int) (a0_2:Bool) (a1_0:Int) (a1_1:Int) (a1_2:Int) (a1_3:Int) (a1_4:Int) (a1_5:Int) (a1_6:ByteArray) (r:Bool) (w:World) (hr0_0:Kd.C k36 w A0_0 l0_0.length l0_0) (hc0_0:l0_0.length≤c0_0) (h:laws_FnExactServerHear.f k l0_0 a0_1 a0_2 a1_0 a1_1 a1_2 a1_3 a1_4 a1_5 a1_6=some r) (hG:Glob w) :
  Calls Tryd.prog 4 #[.agg #[.slice A0_0 l0_0.length c0_0,.int .i64 a0_1,.bool a0_2],.agg #[.int .i64 a1_0,.int .i64 a1_1,.int .i64 a1_2,.int .i64 a1_3,.int .i64 a1_4,.int .i64 a1_5,.string a1_6]] w fun e w'=>e=.returned (.bool r)∧Below w.heap.size w w':=by
 have hu32:=Tryd.underlying32
 have hu36:=Tryd.underlying36
 have hu25:=Tryd.underlying25
 have HR0_0:=a_ hr0_0
 have HC0_0:=a_ hc0_0
 clear hr0_0 hc0_0
 have HB:=a_ (Below.refl w.heap.size w)
 have HG:=a_ hG
 clear hG
 have H:((laws_szServer.f k l0_0 a0_1 a0_2 1048576).bind fun t273=>(if t273 < 0 then (some true) else ((laws_szEntry.f a1_0 a1_1 a1_2 a1_3 a1_4 a1_5 a1_6 t273).bind fun t274=>(if t274 < 0 then (some true) else ((laws_toServer.f k l0_0 a0_1 a0_2).bind fun bt275=>((laws_toEntry.f a1_0 a1_1 a1_2 a1_3 a1_4 a1_5 a1_6).bind fun bt280=>((spec_ServerHear.f k bt275.1 bt275.2.1 bt275.2.2 bt280.1 bt280.2.1 bt280.2.2.1 bt280.2.2.2.1 bt280.2.2.2.2.1 bt280.2.2.2.2.2.1 bt280.2.2.2.2.2.2).bind fun bt287=>((laws_toServer.f k l0_0 a0_1 a0_2).bind fun bt294=>((laws_toEntry.f a1_0 a1_1 a1_2 a1_3 a1_4 a1_5 a1_6).bind fun bt300=>((impl_ServerHear.f k bt294.1 bt294.2.1 bt294.2.2 bt300.1 bt300.2.1 bt300.2.2.1 bt300.2.2.2.1 bt300.2.2.2.2.1 bt300.2.2.2.2.2.1 bt300.2.2.2.2.2.2).bind fun bt307=>((laws_eqServer.f k bt307.1 bt307.2.1 bt307.2.2.1 bt287.1 bt287.2.1 bt287.2.2.1).bind fun t314=>(if t314=true then (if (bt307.2.2.2 != bt287.2.2.2)=true then (none) else ((laws_toServer.f k l0_0 a0_1 a0_2).bind fun bt315=>((laws_eqServer.f k bt294.1 bt294.2.1 bt294.2.2 bt315.1 bt315.2.1 bt315.2.2).bind fun t320=>(if t320=true then ((laws_markServer.f k bt294.1 bt294.2.1 bt294.2.2 1).bind fun bt321=>(if bt321.1 < 0 then (none) else ((laws_eqServer.f k bt307.1 bt307.2.1 bt307.2.2.1 bt287.1 bt287.2.1 bt287.2.2.1).bind fun t323=>(if t323=true then ((laws_markServer.f k bt307.1 bt307.2.1 bt307.2.2.1 1).bind fun bt324=>((laws_heldServer.f k bt324.2 bt307.2.1 bt307.2.2.1 1).bind fun t326=>(if t326 < 0 then (none) else (if t326=bt324.1 then ((laws_toServer.f k l0_0 a0_1 a0_2).bind fun bt327=>((laws_toEntry.f a1_0 a1_1 a1_2 a1_3 a1_4 a1_5 a1_6).bind fun bt332=>((impl_ServerHear.f k bt327.1 bt327.2.1 bt327.2.2 bt332.1 bt332.2.1 bt332.2.2.1 bt332.2.2.2.1 bt332.2.2.2.2.1 bt332.2.2.2.2.2.1 bt332.2.2.2.2.2.2).bind fun bt339=>((laws_eqServer.f k bt339.1 bt339.2.1 bt339.2.2.1 bt287.1 bt287.2.1 bt287.2.2.1).bind fun t346=>(if t346=true then (if (bt339.2.2.2 != bt287.2.2.2)=true then (none) else ((laws_heldServer.f k bt324.2 bt307.2.1 bt307.2.2.1 1).bind fun t347=>(if t347 < 0 then (none) else (if t347=bt324.1 then (some true) else (none))))) else (none)))))) else (none))))) else (none))))) else (none))))) else (none)))))))))))))=some r:=h
 clear h
 replace H:=bs_ H
 obtain ⟨t273,A30,H⟩:=H
 replace H:(if t273 < 0 then (some true) else ((laws_szEntry.f a1_0 a1_1 a1_2 a1_3 a1_4 a1_5 a1_6 t273).bind fun t274=>(if t274 < 0 then (some true) else ((laws_toServer.f k l0_0 a0_1 a0_2).bind fun bt275=>((laws_toEntry.f a1_0 a1_1 a1_2 a1_3 a1_4 a1_5 a1_6).bind fun bt280=>((spec_ServerHear.f k bt275.1 bt275.2.1 bt275.2.2 bt280.1 bt280.2.1 bt280.2.2.1 bt280.2.2.2.1 bt280.2.2.2.2.1 bt280.2.2.2.2.2.1 bt280.2.2.2.2.2.2).bind fun bt287=>((laws_toServer.f k l0_0 a0_1 a0_2).bind fun bt294=>((laws_toEntry.f a1_0 a1_1 a1_2 a1_3 a1_4 a1_5 a1_6).bind fun bt300=>((impl_ServerHear.f k bt294.1 bt294.2.1 bt294.2.2 bt300.1 bt300.2.1 bt300.2.2.1 bt300.2.2.2.1 bt300.2.2.2.2.1 bt300.2.2.2.2.2.1 bt300.2.2.2.2.2.2).bind fun bt307=>((laws_eqServer.f k bt307.1 bt307.2.1 bt307.2.2.1 bt287.1 bt287.2.1 bt287.2.2.1).bind fun t314=>(if t314=true then (if (bt307.2.2.2 != bt287.2.2.2)=true then (none) else ((laws_toServer.f k l0_0 a0_1 a0_2).bind fun bt315=>((laws_eqServer.f k bt294.1 bt294.2.1 bt294.2.2 bt315.1 bt315.2.1 bt315.2.2).bind fun t320=>(if t320=true then ((laws_markServer.f k bt294.1 bt294.2.1 bt294.2.2 1).bind fun bt321=>(if bt321.1 < 0 then (none) else ((laws_eqServer.f k bt307.1 bt307.2.1 bt307.2.2.1 bt287.1 bt287.2.1 bt287.2.2.1).bind fun t323=>(if t323=true then ((laws_markServer.f k bt307.1 bt307.2.1 bt307.2.2.1 1).bind fun bt324=>((laws_heldServer.f k bt324.2 bt307.2.1 bt307.2.2.1 1).bind fun t326=>(if t326 < 0 then (none) else (if t326=bt324.1 then ((laws_toServer.f k l0_0 a0_1 a0_2).bind fun bt327=>((laws_toEntry.f a1_0 a1_1 a1_2 a1_3 a1_4 a1_5 a1_6).bind fun bt332=>((impl_ServerHear.f k bt327.1 bt327.2.1 bt327.2.2 bt332.1 bt332.2.1 bt332.2.2.1 bt332.2.2.2.1 bt332.2.2.2.2.1 bt332.2.2.2.2.2.1 bt332.2.2.2.2.2.2).bind fun bt339=>((laws_eqServer.f k bt339.1 bt339.2.1 bt339.2.2.1 bt287.1 bt287.2.1 bt287.2.2.1).bind fun t346=>(if t346=true then (if (bt339.2.2.2 != bt287.2.2.2)=true then (none) else ((laws_heldServer.f k bt324.2 bt307.2.1 bt307.2.2.1 1).bind fun t347=>(if t347 < 0 then (none) else (if t347=bt324.1 then (some true) else (none))))) else (none)))))) else (none))))) else (none))))) else (none))))) else (none))))))))))))=some r:=H
 have A3:=a_ A30
 clear A30
 by_cases c4:t273 < 0
 ·rw [if_pos c4] at H
  have c4b0:decide (t273 < 0)=true:=dt_ c4
  clear c4
  obtain rfl:=sj_ H
  go_enter Tryd.func4,Tryd.ntmps4
  go_wp2_with (first|((with_reducible refine gD_ (N:=2) rfl ?_);refine bx_ 2 (#[.slice A0_0 l0_0.length c0_0,.int .i64 a0_1,.bool a0_2]) 32 ?_;intro gb271 hg w5 hbox hb;have n0_:=a_ (bS_ (bel_) hb);have n1_:=a_ (hbox);have n2_:=a_ ((by rw [hg];exact (below_size (bel_)):w.heap.size≤gb271));have n3_:=a_ ((by rw [hg];exact (below_size (bel_)):w.heap.size≤gb271));clear HB;have HB:=n0_;have BK271:=n1_;have GW271:=n2_;have GE271:=n3_;clear n0_ n1_ n2_ n3_;clear hb hbox hg)|((with_reducible refine gD_ (N:=3) rfl ?_);refine bx_ 3 (#[.int .i64 a1_0,.int .i64 a1_1,.int .i64 a1_2,.int .i64 a1_3,.int .i64 a1_4,.int .i64 a1_5,.string a1_6]) 36 ?_;intro gb272 hg w6 hbox hb;have n0_:=a_ (blk_below (g:=gb271) (o:=.cells #[.slice A0_0 l0_0.length c0_0,.int .i64 a0_1,.bool a0_2] 32 (0,0)) (bp_ BK271.out) hb);have n1_:=a_ (bS_ (bel_) hb);have n2_:=a_ (hbox);have n3_:=a_ ((by rw [hg];exact (below_size (bel_)):w.heap.size≤gb272));have n4_:=a_ ((by rw [hg];exact (below_size (bel_)):w.heap.size≤gb272));have n5_:=a_ ((by rw [hg];exact Nat.ne_of_lt (blk_lt (g:=gb271) (o:=.cells #[.slice A0_0 l0_0.length c0_0,.int .i64 a0_1,.bool a0_2] 32 (0,0)) (bp_ BK271.out)):gb271≠gb272));have n6_:=a_ ((by rw [hg];exact Nat.ne_of_gt (blk_lt (g:=gb271) (o:=.cells #[.slice A0_0 l0_0.length c0_0,.int .i64 a0_1,.bool a0_2] 32 (0,0)) (bp_ BK271.out)):gb272≠gb271));clear BK271;clear HB;have BK271:=n0_;have HB:=n1_;have BK272:=n2_;have GW272:=n3_;have GE272:=n4_;have NB271_272:=n5_;have NB272_271:=n6_;clear n0_ n1_ n2_ n3_ n4_ n5_ n6_;clear hb hbox hg;have hnb7:=NB271_272.out;have hnc7:=NB272_271.out;have Z8_0:=cz_ BK271.out 0 (.slice A0_0 l0_0.length c0_0);have Z8_1:=cz_ BK271.out 1 (.int .i64 a0_1);have Z8_2:=cz_ BK271.out 2 (.bool a0_2);have Y8_0:=bF_ BK271.out 0;have Y8_1:=bF_ BK271.out 1;have Y8_2:=bF_ BK271.out 2)|((with_reducible refine gC_ (f:=19) rfl ?_);refine gl_ 18 Tryd.func19 #[.agg #[.slice A0_0 l0_0.length c0_0,.int .i64 a0_1,.bool a0_2],.int .i64 1048576] ?_;(with_reducible refine (laws_szServer.calls k _ _ l0_0 a0_1 a0_2 1048576 t273 _ ?side1 ?side2 A3.out).mono ?_);(case side1=>exact cp_ HR0_0.out);(case side2=>exact HC0_0.out);rintro e w9 ⟨rfl,hb⟩;refine ⟨_,rfl,?_⟩;replace HB:=a_ (bS_ (bel_) hb);replace BK271:=a_ (blk_below (g:=gb271) (o:=.cells #[.slice A0_0 l0_0.length c0_0,.int .i64 a0_1,.bool a0_2] 32 (0,0)) (bp_ BK271.out) hb);replace BK272:=a_ (blk_below (g:=gb272) (o:=.cells #[.int .i64 a1_0,.int .i64 a1_1,.int .i64 a1_2,.int .i64 a1_3,.int .i64 a1_4,.int .i64 a1_5,.string a1_6] 36 (0,0)) (bp_ BK272.out) hb);(try clear hb)))
  go_ret
  exact ⟨fi_,bel_⟩
 ·rw [if_neg c4] at H
  have c4b0:decide (t273 < 0)=false:=df_ c4
  clear c4
  replace H:=bs_ H
  obtain ⟨t274,A100,H⟩:=H
  replace H:(if t274 < 0 then (some true) else ((laws_toServer.f k l0_0 a0_1 a0_2).bind fun bt275=>((laws_toEntry.f a1_0 a1_1 a1_2 a1_3 a1_4 a1_5 a1_6).bind fun bt280=>((spec_ServerHear.f k bt275.1 bt275.2.1 bt275.2.2 bt280.1 bt280.2.1 bt280.2.2.1 bt280.2.2.2.1 bt280.2.2.2.2.1 bt280.2.2.2.2.2.1 bt280.2.2.2.2.2.2).bind fun bt287=>((laws_toServer.f k l0_0 a0_1 a0_2).bind fun bt294=>((laws_toEntry.f a1_0 a1_1 a1_2 a1_3 a1_4 a1_5 a1_6).bind fun bt300=>((impl_ServerHear.f k bt294.1 bt294.2.1 bt294.2.2 bt300.1 bt300.2.1 bt300.2.2.1 bt300.2.2.2.1 bt300.2.2.2.2.1 bt300.2.2.2.2.2.1 bt300.2.2.2.2.2.2).bind fun bt307=>((laws_eqServer.f k bt307.1 bt307.2.1 bt307.2.2.1 bt287.1 bt287.2.1 bt287.2.2.1).bind fun t314=>(if t314=true then (if (bt307.2.2.2 != bt287.2.2.2)=true then (none) else ((laws_toServer.f k l0_0 a0_1 a0_2).bind fun bt315=>((laws_eqServer.f k bt294.1 bt294.2.1 bt294.2.2 bt315.1 bt315.2.1 bt315.2.2).bind fun t320=>(if t320=true then ((laws_markServer.f k bt294.1 bt294.2.1 bt294.2.2 1).bind fun bt321=>(if bt321.1 < 0 then (none) else ((laws_eqServer.f k bt307.1 bt307.2.1 bt307.2.2.1 bt287.1 bt287.2.1 bt287.2.2.1).bind fun t323=>(if t323=true then ((laws_markServer.f k bt307.1 bt307.2.1 bt307.2.2.1 1).bind fun bt324=>((laws_heldServer.f k bt324.2 bt307.2.1 bt307.2.2.1 1).bind fun t326=>(if t326 < 0 then (none) else (if t326=bt324.1 then ((laws_toServer.f k l0_0 a0_1 a0_2).bind fun bt327=>((laws_toEntry.f a1_0 a1_1 a1_2 a1_3 a1_4 a1_5 a1_6).bind fun bt332=>((impl_ServerHear.f k bt327.1 bt327.2.1 bt327.2.2 bt332.1 bt332.2.1 bt332.2.2.1 bt332.2.2.2.1 bt332.2.2.2.2.1 bt332.2.2.2.2.2.1 bt332.2.2.2.2.2.2).bind fun bt339=>((laws_eqServer.f k bt339.1 bt339.2.1 bt339.2.2.1 bt287.1 bt287.2.1 bt287.2.2.1).bind fun t346=>(if t346=true then (if (bt339.2.2.2 != bt287.2.2.2)=true then (none) else ((laws_heldServer.f k bt324.2 bt307.2.1 bt307.2.2.1 1).bind fun t347=>(if t347 < 0 then (none) else (if t347=bt324.1 then (some true) else (none))))) else (none)))))) else (none))))) else (none))))) else (none))))) else (none))))))))))=some r:=H
  have A10:=a_ A100
  clear A100
  by_cases c11:t274 < 0
  ·rw [if_pos c11] at H
   have c11b0:decide (t274 < 0)=true:=dt_ c11
   clear c11
   obtain rfl:=sj_ H
   go_enter Tryd.func4,Tryd.ntmps4
   go_wp2_with (first|((with_reducible refine gD_ (N:=2) rfl ?_);refine bx_ 2 (#[.slice A0_0 l0_0.length c0_0,.int .i64 a0_1,.bool a0_2]) 32 ?_;intro gb271 hg w12 hbox hb;have n0_:=a_ (bS_ (bel_) hb);have n1_:=a_ (hbox);have n2_:=a_ ((by rw [hg];exact (below_size (bel_)):w.heap.size≤gb271));have n3_:=a_ ((by rw [hg];exact (below_size (bel_)):w.heap.size≤gb271));clear HB;have HB:=n0_;have BK271:=n1_;have GW271:=n2_;have GE271:=n3_;clear n0_ n1_ n2_ n3_;clear hb hbox hg)|((with_reducible refine gD_ (N:=3) rfl ?_);refine bx_ 3 (#[.int .i64 a1_0,.int .i64 a1_1,.int .i64 a1_2,.int .i64 a1_3,.int .i64 a1_4,.int .i64 a1_5,.string a1_6]) 36 ?_;intro gb272 hg w13 hbox hb;have n0_:=a_ (blk_below (g:=gb271) (o:=.cells #[.slice A0_0 l0_0.length c0_0,.int .i64 a0_1,.bool a0_2] 32 (0,0)) (bp_ BK271.out) hb);have n1_:=a_ (bS_ (bel_) hb);have n2_:=a_ (hbox);have n3_:=a_ ((by rw [hg];exact (below_size (bel_)):w.heap.size≤gb272));have n4_:=a_ ((by rw [hg];exact (below_size (bel_)):w.heap.size≤gb272));have n5_:=a_ ((by rw [hg];exact Nat.ne_of_lt (blk_lt (g:=gb271) (o:=.cells #[.slice A0_0 l0_0.length c0_0,.int .i64 a0_1,.bool a0_2] 32 (0,0)) (bp_ BK271.out)):gb271≠gb272));have n6_:=a_ ((by rw [hg];exact Nat.ne_of_gt (blk_lt (g:=gb271) (o:=.cells #[.slice A0_0 l0_0.length c0_0,.int .i64 a0_1,.bool a0_2] 32 (0,0)) (bp_ BK271.out)):gb272≠gb271));clear BK271;clear HB;have BK271:=n0_;have HB:=n1_;have BK272:=n2_;have GW272:=n3_;have GE272:=n4_;have NB271_272:=n5_;have NB272_271:=n6_;clear n0_ n1_ n2_ n3_ n4_ n5_ n6_;clear hb hbox hg;have hnb14:=NB271_272.out;have hnc14:=NB272_271.out;have Z15_0:=cz_ BK271.out 0 (.slice A0_0 l0_0.length c0_0);have Z15_1:=cz_ BK271.out 1 (.int .i64 a0_1);have Z15_2:=cz_ BK271.out 2 (.bool a0_2);have Y15_0:=bF_ BK271.out 0;have Y15_1:=bF_ BK271.out 1;have Y15_2:=bF_ BK271.out 2)|((with_reducible refine gC_ (f:=19) rfl ?_);refine gl_ 18 Tryd.func19 #[.agg #[.slice A0_0 l0_0.length c0_0,.int .i64 a0_1,.bool a0_2],.int .i64 1048576] ?_;(with_reducible refine (laws_szServer.calls k _ _ l0_0 a0_1 a0_2 1048576 t273 _ ?side1 ?side2 A3.out).mono ?_);(case side1=>exact cp_ HR0_0.out);(case side2=>exact HC0_0.out);rintro e w16 ⟨rfl,hb⟩;refine ⟨_,rfl,?_⟩;replace HB:=a_ (bS_ (bel_) hb);replace BK271:=a_ (blk_below (g:=gb271) (o:=.cells #[.slice A0_0 l0_0.length c0_0,.int .i64 a0_1,.bool a0_2] 32 (0,0)) (bp_ BK271.out) hb);replace BK272:=a_ (blk_below (g:=gb272) (o:=.cells #[.int .i64 a1_0,.int .i64 a1_1,.int .i64 a1_2,.int .i64 a1_3,.int .i64 a1_4,.int .i64 a1_5,.string a1_6] 36 (0,0)) (bp_ BK272.out) hb);(try clear hb);have Z17_0:=cz_ BK272.out 0 (.int .i64 a1_0);have Z17_1:=cz_ BK272.out 1 (.int .i64 a1_1);have Z17_2:=cz_ BK272.out 2 (.int .i64 a1_2);have Z17_3:=cz_ BK272.out 3 (.int .i64 a1_3);have Z17_4:=cz_ BK272.out 4 (.int .i64 a1_4);have Z17_5:=cz_ BK272.out 5 (.int .i64 a1_5);have Z17_6:=cz_ BK272.out 6 (.string a1_6);have Y17_0:=bF_ BK272.out 0;have Y17_1:=bF_ BK272.out 1;have Y17_2:=bF_ BK272.out 2;have Y17_3:=bF_ BK272.out 3;have Y17_4:=bF_ BK272.out 4;have Y17_5:=bF_ BK272.out 5;have Y17_6:=bF_ BK272.out 6)|((with_reducible refine gC_ (f:=20) rfl ?_);refine gl_ 23 Tryd.func20 #[.agg #[.int .i64 a1_0,.int .i64 a1_1,.int .i64 a1_2,.int .i64 a1_3,.int .i64 a1_4,.int .i64 a1_5,.string a1_6],.int .i64 t273] ?_;(with_reducible refine (laws_szEntry.calls a1_0 a1_1 a1_2 a1_3 a1_4 a1_5 a1_6 t273 t274 _ A10.out).mono ?_);rintro e w18 ⟨rfl,hb⟩;refine ⟨_,rfl,?_⟩;replace HB:=a_ (bS_ (bel_) hb);replace BK271:=a_ (blk_below (g:=gb271) (o:=.cells #[.slice A0_0 l0_0.length c0_0,.int .i64 a0_1,.bool a0_2] 32 (0,0)) (bp_ BK271.out) hb);replace BK272:=a_ (blk_below (g:=gb272) (o:=.cells #[.int .i64 a1_0,.int .i64 a1_1,.int .i64 a1_2,.int .i64 a1_3,.int .i64 a1_4,.int .i64 a1_5,.string a1_6] 36 (0,0)) (bp_ BK272.out) hb);(try clear hb)))
   go_ret
   exact ⟨fi_,bel_⟩
  ·rw [if_neg c11] at H
   have c11b0:decide (t274 < 0)=false:=df_ c11
   clear c11
   replace H:=bs_ H
   obtain ⟨⟨t275,t278,t279⟩,A190,H⟩:=H
   replace H:((laws_toEntry.f a1_0 a1_1 a1_2 a1_3 a1_4 a1_5 a1_6).bind fun bt280=>((spec_ServerHear.f k t275 t278 t279 bt280.1 bt280.2.1 bt280.2.2.1 bt280.2.2.2.1 bt280.2.2.2.2.1 bt280.2.2.2.2.2.1 bt280.2.2.2.2.2.2).bind fun bt287=>((laws_toServer.f k l0_0 a0_1 a0_2).bind fun bt294=>((laws_toEntry.f a1_0 a1_1 a1_2 a1_3 a1_4 a1_5 a1_6).bind fun bt300=>((impl_ServerHear.f k bt294.1 bt294.2.1 bt294.2.2 bt300.1 bt300.2.1 bt300.2.2.1 bt300.2.2.2.1 bt300.2.2.2.2.1 bt300.2.2.2.2.2.1 bt300.2.2.2.2.2.2).bind fun bt307=>((laws_eqServer.f k bt307.1 bt307.2.1 bt307.2.2.1 bt287.1 bt287.2.1 bt287.2.2.1).bind fun t314=>(if t314=true then (if (bt307.2.2.2 != bt287.2.2.2)=true then (none) else ((laws_toServer.f k l0_0 a0_1 a0_2).bind fun bt315=>((laws_eqServer.f k bt294.1 bt294.2.1 bt294.2.2 bt315.1 bt315.2.1 bt315.2.2).bind fun t320=>(if t320=true then ((laws_markServer.f k bt294.1 bt294.2.1 bt294.2.2 1).bind fun bt321=>(if bt321.1 < 0 then (none) else ((laws_eqServer.f k bt307.1 bt307.2.1 bt307.2.2.1 bt287.1 bt287.2.1 bt287.2.2.1).bind fun t323=>(if t323=true then ((laws_markServer.f k bt307.1 bt307.2.1 bt307.2.2.1 1).bind fun bt324=>((laws_heldServer.f k bt324.2 bt307.2.1 bt307.2.2.1 1).bind fun t326=>(if t326 < 0 then (none) else (if t326=bt324.1 then ((laws_toServer.f k l0_0 a0_1 a0_2).bind fun bt327=>((laws_toEntry.f a1_0 a1_1 a1_2 a1_3 a1_4 a1_5 a1_6).bind fun bt332=>((impl_ServerHear.f k bt327.1 bt327.2.1 bt327.2.2 bt332.1 bt332.2.1 bt332.2.2.1 bt332.2.2.2.1 bt332.2.2.2.2.1 bt332.2.2.2.2.2.1 bt332.2.2.2.2.2.2).bind fun bt339=>((laws_eqServer.f k bt339.1 bt339.2.1 bt339.2.2.1 bt287.1 bt287.2.1 bt287.2.2.1).bind fun t346=>(if t346=true then (if (bt339.2.2.2 != bt287.2.2.2)=true then (none) else ((laws_heldServer.f k bt324.2 bt307.2.1 bt307.2.2.1 1).bind fun t347=>(if t347 < 0 then (none) else (if t347=bt324.1 then (some true) else (none))))) else (none)))))) else (none))))) else (none))))) else (none))))) else (none))))))))=some r:=H
   have A19:=a_ A190
   clear A190
   replace H:=bs_ H
   obtain ⟨⟨t280,t281,t282,t283,t284,t285,t286⟩,A200,H⟩:=H
   replace H:((spec_ServerHear.f k t275 t278 t279 t280 t281 t282 t283 t284 t285 t286).bind fun bt287=>((laws_toServer.f k l0_0 a0_1 a0_2).bind fun bt294=>((laws_toEntry.f a1_0 a1_1 a1_2 a1_3 a1_4 a1_5 a1_6).bind fun bt300=>((impl_ServerHear.f k bt294.1 bt294.2.1 bt294.2.2 bt300.1 bt300.2.1 bt300.2.2.1 bt300.2.2.2.1 bt300.2.2.2.2.1 bt300.2.2.2.2.2.1 bt300.2.2.2.2.2.2).bind fun bt307=>((laws_eqServer.f k bt307.1 bt307.2.1 bt307.2.2.1 bt287.1 bt287.2.1 bt287.2.2.1).bind fun t314=>(if t314=true then (if (bt307.2.2.2 != bt287.2.2.2)=true then (none) else ((laws_toServer.f k l0_0 a0_1 a0_2).bind fun bt315=>((laws_eqServer.f k bt294.1 bt294.2.1 bt294.2.2 bt315.1 bt315.2.1 bt315.2.2).bind fun t320=>(if t320=true then ((laws_markServer.f k bt294.1 bt294.2.1 bt294.2.2 1).bind fun bt321=>(if bt321.1 < 0 then (none) else ((laws_eqServer.f k bt307.1 bt307.2.1 bt307.2.2.1 bt287.1 bt287.2.1 bt287.2.2.1).bind fun t323=>(if t323=true then ((laws_markServer.f k bt307.1 bt307.2.1 bt307.2.2.1 1).bind fun bt324=>((laws_heldServer.f k bt324.2 bt307.2.1 bt307.2.2.1 1).bind fun t326=>(if t326 < 0 then (none) else (if t326=bt324.1 then ((laws_toServer.f k l0_0 a0_1 a0_2).bind fun bt327=>((laws_toEntry.f a1_0 a1_1 a1_2 a1_3 a1_4 a1_5 a1_6).bind fun bt332=>((impl_ServerHear.f k bt327.1 bt327.2.1 bt327.2.2 bt332.1 bt332.2.1 bt332.2.2.1 bt332.2.2.2.1 bt332.2.2.2.2.1 bt332.2.2.2.2.2.1 bt332.2.2.2.2.2.2).bind fun bt339=>((laws_eqServer.f k bt339.1 bt339.2.1 bt339.2.2.1 bt287.1 bt287.2.1 bt287.2.2.1).bind fun t346=>(if t346=true then (if (bt339.2.2.2 != bt287.2.2.2)=true then (none) else ((laws_heldServer.f k bt324.2 bt307.2.1 bt307.2.2.1 1).bind fun t347=>(if t347 < 0 then (none) else (if t347=bt324.1 then (some true) else (none))))) else (none)))))) else (none))))) else (none))))) else (none))))) else (none)))))))=some r:=H
   have A20:=a_ A200
   clear A200
   replace H:=bs_ H
   obtain ⟨⟨t287,t290,t291,t292⟩,A210,H⟩:=H
   replace H:((laws_toServer.f k l0_0 a0_1 a0_2).bind fun bt294=>((laws_toEntry.f a1_0 a1_1 a1_2 a1_3 a1_4 a1_5 a1_6).bind fun bt300=>((impl_ServerHear.f k bt294.1 bt294.2.1 bt294.2.2 bt300.1 bt300.2.1 bt300.2.2.1 bt300.2.2.2.1 bt300.2.2.2.2.1 bt300.2.2.2.2.2.1 bt300.2.2.2.2.2.2).bind fun bt307=>((laws_eqServer.f k bt307.1 bt307.2.1 bt307.2.2.1 t287 t290 t291).bind fun t314=>(if t314=true then (if (bt307.2.2.2 != t292)=true then (none) else ((laws_toServer.f k l0_0 a0_1 a0_2).bind fun bt315=>((laws_eqServer.f k bt294.1 bt294.2.1 bt294.2.2 bt315.1 bt315.2.1 bt315.2.2).bind fun t320=>(if t320=true then ((laws_markServer.f k bt294.1 bt294.2.1 bt294.2.2 1).bind fun bt321=>(if bt321.1 < 0 then (none) else ((laws_eqServer.f k bt307.1 bt307.2.1 bt307.2.2.1 t287 t290 t291).bind fun t323=>(if t323=true then ((laws_markServer.f k bt307.1 bt307.2.1 bt307.2.2.1 1).bind fun bt324=>((laws_heldServer.f k bt324.2 bt307.2.1 bt307.2.2.1 1).bind fun t326=>(if t326 < 0 then (none) else (if t326=bt324.1 then ((laws_toServer.f k l0_0 a0_1 a0_2).bind fun bt327=>((laws_toEntry.f a1_0 a1_1 a1_2 a1_3 a1_4 a1_5 a1_6).bind fun bt332=>((impl_ServerHear.f k bt327.1 bt327.2.1 bt327.2.2 bt332.1 bt332.2.1 bt332.2.2.1 bt332.2.2.2.1 bt332.2.2.2.2.1 bt332.2.2.2.2.2.1 bt332.2.2.2.2.2.2).bind fun bt339=>((laws_eqServer.f k bt339.1 bt339.2.1 bt339.2.2.1 t287 t290 t291).bind fun t346=>(if t346=true then (if (bt339.2.2.2 != t292)=true then (none) else ((laws_heldServer.f k bt324.2 bt307.2.1 bt307.2.2.1 1).bind fun t347=>(if t347 < 0 then (none) else (if t347=bt324.1 then (some true) else (none))))) else (none)))))) else (none))))) else (none))))) else (none))))) else (none))))))=some r:=H
   have A21:=a_ A210
   clear A210
   replace H:=bs_ H
   obtain ⟨⟨t294,t297,t298⟩,A220,H⟩:=H
   replace H:((laws_toEntry.f a1_0 a1_1 a1_2 a1_3 a1_4 a1_5 a1_6).bind fun bt300=>((impl_ServerHear.f k t294 t297 t298 bt300.1 bt300.2.1 bt300.2.2.1 bt300.2.2.2.1 bt300.2.2.2.2.1 bt300.2.2.2.2.2.1 bt300.2.2.2.2.2.2).bind fun bt307=>((laws_eqServer.f k bt307.1 bt307.2.1 bt307.2.2.1 t287 t290 t291).bind fun t314=>(if t314=true then (if (bt307.2.2.2 != t292)=true then (none) else ((laws_toServer.f k l0_0 a0_1 a0_2).bind fun bt315=>((laws_eqServer.f k t294 t297 t298 bt315.1 bt315.2.1 bt315.2.2).bind fun t320=>(if t320=true then ((laws_markServer.f k t294 t297 t298 1).bind fun bt321=>(if bt321.1 < 0 then (none) else ((laws_eqServer.f k bt307.1 bt307.2.1 bt307.2.2.1 t287 t290 t291).bind fun t323=>(if t323=true then ((laws_markServer.f k bt307.1 bt307.2.1 bt307.2.2.1 1).bind fun bt324=>((laws_heldServer.f k bt324.2 bt307.2.1 bt307.2.2.1 1).bind fun t326=>(if t326 < 0 then (none) else (if t326=bt324.1 then ((laws_toServer.f k l0_0 a0_1 a0_2).bind fun bt327=>((laws_toEntry.f a1_0 a1_1 a1_2 a1_3 a1_4 a1_5 a1_6).bind fun bt332=>((impl_ServerHear.f k bt327.1 bt327.2.1 bt327.2.2 bt332.1 bt332.2.1 bt332.2.2.1 bt332.2.2.2.1 bt332.2.2.2.2.1 bt332.2.2.2.2.2.1 bt332.2.2.2.2.2.2).bind fun bt339=>((laws_eqServer.f k bt339.1 bt339.2.1 bt339.2.2.1 t287 t290 t291).bind fun t346=>(if t346=true then (if (bt339.2.2.2 != t292)=true then (none) else ((laws_heldServer.f k bt324.2 bt307.2.1 bt307.2.2.1 1).bind fun t347=>(if t347 < 0 then (none) else (if t347=bt324.1 then (some true) else (none))))) else (none)))))) else (none))))) else (none))))) else (none))))) else (none)))))=some r:=H
   have A22:=a_ A220
   clear A220
   replace H:=bs_ H
   obtain ⟨⟨t300,t301,t302,t303,t304,t305,t306⟩,A230,H⟩:=H
   replace H:((impl_ServerHear.f k t294 t297 t298 t300 t301 t302 t303 t304 t305 t306).bind fun bt307=>((laws_eqServer.f k bt307.1 bt307.2.1 bt307.2.2.1 t287 t290 t291).bind fun t314=>(if t314=true then (if (bt307.2.2.2 != t292)=true then (none) else ((laws_toServer.f k l0_0 a0_1 a0_2).bind fun bt315=>((laws_eqServer.f k t294 t297 t298 bt315.1 bt315.2.1 bt315.2.2).bind fun t320=>(if t320=true then ((laws_markServer.f k t294 t297 t298 1).bind fun bt321=>(if bt321.1 < 0 then (none) else ((laws_eqServer.f k bt307.1 bt307.2.1 bt307.2.2.1 t287 t290 t291).bind fun t323=>(if t323=true then ((laws_markServer.f k bt307.1 bt307.2.1 bt307.2.2.1 1).bind fun bt324=>((laws_heldServer.f k bt324.2 bt307.2.1 bt307.2.2.1 1).bind fun t326=>(if t326 < 0 then (none) else (if t326=bt324.1 then ((laws_toServer.f k l0_0 a0_1 a0_2).bind fun bt327=>((laws_toEntry.f a1_0 a1_1 a1_2 a1_3 a1_4 a1_5 a1_6).bind fun bt332=>((impl_ServerHear.f k bt327.1 bt327.2.1 bt327.2.2 bt332.1 bt332.2.1 bt332.2.2.1 bt332.2.2.2.1 bt332.2.2.2.2.1 bt332.2.2.2.2.2.1 bt332.2.2.2.2.2.2).bind fun bt339=>((laws_eqServer.f k bt339.1 bt339.2.1 bt339.2.2.1 t287 t290 t291).bind fun t346=>(if t346=true then (if (bt339.2.2.2 != t292)=true then (none) else ((laws_heldServer.f k bt324.2 bt307.2.1 bt307.2.2.1 1).bind fun t347=>(if t347 < 0 then (none) else (if t347=bt324.1 then (some true) else (none))))) else (none)))))) else (none))))) else (none))))) else (none))))) else (none))))=some r:=H
   have A23:=a_ A230
   clear A230
   replace H:=bs_ H
   obtain ⟨⟨t307,t310,t311,t312⟩,A240,H⟩:=H
   replace H:((laws_eqServer.f k t307 t310 t311 t287 t290 t291).bind fun t314=>(if t314=true then (if (t312 != t292)=true then (none) else ((laws_toServer.f k l0_0 a0_1 a0_2).bind fun bt315=>((laws_eqServer.f k t294 t297 t298 bt315.1 bt315.2.1 bt315.2.2).bind fun t320=>(if t320=true then ((laws_markServer.f k t294 t297 t298 1).bind fun bt321=>(if bt321.1 < 0 then (none) else ((laws_eqServer.f k t307 t310 t311 t287 t290 t291).bind fun t323=>(if t323=true then ((laws_markServer.f k t307 t310 t311 1).bind fun bt324=>((laws_heldServer.f k bt324.2 t310 t311 1).bind fun t326=>(if t326 < 0 then (none) else (if t326=bt324.1 then ((laws_toServer.f k l0_0 a0_1 a0_2).bind fun bt327=>((laws_toEntry.f a1_0 a1_1 a1_2 a1_3 a1_4 a1_5 a1_6).bind fun bt332=>((impl_ServerHear.f k bt327.1 bt327.2.1 bt327.2.2 bt332.1 bt332.2.1 bt332.2.2.1 bt332.2.2.2.1 bt332.2.2.2.2.1 bt332.2.2.2.2.2.1 bt332.2.2.2.2.2.2).bind fun bt339=>((laws_eqServer.f k bt339.1 bt339.2.1 bt339.2.2.1 t287 t290 t291).bind fun t346=>(if t346=true then (if (bt339.2.2.2 != t292)=true then (none) else ((laws_heldServer.f k bt324.2 t310 t311 1).bind fun t347=>(if t347 < 0 then (none) else (if t347=bt324.1 then (some true) else (none))))) else (none)))))) else (none))))) else (none))))) else (none))))) else (none)))=some r:=H
   have A24:=a_ A240
   clear A240
   replace H:=bs_ H
   obtain ⟨t314,A250,H⟩:=H
   replace H:(if t314=true then (if (t312 != t292)=true then (none) else ((laws_toServer.f k l0_0 a0_1 a0_2).bind fun bt315=>((laws_eqServer.f k t294 t297 t298 bt315.1 bt315.2.1 bt315.2.2).bind fun t320=>(if t320=true then ((laws_markServer.f k t294 t297 t298 1).bind fun bt321=>(if bt321.1 < 0 then (none) else ((laws_eqServer.f k t307 t310 t311 t287 t290 t291).bind fun t323=>(if t323=true then ((laws_markServer.f k t307 t310 t311 1).bind fun bt324=>((laws_heldServer.f k bt324.2 t310 t311 1).bind fun t326=>(if t326 < 0 then (none) else (if t326=bt324.1 then ((laws_toServer.f k l0_0 a0_1 a0_2).bind fun bt327=>((laws_toEntry.f a1_0 a1_1 a1_2 a1_3 a1_4 a1_5 a1_6).bind fun bt332=>((impl_ServerHear.f k bt327.1 bt327.2.1 bt327.2.2 bt332.1 bt332.2.1 bt332.2.2.1 bt332.2.2.2.1 bt332.2.2.2.2.1 bt332.2.2.2.2.2.1 bt332.2.2.2.2.2.2).bind fun bt339=>((laws_eqServer.f k bt339.1 bt339.2.1 bt339.2.2.1 t287 t290 t291).bind fun t346=>(if t346=true then (if (bt339.2.2.2 != t292)=true then (none) else ((laws_heldServer.f k bt324.2 t310 t311 1).bind fun t347=>(if t347 < 0 then (none) else (if t347=bt324.1 then (some true) else (none))))) else (none)))))) else (none))))) else (none))))) else (none))))) else (none))=some r:=H
   have A25:=a_ A250
   clear A250
   by_cases c26:t314=true
   ·subst c26
    have H1:(if (t312 != t292)=true then (none) else ((laws_toServer.f k l0_0 a0_1 a0_2).bind fun bt315=>((laws_eqServer.f k t294 t297 t298 bt315.1 bt315.2.1 bt315.2.2).bind fun t320=>(if t320=true then ((laws_markServer.f k t294 t297 t298 1).bind fun bt321=>(if bt321.1 < 0 then (none) else ((laws_eqServer.f k t307 t310 t311 t287 t290 t291).bind fun t323=>(if t323=true then ((laws_markServer.f k t307 t310 t311 1).bind fun bt324=>((laws_heldServer.f k bt324.2 t310 t311 1).bind fun t326=>(if t326 < 0 then (none) else (if t326=bt324.1 then ((laws_toServer.f k l0_0 a0_1 a0_2).bind fun bt327=>((laws_toEntry.f a1_0 a1_1 a1_2 a1_3 a1_4 a1_5 a1_6).bind fun bt332=>((impl_ServerHear.f k bt327.1 bt327.2.1 bt327.2.2 bt332.1 bt332.2.1 bt332.2.2.1 bt332.2.2.2.1 bt332.2.2.2.2.1 bt332.2.2.2.2.2.1 bt332.2.2.2.2.2.2).bind fun bt339=>((laws_eqServer.f k bt339.1 bt339.2.1 bt339.2.2.1 t287 t290 t291).bind fun t346=>(if t346=true then (if (bt339.2.2.2 != t292)=true then (none) else ((laws_heldServer.f k bt324.2 t310 t311 1).bind fun t347=>(if t347 < 0 then (none) else (if t347=bt324.1 then (some true) else (none))))) else (none)))))) else (none))))) else (none))))) else (none)))))=some r:=by rw [if_pos rfl] at H;exact H
    clear H
    have H:=H1
    clear H1
    by_cases c27:(t312 != t292)=true
    ·rw [if_pos c27] at H
     exact absurd H (by simp)
    ·rw [if_neg c27] at H
     have c27b0:(t312 != t292)=false:=by simpa using c27
     (try (have c27b1:decide (t312=t292)=true:=by simpa using c27))
     (try (have c27b2:(t312==t292)=true:=by simpa using c27))
     clear c27
     replace H:=bs_ H
     obtain ⟨⟨t315,t318,t319⟩,A280,H⟩:=H
     replace H:((laws_eqServer.f k t294 t297 t298 t315 t318 t319).bind fun t320=>(if t320=true then ((laws_markServer.f k t294 t297 t298 1).bind fun bt321=>(if bt321.1 < 0 then (none) else ((laws_eqServer.f k t307 t310 t311 t287 t290 t291).bind fun t323=>(if t323=true then ((laws_markServer.f k t307 t310 t311 1).bind fun bt324=>((laws_heldServer.f k bt324.2 t310 t311 1).bind fun t326=>(if t326 < 0 then (none) else (if t326=bt324.1 then ((laws_toServer.f k l0_0 a0_1 a0_2).bind fun bt327=>((laws_toEntry.f a1_0 a1_1 a1_2 a1_3 a1_4 a1_5 a1_6).bind fun bt332=>((impl_ServerHear.f k bt327.1 bt327.2.1 bt327.2.2 bt332.1 bt332.2.1 bt332.2.2.1 bt332.2.2.2.1 bt332.2.2.2.2.1 bt332.2.2.2.2.2.1 bt332.2.2.2.2.2.2).bind fun bt339=>((laws_eqServer.f k bt339.1 bt339.2.1 bt339.2.2.1 t287 t290 t291).bind fun t346=>(if t346=true then (if (bt339.2.2.2 != t292)=true then (none) else ((laws_heldServer.f k bt324.2 t310 t311 1).bind fun t347=>(if t347 < 0 then (none) else (if t347=bt324.1 then (some true) else (none))))) else (none)))))) else (none))))) else (none))))) else (none)))=some r:=H
     have A28:=a_ A280
     clear A280
     replace H:=bs_ H
     obtain ⟨t320,A290,H⟩:=H
     replace H:(if t320=true then ((laws_markServer.f k t294 t297 t298 1).bind fun bt321=>(if bt321.1 < 0 then (none) else ((laws_eqServer.f k t307 t310 t311 t287 t290 t291).bind fun t323=>(if t323=true then ((laws_markServer.f k t307 t310 t311 1).bind fun bt324=>((laws_heldServer.f k bt324.2 t310 t311 1).bind fun t326=>(if t326 < 0 then (none) else (if t326=bt324.1 then ((laws_toServer.f k l0_0 a0_1 a0_2).bind fun bt327=>((laws_toEntry.f a1_0 a1_1 a1_2 a1_3 a1_4 a1_5 a1_6).bind fun bt332=>((impl_ServerHear.f k bt327.1 bt327.2.1 bt327.2.2 bt332.1 bt332.2.1 bt332.2.2.1 bt332.2.2.2.1 bt332.2.2.2.2.1 bt332.2.2.2.2.2.1 bt332.2.2.2.2.2.2).bind fun bt339=>((laws_eqServer.f k bt339.1 bt339.2.1 bt339.2.2.1 t287 t290 t291).bind fun t346=>(if t346=true then (if (bt339.2.2.2 != t292)=true then (none) else ((laws_heldServer.f k bt324.2 t310 t311 1).bind fun t347=>(if t347 < 0 then (none) else (if t347=bt324.1 then (some true) else (none))))) else (none)))))) else (none))))) else (none))))) else (none))=some r:=H
     have A29:=a_ A290
     clear A290
     by_cases c30:t320=true
     ·subst c30
      have H1:((laws_markServer.f k t294 t297 t298 1).bind fun bt321=>(if bt321.1 < 0 then (none) else ((laws_eqServer.f k t307 t310 t311 t287 t290 t291).bind fun t323=>(if t323=true then ((laws_markServer.f k t307 t310 t311 1).bind fun bt324=>((laws_heldServer.f k bt324.2 t310 t311 1).bind fun t326=>(if t326 < 0 then (none) else (if t326=bt324.1 then ((laws_toServer.f k l0_0 a0_1 a0_2).bind fun bt327=>((laws_toEntry.f a1_0 a1_1 a1_2 a1_3 a1_4 a1_5 a1_6).bind fun bt332=>((impl_ServerHear.f k bt327.1 bt327.2.1 bt327.2.2 bt332.1 bt332.2.1 bt332.2.2.1 bt332.2.2.2.1 bt332.2.2.2.2.1 bt332.2.2.2.2.2.1 bt332.2.2.2.2.2.2).bind fun bt339=>((laws_eqServer.f k bt339.1 bt339.2.1 bt339.2.2.1 t287 t290 t291).bind fun t346=>(if t346=true then (if (bt339.2.2.2 != t292)=true then (none) else ((laws_heldServer.f k bt324.2 t310 t311 1).bind fun t347=>(if t347 < 0 then (none) else (if t347=bt324.1 then (some true) else (none))))) else (none)))))) else (none))))) else (none)))))=some r:=by rw [if_pos rfl] at H;exact H
      clear H
      have H:=H1
      clear H1
      replace H:=bs_ H
      obtain ⟨⟨t321,t322⟩,A310,H⟩:=H
      replace H:(if t321 < 0 then (none) else ((laws_eqServer.f k t307 t310 t311 t287 t290 t291).bind fun t323=>(if t323=true then ((laws_markServer.f k t307 t310 t311 1).bind fun bt324=>((laws_heldServer.f k bt324.2 t310 t311 1).bind fun t326=>(if t326 < 0 then (none) else (if t326=bt324.1 then ((laws_toServer.f k l0_0 a0_1 a0_2).bind fun bt327=>((laws_toEntry.f a1_0 a1_1 a1_2 a1_3 a1_4 a1_5 a1_6).bind fun bt332=>((impl_ServerHear.f k bt327.1 bt327.2.1 bt327.2.2 bt332.1 bt332.2.1 bt332.2.2.1 bt332.2.2.2.1 bt332.2.2.2.2.1 bt332.2.2.2.2.2.1 bt332.2.2.2.2.2.2).bind fun bt339=>((laws_eqServer.f k bt339.1 bt339.2.1 bt339.2.2.1 t287 t290 t291).bind fun t346=>(if t346=true then (if (bt339.2.2.2 != t292)=true then (none) else ((laws_heldServer.f k bt324.2 t310 t311 1).bind fun t347=>(if t347 < 0 then (none) else (if t347=bt324.1 then (some true) else (none))))) else (none)))))) else (none))))) else (none))))=some r:=H
      have A31:=a_ A310
      clear A310
      by_cases c32:t321 < 0
      ·rw [if_pos c32] at H
       exact absurd H (by simp)
      ·rw [if_neg c32] at H
       have c32b0:decide (t321 < 0)=false:=df_ c32
       clear c32
       replace H:=bs_ H
       obtain ⟨t323,A330,H⟩:=H
       replace H:(if t323=true then ((laws_markServer.f k t307 t310 t311 1).bind fun bt324=>((laws_heldServer.f k bt324.2 t310 t311 1).bind fun t326=>(if t326 < 0 then (none) else (if t326=bt324.1 then ((laws_toServer.f k l0_0 a0_1 a0_2).bind fun bt327=>((laws_toEntry.f a1_0 a1_1 a1_2 a1_3 a1_4 a1_5 a1_6).bind fun bt332=>((impl_ServerHear.f k bt327.1 bt327.2.1 bt327.2.2 bt332.1 bt332.2.1 bt332.2.2.1 bt332.2.2.2.1 bt332.2.2.2.2.1 bt332.2.2.2.2.2.1 bt332.2.2.2.2.2.2).bind fun bt339=>((laws_eqServer.f k bt339.1 bt339.2.1 bt339.2.2.1 t287 t290 t291).bind fun t346=>(if t346=true then (if (bt339.2.2.2 != t292)=true then (none) else ((laws_heldServer.f k bt324.2 t310 t311 1).bind fun t347=>(if t347 < 0 then (none) else (if t347=bt324.1 then (some true) else (none))))) else (none)))))) else (none))))) else (none))=some r:=H
       have A33:=a_ A330
       clear A330
       by_cases c34:t323=true
       ·subst c34
        have H1:((laws_markServer.f k t307 t310 t311 1).bind fun bt324=>((laws_heldServer.f k bt324.2 t310 t311 1).bind fun t326=>(if t326 < 0 then (none) else (if t326=bt324.1 then ((laws_toServer.f k l0_0 a0_1 a0_2).bind fun bt327=>((laws_toEntry.f a1_0 a1_1 a1_2 a1_3 a1_4 a1_5 a1_6).bind fun bt332=>((impl_ServerHear.f k bt327.1 bt327.2.1 bt327.2.2 bt332.1 bt332.2.1 bt332.2.2.1 bt332.2.2.2.1 bt332.2.2.2.2.1 bt332.2.2.2.2.2.1 bt332.2.2.2.2.2.2).bind fun bt339=>((laws_eqServer.f k bt339.1 bt339.2.1 bt339.2.2.1 t287 t290 t291).bind fun t346=>(if t346=true then (if (bt339.2.2.2 != t292)=true then (none) else ((laws_heldServer.f k bt324.2 t310 t311 1).bind fun t347=>(if t347 < 0 then (none) else (if t347=bt324.1 then (some true) else (none))))) else (none)))))) else (none)))))=some r:=by rw [if_pos rfl] at H;exact H
        clear H
        have H:=H1
        clear H1
        replace H:=bs_ H
        obtain ⟨⟨t324,t325⟩,A350,H⟩:=H
        replace H:((laws_heldServer.f k t325 t310 t311 1).bind fun t326=>(if t326 < 0 then (none) else (if t326=t324 then ((laws_toServer.f k l0_0 a0_1 a0_2).bind fun bt327=>((laws_toEntry.f a1_0 a1_1 a1_2 a1_3 a1_4 a1_5 a1_6).bind fun bt332=>((impl_ServerHear.f k bt327.1 bt327.2.1 bt327.2.2 bt332.1 bt332.2.1 bt332.2.2.1 bt332.2.2.2.1 bt332.2.2.2.2.1 bt332.2.2.2.2.2.1 bt332.2.2.2.2.2.2).bind fun bt339=>((laws_eqServer.f k bt339.1 bt339.2.1 bt339.2.2.1 t287 t290 t291).bind fun t346=>(if t346=true then (if (bt339.2.2.2 != t292)=true then (none) else ((laws_heldServer.f k t325 t310 t311 1).bind fun t347=>(if t347 < 0 then (none) else (if t347=t324 then (some true) else (none))))) else (none)))))) else (none))))=some r:=H
        have A35:=a_ A350
        clear A350
        replace H:=bs_ H
        obtain ⟨t326,A360,H⟩:=H
        replace H:(if t326 < 0 then (none) else (if t326=t324 then ((laws_toServer.f k l0_0 a0_1 a0_2).bind fun bt327=>((laws_toEntry.f a1_0 a1_1 a1_2 a1_3 a1_4 a1_5 a1_6).bind fun bt332=>((impl_ServerHear.f k bt327.1 bt327.2.1 bt327.2.2 bt332.1 bt332.2.1 bt332.2.2.1 bt332.2.2.2.1 bt332.2.2.2.2.1 bt332.2.2.2.2.2.1 bt332.2.2.2.2.2.2).bind fun bt339=>((laws_eqServer.f k bt339.1 bt339.2.1 bt339.2.2.1 t287 t290 t291).bind fun t346=>(if t346=true then (if (bt339.2.2.2 != t292)=true then (none) else ((laws_heldServer.f k t325 t310 t311 1).bind fun t347=>(if t347 < 0 then (none) else (if t347=t324 then (some true) else (none))))) else (none)))))) else (none)))=some r:=H
        have A36:=a_ A360
        clear A360
        by_cases c37:t326 < 0
        ·rw [if_pos c37] at H
         exact absurd H (by simp)
        ·rw [if_neg c37] at H
         have c37b0:decide (t326 < 0)=false:=df_ c37
         clear c37
         by_cases c38:t326=t324
         ·rw [if_pos c38] at H
          have c38b0:(t326==t324)=true:=beq_iff_eq.mpr c38
          have c38b1:(t326 != t324)=false:=be_ c38
          clear c38
          replace H:=bs_ H
          obtain ⟨⟨t327,t330,t331⟩,A390,H⟩:=H
          replace H:((laws_toEntry.f a1_0 a1_1 a1_2 a1_3 a1_4 a1_5 a1_6).bind fun bt332=>((impl_ServerHear.f k t327 t330 t331 bt332.1 bt332.2.1 bt332.2.2.1 bt332.2.2.2.1 bt332.2.2.2.2.1 bt332.2.2.2.2.2.1 bt332.2.2.2.2.2.2).bind fun bt339=>((laws_eqServer.f k bt339.1 bt339.2.1 bt339.2.2.1 t287 t290 t291).bind fun t346=>(if t346=true then (if (bt339.2.2.2 != t292)=true then (none) else ((laws_heldServer.f k t325 t310 t311 1).bind fun t347=>(if t347 < 0 then (none) else (if t347=t324 then (some true) else (none))))) else (none)))))=some r:=H
          have A39:=a_ A390
          clear A390
          replace H:=bs_ H
          obtain ⟨⟨t332,t333,t334,t335,t336,t337,t338⟩,A400,H⟩:=H
          replace H:((impl_ServerHear.f k t327 t330 t331 t332 t333 t334 t335 t336 t337 t338).bind fun bt339=>((laws_eqServer.f k bt339.1 bt339.2.1 bt339.2.2.1 t287 t290 t291).bind fun t346=>(if t346=true then (if (bt339.2.2.2 != t292)=true then (none) else ((laws_heldServer.f k t325 t310 t311 1).bind fun t347=>(if t347 < 0 then (none) else (if t347=t324 then (some true) else (none))))) else (none))))=some r:=H
          have A40:=a_ A400
          clear A400
          replace H:=bs_ H
          obtain ⟨⟨t339,t342,t343,t344⟩,A410,H⟩:=H
          replace H:((laws_eqServer.f k t339 t342 t343 t287 t290 t291).bind fun t346=>(if t346=true then (if (t344 != t292)=true then (none) else ((laws_heldServer.f k t325 t310 t311 1).bind fun t347=>(if t347 < 0 then (none) else (if t347=t324 then (some true) else (none))))) else (none)))=some r:=H
          have A41:=a_ A410
          clear A410
          replace H:=bs_ H
          obtain ⟨t346,A420,H⟩:=H
          replace H:(if t346=true then (if (t344 != t292)=true then (none) else ((laws_heldServer.f k t325 t310 t311 1).bind fun t347=>(if t347 < 0 then (none) else (if t347=t324 then (some true) else (none))))) else (none))=some r:=H
          have A42:=a_ A420
          clear A420
          by_cases c43:t346=true
          ·subst c43
           have H1:(if (t344 != t292)=true then (none) else ((laws_heldServer.f k t325 t310 t311 1).bind fun t347=>(if t347 < 0 then (none) else (if t347=t324 then (some true) else (none)))))=some r:=by rw [if_pos rfl] at H;exact H
           clear H
           have H:=H1
           clear H1
           by_cases c44:(t344 != t292)=true
           ·rw [if_pos c44] at H
            exact absurd H (by simp)
           ·rw [if_neg c44] at H
            have c44b0:(t344 != t292)=false:=by simpa using c44
            (try (have c44b1:decide (t344=t292)=true:=by simpa using c44))
            (try (have c44b2:(t344==t292)=true:=by simpa using c44))
            clear c44
            replace H:=bs_ H
            obtain ⟨t347,A450,H⟩:=H
            replace H:(if t347 < 0 then (none) else (if t347=t324 then (some true) else (none)))=some r:=H
            have A45:=a_ A450
            clear A450
            by_cases c46:t347 < 0
            ·rw [if_pos c46] at H
             exact absurd H (by simp)
            ·rw [if_neg c46] at H
             have c46b0:decide (t347 < 0)=false:=df_ c46
             clear c46
             by_cases c47:t347=t324
             ·rw [if_pos c47] at H
              have c47b0:(t347==t324)=true:=beq_iff_eq.mpr c47
              have c47b1:(t347 != t324)=false:=be_ c47
              clear c47
              obtain rfl:=sj_ H
              go_enter Tryd.func4,Tryd.ntmps4
              try go_wp2_with (first|((with_reducible refine gD_ (N:=2) rfl ?_);refine bx_ 2 (#[.slice A0_0 l0_0.length c0_0,.int .i64 a0_1,.bool a0_2]) 32 ?_;intro gb271 hg w48 hbox hb;have n0_:=a_ (bS_ (bel_) hb);have n1_:=a_ (hbox);have n2_:=a_ ((by rw [hg];exact (below_size (bel_)):w.heap.size≤gb271));have n3_:=a_ ((by rw [hg];exact (below_size (bel_)):w.heap.size≤gb271));clear HB;have HB:=n0_;have BK271:=n1_;have GW271:=n2_;have GE271:=n3_;clear n0_ n1_ n2_ n3_;clear hb hbox hg)|((with_reducible refine gD_ (N:=3) rfl ?_);refine bx_ 3 (#[.int .i64 a1_0,.int .i64 a1_1,.int .i64 a1_2,.int .i64 a1_3,.int .i64 a1_4,.int .i64 a1_5,.string a1_6]) 36 ?_;intro gb272 hg w49 hbox hb;have n0_:=a_ (blk_below (g:=gb271) (o:=.cells #[.slice A0_0 l0_0.length c0_0,.int .i64 a0_1,.bool a0_2] 32 (0,0)) (bp_ BK271.out) hb);have n1_:=a_ (bS_ (bel_) hb);have n2_:=a_ (hbox);have n3_:=a_ ((by rw [hg];exact (below_size (bel_)):w.heap.size≤gb272));have n4_:=a_ ((by rw [hg];exact (below_size (bel_)):w.heap.size≤gb272));have n5_:=a_ ((by rw [hg];exact Nat.ne_of_lt (blk_lt (g:=gb271) (o:=.cells #[.slice A0_0 l0_0.length c0_0,.int .i64 a0_1,.bool a0_2] 32 (0,0)) (bp_ BK271.out)):gb271≠gb272));have n6_:=a_ ((by rw [hg];exact Nat.ne_of_gt (blk_lt (g:=gb271) (o:=.cells #[.slice A0_0 l0_0.length c0_0,.int .i64 a0_1,.bool a0_2] 32 (0,0)) (bp_ BK271.out)):gb272≠gb271));clear BK271;clear HB;have BK271:=n0_;have HB:=n1_;have BK272:=n2_;have GW272:=n3_;have GE272:=n4_;have NB271_272:=n5_;have NB272_271:=n6_;clear n0_ n1_ n2_ n3_ n4_ n5_ n6_;clear hb hbox hg;have hnb50:=NB271_272.out;have hnc50:=NB272_271.out;have Z51_0:=cz_ BK271.out 0 (.slice A0_0 l0_0.length c0_0);have Z51_1:=cz_ BK271.out 1 (.int .i64 a0_1);have Z51_2:=cz_ BK271.out 2 (.bool a0_2);have Y51_0:=bF_ BK271.out 0;have Y51_1:=bF_ BK271.out 1;have Y51_2:=bF_ BK271.out 2)|((with_reducible refine gC_ (f:=19) rfl ?_);refine gl_ 18 Tryd.func19 #[.agg #[.slice A0_0 l0_0.length c0_0,.int .i64 a0_1,.bool a0_2],.int .i64 1048576] ?_;(with_reducible refine (laws_szServer.calls k _ _ l0_0 a0_1 a0_2 1048576 t273 _ ?side1 ?side2 A3.out).mono ?_);(case side1=>exact cp_ HR0_0.out);(case side2=>exact HC0_0.out);rintro e w52 ⟨rfl,hb⟩;refine ⟨_,rfl,?_⟩;replace HB:=a_ (bS_ (bel_) hb);replace BK271:=a_ (blk_below (g:=gb271) (o:=.cells #[.slice A0_0 l0_0.length c0_0,.int .i64 a0_1,.bool a0_2] 32 (0,0)) (bp_ BK271.out) hb);replace BK272:=a_ (blk_below (g:=gb272) (o:=.cells #[.int .i64 a1_0,.int .i64 a1_1,.int .i64 a1_2,.int .i64 a1_3,.int .i64 a1_4,.int .i64 a1_5,.string a1_6] 36 (0,0)) (bp_ BK272.out) hb);(try clear hb);have Z53_0:=cz_ BK272.out 0 (.int .i64 a1_0);have Z53_1:=cz_ BK272.out 1 (.int .i64 a1_1);have Z53_2:=cz_ BK272.out 2 (.int .i64 a1_2);have Z53_3:=cz_ BK272.out 3 (.int .i64 a1_3);have Z53_4:=cz_ BK272.out 4 (.int .i64 a1_4);have Z53_5:=cz_ BK272.out 5 (.int .i64 a1_5);have Z53_6:=cz_ BK272.out 6 (.string a1_6);have Y53_0:=bF_ BK272.out 0;have Y53_1:=bF_ BK272.out 1;have Y53_2:=bF_ BK272.out 2;have Y53_3:=bF_ BK272.out 3;have Y53_4:=bF_ BK272.out 4;have Y53_5:=bF_ BK272.out 5;have Y53_6:=bF_ BK272.out 6)|((with_reducible refine gC_ (f:=20) rfl ?_);refine gl_ 23 Tryd.func20 #[.agg #[.int .i64 a1_0,.int .i64 a1_1,.int .i64 a1_2,.int .i64 a1_3,.int .i64 a1_4,.int .i64 a1_5,.string a1_6],.int .i64 t273] ?_;(with_reducible refine (laws_szEntry.calls a1_0 a1_1 a1_2 a1_3 a1_4 a1_5 a1_6 t273 t274 _ A10.out).mono ?_);rintro e w54 ⟨rfl,hb⟩;refine ⟨_,rfl,?_⟩;replace HB:=a_ (bS_ (bel_) hb);replace BK271:=a_ (blk_below (g:=gb271) (o:=.cells #[.slice A0_0 l0_0.length c0_0,.int .i64 a0_1,.bool a0_2] 32 (0,0)) (bp_ BK271.out) hb);replace BK272:=a_ (blk_below (g:=gb272) (o:=.cells #[.int .i64 a1_0,.int .i64 a1_1,.int .i64 a1_2,.int .i64 a1_3,.int .i64 a1_4,.int .i64 a1_5,.string a1_6] 36 (0,0)) (bp_ BK272.out) hb);(try clear hb)))
              have n0_:=a_ (bD_ BK271.out)
              have n1_:=a_ (bD_ BK272.out)
              have n2_:=a_ (below_drew1 HB.out)
              clear BK271
              clear BK272
              clear HB
              have BK271:=n0_
              have BK272:=n1_
              have HB:=n2_
              clear n0_ n1_ n2_
              refine start_ (n:=11) (S:=fun w'=>w'.cell? ⟨gb271,0,none⟩=some (.slice A0_0 l0_0.length c0_0)∧w'.cell? ⟨gb271,1,none⟩=some (.int .i64 a0_1)∧w'.cell? ⟨gb271,2,none⟩=some (.bool a0_2)∧w'.cell? ⟨gb272,0,none⟩=some (.int .i64 a1_0)∧w'.cell? ⟨gb272,1,none⟩=some (.int .i64 a1_1)∧w'.cell? ⟨gb272,2,none⟩=some (.int .i64 a1_2)∧w'.cell? ⟨gb272,3,none⟩=some (.int .i64 a1_3)∧w'.cell? ⟨gb272,4,none⟩=some (.int .i64 a1_4)∧w'.cell? ⟨gb272,5,none⟩=some (.int .i64 a1_5)∧w'.cell? ⟨gb272,6,none⟩=some (.string a1_6)) (ds:=[]) #[false,false,false,false,false,false,false,false,false,false,false] (by kernel_rfl) rfl rfl ⟨(bC_ BK271.out 0).trans rfl,(bC_ BK271.out 1).trans rfl,(bC_ BK271.out 2).trans rfl,(bC_ BK272.out 0).trans rfl,(bC_ BK272.out 1).trans rfl,(bC_ BK272.out 2).trans rfl,(bC_ BK272.out 3).trans rfl,(bC_ BK272.out 4).trans rfl,(bC_ BK272.out 5).trans rfl,(bC_ BK272.out 6).trans rfl⟩ (fun hHeld=>?_);refine with_tabW laws_FnExactServerHear.tab8 laws_FnExactServerHear.bits8 (fun HT_ HW_=>?_)
              generalize w54.drew=w55 at BK271 BK272 HB hHeld ⊢
              refine take_ (i:=0) (N:=some 27) (v:=?_) (a':=?_) #[true,false,false,false,false,false,false,false,false,false,false] rfl rfl (take_ofW HT_.out HW_.out (by kernel_rfl)) (fun _ _ _ h=>h) (Or.inl ⟨by rfl,?_⟩) hHeld ?_ ?_
              rotate_left
              ·rintro w' ⟨s0,s1,s2,s3,s4,s5,s6,s7,s8,s9⟩
               go_simp
               with_reducible rfl
              rotate_left
              ·simp only [Act.put,List.setIfInBounds_toArray,List.set_cons_zero,List.set_cons_succ,i64_w,i32_w]
               rfl
              refine take_ (i:=2) (N:=some 29) (v:=?_) (a':=?_) #[true,false,true,false,false,false,false,false,false,false,false] rfl rfl (take_ofW HT_.out HW_.out (by kernel_rfl)) (fun _ _ _ h=>h) (Or.inl ⟨by rfl,?_⟩) hHeld ?_ ?_
              rotate_left
              ·rintro w' ⟨s0,s1,s2,s3,s4,s5,s6,s7,s8,s9⟩
               go_simp
               with_reducible rfl
              rotate_left
              ·simp only [Act.put,List.setIfInBounds_toArray,List.set_cons_zero,List.set_cons_succ,i64_w,i32_w]
               rfl
              refine join_ (σ:=Value×Value×Nat) 2 #[true,true,true,true,true,true,true,true,true,false,false] (fun s_=>[(28,.agg #[s_.1,.int .i64 t278,.bool t279]),(30,.agg #[.int .i64 t280,.int .i64 t281,.int .i64 t282,.int .i64 t283,.int .i64 t284,.int .i64 t285,.string t286]),(31,.tuple #[.agg #[s_.2.1,.int .i64 t290,.bool t291],.bool t292]),(6,.pointer (some ⟨s_.2.2,0,none⟩)),(26,.tuple #[.agg #[s_.2.1,.int .i64 t290,.bool t291],.bool t292]),(32,.agg #[s_.2.1,.int .i64 t290,.bool t291]),(33,.bool t292)]) (fun s_ w'=>(w'.cell? ⟨gb271,0,none⟩=some (.slice A0_0 l0_0.length c0_0)∧w'.cell? ⟨gb271,1,none⟩=some (.int .i64 a0_1)∧w'.cell? ⟨gb271,2,none⟩=some (.bool a0_2)∧w'.cell? ⟨gb272,0,none⟩=some (.int .i64 a1_0)∧w'.cell? ⟨gb272,1,none⟩=some (.int .i64 a1_1)∧w'.cell? ⟨gb272,2,none⟩=some (.int .i64 a1_2)∧w'.cell? ⟨gb272,3,none⟩=some (.int .i64 a1_3)∧w'.cell? ⟨gb272,4,none⟩=some (.int .i64 a1_4)∧w'.cell? ⟨gb272,5,none⟩=some (.int .i64 a1_5)∧w'.cell? ⟨gb272,6,none⟩=some (.string a1_6))∧(Kd.R k44 44 w' w.heap.size (fun k_=>some k_≠(s_.2.1:Value).ownBlock) s_.1 t275)∧(Kd.R k44 44 w' w.heap.size (fun k_=>some k_≠(s_.1:Value).ownBlock) s_.2.1 t287)∧(w'.heap[gb271]?=some (.cells #[.slice A0_0 l0_0.length c0_0,.int .i64 a0_1,.bool a0_2] 32 (0,0)))∧(w'.heap[gb272]?=some (.cells #[.int .i64 a1_0,.int .i64 a1_1,.int .i64 a1_2,.int .i64 a1_3,.int .i64 a1_4,.int .i64 a1_5,.string a1_6] 36 (0,0)))∧(w'.heap[s_.2.2]?=some (.cells #[.slice none 0 0,.int .i64 0,.bool false] 25 (0,0)))∧(w.heap.size≤s_.2.2)∧(w.heap.size≤s_.2.2)∧(gb271≠s_.2.2)∧(s_.2.2≠gb271)∧(gb272≠s_.2.2)∧(s_.2.2≠gb272)∧(Below w.heap.size w w')) ?_ ?_
              rotate_left
              ·intro hCont
               refine two_ (i:=1) (j:=8) (Ni:=some 28) (Nj:=some 6) #[true,true,true,false,false,false,false,false,false,false,false] #[true,false,true,false,false,false,false,false,true,false,false] rfl rfl rfl rfl (two_of HT_.out (by kernel_rfl)) (by decide) (by decide) (fun K hK=>?_) (fun K hK=>?_)
               ·skip
                refine goes_ Tryd.func22 (by kernel_rfl) rfl #[.agg #[.slice A0_0 l0_0.length c0_0,.int .i64 a0_1,.bool a0_2]] (by rfl) rfl rfl ar_ ?_
                with_reducible refine (laws_toServer.calls k _ _ l0_0 a0_1 a0_2 t275 t278 t279 _ ?side1 ?side2 A19.out).mono ?_
                (case side1=>exact cp_ HR0_0.out)
                (case side2=>exact HC0_0.out)
                rintro e w56 ⟨v276,rfl,ho0,hb⟩
                refine ⟨_,rfl,?_⟩
                have n0_:=a_ (Kd.R_lower ho0 (below_size (bel_)))
                have n1_:=a_ (blk_below (g:=gb271) (o:=.cells #[.slice A0_0 l0_0.length c0_0,.int .i64 a0_1,.bool a0_2] 32 (0,0)) (bp_ BK271.out) hb)
                have n2_:=a_ (blk_below (g:=gb272) (o:=.cells #[.int .i64 a1_0,.int .i64 a1_1,.int .i64 a1_2,.int .i64 a1_3,.int .i64 a1_4,.int .i64 a1_5,.string a1_6] 36 (0,0)) (bp_ BK272.out) hb)
                have n3_:=a_ (bS_ (bel_) hb)
                clear BK271
                clear BK272
                clear HB
                have HO277:=n0_
                have BK271:=n1_
                have BK272:=n2_
                have HB:=n3_
                clear n0_ n1_ n2_ n3_
                (try clear hb)
                (try clear hb2)
                (try clear hk)
                (try clear hi)
                (try clear ho0)
                refine hK.out _ _ ⟨(bC_ BK271.out 0).trans rfl,(bC_ BK271.out 1).trans rfl,(bC_ BK271.out 2).trans rfl,(bC_ BK272.out 0).trans rfl,(bC_ BK272.out 1).trans rfl,(bC_ BK272.out 2).trans rfl,(bC_ BK272.out 3).trans rfl,(bC_ BK272.out 4).trans rfl,(bC_ BK272.out 5).trans rfl,(bC_ BK272.out 6).trans rfl⟩ (fun hHeld=>?_)
                clear hK K
                refine norm_ (a':=?_) ?_ ?_
                rotate_left
                ·show Act.put _ (some 28) _=_
                 simp only [Act.put,List.setIfInBounds_toArray,List.set_cons_zero,List.set_cons_succ,i64_w,i32_w]
                 rfl
                refine two_ (i:=3) (j:=8) (Ni:=some 30) (Nj:=some 6) #[true,true,true,true,false,false,false,false,false,false,false] #[true,true,true,false,false,false,false,false,true,false,false] rfl rfl rfl rfl (two_of HT_.out (by kernel_rfl)) (by decide) (by decide) (fun K hK=>?_) (fun K hK=>?_)
                ·skip
                 refine goes_ Tryd.func23 (by kernel_rfl) rfl #[.agg #[.int .i64 a1_0,.int .i64 a1_1,.int .i64 a1_2,.int .i64 a1_3,.int .i64 a1_4,.int .i64 a1_5,.string a1_6]] (by rfl) rfl rfl ar_ ?_
                 with_reducible refine (laws_toEntry.calls a1_0 a1_1 a1_2 a1_3 a1_4 a1_5 a1_6 t280 t281 t282 t283 t284 t285 t286 _ A20.out).mono ?_
                 rintro e w57 ⟨rfl,hb⟩
                 refine ⟨_,rfl,?_⟩
                 have n0_:=a_ (Kd.R_below (rp_ HO277.out) hb)
                 have n1_:=a_ (blk_below (g:=gb271) (o:=.cells #[.slice A0_0 l0_0.length c0_0,.int .i64 a0_1,.bool a0_2] 32 (0,0)) (bp_ BK271.out) hb)
                 have n2_:=a_ (blk_below (g:=gb272) (o:=.cells #[.int .i64 a1_0,.int .i64 a1_1,.int .i64 a1_2,.int .i64 a1_3,.int .i64 a1_4,.int .i64 a1_5,.string a1_6] 36 (0,0)) (bp_ BK272.out) hb)
                 have n3_:=a_ (bS_ (bel_) hb)
                 clear HO277
                 clear BK271
                 clear BK272
                 clear HB
                 have HO277:=n0_
                 have BK271:=n1_
                 have BK272:=n2_
                 have HB:=n3_
                 clear n0_ n1_ n2_ n3_
                 (try clear hb)
                 (try clear hb2)
                 (try clear hk)
                 (try clear hi)
                 obtain ⟨Ao58,co58,eo58⟩:=Kd.R_slice HO277.out
                 (first|subst eo58|(injection eo58 with f1_ f2_ f3_;have f4_:=f1_.symm;have f5_:=f3_.symm;clear f1_ f2_ f3_;subst f4_;subst f5_))
                 refine hK.out _ _ ⟨(bC_ BK271.out 0).trans rfl,(bC_ BK271.out 1).trans rfl,(bC_ BK271.out 2).trans rfl,(bC_ BK272.out 0).trans rfl,(bC_ BK272.out 1).trans rfl,(bC_ BK272.out 2).trans rfl,(bC_ BK272.out 3).trans rfl,(bC_ BK272.out 4).trans rfl,(bC_ BK272.out 5).trans rfl,(bC_ BK272.out 6).trans rfl⟩ (fun hHeld=>?_)
                 clear hK K
                 refine norm_ (a':=?_) ?_ ?_
                 rotate_left
                 ·show Act.put _ (some 30) _=_
                  simp only [Act.put,List.setIfInBounds_toArray,List.set_cons_zero,List.set_cons_succ,i64_w,i32_w]
                  rfl
                 refine two_ (i:=4) (j:=8) (Ni:=some 31) (Nj:=some 6) #[true,true,true,true,true,false,false,false,false,false,false] #[true,true,true,true,false,false,false,false,true,false,false] rfl rfl rfl rfl (two_of HT_.out (by kernel_rfl)) (by decide) (by decide) (fun K hK=>?_) (fun K hK=>?_)
                 ·skip
                  refine goes_ Tryd.func21 (by kernel_rfl) rfl #[.agg #[.slice Ao58 t275.length co58,.int .i64 t278,.bool t279],.agg #[.int .i64 t280,.int .i64 t281,.int .i64 t282,.int .i64 t283,.int .i64 t284,.int .i64 t285,.string t286]] (by rfl) rfl rfl ar_ ?_
                  with_reducible refine (spec_ServerHear.calls k _ _ t275 t278 t279 t280 t281 t282 t283 t284 t285 t286 t287 t290 t291 t292 _ ?side1 ?side2 A21.out).mono ?_
                  (case side1=>exact cx_ (Kd.R_reads' HO277.out).2.2)
                  (case side2=>exact (Kd.R_reads' HO277.out).2.1)
                  rintro e w59 ⟨v288,rfl,ho0,hb⟩
                  refine ⟨_,rfl,?_⟩
                  have n0_:=a_ (Kd.R_elder' (rp_ HO277.out) (Kd.R_base ho0) hb)
                  have n1_:=a_ (Kd.R_lower (Kd.R_new' ho0 (Kd.R_lt (rp_ HO277.out))) (below_size (bel_)))
                  have n2_:=a_ (blk_below (g:=gb271) (o:=.cells #[.slice A0_0 l0_0.length c0_0,.int .i64 a0_1,.bool a0_2] 32 (0,0)) (bp_ BK271.out) hb)
                  have n3_:=a_ (blk_below (g:=gb272) (o:=.cells #[.int .i64 a1_0,.int .i64 a1_1,.int .i64 a1_2,.int .i64 a1_3,.int .i64 a1_4,.int .i64 a1_5,.string a1_6] 36 (0,0)) (bp_ BK272.out) hb)
                  have n4_:=a_ (bS_ (bel_) hb)
                  clear HO277
                  clear BK271
                  clear BK272
                  clear HB
                  have HO277:=n0_
                  have HO289:=n1_
                  have BK271:=n2_
                  have BK272:=n3_
                  have HB:=n4_
                  clear n0_ n1_ n2_ n3_ n4_
                  (try clear hb)
                  (try clear hb2)
                  (try clear hk)
                  (try clear hi)
                  (try clear ho0)
                  refine hK.out _ _ ⟨(bC_ BK271.out 0).trans rfl,(bC_ BK271.out 1).trans rfl,(bC_ BK271.out 2).trans rfl,(bC_ BK272.out 0).trans rfl,(bC_ BK272.out 1).trans rfl,(bC_ BK272.out 2).trans rfl,(bC_ BK272.out 3).trans rfl,(bC_ BK272.out 4).trans rfl,(bC_ BK272.out 5).trans rfl,(bC_ BK272.out 6).trans rfl⟩ (fun hHeld=>?_)
                  clear hK K
                  refine norm_ (a':=?_) ?_ ?_
                  rotate_left
                  ·show Act.put _ (some 31) _=_
                   simp only [Act.put,List.setIfInBounds_toArray,List.set_cons_zero,List.set_cons_succ,i64_w,i32_w]
                   rfl
                  refine pure_ (i:=5) (N:=some 26) (v:=?_) (a':=?_) #[true,true,true,true,true,true,false,false,false,false,false] rfl rfl (any_of HT_.out (by kernel_rfl)) (fun _ _ _ h=>h) (Or.inl ⟨by rfl,?_⟩) ?_ ?_
                  rotate_left
                  ·intro w'
                   go_simp
                   with_reducible rfl
                  rotate_left
                  ·simp only [Act.put,List.setIfInBounds_toArray,List.set_cons_zero,List.set_cons_succ,i64_w,i32_w]
                   rfl
                  refine pure_ (i:=6) (N:=some 32) (v:=?_) (a':=?_) #[true,true,true,true,true,true,true,false,false,false,false] rfl rfl (any_of HT_.out (by kernel_rfl)) (fun _ _ _ h=>h) (Or.inl ⟨by rfl,?_⟩) ?_ ?_
                  rotate_left
                  ·intro w'
                   go_simp
                   with_reducible rfl
                  rotate_left
                  ·simp only [Act.put,List.setIfInBounds_toArray,List.set_cons_zero,List.set_cons_succ,i64_w,i32_w]
                   rfl
                  refine pure_ (i:=7) (N:=some 33) (v:=?_) (a':=?_) #[true,true,true,true,true,true,true,true,false,false,false] rfl rfl (any_of HT_.out (by kernel_rfl)) (fun _ _ _ h=>h) (Or.inl ⟨by rfl,?_⟩) ?_ ?_
                  rotate_left
                  ·intro w'
                   go_simp
                   with_reducible rfl
                  rotate_left
                  ·simp only [Act.put,List.setIfInBounds_toArray,List.set_cons_zero,List.set_cons_succ,i64_w,i32_w]
                   rfl
                  refine one_ (i:=8) (N:=some 6) #[true,true,true,true,true,true,true,true,true,false,false] rfl rfl (one_of HT_.out (by kernel_rfl)) (by decide) (fun K hK=>?_)
                  refine box_step ?hg (N:=6) ?hd (cs:=#[.slice none 0 0,.int .i64 0,.bool false]) (t:=25) ?hr ?_;(case hd=>rfl);(case hg=>rfl);(case hr=>first|(go_simp;done)|(go_simp;rfl))
                  intro gb293 hg w60 hbox hb
                  have n0_:=a_ (Kd.R_below (rp_ HO277.out) hb)
                  have n1_:=a_ (Kd.R_below (rp_ HO289.out) hb)
                  have n2_:=a_ (blk_below (g:=gb271) (o:=.cells #[.slice A0_0 l0_0.length c0_0,.int .i64 a0_1,.bool a0_2] 32 (0,0)) (bp_ BK271.out) hb)
                  have n3_:=a_ (blk_below (g:=gb272) (o:=.cells #[.int .i64 a1_0,.int .i64 a1_1,.int .i64 a1_2,.int .i64 a1_3,.int .i64 a1_4,.int .i64 a1_5,.string a1_6] 36 (0,0)) (bp_ BK272.out) hb)
                  have n4_:=a_ (bS_ (bel_) hb)
                  have n5_:=a_ (hbox)
                  have n6_:=a_ ((by rw [hg];exact (below_size (bel_)):w.heap.size≤gb293))
                  have n7_:=a_ ((by rw [hg];exact (below_size (bel_)):w.heap.size≤gb293))
                  have n8_:=a_ ((by rw [hg];exact Nat.ne_of_lt (blk_lt (g:=gb271) (o:=.cells #[.slice A0_0 l0_0.length c0_0,.int .i64 a0_1,.bool a0_2] 32 (0,0)) (bp_ BK271.out)):gb271≠gb293))
                  have n9_:=a_ ((by rw [hg];exact Nat.ne_of_gt (blk_lt (g:=gb271) (o:=.cells #[.slice A0_0 l0_0.length c0_0,.int .i64 a0_1,.bool a0_2] 32 (0,0)) (bp_ BK271.out)):gb293≠gb271))
                  have n10_:=a_ ((by rw [hg];exact Nat.ne_of_lt (blk_lt (g:=gb272) (o:=.cells #[.int .i64 a1_0,.int .i64 a1_1,.int .i64 a1_2,.int .i64 a1_3,.int .i64 a1_4,.int .i64 a1_5,.string a1_6] 36 (0,0)) (bp_ BK272.out)):gb272≠gb293))
                  have n11_:=a_ ((by rw [hg];exact Nat.ne_of_gt (blk_lt (g:=gb272) (o:=.cells #[.int .i64 a1_0,.int .i64 a1_1,.int .i64 a1_2,.int .i64 a1_3,.int .i64 a1_4,.int .i64 a1_5,.string a1_6] 36 (0,0)) (bp_ BK272.out)):gb293≠gb272))
                  clear HO277
                  clear HO289
                  clear BK271
                  clear BK272
                  clear HB
                  have HO277:=n0_
                  have HO289:=n1_
                  have BK271:=n2_
                  have BK272:=n3_
                  have HB:=n4_
                  have BK293:=n5_
                  have GW293:=n6_
                  have GE293:=n7_
                  have NB271_293:=n8_
                  have NB293_271:=n9_
                  have NB272_293:=n10_
                  have NB293_272:=n11_
                  clear n0_ n1_ n2_ n3_ n4_ n5_ n6_ n7_ n8_ n9_ n10_ n11_
                  clear hb hbox hg
                  refine hK.out _ _ ⟨(bC_ BK271.out 0).trans rfl,(bC_ BK271.out 1).trans rfl,(bC_ BK271.out 2).trans rfl,(bC_ BK272.out 0).trans rfl,(bC_ BK272.out 1).trans rfl,(bC_ BK272.out 2).trans rfl,(bC_ BK272.out 3).trans rfl,(bC_ BK272.out 4).trans rfl,(bC_ BK272.out 5).trans rfl,(bC_ BK272.out 6).trans rfl⟩ (fun hHeld=>?_)
                  clear hK K
                  refine norm_ (a':=?_) ?_ ?_
                  rotate_left
                  ·show Act.put _ (some 6) _=_
                   simp only [Act.put,List.setIfInBounds_toArray,List.set_cons_zero,List.set_cons_succ,i64_w,i32_w]
                   rfl
                  exact norm_ (by simp only [putAll,Act.put,List.setIfInBounds_toArray,List.set_cons_zero,List.set_cons_succ]) (hCont (.slice Ao58 t275.length co58,v288,gb293) _ ⟨hHeld,(by (with_reducible repeat (first|apply Kd.R_alloc|apply Kd.R_drewN|apply Kd.R_drew));exact Kd.R_mono HO277.out (fun _ hk=>hk.2)),(by (with_reducible repeat (first|apply Kd.R_alloc|apply Kd.R_drewN|apply Kd.R_drew));exact Kd.R_mono HO289.out (fun _ hk=>hk.2)),(bp_ BK271.out),(bp_ BK272.out),(bp_ BK293.out),GW293.out,GE293.out,NB271_293.out,NB293_271.out,NB272_293.out,NB293_272.out,(bel_)⟩)
                 ·skip
                  refine box_step ?hg (N:=6) ?hd (cs:=#[.slice none 0 0,.int .i64 0,.bool false]) (t:=25) ?hr ?_;(case hd=>rfl);(case hg=>rfl);(case hr=>first|(go_simp;done)|(go_simp;rfl))
                  intro gb293 hg w58 hbox hb
                  have n0_:=a_ (Kd.R_below (rp_ HO277.out) hb)
                  have n1_:=a_ (blk_below (g:=gb271) (o:=.cells #[.slice A0_0 l0_0.length c0_0,.int .i64 a0_1,.bool a0_2] 32 (0,0)) (bp_ BK271.out) hb)
                  have n2_:=a_ (blk_below (g:=gb272) (o:=.cells #[.int .i64 a1_0,.int .i64 a1_1,.int .i64 a1_2,.int .i64 a1_3,.int .i64 a1_4,.int .i64 a1_5,.string a1_6] 36 (0,0)) (bp_ BK272.out) hb)
                  have n3_:=a_ (bS_ (bel_) hb)
                  have n4_:=a_ (hbox)
                  have n5_:=a_ ((by rw [hg];exact (below_size (bel_)):w.heap.size≤gb293))
                  have n6_:=a_ ((by rw [hg];exact (below_size (bel_)):w.heap.size≤gb293))
                  have n7_:=a_ ((by rw [hg];exact Nat.ne_of_lt (blk_lt (g:=gb271) (o:=.cells #[.slice A0_0 l0_0.length c0_0,.int .i64 a0_1,.bool a0_2] 32 (0,0)) (bp_ BK271.out)):gb271≠gb293))
                  have n8_:=a_ ((by rw [hg];exact Nat.ne_of_gt (blk_lt (g:=gb271) (o:=.cells #[.slice A0_0 l0_0.length c0_0,.int .i64 a0_1,.bool a0_2] 32 (0,0)) (bp_ BK271.out)):gb293≠gb271))
                  have n9_:=a_ ((by rw [hg];exact Nat.ne_of_lt (blk_lt (g:=gb272) (o:=.cells #[.int .i64 a1_0,.int .i64 a1_1,.int .i64 a1_2,.int .i64 a1_3,.int .i64 a1_4,.int .i64 a1_5,.string a1_6] 36 (0,0)) (bp_ BK272.out)):gb272≠gb293))
                  have n10_:=a_ ((by rw [hg];exact Nat.ne_of_gt (blk_lt (g:=gb272) (o:=.cells #[.int .i64 a1_0,.int .i64 a1_1,.int .i64 a1_2,.int .i64 a1_3,.int .i64 a1_4,.int .i64 a1_5,.string a1_6] 36 (0,0)) (bp_ BK272.out)):gb293≠gb272))
                  clear HO277
                  clear BK271
                  clear BK272
                  clear HB
                  have HO277:=n0_
                  have BK271:=n1_
                  have BK272:=n2_
                  have HB:=n3_
                  have BK293:=n4_
                  have GW293:=n5_
                  have GE293:=n6_
                  have NB271_293:=n7_
                  have NB293_271:=n8_
                  have NB272_293:=n9_
                  have NB293_272:=n10_
                  clear n0_ n1_ n2_ n3_ n4_ n5_ n6_ n7_ n8_ n9_ n10_
                  clear hb hbox hg
                  obtain ⟨Ao59,co59,eo59⟩:=Kd.R_slice HO277.out
                  (first|subst eo59|(injection eo59 with f1_ f2_ f3_;have f4_:=f1_.symm;have f5_:=f3_.symm;clear f1_ f2_ f3_;subst f4_;subst f5_))
                  refine hK.out _ _ ⟨(bC_ BK271.out 0).trans rfl,(bC_ BK271.out 1).trans rfl,(bC_ BK271.out 2).trans rfl,(bC_ BK272.out 0).trans rfl,(bC_ BK272.out 1).trans rfl,(bC_ BK272.out 2).trans rfl,(bC_ BK272.out 3).trans rfl,(bC_ BK272.out 4).trans rfl,(bC_ BK272.out 5).trans rfl,(bC_ BK272.out 6).trans rfl⟩ (fun hHeld=>?_)
                  clear hK K
                  refine norm_ (a':=?_) ?_ ?_
                  rotate_left
                  ·show Act.put _ (some 6) _=_
                   simp only [Act.put,List.setIfInBounds_toArray,List.set_cons_zero,List.set_cons_succ,i64_w,i32_w]
                   rfl
                  refine one_ (i:=4) (N:=some 31) #[true,true,true,true,true,false,false,false,true,false,false] rfl rfl (one_of HT_.out (by kernel_rfl)) (by decide) (fun K hK=>?_)
                  refine goes_ Tryd.func21 (by kernel_rfl) rfl #[.agg #[.slice Ao59 t275.length co59,.int .i64 t278,.bool t279],.agg #[.int .i64 t280,.int .i64 t281,.int .i64 t282,.int .i64 t283,.int .i64 t284,.int .i64 t285,.string t286]] (by rfl) rfl rfl ar_ ?_
                  with_reducible refine (spec_ServerHear.calls k _ _ t275 t278 t279 t280 t281 t282 t283 t284 t285 t286 t287 t290 t291 t292 _ ?side1 ?side2 A21.out).mono ?_
                  (case side1=>exact cx_ (Kd.R_reads' HO277.out).2.2)
                  (case side2=>exact (Kd.R_reads' HO277.out).2.1)
                  rintro e w60 ⟨v288,rfl,ho0,hb⟩
                  refine ⟨_,rfl,?_⟩
                  have n0_:=a_ (Kd.R_elder' (rp_ HO277.out) (Kd.R_base ho0) hb)
                  have n1_:=a_ (Kd.R_lower (Kd.R_new' ho0 (Kd.R_lt (rp_ HO277.out))) (below_size (bel_)))
                  have n2_:=a_ (blk_below (g:=gb271) (o:=.cells #[.slice A0_0 l0_0.length c0_0,.int .i64 a0_1,.bool a0_2] 32 (0,0)) (bp_ BK271.out) hb)
                  have n3_:=a_ (blk_below (g:=gb272) (o:=.cells #[.int .i64 a1_0,.int .i64 a1_1,.int .i64 a1_2,.int .i64 a1_3,.int .i64 a1_4,.int .i64 a1_5,.string a1_6] 36 (0,0)) (bp_ BK272.out) hb)
                  have n4_:=a_ (blk_below (g:=gb293) (o:=.cells #[.slice none 0 0,.int .i64 0,.bool false] 25 (0,0)) (bp_ BK293.out) hb)
                  have n5_:=a_ (bS_ (bel_) hb)
                  clear HO277
                  clear BK271
                  clear BK272
                  clear BK293
                  clear HB
                  have HO277:=n0_
                  have HO289:=n1_
                  have BK271:=n2_
                  have BK272:=n3_
                  have BK293:=n4_
                  have HB:=n5_
                  clear n0_ n1_ n2_ n3_ n4_ n5_
                  (try clear hb)
                  (try clear hb2)
                  (try clear hk)
                  (try clear hi)
                  (try clear ho0)
                  refine hK.out _ _ ⟨(bC_ BK271.out 0).trans rfl,(bC_ BK271.out 1).trans rfl,(bC_ BK271.out 2).trans rfl,(bC_ BK272.out 0).trans rfl,(bC_ BK272.out 1).trans rfl,(bC_ BK272.out 2).trans rfl,(bC_ BK272.out 3).trans rfl,(bC_ BK272.out 4).trans rfl,(bC_ BK272.out 5).trans rfl,(bC_ BK272.out 6).trans rfl⟩ (fun hHeld=>?_)
                  clear hK K
                  refine norm_ (a':=?_) ?_ ?_
                  rotate_left
                  ·show Act.put _ (some 31) _=_
                   simp only [Act.put,List.setIfInBounds_toArray,List.set_cons_zero,List.set_cons_succ,i64_w,i32_w]
                   rfl
                  refine pure_ (i:=5) (N:=some 26) (v:=?_) (a':=?_) #[true,true,true,true,true,true,false,false,true,false,false] rfl rfl (any_of HT_.out (by kernel_rfl)) (fun _ _ _ h=>h) (Or.inl ⟨by rfl,?_⟩) ?_ ?_
                  rotate_left
                  ·intro w'
                   go_simp
                   with_reducible rfl
                  rotate_left
                  ·simp only [Act.put,List.setIfInBounds_toArray,List.set_cons_zero,List.set_cons_succ,i64_w,i32_w]
                   rfl
                  refine pure_ (i:=6) (N:=some 32) (v:=?_) (a':=?_) #[true,true,true,true,true,true,true,false,true,false,false] rfl rfl (any_of HT_.out (by kernel_rfl)) (fun _ _ _ h=>h) (Or.inl ⟨by rfl,?_⟩) ?_ ?_
                  rotate_left
                  ·intro w'
                   go_simp
                   with_reducible rfl
                  rotate_left
                  ·simp only [Act.put,List.setIfInBounds_toArray,List.set_cons_zero,List.set_cons_succ,i64_w,i32_w]
                   rfl
                  refine pure_ (i:=7) (N:=some 33) (v:=?_) (a':=?_) #[true,true,true,true,true,true,true,true,true,false,false] rfl rfl (any_of HT_.out (by kernel_rfl)) (fun _ _ _ h=>h) (Or.inl ⟨by rfl,?_⟩) ?_ ?_
                  rotate_left
                  ·intro w'
                   go_simp
                   with_reducible rfl
                  rotate_left
                  ·simp only [Act.put,List.setIfInBounds_toArray,List.set_cons_zero,List.set_cons_succ,i64_w,i32_w]
                   rfl
                  exact norm_ (by simp only [putAll,Act.put,List.setIfInBounds_toArray,List.set_cons_zero,List.set_cons_succ]) (hCont (.slice Ao59 t275.length co59,v288,gb293) _ ⟨hHeld,(by (with_reducible repeat (first|apply Kd.R_alloc|apply Kd.R_drewN|apply Kd.R_drew));exact Kd.R_mono HO277.out (fun _ hk=>hk.2)),(by (with_reducible repeat (first|apply Kd.R_alloc|apply Kd.R_drewN|apply Kd.R_drew));exact Kd.R_mono HO289.out (fun _ hk=>hk.2)),(bp_ BK271.out),(bp_ BK272.out),(bp_ BK293.out),GW293.out,GE293.out,NB271_293.out,NB293_271.out,NB272_293.out,NB293_272.out,(bel_)⟩)
                ·skip
                 refine box_step ?hg (N:=6) ?hd (cs:=#[.slice none 0 0,.int .i64 0,.bool false]) (t:=25) ?hr ?_;(case hd=>rfl);(case hg=>rfl);(case hr=>first|(go_simp;done)|(go_simp;rfl))
                 intro gb293 hg w57 hbox hb
                 have n0_:=a_ (Kd.R_below (rp_ HO277.out) hb)
                 have n1_:=a_ (blk_below (g:=gb271) (o:=.cells #[.slice A0_0 l0_0.length c0_0,.int .i64 a0_1,.bool a0_2] 32 (0,0)) (bp_ BK271.out) hb)
                 have n2_:=a_ (blk_below (g:=gb272) (o:=.cells #[.int .i64 a1_0,.int .i64 a1_1,.int .i64 a1_2,.int .i64 a1_3,.int .i64 a1_4,.int .i64 a1_5,.string a1_6] 36 (0,0)) (bp_ BK272.out) hb)
                 have n3_:=a_ (bS_ (bel_) hb)
                 have n4_:=a_ (hbox)
                 have n5_:=a_ ((by rw [hg];exact (below_size (bel_)):w.heap.size≤gb293))
                 have n6_:=a_ ((by rw [hg];exact (below_size (bel_)):w.heap.size≤gb293))
                 have n7_:=a_ ((by rw [hg];exact Nat.ne_of_lt (blk_lt (g:=gb271) (o:=.cells #[.slice A0_0 l0_0.length c0_0,.int .i64 a0_1,.bool a0_2] 32 (0,0)) (bp_ BK271.out)):gb271≠gb293))
                 have n8_:=a_ ((by rw [hg];exact Nat.ne_of_gt (blk_lt (g:=gb271) (o:=.cells #[.slice A0_0 l0_0.length c0_0,.int .i64 a0_1,.bool a0_2] 32 (0,0)) (bp_ BK271.out)):gb293≠gb271))
                 have n9_:=a_ ((by rw [hg];exact Nat.ne_of_lt (blk_lt (g:=gb272) (o:=.cells #[.int .i64 a1_0,.int .i64 a1_1,.int .i64 a1_2,.int .i64 a1_3,.int .i64 a1_4,.int .i64 a1_5,.string a1_6] 36 (0,0)) (bp_ BK272.out)):gb272≠gb293))
                 have n10_:=a_ ((by rw [hg];exact Nat.ne_of_gt (blk_lt (g:=gb272) (o:=.cells #[.int .i64 a1_0,.int .i64 a1_1,.int .i64 a1_2,.int .i64 a1_3,.int .i64 a1_4,.int .i64 a1_5,.string a1_6] 36 (0,0)) (bp_ BK272.out)):gb293≠gb272))
                 clear HO277
                 clear BK271
                 clear BK272
                 clear HB
                 have HO277:=n0_
                 have BK271:=n1_
                 have BK272:=n2_
                 have HB:=n3_
                 have BK293:=n4_
                 have GW293:=n5_
                 have GE293:=n6_
                 have NB271_293:=n7_
                 have NB293_271:=n8_
                 have NB272_293:=n9_
                 have NB293_272:=n10_
                 clear n0_ n1_ n2_ n3_ n4_ n5_ n6_ n7_ n8_ n9_ n10_
                 clear hb hbox hg
                 refine hK.out _ _ ⟨(bC_ BK271.out 0).trans rfl,(bC_ BK271.out 1).trans rfl,(bC_ BK271.out 2).trans rfl,(bC_ BK272.out 0).trans rfl,(bC_ BK272.out 1).trans rfl,(bC_ BK272.out 2).trans rfl,(bC_ BK272.out 3).trans rfl,(bC_ BK272.out 4).trans rfl,(bC_ BK272.out 5).trans rfl,(bC_ BK272.out 6).trans rfl⟩ (fun hHeld=>?_)
                 clear hK K
                 refine norm_ (a':=?_) ?_ ?_
                 rotate_left
                 ·show Act.put _ (some 6) _=_
                  simp only [Act.put,List.setIfInBounds_toArray,List.set_cons_zero,List.set_cons_succ,i64_w,i32_w]
                  rfl
                 refine one_ (i:=3) (N:=some 30) #[true,true,true,true,false,false,false,false,true,false,false] rfl rfl (one_of HT_.out (by kernel_rfl)) (by decide) (fun K hK=>?_)
                 refine goes_ Tryd.func23 (by kernel_rfl) rfl #[.agg #[.int .i64 a1_0,.int .i64 a1_1,.int .i64 a1_2,.int .i64 a1_3,.int .i64 a1_4,.int .i64 a1_5,.string a1_6]] (by rfl) rfl rfl ar_ ?_
                 with_reducible refine (laws_toEntry.calls a1_0 a1_1 a1_2 a1_3 a1_4 a1_5 a1_6 t280 t281 t282 t283 t284 t285 t286 _ A20.out).mono ?_
                 rintro e w58 ⟨rfl,hb⟩
                 refine ⟨_,rfl,?_⟩
                 have n0_:=a_ (Kd.R_below (rp_ HO277.out) hb)
                 have n1_:=a_ (blk_below (g:=gb271) (o:=.cells #[.slice A0_0 l0_0.length c0_0,.int .i64 a0_1,.bool a0_2] 32 (0,0)) (bp_ BK271.out) hb)
                 have n2_:=a_ (blk_below (g:=gb272) (o:=.cells #[.int .i64 a1_0,.int .i64 a1_1,.int .i64 a1_2,.int .i64 a1_3,.int .i64 a1_4,.int .i64 a1_5,.string a1_6] 36 (0,0)) (bp_ BK272.out) hb)
                 have n3_:=a_ (blk_below (g:=gb293) (o:=.cells #[.slice none 0 0,.int .i64 0,.bool false] 25 (0,0)) (bp_ BK293.out) hb)
                 have n4_:=a_ (bS_ (bel_) hb)
                 clear HO277
                 clear BK271
                 clear BK272
                 clear BK293
                 clear HB
                 have HO277:=n0_
                 have BK271:=n1_
                 have BK272:=n2_
                 have BK293:=n3_
                 have HB:=n4_
                 clear n0_ n1_ n2_ n3_ n4_
                 (try clear hb)
                 (try clear hb2)
                 (try clear hk)
                 (try clear hi)
                 obtain ⟨Ao59,co59,eo59⟩:=Kd.R_slice HO277.out
                 (first|subst eo59|(injection eo59 with f1_ f2_ f3_;have f4_:=f1_.symm;have f5_:=f3_.symm;clear f1_ f2_ f3_;subst f4_;subst f5_))
                 refine hK.out _ _ ⟨(bC_ BK271.out 0).trans rfl,(bC_ BK271.out 1).trans rfl,(bC_ BK271.out 2).trans rfl,(bC_ BK272.out 0).trans rfl,(bC_ BK272.out 1).trans rfl,(bC_ BK272.out 2).trans rfl,(bC_ BK272.out 3).trans rfl,(bC_ BK272.out 4).trans rfl,(bC_ BK272.out 5).trans rfl,(bC_ BK272.out 6).trans rfl⟩ (fun hHeld=>?_)
                 clear hK K
                 refine norm_ (a':=?_) ?_ ?_
                 rotate_left
                 ·show Act.put _ (some 30) _=_
                  simp only [Act.put,List.setIfInBounds_toArray,List.set_cons_zero,List.set_cons_succ,i64_w,i32_w]
                  rfl
                 refine one_ (i:=4) (N:=some 31) #[true,true,true,true,true,false,false,false,true,false,false] rfl rfl (one_of HT_.out (by kernel_rfl)) (by decide) (fun K hK=>?_)
                 refine goes_ Tryd.func21 (by kernel_rfl) rfl #[.agg #[.slice Ao59 t275.length co59,.int .i64 t278,.bool t279],.agg #[.int .i64 t280,.int .i64 t281,.int .i64 t282,.int .i64 t283,.int .i64 t284,.int .i64 t285,.string t286]] (by rfl) rfl rfl ar_ ?_
                 with_reducible refine (spec_ServerHear.calls k _ _ t275 t278 t279 t280 t281 t282 t283 t284 t285 t286 t287 t290 t291 t292 _ ?side1 ?side2 A21.out).mono ?_
                 (case side1=>exact cx_ (Kd.R_reads' HO277.out).2.2)
                 (case side2=>exact (Kd.R_reads' HO277.out).2.1)
                 rintro e w60 ⟨v288,rfl,ho0,hb⟩
                 refine ⟨_,rfl,?_⟩
                 have n0_:=a_ (Kd.R_elder' (rp_ HO277.out) (Kd.R_base ho0) hb)
                 have n1_:=a_ (Kd.R_lower (Kd.R_new' ho0 (Kd.R_lt (rp_ HO277.out))) (below_size (bel_)))
                 have n2_:=a_ (blk_below (g:=gb271) (o:=.cells #[.slice A0_0 l0_0.length c0_0,.int .i64 a0_1,.bool a0_2] 32 (0,0)) (bp_ BK271.out) hb)
                 have n3_:=a_ (blk_below (g:=gb272) (o:=.cells #[.int .i64 a1_0,.int .i64 a1_1,.int .i64 a1_2,.int .i64 a1_3,.int .i64 a1_4,.int .i64 a1_5,.string a1_6] 36 (0,0)) (bp_ BK272.out) hb)
                 have n4_:=a_ (blk_below (g:=gb293) (o:=.cells #[.slice none 0 0,.int .i64 0,.bool false] 25 (0,0)) (bp_ BK293.out) hb)
                 have n5_:=a_ (bS_ (bel_) hb)
                 clear HO277
                 clear BK271
                 clear BK272
                 clear BK293
                 clear HB
                 have HO277:=n0_
                 have HO289:=n1_
                 have BK271:=n2_
                 have BK272:=n3_
                 have BK293:=n4_
                 have HB:=n5_
                 clear n0_ n1_ n2_ n3_ n4_ n5_
                 (try clear hb)
                 (try clear hb2)
                 (try clear hk)
                 (try clear hi)
                 (try clear ho0)
                 refine hK.out _ _ ⟨(bC_ BK271.out 0).trans rfl,(bC_ BK271.out 1).trans rfl,(bC_ BK271.out 2).trans rfl,(bC_ BK272.out 0).trans rfl,(bC_ BK272.out 1).trans rfl,(bC_ BK272.out 2).trans rfl,(bC_ BK272.out 3).trans rfl,(bC_ BK272.out 4).trans rfl,(bC_ BK272.out 5).trans rfl,(bC_ BK272.out 6).trans rfl⟩ (fun hHeld=>?_)
                 clear hK K
                 refine norm_ (a':=?_) ?_ ?_
                 rotate_left
                 ·show Act.put _ (some 31) _=_
                  simp only [Act.put,List.setIfInBounds_toArray,List.set_cons_zero,List.set_cons_succ,i64_w,i32_w]
                  rfl
                 refine pure_ (i:=5) (N:=some 26) (v:=?_) (a':=?_) #[true,true,true,true,true,true,false,false,true,false,false] rfl rfl (any_of HT_.out (by kernel_rfl)) (fun _ _ _ h=>h) (Or.inl ⟨by rfl,?_⟩) ?_ ?_
                 rotate_left
                 ·intro w'
                  go_simp
                  with_reducible rfl
                 rotate_left
                 ·simp only [Act.put,List.setIfInBounds_toArray,List.set_cons_zero,List.set_cons_succ,i64_w,i32_w]
                  rfl
                 refine pure_ (i:=6) (N:=some 32) (v:=?_) (a':=?_) #[true,true,true,true,true,true,true,false,true,false,false] rfl rfl (any_of HT_.out (by kernel_rfl)) (fun _ _ _ h=>h) (Or.inl ⟨by rfl,?_⟩) ?_ ?_
                 rotate_left
                 ·intro w'
                  go_simp
                  with_reducible rfl
                 rotate_left
                 ·simp only [Act.put,List.setIfInBounds_toArray,List.set_cons_zero,List.set_cons_succ,i64_w,i32_w]
                  rfl
                 refine pure_ (i:=7) (N:=some 33) (v:=?_) (a':=?_) #[true,true,true,true,true,true,true,true,true,false,false] rfl rfl (any_of HT_.out (by kernel_rfl)) (fun _ _ _ h=>h) (Or.inl ⟨by rfl,?_⟩) ?_ ?_
                 rotate_left
                 ·intro w'
                  go_simp
                  with_reducible rfl
                 rotate_left
                 ·simp only [Act.put,List.setIfInBounds_toArray,List.set_cons_zero,List.set_cons_succ,i64_w,i32_w]
                  rfl
                 exact norm_ (by simp only [putAll,Act.put,List.setIfInBounds_toArray,List.set_cons_zero,List.set_cons_succ]) (hCont (.slice Ao59 t275.length co59,v288,gb293) _ ⟨hHeld,(by (with_reducible repeat (first|apply Kd.R_alloc|apply Kd.R_drewN|apply Kd.R_drew));exact Kd.R_mono HO277.out (fun _ hk=>hk.2)),(by (with_reducible repeat (first|apply Kd.R_alloc|apply Kd.R_drewN|apply Kd.R_drew));exact Kd.R_mono HO289.out (fun _ hk=>hk.2)),(bp_ BK271.out),(bp_ BK272.out),(bp_ BK293.out),GW293.out,GE293.out,NB271_293.out,NB293_271.out,NB272_293.out,NB293_272.out,(bel_)⟩)
               ·skip
                refine box_step ?hg (N:=6) ?hd (cs:=#[.slice none 0 0,.int .i64 0,.bool false]) (t:=25) ?hr ?_;(case hd=>rfl);(case hg=>rfl);(case hr=>first|(go_simp;done)|(go_simp;rfl))
                intro gb293 hg w56 hbox hb
                have n0_:=a_ (blk_below (g:=gb271) (o:=.cells #[.slice A0_0 l0_0.length c0_0,.int .i64 a0_1,.bool a0_2] 32 (0,0)) (bp_ BK271.out) hb)
                have n1_:=a_ (blk_below (g:=gb272) (o:=.cells #[.int .i64 a1_0,.int .i64 a1_1,.int .i64 a1_2,.int .i64 a1_3,.int .i64 a1_4,.int .i64 a1_5,.string a1_6] 36 (0,0)) (bp_ BK272.out) hb)
                have n2_:=a_ (bS_ (bel_) hb)
                have n3_:=a_ (hbox)
                have n4_:=a_ ((by rw [hg];exact (below_size (bel_)):w.heap.size≤gb293))
                have n5_:=a_ ((by rw [hg];exact (below_size (bel_)):w.heap.size≤gb293))
                have n6_:=a_ ((by rw [hg];exact Nat.ne_of_lt (blk_lt (g:=gb271) (o:=.cells #[.slice A0_0 l0_0.length c0_0,.int .i64 a0_1,.bool a0_2] 32 (0,0)) (bp_ BK271.out)):gb271≠gb293))
                have n7_:=a_ ((by rw [hg];exact Nat.ne_of_gt (blk_lt (g:=gb271) (o:=.cells #[.slice A0_0 l0_0.length c0_0,.int .i64 a0_1,.bool a0_2] 32 (0,0)) (bp_ BK271.out)):gb293≠gb271))
                have n8_:=a_ ((by rw [hg];exact Nat.ne_of_lt (blk_lt (g:=gb272) (o:=.cells #[.int .i64 a1_0,.int .i64 a1_1,.int .i64 a1_2,.int .i64 a1_3,.int .i64 a1_4,.int .i64 a1_5,.string a1_6] 36 (0,0)) (bp_ BK272.out)):gb272≠gb293))
                have n9_:=a_ ((by rw [hg];exact Nat.ne_of_gt (blk_lt (g:=gb272) (o:=.cells #[.int .i64 a1_0,.int .i64 a1_1,.int .i64 a1_2,.int .i64 a1_3,.int .i64 a1_4,.int .i64 a1_5,.string a1_6] 36 (0,0)) (bp_ BK272.out)):gb293≠gb272))
                clear BK271
                clear BK272
                clear HB
                have BK271:=n0_
                have BK272:=n1_
                have HB:=n2_
                have BK293:=n3_
                have GW293:=n4_
                have GE293:=n5_
                have NB271_293:=n6_
                have NB293_271:=n7_
                have NB272_293:=n8_
                have NB293_272:=n9_
                clear n0_ n1_ n2_ n3_ n4_ n5_ n6_ n7_ n8_ n9_
                clear hb hbox hg
                refine hK.out _ _ ⟨(bC_ BK271.out 0).trans rfl,(bC_ BK271.out 1).trans rfl,(bC_ BK271.out 2).trans rfl,(bC_ BK272.out 0).trans rfl,(bC_ BK272.out 1).trans rfl,(bC_ BK272.out 2).trans rfl,(bC_ BK272.out 3).trans rfl,(bC_ BK272.out 4).trans rfl,(bC_ BK272.out 5).trans rfl,(bC_ BK272.out 6).trans rfl⟩ (fun hHeld=>?_)
                clear hK K
                refine norm_ (a':=?_) ?_ ?_
                rotate_left
                ·show Act.put _ (some 6) _=_
                 simp only [Act.put,List.setIfInBounds_toArray,List.set_cons_zero,List.set_cons_succ,i64_w,i32_w]
                 rfl
                refine one_ (i:=1) (N:=some 28) #[true,true,true,false,false,false,false,false,true,false,false] rfl rfl (one_of HT_.out (by kernel_rfl)) (by decide) (fun K hK=>?_)
                refine goes_ Tryd.func22 (by kernel_rfl) rfl #[.agg #[.slice A0_0 l0_0.length c0_0,.int .i64 a0_1,.bool a0_2]] (by rfl) rfl rfl ar_ ?_
                with_reducible refine (laws_toServer.calls k _ _ l0_0 a0_1 a0_2 t275 t278 t279 _ ?side1 ?side2 A19.out).mono ?_
                (case side1=>exact cp_ HR0_0.out)
                (case side2=>exact HC0_0.out)
                rintro e w57 ⟨v276,rfl,ho0,hb⟩
                refine ⟨_,rfl,?_⟩
                have n0_:=a_ (Kd.R_lower ho0 (below_size (bel_)))
                have n1_:=a_ (blk_below (g:=gb271) (o:=.cells #[.slice A0_0 l0_0.length c0_0,.int .i64 a0_1,.bool a0_2] 32 (0,0)) (bp_ BK271.out) hb)
                have n2_:=a_ (blk_below (g:=gb272) (o:=.cells #[.int .i64 a1_0,.int .i64 a1_1,.int .i64 a1_2,.int .i64 a1_3,.int .i64 a1_4,.int .i64 a1_5,.string a1_6] 36 (0,0)) (bp_ BK272.out) hb)
                have n3_:=a_ (blk_below (g:=gb293) (o:=.cells #[.slice none 0 0,.int .i64 0,.bool false] 25 (0,0)) (bp_ BK293.out) hb)
                have n4_:=a_ (bS_ (bel_) hb)
                clear BK271
                clear BK272
                clear BK293
                clear HB
                have HO277:=n0_
                have BK271:=n1_
                have BK272:=n2_
                have BK293:=n3_
                have HB:=n4_
                clear n0_ n1_ n2_ n3_ n4_
                (try clear hb)
                (try clear hb2)
                (try clear hk)
                (try clear hi)
                (try clear ho0)
                refine hK.out _ _ ⟨(bC_ BK271.out 0).trans rfl,(bC_ BK271.out 1).trans rfl,(bC_ BK271.out 2).trans rfl,(bC_ BK272.out 0).trans rfl,(bC_ BK272.out 1).trans rfl,(bC_ BK272.out 2).trans rfl,(bC_ BK272.out 3).trans rfl,(bC_ BK272.out 4).trans rfl,(bC_ BK272.out 5).trans rfl,(bC_ BK272.out 6).trans rfl⟩ (fun hHeld=>?_)
                clear hK K
                refine norm_ (a':=?_) ?_ ?_
                rotate_left
                ·show Act.put _ (some 28) _=_
                 simp only [Act.put,List.setIfInBounds_toArray,List.set_cons_zero,List.set_cons_succ,i64_w,i32_w]
                 rfl
                refine one_ (i:=3) (N:=some 30) #[true,true,true,true,false,false,false,false,true,false,false] rfl rfl (one_of HT_.out (by kernel_rfl)) (by decide) (fun K hK=>?_)
                refine goes_ Tryd.func23 (by kernel_rfl) rfl #[.agg #[.int .i64 a1_0,.int .i64 a1_1,.int .i64 a1_2,.int .i64 a1_3,.int .i64 a1_4,.int .i64 a1_5,.string a1_6]] (by rfl) rfl rfl ar_ ?_
                with_reducible refine (laws_toEntry.calls a1_0 a1_1 a1_2 a1_3 a1_4 a1_5 a1_6 t280 t281 t282 t283 t284 t285 t286 _ A20.out).mono ?_
                rintro e w58 ⟨rfl,hb⟩
                refine ⟨_,rfl,?_⟩
                have n0_:=a_ (Kd.R_below (rp_ HO277.out) hb)
                have n1_:=a_ (blk_below (g:=gb271) (o:=.cells #[.slice A0_0 l0_0.length c0_0,.int .i64 a0_1,.bool a0_2] 32 (0,0)) (bp_ BK271.out) hb)
                have n2_:=a_ (blk_below (g:=gb272) (o:=.cells #[.int .i64 a1_0,.int .i64 a1_1,.int .i64 a1_2,.int .i64 a1_3,.int .i64 a1_4,.int .i64 a1_5,.string a1_6] 36 (0,0)) (bp_ BK272.out) hb)
                have n3_:=a_ (blk_below (g:=gb293) (o:=.cells #[.slice none 0 0,.int .i64 0,.bool false] 25 (0,0)) (bp_ BK293.out) hb)
                have n4_:=a_ (bS_ (bel_) hb)
                clear HO277
                clear BK271
                clear BK272
                clear BK293
                clear HB
                have HO277:=n0_
                have BK271:=n1_
                have BK272:=n2_
                have BK293:=n3_
                have HB:=n4_
                clear n0_ n1_ n2_ n3_ n4_
                (try clear hb)
                (try clear hb2)
                (try clear hk)
                (try clear hi)
                obtain ⟨Ao59,co59,eo59⟩:=Kd.R_slice HO277.out
                (first|subst eo59|(injection eo59 with f1_ f2_ f3_;have f4_:=f1_.symm;have f5_:=f3_.symm;clear f1_ f2_ f3_;subst f4_;subst f5_))
                refine hK.out _ _ ⟨(bC_ BK271.out 0).trans rfl,(bC_ BK271.out 1).trans rfl,(bC_ BK271.out 2).trans rfl,(bC_ BK272.out 0).trans rfl,(bC_ BK272.out 1).trans rfl,(bC_ BK272.out 2).trans rfl,(bC_ BK272.out 3).trans rfl,(bC_ BK272.out 4).trans rfl,(bC_ BK272.out 5).trans rfl,(bC_ BK272.out 6).trans rfl⟩ (fun hHeld=>?_)
                clear hK K
                refine norm_ (a':=?_) ?_ ?_
                rotate_left
                ·show Act.put _ (some 30) _=_
                 simp only [Act.put,List.setIfInBounds_toArray,List.set_cons_zero,List.set_cons_succ,i64_w,i32_w]
                 rfl
                refine one_ (i:=4) (N:=some 31) #[true,true,true,true,true,false,false,false,true,false,false] rfl rfl (one_of HT_.out (by kernel_rfl)) (by decide) (fun K hK=>?_)
                refine goes_ Tryd.func21 (by kernel_rfl) rfl #[.agg #[.slice Ao59 t275.length co59,.int .i64 t278,.bool t279],.agg #[.int .i64 t280,.int .i64 t281,.int .i64 t282,.int .i64 t283,.int .i64 t284,.int .i64 t285,.string t286]] (by rfl) rfl rfl ar_ ?_
                with_reducible refine (spec_ServerHear.calls k _ _ t275 t278 t279 t280 t281 t282 t283 t284 t285 t286 t287 t290 t291 t292 _ ?side1 ?side2 A21.out).mono ?_
                (case side1=>exact cx_ (Kd.R_reads' HO277.out).2.2)
                (case side2=>exact (Kd.R_reads' HO277.out).2.1)
                rintro e w60 ⟨v288,rfl,ho0,hb⟩
                refine ⟨_,rfl,?_⟩
                have n0_:=a_ (Kd.R_elder' (rp_ HO277.out) (Kd.R_base ho0) hb)
                have n1_:=a_ (Kd.R_lower (Kd.R_new' ho0 (Kd.R_lt (rp_ HO277.out))) (below_size (bel_)))
                have n2_:=a_ (blk_below (g:=gb271) (o:=.cells #[.slice A0_0 l0_0.length c0_0,.int .i64 a0_1,.bool a0_2] 32 (0,0)) (bp_ BK271.out) hb)
                have n3_:=a_ (blk_below (g:=gb272) (o:=.cells #[.int .i64 a1_0,.int .i64 a1_1,.int .i64 a1_2,.int .i64 a1_3,.int .i64 a1_4,.int .i64 a1_5,.string a1_6] 36 (0,0)) (bp_ BK272.out) hb)
                have n4_:=a_ (blk_below (g:=gb293) (o:=.cells #[.slice none 0 0,.int .i64 0,.bool false] 25 (0,0)) (bp_ BK293.out) hb)
                have n5_:=a_ (bS_ (bel_) hb)
                clear HO277
                clear BK271
                clear BK272
                clear BK293
                clear HB
                have HO277:=n0_
                have HO289:=n1_
                have BK271:=n2_
                have BK272:=n3_
                have BK293:=n4_
                have HB:=n5_
                clear n0_ n1_ n2_ n3_ n4_ n5_
                (try clear hb)
                (try clear hb2)
                (try clear hk)
                (try clear hi)
                (try clear ho0)
                refine hK.out _ _ ⟨(bC_ BK271.out 0).trans rfl,(bC_ BK271.out 1).trans rfl,(bC_ BK271.out 2).trans rfl,(bC_ BK272.out 0).trans rfl,(bC_ BK272.out 1).trans rfl,(bC_ BK272.out 2).trans rfl,(bC_ BK272.out 3).trans rfl,(bC_ BK272.out 4).trans rfl,(bC_ BK272.out 5).trans rfl,(bC_ BK272.out 6).trans rfl⟩ (fun hHeld=>?_)
                clear hK K
                refine norm_ (a':=?_) ?_ ?_
                rotate_left
                ·show Act.put _ (some 31) _=_
                 simp only [Act.put,List.setIfInBounds_toArray,List.set_cons_zero,List.set_cons_succ,i64_w,i32_w]
                 rfl
                refine pure_ (i:=5) (N:=some 26) (v:=?_) (a':=?_) #[true,true,true,true,true,true,false,false,true,false,false] rfl rfl (any_of HT_.out (by kernel_rfl)) (fun _ _ _ h=>h) (Or.inl ⟨by rfl,?_⟩) ?_ ?_
                rotate_left
                ·intro w'
                 go_simp
                 with_reducible rfl
                rotate_left
                ·simp only [Act.put,List.setIfInBounds_toArray,List.set_cons_zero,List.set_cons_succ,i64_w,i32_w]
                 rfl
                refine pure_ (i:=6) (N:=some 32) (v:=?_) (a':=?_) #[true,true,true,true,true,true,true,false,true,false,false] rfl rfl (any_of HT_.out (by kernel_rfl)) (fun _ _ _ h=>h) (Or.inl ⟨by rfl,?_⟩) ?_ ?_
                rotate_left
                ·intro w'
                 go_simp
                 with_reducible rfl
                rotate_left
                ·simp only [Act.put,List.setIfInBounds_toArray,List.set_cons_zero,List.set_cons_succ,i64_w,i32_w]
                 rfl
                refine pure_ (i:=7) (N:=some 33) (v:=?_) (a':=?_) #[true,true,true,true,true,true,true,true,true,false,false] rfl rfl (any_of HT_.out (by kernel_rfl)) (fun _ _ _ h=>h) (Or.inl ⟨by rfl,?_⟩) ?_ ?_
                rotate_left
                ·intro w'
                 go_simp
                 with_reducible rfl
                rotate_left
                ·simp only [Act.put,List.setIfInBounds_toArray,List.set_cons_zero,List.set_cons_succ,i64_w,i32_w]
                 rfl
                exact norm_ (by simp only [putAll,Act.put,List.setIfInBounds_toArray,List.set_cons_zero,List.set_cons_succ]) (hCont (.slice Ao59 t275.length co59,v288,gb293) _ ⟨hHeld,(by (with_reducible repeat (first|apply Kd.R_alloc|apply Kd.R_drewN|apply Kd.R_drew));exact Kd.R_mono HO277.out (fun _ hk=>hk.2)),(by (with_reducible repeat (first|apply Kd.R_alloc|apply Kd.R_drewN|apply Kd.R_drew));exact Kd.R_mono HO289.out (fun _ hk=>hk.2)),(bp_ BK271.out),(bp_ BK272.out),(bp_ BK293.out),GW293.out,GE293.out,NB271_293.out,NB293_271.out,NB272_293.out,NB293_272.out,(bel_)⟩)
              rintro ⟨v276,v288,gb293⟩ w61 ⟨hS_,h0_,h1_,h2_,h3_,h4_,h5_,h6_,h7_,h8_,h9_,h10_,h11_⟩
              have n0_:Aside0 (Kd.R k44 44 w61 w.heap.size (fun k_=>some k_≠(v288:Value).ownBlock) v276 t275):=⟨h0_⟩
              have n1_:Aside0 (Kd.R k44 44 w61 w.heap.size (fun k_=>some k_≠(v276:Value).ownBlock) v288 t287):=⟨h1_⟩
              have n2_:Aside0 (w61.heap[gb271]?=some (.cells #[.slice A0_0 l0_0.length c0_0,.int .i64 a0_1,.bool a0_2] 32 (0,0))):=⟨h2_⟩
              have n3_:Aside0 (w61.heap[gb272]?=some (.cells #[.int .i64 a1_0,.int .i64 a1_1,.int .i64 a1_2,.int .i64 a1_3,.int .i64 a1_4,.int .i64 a1_5,.string a1_6] 36 (0,0))):=⟨h3_⟩
              have n4_:Aside0 (w61.heap[gb293]?=some (.cells #[.slice none 0 0,.int .i64 0,.bool false] 25 (0,0))):=⟨h4_⟩
              have n5_:Aside0 (w.heap.size≤gb293):=⟨h5_⟩
              have n6_:Aside0 (w.heap.size≤gb293):=⟨h6_⟩
              have n7_:Aside0 (gb271≠gb293):=⟨h7_⟩
              have n8_:Aside0 (gb293≠gb271):=⟨h8_⟩
              have n9_:Aside0 (gb272≠gb293):=⟨h9_⟩
              have n10_:Aside0 (gb293≠gb272):=⟨h10_⟩
              have n11_:Aside0 (Below w.heap.size w w61):=⟨h11_⟩
              clear BK271
              clear BK272
              clear HB
              clear h0_ h1_ h2_ h3_ h4_ h5_ h6_ h7_ h8_ h9_ h10_ h11_
              have HO277:=n0_
              have HO289:=n1_
              have BK271:=n2_
              have BK272:=n3_
              have BK293:=n4_
              have GW293:=n5_
              have GE293:=n6_
              have NB271_293:=n7_
              have NB293_271:=n8_
              have NB272_293:=n9_
              have NB293_272:=n10_
              have HB:=n11_
              clear n0_ n1_ n2_ n3_ n4_ n5_ n6_ n7_ n8_ n9_ n10_ n11_
              have hHeld:w61.cell? ⟨gb271,0,none⟩=some (.slice A0_0 l0_0.length c0_0)∧w61.cell? ⟨gb271,1,none⟩=some (.int .i64 a0_1)∧w61.cell? ⟨gb271,2,none⟩=some (.bool a0_2)∧w61.cell? ⟨gb272,0,none⟩=some (.int .i64 a1_0)∧w61.cell? ⟨gb272,1,none⟩=some (.int .i64 a1_1)∧w61.cell? ⟨gb272,2,none⟩=some (.int .i64 a1_2)∧w61.cell? ⟨gb272,3,none⟩=some (.int .i64 a1_3)∧w61.cell? ⟨gb272,4,none⟩=some (.int .i64 a1_4)∧w61.cell? ⟨gb272,5,none⟩=some (.int .i64 a1_5)∧w61.cell? ⟨gb272,6,none⟩=some (.string a1_6):=hS_
              obtain ⟨Ao62,co62,eo62⟩:=Kd.R_slice HO289.out
              (first|subst eo62|(injection eo62 with f1_ f2_ f3_;have f4_:=f1_.symm;have f5_:=f3_.symm;clear f1_ f2_ f3_;subst f4_;subst f5_))
              refine norm_ (a':=?_) ?_ ?_
              rotate_left
              ·simp only [putAll,Act.put,List.setIfInBounds_toArray,List.set_cons_zero,List.set_cons_succ]
               rfl
              refine one_ (i:=9) (N:=none) #[true,true,true,true,true,true,true,true,true,true,false] rfl rfl (one_of HT_.out (by kernel_rfl)) (by decide) (fun K hK=>?_)
              have hs63:w61.cell? ⟨gb293,0,none⟩=some (.slice none 0 0):=(bC_ BK293.out 0).trans rfl
              have hfs63:=bF_ BK293.out 0
              have hns63_0:=NB271_293.out
              have hns63_1:=NB272_293.out
              have hms63_0:=NB293_271.out
              have hms63_1:=NB293_272.out
              have hs64:w61.cell? ⟨gb293,1,none⟩=some (.int .i64 0):=(bC_ BK293.out 1).trans rfl
              have hfs64:=bF_ BK293.out 1
              have hns64_0:=NB271_293.out
              have hns64_1:=NB272_293.out
              have hms64_0:=NB293_271.out
              have hms64_1:=NB293_272.out
              have hs65:w61.cell? ⟨gb293,2,none⟩=some (.bool false):=(bC_ BK293.out 2).trans rfl
              have hfs65:=bF_ BK293.out 2
              have hns65_0:=NB271_293.out
              have hns65_1:=NB272_293.out
              have hms65_0:=NB293_271.out
              have hms65_1:=NB293_272.out
              refine skip_ (w1:=?_) (by rfl) rfl ?_ ?_
              rotate_left
              ·go_simp
               rfl
              refine hK.out _ _ ⟨((cF_ (p:=⟨gb293,_,none⟩) NB271_293.out _).trans (((cF_ (p:=⟨gb293,_,none⟩) NB271_293.out _).trans (((cF_ (p:=⟨gb293,_,none⟩) NB271_293.out _).trans (hHeld.1)))))),((cF_ (p:=⟨gb293,_,none⟩) NB271_293.out _).trans (((cF_ (p:=⟨gb293,_,none⟩) NB271_293.out _).trans (((cF_ (p:=⟨gb293,_,none⟩) NB271_293.out _).trans (hHeld.2.1)))))),((cF_ (p:=⟨gb293,_,none⟩) NB271_293.out _).trans (((cF_ (p:=⟨gb293,_,none⟩) NB271_293.out _).trans (((cF_ (p:=⟨gb293,_,none⟩) NB271_293.out _).trans (hHeld.2.2.1)))))),((cF_ (p:=⟨gb293,_,none⟩) NB272_293.out _).trans (((cF_ (p:=⟨gb293,_,none⟩) NB272_293.out _).trans (((cF_ (p:=⟨gb293,_,none⟩) NB272_293.out _).trans (hHeld.2.2.2.1)))))),((cF_ (p:=⟨gb293,_,none⟩) NB272_293.out _).trans (((cF_ (p:=⟨gb293,_,none⟩) NB272_293.out _).trans (((cF_ (p:=⟨gb293,_,none⟩) NB272_293.out _).trans (hHeld.2.2.2.2.1)))))),((cF_ (p:=⟨gb293,_,none⟩) NB272_293.out _).trans (((cF_ (p:=⟨gb293,_,none⟩) NB272_293.out _).trans (((cF_ (p:=⟨gb293,_,none⟩) NB272_293.out _).trans (hHeld.2.2.2.2.2.1)))))),((cF_ (p:=⟨gb293,_,none⟩) NB272_293.out _).trans (((cF_ (p:=⟨gb293,_,none⟩) NB272_293.out _).trans (((cF_ (p:=⟨gb293,_,none⟩) NB272_293.out _).trans (hHeld.2.2.2.2.2.2.1)))))),((cF_ (p:=⟨gb293,_,none⟩) NB272_293.out _).trans (((cF_ (p:=⟨gb293,_,none⟩) NB272_293.out _).trans (((cF_ (p:=⟨gb293,_,none⟩) NB272_293.out _).trans (hHeld.2.2.2.2.2.2.2.1)))))),((cF_ (p:=⟨gb293,_,none⟩) NB272_293.out _).trans (((cF_ (p:=⟨gb293,_,none⟩) NB272_293.out _).trans (((cF_ (p:=⟨gb293,_,none⟩) NB272_293.out _).trans (hHeld.2.2.2.2.2.2.2.2.1)))))),((cF_ (p:=⟨gb293,_,none⟩) NB272_293.out _).trans (((cF_ (p:=⟨gb293,_,none⟩) NB272_293.out _).trans (((cF_ (p:=⟨gb293,_,none⟩) NB272_293.out _).trans (hHeld.2.2.2.2.2.2.2.2.2))))))⟩ (fun hHeld=>?_)
              clear hK K
              refine pure_ (i:=10) (N:=some 7) (v:=?_) (a':=?_) #[true,true,true,true,true,true,true,true,true,true,true] rfl rfl (any_of HT_.out (by kernel_rfl)) (fun _ _ _ h=>h) (Or.inl ⟨by rfl,?_⟩) ?_ ?_
              rotate_left
              ·intro w'
               go_simp
               with_reducible rfl
              rotate_left
              ·simp only [Act.put,List.setIfInBounds_toArray,List.set_cons_zero,List.set_cons_succ,i64_w,i32_w]
               rfl
              refine done_ (done_of HT_.out (by kernel_rfl)) ?_
              have hnb66:=NB271_293.out
              have hnc66:=NB293_271.out
              have Z67_0:=cz_ BK271.out 0 (.slice A0_0 l0_0.length c0_0)
              have Z67_1:=cz_ BK271.out 1 (.int .i64 a0_1)
              have Z67_2:=cz_ BK271.out 2 (.bool a0_2)
              have Y67_0:=bF_ BK271.out 0
              have Y67_1:=bF_ BK271.out 1
              have Y67_2:=bF_ BK271.out 2
              try go_wp2_with (first|((with_reducible refine gC_ (f:=22) rfl ?_);refine gl_ 35 Tryd.func22 #[.agg #[.slice A0_0 l0_0.length c0_0,.int .i64 a0_1,.bool a0_2]] ?_;(with_reducible refine (laws_toServer.calls k _ _ l0_0 a0_1 a0_2 t294 t297 t298 _ ?side1 ?side2 A22.out).mono ?_);(case side1=>exact Kd.C_below HR0_0.out (bel_));(case side2=>exact HC0_0.out);rintro e w68 ⟨v295,rfl,ho0,hb⟩;refine ⟨_,rfl,?_⟩;have n0_:=a_ (Kd.R_elder' (by (with_reducible repeat (first|apply Kd.R_alloc|apply Kd.R_drewN|apply Kd.R_drew));exact (Kd.R_mono (Kd.R_far (p:=⟨gb293,2,none⟩) (Kd.R_far (p:=⟨gb293,1,none⟩) (Kd.R_far (p:=⟨gb293,0,none⟩) (Kd.R_types HO277.out BK293.out (by decide)) (fun _ hk=>hk.2) (.slice Ao62 t287.length co62)) (fun _ hk=>hk.2) (.int .i64 t290)) (fun _ hk=>hk.2) (.bool t291)) (fun _ h_=>h_.1))) (Kd.R_base ho0) hb);have n1_:=a_ (Kd.R_elder' (by (with_reducible repeat (first|apply Kd.R_alloc|apply Kd.R_drewN|apply Kd.R_drew));exact (Kd.R_mono (Kd.R_far (p:=⟨gb293,2,none⟩) (Kd.R_far (p:=⟨gb293,1,none⟩) (Kd.R_far (p:=⟨gb293,0,none⟩) (Kd.R_types HO289.out BK293.out (by decide)) (fun _ hk=>hk.2) (.slice Ao62 t287.length co62)) (fun _ hk=>hk.2) (.int .i64 t290)) (fun _ hk=>hk.2) (.bool t291)) (fun _ h_=>h_.1))) (Kd.R_base ho0) hb);have n2_:=a_ (Kd.R_lower (Kd.R_new' (Kd.R_new' ho0 (Kd.R_lt (by (with_reducible repeat (first|apply Kd.R_alloc|apply Kd.R_drewN|apply Kd.R_drew));exact (Kd.R_mono (Kd.R_far (p:=⟨gb293,2,none⟩) (Kd.R_far (p:=⟨gb293,1,none⟩) (Kd.R_far (p:=⟨gb293,0,none⟩) (Kd.R_types HO277.out BK293.out (by decide)) (fun _ hk=>hk.2) (.slice Ao62 t287.length co62)) (fun _ hk=>hk.2) (.int .i64 t290)) (fun _ hk=>hk.2) (.bool t291)) (fun _ h_=>h_.1))))) (Kd.R_lt (by (with_reducible repeat (first|apply Kd.R_alloc|apply Kd.R_drewN|apply Kd.R_drew));exact (Kd.R_mono (Kd.R_far (p:=⟨gb293,2,none⟩) (Kd.R_far (p:=⟨gb293,1,none⟩) (Kd.R_far (p:=⟨gb293,0,none⟩) (Kd.R_types HO289.out BK293.out (by decide)) (fun _ hk=>hk.2) (.slice Ao62 t287.length co62)) (fun _ hk=>hk.2) (.int .i64 t290)) (fun _ hk=>hk.2) (.bool t291)) (fun _ h_=>h_.1))))) (below_size (bel_)));have n3_:=a_ (blk_below (g:=gb271) (o:=.cells #[.slice A0_0 l0_0.length c0_0,.int .i64 a0_1,.bool a0_2] 32 (0,0)) (by (with_reducible repeat (first|refine bN_ ?_ _|refine bD_ ?_|refine bA_ ?_ _));refine blk_far ?_ NB271_293.out _;(with_reducible repeat (first|refine bN_ ?_ _|refine bD_ ?_|refine bA_ ?_ _));refine blk_far ?_ NB271_293.out _;(with_reducible repeat (first|refine bN_ ?_ _|refine bD_ ?_|refine bA_ ?_ _));refine blk_far ?_ NB271_293.out _;(with_reducible repeat (first|refine bN_ ?_ _|refine bD_ ?_|refine bA_ ?_ _));exact BK271.out) hb);have n4_:=a_ (blk_below (g:=gb272) (o:=.cells #[.int .i64 a1_0,.int .i64 a1_1,.int .i64 a1_2,.int .i64 a1_3,.int .i64 a1_4,.int .i64 a1_5,.string a1_6] 36 (0,0)) (by (with_reducible repeat (first|refine bN_ ?_ _|refine bD_ ?_|refine bA_ ?_ _));refine blk_far ?_ NB272_293.out _;(with_reducible repeat (first|refine bN_ ?_ _|refine bD_ ?_|refine bA_ ?_ _));refine blk_far ?_ NB272_293.out _;(with_reducible repeat (first|refine bN_ ?_ _|refine bD_ ?_|refine bA_ ?_ _));refine blk_far ?_ NB272_293.out _;(with_reducible repeat (first|refine bN_ ?_ _|refine bD_ ?_|refine bA_ ?_ _));exact BK272.out) hb);have n5_:=a_ (blk_below (g:=gb293) (o:=.cells #[.slice Ao62 t287.length co62,.int .i64 t290,.bool t291] 25 (0,0)) (by (with_reducible repeat (first|refine bN_ ?_ _|refine bD_ ?_|refine bA_ ?_ _));refine blk_put (cs:=#[.slice Ao62 t287.length co62,.int .i64 t290,.bool false]) ?_ 2 _ rfl;(with_reducible repeat (first|refine bN_ ?_ _|refine bD_ ?_|refine bA_ ?_ _));refine blk_put (cs:=#[.slice Ao62 t287.length co62,.int .i64 0,.bool false]) ?_ 1 _ rfl;(with_reducible repeat (first|refine bN_ ?_ _|refine bD_ ?_|refine bA_ ?_ _));refine blk_put (cs:=#[.slice none 0 0,.int .i64 0,.bool false]) ?_ 0 _ rfl;(with_reducible repeat (first|refine bN_ ?_ _|refine bD_ ?_|refine bA_ ?_ _));exact BK293.out) hb);have n6_:=a_ (bS_ (bel_) hb);clear HO277;clear HO289;clear BK271;clear BK272;clear BK293;clear HB;have HO277:=n0_;have HO289:=n1_;have HO296:=n2_;have BK271:=n3_;have BK272:=n4_;have BK293:=n5_;have HB:=n6_;clear n0_ n1_ n2_ n3_ n4_ n5_ n6_;(try clear hb ho0))|((with_reducible refine gD_ (N:=8) rfl ?_);refine bx_ 8 (#[.slice none 0 0,.int .i64 0,.bool false]) 25 ?_;intro gb299 hg w69 hbox hb;have n0_:=a_ (Kd.R_below (rp_ HO277.out) hb);have n1_:=a_ (Kd.R_below (rp_ HO289.out) hb);have n2_:=a_ (Kd.R_below (rp_ HO296.out) hb);have n3_:=a_ (blk_below (g:=gb271) (o:=.cells #[.slice A0_0 l0_0.length c0_0,.int .i64 a0_1,.bool a0_2] 32 (0,0)) (bp_ BK271.out) hb);have n4_:=a_ (blk_below (g:=gb272) (o:=.cells #[.int .i64 a1_0,.int .i64 a1_1,.int .i64 a1_2,.int .i64 a1_3,.int .i64 a1_4,.int .i64 a1_5,.string a1_6] 36 (0,0)) (bp_ BK272.out) hb);have n5_:=a_ (blk_below (g:=gb293) (o:=.cells #[.slice Ao62 t287.length co62,.int .i64 t290,.bool t291] 25 (0,0)) (bp_ BK293.out) hb);have n6_:=a_ (bS_ (bel_) hb);have n7_:=a_ (hbox);have n8_:=a_ ((by rw [hg];exact (below_size (bel_)):w.heap.size≤gb299));have n9_:=a_ ((by rw [hg];exact (below_size (bel_)):w.heap.size≤gb299));have n10_:=a_ ((by rw [hg];exact Nat.ne_of_lt (blk_lt (g:=gb271) (o:=.cells #[.slice A0_0 l0_0.length c0_0,.int .i64 a0_1,.bool a0_2] 32 (0,0)) (bp_ BK271.out)):gb271≠gb299));have n11_:=a_ ((by rw [hg];exact Nat.ne_of_gt (blk_lt (g:=gb271) (o:=.cells #[.slice A0_0 l0_0.length c0_0,.int .i64 a0_1,.bool a0_2] 32 (0,0)) (bp_ BK271.out)):gb299≠gb271));have n12_:=a_ ((by rw [hg];exact Nat.ne_of_lt (blk_lt (g:=gb272) (o:=.cells #[.int .i64 a1_0,.int .i64 a1_1,.int .i64 a1_2,.int .i64 a1_3,.int .i64 a1_4,.int .i64 a1_5,.string a1_6] 36 (0,0)) (bp_ BK272.out)):gb272≠gb299));have n13_:=a_ ((by rw [hg];exact Nat.ne_of_gt (blk_lt (g:=gb272) (o:=.cells #[.int .i64 a1_0,.int .i64 a1_1,.int .i64 a1_2,.int .i64 a1_3,.int .i64 a1_4,.int .i64 a1_5,.string a1_6] 36 (0,0)) (bp_ BK272.out)):gb299≠gb272));have n14_:=a_ ((by rw [hg];exact Nat.ne_of_lt (blk_lt (g:=gb293) (o:=.cells #[.slice Ao62 t287.length co62,.int .i64 t290,.bool t291] 25 (0,0)) (bp_ BK293.out)):gb293≠gb299));have n15_:=a_ ((by rw [hg];exact Nat.ne_of_gt (blk_lt (g:=gb293) (o:=.cells #[.slice Ao62 t287.length co62,.int .i64 t290,.bool t291] 25 (0,0)) (bp_ BK293.out)):gb299≠gb293));clear HO277;clear HO289;clear HO296;clear BK271;clear BK272;clear BK293;clear HB;have HO277:=n0_;have HO289:=n1_;have HO296:=n2_;have BK271:=n3_;have BK272:=n4_;have BK293:=n5_;have HB:=n6_;have BK299:=n7_;have GW299:=n8_;have GE299:=n9_;have NB271_299:=n10_;have NB299_271:=n11_;have NB272_299:=n12_;have NB299_272:=n13_;have NB293_299:=n14_;have NB299_293:=n15_;clear n0_ n1_ n2_ n3_ n4_ n5_ n6_ n7_ n8_ n9_ n10_ n11_ n12_ n13_ n14_ n15_;clear hb hbox hg;obtain ⟨Ao70,co70,eo70⟩:=Kd.R_slice HO296.out;subst eo70;have hnb71:=NB299_271.out;have hnc71:=NB271_299.out;have hnb72:=NB299_272.out;have hnc72:=NB272_299.out;have hnb73:=NB299_293.out;have hnc73:=NB293_299.out;have Z74_0:=cz_ BK299.out 0 (.slice none 0 0);have Z74_1:=cz_ BK299.out 1 (.int .i64 0);have Z74_2:=cz_ BK299.out 2 (.bool false);have Y74_0:=bF_ BK299.out 0;have Y74_1:=bF_ BK299.out 1;have Y74_2:=bF_ BK299.out 2))
              have n0_:Aside0 (Kd.R k44 44 (((w69.setCell ⟨gb299,0,none⟩ (.slice Ao70 t294.length co70)).setCell ⟨gb299,1,none⟩ (.int .i64 t297)).setCell ⟨gb299,2,none⟩ (.bool t298)) w.heap.size (fun k_=>some k_≠(.slice Ao62 t287.length co62:Value).ownBlock∧some k_≠(.slice Ao70 t294.length co70:Value).ownBlock) v276 t275):=⟨by (with_reducible repeat (first|apply Kd.R_alloc|apply Kd.R_drewN|apply Kd.R_drew));exact Kd.R_mono (Kd.R_far (p:=⟨gb299,2,none⟩) (Kd.R_far (p:=⟨gb299,1,none⟩) (Kd.R_far (p:=⟨gb299,0,none⟩) (Kd.R_types HO277.out BK299.out (by decide)) (fun _ hk=>hk.2) (.slice Ao70 t294.length co70)) (fun _ hk=>hk.2) (.int .i64 t297)) (fun _ hk=>hk.2) (.bool t298)) (fun _ hk=>⟨hk.1.1,hk.1.2⟩)⟩
              have n1_:Aside0 (Kd.R k44 44 (((w69.setCell ⟨gb299,0,none⟩ (.slice Ao70 t294.length co70)).setCell ⟨gb299,1,none⟩ (.int .i64 t297)).setCell ⟨gb299,2,none⟩ (.bool t298)) w.heap.size (fun k_=>some k_≠(v276:Value).ownBlock∧some k_≠(.slice Ao70 t294.length co70:Value).ownBlock) (.slice Ao62 t287.length co62) t287):=⟨by (with_reducible repeat (first|apply Kd.R_alloc|apply Kd.R_drewN|apply Kd.R_drew));exact Kd.R_mono (Kd.R_far (p:=⟨gb299,2,none⟩) (Kd.R_far (p:=⟨gb299,1,none⟩) (Kd.R_far (p:=⟨gb299,0,none⟩) (Kd.R_types HO289.out BK299.out (by decide)) (fun _ hk=>hk.2) (.slice Ao70 t294.length co70)) (fun _ hk=>hk.2) (.int .i64 t297)) (fun _ hk=>hk.2) (.bool t298)) (fun _ hk=>⟨hk.1.1,hk.1.2⟩)⟩
              have n2_:Aside0 (Kd.R k44 44 (((w69.setCell ⟨gb299,0,none⟩ (.slice Ao70 t294.length co70)).setCell ⟨gb299,1,none⟩ (.int .i64 t297)).setCell ⟨gb299,2,none⟩ (.bool t298)) w.heap.size (fun k_=>some k_≠(v276:Value).ownBlock∧some k_≠(.slice Ao62 t287.length co62:Value).ownBlock) (.slice Ao70 t294.length co70) t294):=⟨by (with_reducible repeat (first|apply Kd.R_alloc|apply Kd.R_drewN|apply Kd.R_drew));exact Kd.R_mono (Kd.R_far (p:=⟨gb299,2,none⟩) (Kd.R_far (p:=⟨gb299,1,none⟩) (Kd.R_far (p:=⟨gb299,0,none⟩) (Kd.R_types HO296.out BK299.out (by decide)) (fun _ hk=>hk.2) (.slice Ao70 t294.length co70)) (fun _ hk=>hk.2) (.int .i64 t297)) (fun _ hk=>hk.2) (.bool t298)) (fun _ hk=>⟨hk.1.1.2,hk.1.2⟩)⟩
              have n3_:Aside0 ((((w69.setCell ⟨gb299,0,none⟩ (.slice Ao70 t294.length co70)).setCell ⟨gb299,1,none⟩ (.int .i64 t297)).setCell ⟨gb299,2,none⟩ (.bool t298)).heap[gb271]?=some (.cells #[.slice A0_0 l0_0.length c0_0,.int .i64 a0_1,.bool a0_2] 32 (0,0))):=⟨by (with_reducible repeat (first|refine bN_ ?_ _|refine bD_ ?_|refine bA_ ?_ _));refine blk_far ?_ NB271_299.out _;(with_reducible repeat (first|refine bN_ ?_ _|refine bD_ ?_|refine bA_ ?_ _));refine blk_far ?_ NB271_299.out _;(with_reducible repeat (first|refine bN_ ?_ _|refine bD_ ?_|refine bA_ ?_ _));refine blk_far ?_ NB271_299.out _;(with_reducible repeat (first|refine bN_ ?_ _|refine bD_ ?_|refine bA_ ?_ _));exact BK271.out⟩
              have n4_:Aside0 ((((w69.setCell ⟨gb299,0,none⟩ (.slice Ao70 t294.length co70)).setCell ⟨gb299,1,none⟩ (.int .i64 t297)).setCell ⟨gb299,2,none⟩ (.bool t298)).heap[gb272]?=some (.cells #[.int .i64 a1_0,.int .i64 a1_1,.int .i64 a1_2,.int .i64 a1_3,.int .i64 a1_4,.int .i64 a1_5,.string a1_6] 36 (0,0))):=⟨by (with_reducible repeat (first|refine bN_ ?_ _|refine bD_ ?_|refine bA_ ?_ _));refine blk_far ?_ NB272_299.out _;(with_reducible repeat (first|refine bN_ ?_ _|refine bD_ ?_|refine bA_ ?_ _));refine blk_far ?_ NB272_299.out _;(with_reducible repeat (first|refine bN_ ?_ _|refine bD_ ?_|refine bA_ ?_ _));refine blk_far ?_ NB272_299.out _;(with_reducible repeat (first|refine bN_ ?_ _|refine bD_ ?_|refine bA_ ?_ _));exact BK272.out⟩
              have n5_:Aside0 ((((w69.setCell ⟨gb299,0,none⟩ (.slice Ao70 t294.length co70)).setCell ⟨gb299,1,none⟩ (.int .i64 t297)).setCell ⟨gb299,2,none⟩ (.bool t298)).heap[gb293]?=some (.cells #[.slice Ao62 t287.length co62,.int .i64 t290,.bool t291] 25 (0,0))):=⟨by (with_reducible repeat (first|refine bN_ ?_ _|refine bD_ ?_|refine bA_ ?_ _));refine blk_far ?_ NB293_299.out _;(with_reducible repeat (first|refine bN_ ?_ _|refine bD_ ?_|refine bA_ ?_ _));refine blk_far ?_ NB293_299.out _;(with_reducible repeat (first|refine bN_ ?_ _|refine bD_ ?_|refine bA_ ?_ _));refine blk_far ?_ NB293_299.out _;(with_reducible repeat (first|refine bN_ ?_ _|refine bD_ ?_|refine bA_ ?_ _));exact BK293.out⟩
              have n6_:Aside0 ((((w69.setCell ⟨gb299,0,none⟩ (.slice Ao70 t294.length co70)).setCell ⟨gb299,1,none⟩ (.int .i64 t297)).setCell ⟨gb299,2,none⟩ (.bool t298)).heap[gb299]?=some (.cells #[.slice Ao70 t294.length co70,.int .i64 t297,.bool t298] 25 (0,0))):=⟨by (with_reducible repeat (first|refine bN_ ?_ _|refine bD_ ?_|refine bA_ ?_ _));refine blk_put (cs:=#[.slice Ao70 t294.length co70,.int .i64 t297,.bool false]) ?_ 2 _ rfl;(with_reducible repeat (first|refine bN_ ?_ _|refine bD_ ?_|refine bA_ ?_ _));refine blk_put (cs:=#[.slice Ao70 t294.length co70,.int .i64 0,.bool false]) ?_ 1 _ rfl;(with_reducible repeat (first|refine bN_ ?_ _|refine bD_ ?_|refine bA_ ?_ _));refine blk_put (cs:=#[.slice none 0 0,.int .i64 0,.bool false]) ?_ 0 _ rfl;(with_reducible repeat (first|refine bN_ ?_ _|refine bD_ ?_|refine bA_ ?_ _));exact BK299.out⟩
              have n7_:Aside0 (Below w.heap.size w (((w69.setCell ⟨gb299,0,none⟩ (.slice Ao70 t294.length co70)).setCell ⟨gb299,1,none⟩ (.int .i64 t297)).setCell ⟨gb299,2,none⟩ (.bool t298))):=⟨bel_⟩
              (try clear HO277)
              (try clear HO289)
              (try clear HO296)
              (try clear BK271)
              (try clear BK272)
              (try clear BK293)
              (try clear BK299)
              (try clear HB)
              generalize (((w69.setCell ⟨gb299,0,none⟩ (.slice Ao70 t294.length co70)).setCell ⟨gb299,1,none⟩ (.int .i64 t297)).setCell ⟨gb299,2,none⟩ (.bool t298))=w75 at n0_ n1_ n2_ n3_ n4_ n5_ n6_ n7_ ⊢
              have HO277:=n0_
              have HO289:=n1_
              have HO296:=n2_
              have BK271:=n3_
              have BK272:=n4_
              have BK293:=n5_
              have BK299:=n6_
              have HB:=n7_
              clear n0_ n1_ n2_ n3_ n4_ n5_ n6_ n7_
              have n0_:=a_ (Kd.R_drew HO277.out)
              have n1_:=a_ (Kd.R_drew HO289.out)
              have n2_:=a_ (Kd.R_drew HO296.out)
              have n3_:=a_ (bD_ BK271.out)
              have n4_:=a_ (bD_ BK272.out)
              have n5_:=a_ (bD_ BK293.out)
              have n6_:=a_ (bD_ BK299.out)
              have n7_:=a_ (below_drew1 HB.out)
              clear HO277
              clear HO289
              clear HO296
              clear BK271
              clear BK272
              clear BK293
              clear BK299
              clear HB
              have HO277:=n0_
              have HO289:=n1_
              have HO296:=n2_
              have BK271:=n3_
              have BK272:=n4_
              have BK293:=n5_
              have BK299:=n6_
              have HB:=n7_
              clear n0_ n1_ n2_ n3_ n4_ n5_ n6_ n7_
              refine start_ (n:=10) (S:=fun w'=>w'.cell? ⟨gb299,0,none⟩=some (.slice Ao70 t294.length co70)∧w'.cell? ⟨gb299,1,none⟩=some (.int .i64 t297)∧w'.cell? ⟨gb299,2,none⟩=some (.bool t298)∧w'.cell? ⟨gb272,0,none⟩=some (.int .i64 a1_0)∧w'.cell? ⟨gb272,1,none⟩=some (.int .i64 a1_1)∧w'.cell? ⟨gb272,2,none⟩=some (.int .i64 a1_2)∧w'.cell? ⟨gb272,3,none⟩=some (.int .i64 a1_3)∧w'.cell? ⟨gb272,4,none⟩=some (.int .i64 a1_4)∧w'.cell? ⟨gb272,5,none⟩=some (.int .i64 a1_5)∧w'.cell? ⟨gb272,6,none⟩=some (.string a1_6)) (ds:=[]) #[false,false,false,false,false,false,false,false,false,false] (by kernel_rfl) rfl rfl ⟨(bC_ BK299.out 0).trans rfl,(bC_ BK299.out 1).trans rfl,(bC_ BK299.out 2).trans rfl,(bC_ BK272.out 0).trans rfl,(bC_ BK272.out 1).trans rfl,(bC_ BK272.out 2).trans rfl,(bC_ BK272.out 3).trans rfl,(bC_ BK272.out 4).trans rfl,(bC_ BK272.out 5).trans rfl,(bC_ BK272.out 6).trans rfl⟩ (fun hHeld=>?_);refine with_tabW laws_FnExactServerHear.tab10 laws_FnExactServerHear.bits10 (fun HT_ HW_=>?_)
              generalize w75.drew=w76 at HO277 HO289 HO296 BK271 BK272 BK293 BK299 HB hHeld ⊢
              refine take_ (i:=0) (N:=some 37) (v:=?_) (a':=?_) #[true,false,false,false,false,false,false,false,false,false] rfl rfl (take_ofW HT_.out HW_.out (by kernel_rfl)) (fun _ _ _ h=>h) (Or.inl ⟨by rfl,?_⟩) hHeld ?_ ?_
              rotate_left
              ·rintro w' ⟨s0,s1,s2,s3,s4,s5,s6,s7,s8,s9⟩
               go_simp
               with_reducible rfl
              rotate_left
              ·simp only [Act.put,List.setIfInBounds_toArray,List.set_cons_zero,List.set_cons_succ,i64_w,i32_w]
               rfl
              refine take_ (i:=1) (N:=some 38) (v:=?_) (a':=?_) #[true,true,false,false,false,false,false,false,false,false] rfl rfl (take_ofW HT_.out HW_.out (by kernel_rfl)) (fun _ _ _ h=>h) (Or.inl ⟨by rfl,?_⟩) hHeld ?_ ?_
              rotate_left
              ·rintro w' ⟨s0,s1,s2,s3,s4,s5,s6,s7,s8,s9⟩
               go_simp
               with_reducible rfl
              rotate_left
              ·simp only [Act.put,List.setIfInBounds_toArray,List.set_cons_zero,List.set_cons_succ,i64_w,i32_w]
               rfl
              refine join_ (σ:=Value×Nat) 2 #[true,true,true,true,true,true,true,true,false,false] (fun s_=>[(39,.agg #[.int .i64 t300,.int .i64 t301,.int .i64 t302,.int .i64 t303,.int .i64 t304,.int .i64 t305,.string t306]),(40,.tuple #[.agg #[s_.1,.int .i64 t310,.bool t311],.bool t312]),(9,.pointer (some ⟨s_.2,0,none⟩)),(36,.tuple #[.agg #[s_.1,.int .i64 t310,.bool t311],.bool t312]),(41,.agg #[s_.1,.int .i64 t310,.bool t311]),(42,.bool t312)]) (fun s_ w'=>(w'.cell? ⟨gb299,0,none⟩=some (.slice Ao70 t294.length co70)∧w'.cell? ⟨gb299,1,none⟩=some (.int .i64 t297)∧w'.cell? ⟨gb299,2,none⟩=some (.bool t298)∧w'.cell? ⟨gb272,0,none⟩=some (.int .i64 a1_0)∧w'.cell? ⟨gb272,1,none⟩=some (.int .i64 a1_1)∧w'.cell? ⟨gb272,2,none⟩=some (.int .i64 a1_2)∧w'.cell? ⟨gb272,3,none⟩=some (.int .i64 a1_3)∧w'.cell? ⟨gb272,4,none⟩=some (.int .i64 a1_4)∧w'.cell? ⟨gb272,5,none⟩=some (.int .i64 a1_5)∧w'.cell? ⟨gb272,6,none⟩=some (.string a1_6))∧(Kd.R k44 44 w' w.heap.size (fun k_=>some k_≠(.slice Ao62 t287.length co62:Value).ownBlock∧some k_≠(.slice Ao70 t294.length co70:Value).ownBlock∧some k_≠(s_.1:Value).ownBlock) v276 t275)∧(Kd.R k44 44 w' w.heap.size (fun k_=>some k_≠(v276:Value).ownBlock∧some k_≠(.slice Ao70 t294.length co70:Value).ownBlock∧some k_≠(s_.1:Value).ownBlock) (.slice Ao62 t287.length co62) t287)∧(Kd.R k44 44 w' w.heap.size (fun k_=>some k_≠(v276:Value).ownBlock∧some k_≠(.slice Ao62 t287.length co62:Value).ownBlock∧some k_≠(s_.1:Value).ownBlock) (.slice Ao70 t294.length co70) t294)∧(Kd.R k44 44 w' w.heap.size (fun k_=>some k_≠(v276:Value).ownBlock∧some k_≠(.slice Ao62 t287.length co62:Value).ownBlock∧some k_≠(.slice Ao70 t294.length co70:Value).ownBlock) s_.1 t307)∧(w'.heap[gb271]?=some (.cells #[.slice A0_0 l0_0.length c0_0,.int .i64 a0_1,.bool a0_2] 32 (0,0)))∧(w'.heap[gb272]?=some (.cells #[.int .i64 a1_0,.int .i64 a1_1,.int .i64 a1_2,.int .i64 a1_3,.int .i64 a1_4,.int .i64 a1_5,.string a1_6] 36 (0,0)))∧(w'.heap[gb293]?=some (.cells #[.slice Ao62 t287.length co62,.int .i64 t290,.bool t291] 25 (0,0)))∧(w'.heap[gb299]?=some (.cells #[.slice Ao70 t294.length co70,.int .i64 t297,.bool t298] 25 (0,0)))∧(w'.heap[s_.2]?=some (.cells #[.slice none 0 0,.int .i64 0,.bool false] 25 (0,0)))∧(w.heap.size≤s_.2)∧(w.heap.size≤s_.2)∧(gb271≠s_.2)∧(s_.2≠gb271)∧(gb272≠s_.2)∧(s_.2≠gb272)∧(gb293≠s_.2)∧(s_.2≠gb293)∧(gb299≠s_.2)∧(s_.2≠gb299)∧(Below w.heap.size w w')) ?_ ?_
              rotate_left
              ·intro hCont
               refine two_ (i:=2) (j:=7) (Ni:=some 39) (Nj:=some 9) #[true,true,true,false,false,false,false,false,false,false] #[true,true,false,false,false,false,false,true,false,false] rfl rfl rfl rfl (two_of HT_.out (by kernel_rfl)) (by decide) (by decide) (fun K hK=>?_) (fun K hK=>?_)
               ·skip
                refine goes_ Tryd.func23 (by kernel_rfl) rfl #[.agg #[.int .i64 a1_0,.int .i64 a1_1,.int .i64 a1_2,.int .i64 a1_3,.int .i64 a1_4,.int .i64 a1_5,.string a1_6]] (by rfl) rfl rfl ar_ ?_
                with_reducible refine (laws_toEntry.calls a1_0 a1_1 a1_2 a1_3 a1_4 a1_5 a1_6 t300 t301 t302 t303 t304 t305 t306 _ A23.out).mono ?_
                rintro e w77 ⟨rfl,hb⟩
                refine ⟨_,rfl,?_⟩
                have n0_:=a_ (Kd.R_below (rp_ HO277.out) hb)
                have n1_:=a_ (Kd.R_below (rp_ HO289.out) hb)
                have n2_:=a_ (Kd.R_below (rp_ HO296.out) hb)
                have n3_:=a_ (blk_below (g:=gb271) (o:=.cells #[.slice A0_0 l0_0.length c0_0,.int .i64 a0_1,.bool a0_2] 32 (0,0)) (bp_ BK271.out) hb)
                have n4_:=a_ (blk_below (g:=gb272) (o:=.cells #[.int .i64 a1_0,.int .i64 a1_1,.int .i64 a1_2,.int .i64 a1_3,.int .i64 a1_4,.int .i64 a1_5,.string a1_6] 36 (0,0)) (bp_ BK272.out) hb)
                have n5_:=a_ (blk_below (g:=gb293) (o:=.cells #[.slice Ao62 t287.length co62,.int .i64 t290,.bool t291] 25 (0,0)) (bp_ BK293.out) hb)
                have n6_:=a_ (blk_below (g:=gb299) (o:=.cells #[.slice Ao70 t294.length co70,.int .i64 t297,.bool t298] 25 (0,0)) (bp_ BK299.out) hb)
                have n7_:=a_ (bS_ (bel_) hb)
                clear HO277
                clear HO289
                clear HO296
                clear BK271
                clear BK272
                clear BK293
                clear BK299
                clear HB
                have HO277:=n0_
                have HO289:=n1_
                have HO296:=n2_
                have BK271:=n3_
                have BK272:=n4_
                have BK293:=n5_
                have BK299:=n6_
                have HB:=n7_
                clear n0_ n1_ n2_ n3_ n4_ n5_ n6_ n7_
                (try clear hb)
                (try clear hb2)
                (try clear hk)
                (try clear hi)
                refine hK.out _ _ ⟨(bC_ BK299.out 0).trans rfl,(bC_ BK299.out 1).trans rfl,(bC_ BK299.out 2).trans rfl,(bC_ BK272.out 0).trans rfl,(bC_ BK272.out 1).trans rfl,(bC_ BK272.out 2).trans rfl,(bC_ BK272.out 3).trans rfl,(bC_ BK272.out 4).trans rfl,(bC_ BK272.out 5).trans rfl,(bC_ BK272.out 6).trans rfl⟩ (fun hHeld=>?_)
                clear hK K
                refine norm_ (a':=?_) ?_ ?_
                rotate_left
                ·show Act.put _ (some 39) _=_
                 simp only [Act.put,List.setIfInBounds_toArray,List.set_cons_zero,List.set_cons_succ,i64_w,i32_w]
                 rfl
                refine two_ (i:=3) (j:=7) (Ni:=some 40) (Nj:=some 9) #[true,true,true,true,false,false,false,false,false,false] #[true,true,true,false,false,false,false,true,false,false] rfl rfl rfl rfl (two_of HT_.out (by kernel_rfl)) (by decide) (by decide) (fun K hK=>?_) (fun K hK=>?_)
                ·skip
                 refine goes_ Tryd.func24 (by kernel_rfl) rfl #[.agg #[.slice Ao70 t294.length co70,.int .i64 t297,.bool t298],.agg #[.int .i64 t300,.int .i64 t301,.int .i64 t302,.int .i64 t303,.int .i64 t304,.int .i64 t305,.string t306]] (by rfl) rfl rfl ar_ ?_
                 with_reducible refine (impl_ServerHear.calls k _ _ t294 t297 t298 t300 t301 t302 t303 t304 t305 t306 t307 t310 t311 t312 _ ?side1 ?side2 A24.out ?side3).mono ?_
                 (case side1=>exact cx_ (Kd.R_reads' HO296.out).2.2)
                 (case side2=>exact (Kd.R_reads' HO296.out).2.1)
                 (case side3=>exact Glob.below HG.out (bel_))
                 rintro e w78 ⟨v308,rfl,ho0,hb⟩
                 refine ⟨_,rfl,?_⟩
                 have n0_:=a_ (Kd.R_elder' (rp_ HO277.out) (Kd.R_base ho0) hb)
                 have n1_:=a_ (Kd.R_elder' (rp_ HO289.out) (Kd.R_base ho0) hb)
                 have n2_:=a_ (Kd.R_elder' (rp_ HO296.out) (Kd.R_base ho0) hb)
                 have n3_:=a_ (Kd.R_lower (Kd.R_new' (Kd.R_new' (Kd.R_new' ho0 (Kd.R_lt (rp_ HO277.out))) (Kd.R_lt (rp_ HO289.out))) (Kd.R_lt (rp_ HO296.out))) (below_size (bel_)))
                 have n4_:=a_ (blk_below (g:=gb271) (o:=.cells #[.slice A0_0 l0_0.length c0_0,.int .i64 a0_1,.bool a0_2] 32 (0,0)) (bp_ BK271.out) hb)
                 have n5_:=a_ (blk_below (g:=gb272) (o:=.cells #[.int .i64 a1_0,.int .i64 a1_1,.int .i64 a1_2,.int .i64 a1_3,.int .i64 a1_4,.int .i64 a1_5,.string a1_6] 36 (0,0)) (bp_ BK272.out) hb)
                 have n6_:=a_ (blk_below (g:=gb293) (o:=.cells #[.slice Ao62 t287.length co62,.int .i64 t290,.bool t291] 25 (0,0)) (bp_ BK293.out) hb)
                 have n7_:=a_ (blk_below (g:=gb299) (o:=.cells #[.slice Ao70 t294.length co70,.int .i64 t297,.bool t298] 25 (0,0)) (bp_ BK299.out) hb)
                 have n8_:=a_ (bS_ (bel_) hb)
                 clear HO277
                 clear HO289
                 clear HO296
                 clear BK271
                 clear BK272
                 clear BK293
                 clear BK299
                 clear HB
                 have HO277:=n0_
                 have HO289:=n1_
                 have HO296:=n2_
                 have HO309:=n3_
                 have BK271:=n4_
                 have BK272:=n5_
                 have BK293:=n6_
                 have BK299:=n7_
                 have HB:=n8_
                 clear n0_ n1_ n2_ n3_ n4_ n5_ n6_ n7_ n8_
                 (try clear hb)
                 (try clear hb2)
                 (try clear hk)
                 (try clear hi)
                 (try clear ho0)
                 refine hK.out _ _ ⟨(bC_ BK299.out 0).trans rfl,(bC_ BK299.out 1).trans rfl,(bC_ BK299.out 2).trans rfl,(bC_ BK272.out 0).trans rfl,(bC_ BK272.out 1).trans rfl,(bC_ BK272.out 2).trans rfl,(bC_ BK272.out 3).trans rfl,(bC_ BK272.out 4).trans rfl,(bC_ BK272.out 5).trans rfl,(bC_ BK272.out 6).trans rfl⟩ (fun hHeld=>?_)
                 clear hK K
                 refine norm_ (a':=?_) ?_ ?_
                 rotate_left
                 ·show Act.put _ (some 40) _=_
                  simp only [Act.put,List.setIfInBounds_toArray,List.set_cons_zero,List.set_cons_succ,i64_w,i32_w]
                  rfl
                 refine pure_ (i:=4) (N:=some 36) (v:=?_) (a':=?_) #[true,true,true,true,true,false,false,false,false,false] rfl rfl (any_of HT_.out (by kernel_rfl)) (fun _ _ _ h=>h) (Or.inl ⟨by rfl,?_⟩) ?_ ?_
                 rotate_left
                 ·intro w'
                  go_simp
                  with_reducible rfl
                 rotate_left
                 ·simp only [Act.put,List.setIfInBounds_toArray,List.set_cons_zero,List.set_cons_succ,i64_w,i32_w]
                  rfl
                 refine pure_ (i:=5) (N:=some 41) (v:=?_) (a':=?_) #[true,true,true,true,true,true,false,false,false,false] rfl rfl (any_of HT_.out (by kernel_rfl)) (fun _ _ _ h=>h) (Or.inl ⟨by rfl,?_⟩) ?_ ?_
                 rotate_left
                 ·intro w'
                  go_simp
                  with_reducible rfl
                 rotate_left
                 ·simp only [Act.put,List.setIfInBounds_toArray,List.set_cons_zero,List.set_cons_succ,i64_w,i32_w]
                  rfl
                 refine pure_ (i:=6) (N:=some 42) (v:=?_) (a':=?_) #[true,true,true,true,true,true,true,false,false,false] rfl rfl (any_of HT_.out (by kernel_rfl)) (fun _ _ _ h=>h) (Or.inl ⟨by rfl,?_⟩) ?_ ?_
                 rotate_left
                 ·intro w'
                  go_simp
                  with_reducible rfl
                 rotate_left
                 ·simp only [Act.put,List.setIfInBounds_toArray,List.set_cons_zero,List.set_cons_succ,i64_w,i32_w]
                  rfl
                 refine one_ (i:=7) (N:=some 9) #[true,true,true,true,true,true,true,true,false,false] rfl rfl (one_of HT_.out (by kernel_rfl)) (by decide) (fun K hK=>?_)
                 refine box_step ?hg (N:=9) ?hd (cs:=#[.slice none 0 0,.int .i64 0,.bool false]) (t:=25) ?hr ?_;(case hd=>rfl);(case hg=>rfl);(case hr=>first|(go_simp;done)|(go_simp;rfl))
                 intro gb313 hg w79 hbox hb
                 have n0_:=a_ (Kd.R_below (rp_ HO277.out) hb)
                 have n1_:=a_ (Kd.R_below (rp_ HO289.out) hb)
                 have n2_:=a_ (Kd.R_below (rp_ HO296.out) hb)
                 have n3_:=a_ (Kd.R_below (rp_ HO309.out) hb)
                 have n4_:=a_ (blk_below (g:=gb271) (o:=.cells #[.slice A0_0 l0_0.length c0_0,.int .i64 a0_1,.bool a0_2] 32 (0,0)) (bp_ BK271.out) hb)
                 have n5_:=a_ (blk_below (g:=gb272) (o:=.cells #[.int .i64 a1_0,.int .i64 a1_1,.int .i64 a1_2,.int .i64 a1_3,.int .i64 a1_4,.int .i64 a1_5,.string a1_6] 36 (0,0)) (bp_ BK272.out) hb)
                 have n6_:=a_ (blk_below (g:=gb293) (o:=.cells #[.slice Ao62 t287.length co62,.int .i64 t290,.bool t291] 25 (0,0)) (bp_ BK293.out) hb)
                 have n7_:=a_ (blk_below (g:=gb299) (o:=.cells #[.slice Ao70 t294.length co70,.int .i64 t297,.bool t298] 25 (0,0)) (bp_ BK299.out) hb)
                 have n8_:=a_ (bS_ (bel_) hb)
                 have n9_:=a_ (hbox)
                 have n10_:=a_ ((by rw [hg];exact (below_size (bel_)):w.heap.size≤gb313))
                 have n11_:=a_ ((by rw [hg];exact (below_size (bel_)):w.heap.size≤gb313))
                 have n12_:=a_ ((by rw [hg];exact Nat.ne_of_lt (blk_lt (g:=gb271) (o:=.cells #[.slice A0_0 l0_0.length c0_0,.int .i64 a0_1,.bool a0_2] 32 (0,0)) (bp_ BK271.out)):gb271≠gb313))
                 have n13_:=a_ ((by rw [hg];exact Nat.ne_of_gt (blk_lt (g:=gb271) (o:=.cells #[.slice A0_0 l0_0.length c0_0,.int .i64 a0_1,.bool a0_2] 32 (0,0)) (bp_ BK271.out)):gb313≠gb271))
                 have n14_:=a_ ((by rw [hg];exact Nat.ne_of_lt (blk_lt (g:=gb272) (o:=.cells #[.int .i64 a1_0,.int .i64 a1_1,.int .i64 a1_2,.int .i64 a1_3,.int .i64 a1_4,.int .i64 a1_5,.string a1_6] 36 (0,0)) (bp_ BK272.out)):gb272≠gb313))
                 have n15_:=a_ ((by rw [hg];exact Nat.ne_of_gt (blk_lt (g:=gb272) (o:=.cells #[.int .i64 a1_0,.int .i64 a1_1,.int .i64 a1_2,.int .i64 a1_3,.int .i64 a1_4,.int .i64 a1_5,.string a1_6] 36 (0,0)) (bp_ BK272.out)):gb313≠gb272))
                 have n16_:=a_ ((by rw [hg];exact Nat.ne_of_lt (blk_lt (g:=gb293) (o:=.cells #[.slice Ao62 t287.length co62,.int .i64 t290,.bool t291] 25 (0,0)) (bp_ BK293.out)):gb293≠gb313))
                 have n17_:=a_ ((by rw [hg];exact Nat.ne_of_gt (blk_lt (g:=gb293) (o:=.cells #[.slice Ao62 t287.length co62,.int .i64 t290,.bool t291] 25 (0,0)) (bp_ BK293.out)):gb313≠gb293))
                 have n18_:=a_ ((by rw [hg];exact Nat.ne_of_lt (blk_lt (g:=gb299) (o:=.cells #[.slice Ao70 t294.length co70,.int .i64 t297,.bool t298] 25 (0,0)) (bp_ BK299.out)):gb299≠gb313))
                 have n19_:=a_ ((by rw [hg];exact Nat.ne_of_gt (blk_lt (g:=gb299) (o:=.cells #[.slice Ao70 t294.length co70,.int .i64 t297,.bool t298] 25 (0,0)) (bp_ BK299.out)):gb313≠gb299))
                 clear HO277
                 clear HO289
                 clear HO296
                 clear HO309
                 clear BK271
                 clear BK272
                 clear BK293
                 clear BK299
                 clear HB
                 have HO277:=n0_
                 have HO289:=n1_
                 have HO296:=n2_
                 have HO309:=n3_
                 have BK271:=n4_
                 have BK272:=n5_
                 have BK293:=n6_
                 have BK299:=n7_
                 have HB:=n8_
                 have BK313:=n9_
                 have GW313:=n10_
                 have GE313:=n11_
                 have NB271_313:=n12_
                 have NB313_271:=n13_
                 have NB272_313:=n14_
                 have NB313_272:=n15_
                 have NB293_313:=n16_
                 have NB313_293:=n17_
                 have NB299_313:=n18_
                 have NB313_299:=n19_
                 clear n0_ n1_ n2_ n3_ n4_ n5_ n6_ n7_ n8_ n9_ n10_ n11_ n12_ n13_ n14_ n15_ n16_ n17_ n18_ n19_
                 clear hb hbox hg
                 refine hK.out _ _ ⟨(bC_ BK299.out 0).trans rfl,(bC_ BK299.out 1).trans rfl,(bC_ BK299.out 2).trans rfl,(bC_ BK272.out 0).trans rfl,(bC_ BK272.out 1).trans rfl,(bC_ BK272.out 2).trans rfl,(bC_ BK272.out 3).trans rfl,(bC_ BK272.out 4).trans rfl,(bC_ BK272.out 5).trans rfl,(bC_ BK272.out 6).trans rfl⟩ (fun hHeld=>?_)
                 clear hK K
                 refine norm_ (a':=?_) ?_ ?_
                 rotate_left
                 ·show Act.put _ (some 9) _=_
                  simp only [Act.put,List.setIfInBounds_toArray,List.set_cons_zero,List.set_cons_succ,i64_w,i32_w]
                  rfl
                 exact norm_ (by simp only [putAll,Act.put,List.setIfInBounds_toArray,List.set_cons_zero,List.set_cons_succ]) (hCont (v308,gb313) _ ⟨hHeld,(by (with_reducible repeat (first|apply Kd.R_alloc|apply Kd.R_drewN|apply Kd.R_drew));exact Kd.R_mono HO277.out (fun _ hk=>⟨hk.1.1,⟨hk.1.2,hk.2⟩⟩)),(by (with_reducible repeat (first|apply Kd.R_alloc|apply Kd.R_drewN|apply Kd.R_drew));exact Kd.R_mono HO289.out (fun _ hk=>⟨hk.1.1,⟨hk.1.2,hk.2⟩⟩)),(by (with_reducible repeat (first|apply Kd.R_alloc|apply Kd.R_drewN|apply Kd.R_drew));exact Kd.R_mono HO296.out (fun _ hk=>⟨hk.1.1,⟨hk.1.2,hk.2⟩⟩)),(by (with_reducible repeat (first|apply Kd.R_alloc|apply Kd.R_drewN|apply Kd.R_drew));exact Kd.R_mono HO309.out (fun _ hk=>⟨hk.1.1.2,⟨hk.1.2,hk.2⟩⟩)),(bp_ BK271.out),(bp_ BK272.out),(bp_ BK293.out),(bp_ BK299.out),(bp_ BK313.out),GW313.out,GE313.out,NB271_313.out,NB313_271.out,NB272_313.out,NB313_272.out,NB293_313.out,NB313_293.out,NB299_313.out,NB313_299.out,(bel_)⟩)
                ·skip
                 refine box_step ?hg (N:=9) ?hd (cs:=#[.slice none 0 0,.int .i64 0,.bool false]) (t:=25) ?hr ?_;(case hd=>rfl);(case hg=>rfl);(case hr=>first|(go_simp;done)|(go_simp;rfl))
                 intro gb313 hg w78 hbox hb
                 have n0_:=a_ (Kd.R_below (rp_ HO277.out) hb)
                 have n1_:=a_ (Kd.R_below (rp_ HO289.out) hb)
                 have n2_:=a_ (Kd.R_below (rp_ HO296.out) hb)
                 have n3_:=a_ (blk_below (g:=gb271) (o:=.cells #[.slice A0_0 l0_0.length c0_0,.int .i64 a0_1,.bool a0_2] 32 (0,0)) (bp_ BK271.out) hb)
                 have n4_:=a_ (blk_below (g:=gb272) (o:=.cells #[.int .i64 a1_0,.int .i64 a1_1,.int .i64 a1_2,.int .i64 a1_3,.int .i64 a1_4,.int .i64 a1_5,.string a1_6] 36 (0,0)) (bp_ BK272.out) hb)
                 have n5_:=a_ (blk_below (g:=gb293) (o:=.cells #[.slice Ao62 t287.length co62,.int .i64 t290,.bool t291] 25 (0,0)) (bp_ BK293.out) hb)
                 have n6_:=a_ (blk_below (g:=gb299) (o:=.cells #[.slice Ao70 t294.length co70,.int .i64 t297,.bool t298] 25 (0,0)) (bp_ BK299.out) hb)
                 have n7_:=a_ (bS_ (bel_) hb)
                 have n8_:=a_ (hbox)
                 have n9_:=a_ ((by rw [hg];exact (below_size (bel_)):w.heap.size≤gb313))
                 have n10_:=a_ ((by rw [hg];exact (below_size (bel_)):w.heap.size≤gb313))
                 have n11_:=a_ ((by rw [hg];exact Nat.ne_of_lt (blk_lt (g:=gb271) (o:=.cells #[.slice A0_0 l0_0.length c0_0,.int .i64 a0_1,.bool a0_2] 32 (0,0)) (bp_ BK271.out)):gb271≠gb313))
                 have n12_:=a_ ((by rw [hg];exact Nat.ne_of_gt (blk_lt (g:=gb271) (o:=.cells #[.slice A0_0 l0_0.length c0_0,.int .i64 a0_1,.bool a0_2] 32 (0,0)) (bp_ BK271.out)):gb313≠gb271))
                 have n13_:=a_ ((by rw [hg];exact Nat.ne_of_lt (blk_lt (g:=gb272) (o:=.cells #[.int .i64 a1_0,.int .i64 a1_1,.int .i64 a1_2,.int .i64 a1_3,.int .i64 a1_4,.int .i64 a1_5,.string a1_6] 36 (0,0)) (bp_ BK272.out)):gb272≠gb313))
                 have n14_:=a_ ((by rw [hg];exact Nat.ne_of_gt (blk_lt (g:=gb272) (o:=.cells #[.int .i64 a1_0,.int .i64 a1_1,.int .i64 a1_2,.int .i64 a1_3,.int .i64 a1_4,.int .i64 a1_5,.string a1_6] 36 (0,0)) (bp_ BK272.out)):gb313≠gb272))
                 have n15_:=a_ ((by rw [hg];exact Nat.ne_of_lt (blk_lt (g:=gb293) (o:=.cells #[.slice Ao62 t287.length co62,.int .i64 t290,.bool t291] 25 (0,0)) (bp_ BK293.out)):gb293≠gb313))
                 have n16_:=a_ ((by rw [hg];exact Nat.ne_of_gt (blk_lt (g:=gb293) (o:=.cells #[.slice Ao62 t287.length co62,.int .i64 t290,.bool t291] 25 (0,0)) (bp_ BK293.out)):gb313≠gb293))
                 have n17_:=a_ ((by rw [hg];exact Nat.ne_of_lt (blk_lt (g:=gb299) (o:=.cells #[.slice Ao70 t294.length co70,.int .i64 t297,.bool t298] 25 (0,0)) (bp_ BK299.out)):gb299≠gb313))
                 have n18_:=a_ ((by rw [hg];exact Nat.ne_of_gt (blk_lt (g:=gb299) (o:=.cells #[.slice Ao70 t294.length co70,.int .i64 t297,.bool t298] 25 (0,0)) (bp_ BK299.out)):gb313≠gb299))
                 clear HO277
                 clear HO289
                 clear HO296
                 clear BK271
                 clear BK272
                 clear BK293
                 clear BK299
                 clear HB
                 have HO277:=n0_
                 have HO289:=n1_
                 have HO296:=n2_
                 have BK271:=n3_
                 have BK272:=n4_
                 have BK293:=n5_
                 have BK299:=n6_
                 have HB:=n7_
                 have BK313:=n8_
                 have GW313:=n9_
                 have GE313:=n10_
                 have NB271_313:=n11_
                 have NB313_271:=n12_
                 have NB272_313:=n13_
                 have NB313_272:=n14_
                 have NB293_313:=n15_
                 have NB313_293:=n16_
                 have NB299_313:=n17_
                 have NB313_299:=n18_
                 clear n0_ n1_ n2_ n3_ n4_ n5_ n6_ n7_ n8_ n9_ n10_ n11_ n12_ n13_ n14_ n15_ n16_ n17_ n18_
                 clear hb hbox hg
                 refine hK.out _ _ ⟨(bC_ BK299.out 0).trans rfl,(bC_ BK299.out 1).trans rfl,(bC_ BK299.out 2).trans rfl,(bC_ BK272.out 0).trans rfl,(bC_ BK272.out 1).trans rfl,(bC_ BK272.out 2).trans rfl,(bC_ BK272.out 3).trans rfl,(bC_ BK272.out 4).trans rfl,(bC_ BK272.out 5).trans rfl,(bC_ BK272.out 6).trans rfl⟩ (fun hHeld=>?_)
                 clear hK K
                 refine norm_ (a':=?_) ?_ ?_
                 rotate_left
                 ·show Act.put _ (some 9) _=_
                  simp only [Act.put,List.setIfInBounds_toArray,List.set_cons_zero,List.set_cons_succ,i64_w,i32_w]
                  rfl
                 refine one_ (i:=3) (N:=some 40) #[true,true,true,true,false,false,false,true,false,false] rfl rfl (one_of HT_.out (by kernel_rfl)) (by decide) (fun K hK=>?_)
                 refine goes_ Tryd.func24 (by kernel_rfl) rfl #[.agg #[.slice Ao70 t294.length co70,.int .i64 t297,.bool t298],.agg #[.int .i64 t300,.int .i64 t301,.int .i64 t302,.int .i64 t303,.int .i64 t304,.int .i64 t305,.string t306]] (by rfl) rfl rfl ar_ ?_
                 with_reducible refine (impl_ServerHear.calls k _ _ t294 t297 t298 t300 t301 t302 t303 t304 t305 t306 t307 t310 t311 t312 _ ?side1 ?side2 A24.out ?side3).mono ?_
                 (case side1=>exact cx_ (Kd.R_reads' HO296.out).2.2)
                 (case side2=>exact (Kd.R_reads' HO296.out).2.1)
                 (case side3=>exact Glob.below HG.out (bel_))
                 rintro e w79 ⟨v308,rfl,ho0,hb⟩
                 refine ⟨_,rfl,?_⟩
                 have n0_:=a_ (Kd.R_elder' (rp_ HO277.out) (Kd.R_base ho0) hb)
                 have n1_:=a_ (Kd.R_elder' (rp_ HO289.out) (Kd.R_base ho0) hb)
                 have n2_:=a_ (Kd.R_elder' (rp_ HO296.out) (Kd.R_base ho0) hb)
                 have n3_:=a_ (Kd.R_lower (Kd.R_new' (Kd.R_new' (Kd.R_new' ho0 (Kd.R_lt (rp_ HO277.out))) (Kd.R_lt (rp_ HO289.out))) (Kd.R_lt (rp_ HO296.out))) (below_size (bel_)))
                 have n4_:=a_ (blk_below (g:=gb271) (o:=.cells #[.slice A0_0 l0_0.length c0_0,.int .i64 a0_1,.bool a0_2] 32 (0,0)) (bp_ BK271.out) hb)
                 have n5_:=a_ (blk_below (g:=gb272) (o:=.cells #[.int .i64 a1_0,.int .i64 a1_1,.int .i64 a1_2,.int .i64 a1_3,.int .i64 a1_4,.int .i64 a1_5,.string a1_6] 36 (0,0)) (bp_ BK272.out) hb)
                 have n6_:=a_ (blk_below (g:=gb293) (o:=.cells #[.slice Ao62 t287.length co62,.int .i64 t290,.bool t291] 25 (0,0)) (bp_ BK293.out) hb)
                 have n7_:=a_ (blk_below (g:=gb299) (o:=.cells #[.slice Ao70 t294.length co70,.int .i64 t297,.bool t298] 25 (0,0)) (bp_ BK299.out) hb)
                 have n8_:=a_ (blk_below (g:=gb313) (o:=.cells #[.slice none 0 0,.int .i64 0,.bool false] 25 (0,0)) (bp_ BK313.out) hb)
                 have n9_:=a_ (bS_ (bel_) hb)
                 clear HO277
                 clear HO289
                 clear HO296
                 clear BK271
                 clear BK272
                 clear BK293
                 clear BK299
                 clear BK313
                 clear HB
                 have HO277:=n0_
                 have HO289:=n1_
                 have HO296:=n2_
                 have HO309:=n3_
                 have BK271:=n4_
                 have BK272:=n5_
                 have BK293:=n6_
                 have BK299:=n7_
                 have BK313:=n8_
                 have HB:=n9_
                 clear n0_ n1_ n2_ n3_ n4_ n5_ n6_ n7_ n8_ n9_
                 (try clear hb)
                 (try clear hb2)
                 (try clear hk)
                 (try clear hi)
                 (try clear ho0)
                 refine hK.out _ _ ⟨(bC_ BK299.out 0).trans rfl,(bC_ BK299.out 1).trans rfl,(bC_ BK299.out 2).trans rfl,(bC_ BK272.out 0).trans rfl,(bC_ BK272.out 1).trans rfl,(bC_ BK272.out 2).trans rfl,(bC_ BK272.out 3).trans rfl,(bC_ BK272.out 4).trans rfl,(bC_ BK272.out 5).trans rfl,(bC_ BK272.out 6).trans rfl⟩ (fun hHeld=>?_)
                 clear hK K
                 refine norm_ (a':=?_) ?_ ?_
                 rotate_left
                 ·show Act.put _ (some 40) _=_
                  simp only [Act.put,List.setIfInBounds_toArray,List.set_cons_zero,List.set_cons_succ,i64_w,i32_w]
                  rfl
                 refine pure_ (i:=4) (N:=some 36) (v:=?_) (a':=?_) #[true,true,true,true,true,false,false,true,false,false] rfl rfl (any_of HT_.out (by kernel_rfl)) (fun _ _ _ h=>h) (Or.inl ⟨by rfl,?_⟩) ?_ ?_
                 rotate_left
                 ·intro w'
                  go_simp
                  with_reducible rfl
                 rotate_left
                 ·simp only [Act.put,List.setIfInBounds_toArray,List.set_cons_zero,List.set_cons_succ,i64_w,i32_w]
                  rfl
                 refine pure_ (i:=5) (N:=some 41) (v:=?_) (a':=?_) #[true,true,true,true,true,true,false,true,false,false] rfl rfl (any_of HT_.out (by kernel_rfl)) (fun _ _ _ h=>h) (Or.inl ⟨by rfl,?_⟩) ?_ ?_
                 rotate_left
                 ·intro w'
                  go_simp
                  with_reducible rfl
                 rotate_left
                 ·simp only [Act.put,List.setIfInBounds_toArray,List.set_cons_zero,List.set_cons_succ,i64_w,i32_w]
                  rfl
                 refine pure_ (i:=6) (N:=some 42) (v:=?_) (a':=?_) #[true,true,true,true,true,true,true,true,false,false] rfl rfl (any_of HT_.out (by kernel_rfl)) (fun _ _ _ h=>h) (Or.inl ⟨by rfl,?_⟩) ?_ ?_
                 rotate_left
                 ·intro w'
                  go_simp
                  with_reducible rfl
                 rotate_left
                 ·simp only [Act.put,List.setIfInBounds_toArray,List.set_cons_zero,List.set_cons_succ,i64_w,i32_w]
                  rfl
                 exact norm_ (by simp only [putAll,Act.put,List.setIfInBounds_toArray,List.set_cons_zero,List.set_cons_succ]) (hCont (v308,gb313) _ ⟨hHeld,(by (with_reducible repeat (first|apply Kd.R_alloc|apply Kd.R_drewN|apply Kd.R_drew));exact Kd.R_mono HO277.out (fun _ hk=>⟨hk.1.1,⟨hk.1.2,hk.2⟩⟩)),(by (with_reducible repeat (first|apply Kd.R_alloc|apply Kd.R_drewN|apply Kd.R_drew));exact Kd.R_mono HO289.out (fun _ hk=>⟨hk.1.1,⟨hk.1.2,hk.2⟩⟩)),(by (with_reducible repeat (first|apply Kd.R_alloc|apply Kd.R_drewN|apply Kd.R_drew));exact Kd.R_mono HO296.out (fun _ hk=>⟨hk.1.1,⟨hk.1.2,hk.2⟩⟩)),(by (with_reducible repeat (first|apply Kd.R_alloc|apply Kd.R_drewN|apply Kd.R_drew));exact Kd.R_mono HO309.out (fun _ hk=>⟨hk.1.1.2,⟨hk.1.2,hk.2⟩⟩)),(bp_ BK271.out),(bp_ BK272.out),(bp_ BK293.out),(bp_ BK299.out),(bp_ BK313.out),GW313.out,GE313.out,NB271_313.out,NB313_271.out,NB272_313.out,NB313_272.out,NB293_313.out,NB313_293.out,NB299_313.out,NB313_299.out,(bel_)⟩)
               ·skip
                refine box_step ?hg (N:=9) ?hd (cs:=#[.slice none 0 0,.int .i64 0,.bool false]) (t:=25) ?hr ?_;(case hd=>rfl);(case hg=>rfl);(case hr=>first|(go_simp;done)|(go_simp;rfl))
                intro gb313 hg w77 hbox hb
                have n0_:=a_ (Kd.R_below (rp_ HO277.out) hb)
                have n1_:=a_ (Kd.R_below (rp_ HO289.out) hb)
                have n2_:=a_ (Kd.R_below (rp_ HO296.out) hb)
                have n3_:=a_ (blk_below (g:=gb271) (o:=.cells #[.slice A0_0 l0_0.length c0_0,.int .i64 a0_1,.bool a0_2] 32 (0,0)) (bp_ BK271.out) hb)
                have n4_:=a_ (blk_below (g:=gb272) (o:=.cells #[.int .i64 a1_0,.int .i64 a1_1,.int .i64 a1_2,.int .i64 a1_3,.int .i64 a1_4,.int .i64 a1_5,.string a1_6] 36 (0,0)) (bp_ BK272.out) hb)
                have n5_:=a_ (blk_below (g:=gb293) (o:=.cells #[.slice Ao62 t287.length co62,.int .i64 t290,.bool t291] 25 (0,0)) (bp_ BK293.out) hb)
                have n6_:=a_ (blk_below (g:=gb299) (o:=.cells #[.slice Ao70 t294.length co70,.int .i64 t297,.bool t298] 25 (0,0)) (bp_ BK299.out) hb)
                have n7_:=a_ (bS_ (bel_) hb)
                have n8_:=a_ (hbox)
                have n9_:=a_ ((by rw [hg];exact (below_size (bel_)):w.heap.size≤gb313))
                have n10_:=a_ ((by rw [hg];exact (below_size (bel_)):w.heap.size≤gb313))
                have n11_:=a_ ((by rw [hg];exact Nat.ne_of_lt (blk_lt (g:=gb271) (o:=.cells #[.slice A0_0 l0_0.length c0_0,.int .i64 a0_1,.bool a0_2] 32 (0,0)) (bp_ BK271.out)):gb271≠gb313))
                have n12_:=a_ ((by rw [hg];exact Nat.ne_of_gt (blk_lt (g:=gb271) (o:=.cells #[.slice A0_0 l0_0.length c0_0,.int .i64 a0_1,.bool a0_2] 32 (0,0)) (bp_ BK271.out)):gb313≠gb271))
                have n13_:=a_ ((by rw [hg];exact Nat.ne_of_lt (blk_lt (g:=gb272) (o:=.cells #[.int .i64 a1_0,.int .i64 a1_1,.int .i64 a1_2,.int .i64 a1_3,.int .i64 a1_4,.int .i64 a1_5,.string a1_6] 36 (0,0)) (bp_ BK272.out)):gb272≠gb313))
                have n14_:=a_ ((by rw [hg];exact Nat.ne_of_gt (blk_lt (g:=gb272) (o:=.cells #[.int .i64 a1_0,.int .i64 a1_1,.int .i64 a1_2,.int .i64 a1_3,.int .i64 a1_4,.int .i64 a1_5,.string a1_6] 36 (0,0)) (bp_ BK272.out)):gb313≠gb272))
                have n15_:=a_ ((by rw [hg];exact Nat.ne_of_lt (blk_lt (g:=gb293) (o:=.cells #[.slice Ao62 t287.length co62,.int .i64 t290,.bool t291] 25 (0,0)) (bp_ BK293.out)):gb293≠gb313))
                have n16_:=a_ ((by rw [hg];exact Nat.ne_of_gt (blk_lt (g:=gb293) (o:=.cells #[.slice Ao62 t287.length co62,.int .i64 t290,.bool t291] 25 (0,0)) (bp_ BK293.out)):gb313≠gb293))
                have n17_:=a_ ((by rw [hg];exact Nat.ne_of_lt (blk_lt (g:=gb299) (o:=.cells #[.slice Ao70 t294.length co70,.int .i64 t297,.bool t298] 25 (0,0)) (bp_ BK299.out)):gb299≠gb313))
                have n18_:=a_ ((by rw [hg];exact Nat.ne_of_gt (blk_lt (g:=gb299) (o:=.cells #[.slice Ao70 t294.length co70,.int .i64 t297,.bool t298] 25 (0,0)) (bp_ BK299.out)):gb313≠gb299))
                clear HO277
                clear HO289
                clear HO296
                clear BK271
                clear BK272
                clear BK293
                clear BK299
                clear HB
                have HO277:=n0_
                have HO289:=n1_
                have HO296:=n2_
                have BK271:=n3_
                have BK272:=n4_
                have BK293:=n5_
                have BK299:=n6_
                have HB:=n7_
                have BK313:=n8_
                have GW313:=n9_
                have GE313:=n10_
                have NB271_313:=n11_
                have NB313_271:=n12_
                have NB272_313:=n13_
                have NB313_272:=n14_
                have NB293_313:=n15_
                have NB313_293:=n16_
                have NB299_313:=n17_
                have NB313_299:=n18_
                clear n0_ n1_ n2_ n3_ n4_ n5_ n6_ n7_ n8_ n9_ n10_ n11_ n12_ n13_ n14_ n15_ n16_ n17_ n18_
                clear hb hbox hg
                refine hK.out _ _ ⟨(bC_ BK299.out 0).trans rfl,(bC_ BK299.out 1).trans rfl,(bC_ BK299.out 2).trans rfl,(bC_ BK272.out 0).trans rfl,(bC_ BK272.out 1).trans rfl,(bC_ BK272.out 2).trans rfl,(bC_ BK272.out 3).trans rfl,(bC_ BK272.out 4).trans rfl,(bC_ BK272.out 5).trans rfl,(bC_ BK272.out 6).trans rfl⟩ (fun hHeld=>?_)
                clear hK K
                refine norm_ (a':=?_) ?_ ?_
                rotate_left
                ·show Act.put _ (some 9) _=_
                 simp only [Act.put,List.setIfInBounds_toArray,List.set_cons_zero,List.set_cons_succ,i64_w,i32_w]
                 rfl
                refine one_ (i:=2) (N:=some 39) #[true,true,true,false,false,false,false,true,false,false] rfl rfl (one_of HT_.out (by kernel_rfl)) (by decide) (fun K hK=>?_)
                refine goes_ Tryd.func23 (by kernel_rfl) rfl #[.agg #[.int .i64 a1_0,.int .i64 a1_1,.int .i64 a1_2,.int .i64 a1_3,.int .i64 a1_4,.int .i64 a1_5,.string a1_6]] (by rfl) rfl rfl ar_ ?_
                with_reducible refine (laws_toEntry.calls a1_0 a1_1 a1_2 a1_3 a1_4 a1_5 a1_6 t300 t301 t302 t303 t304 t305 t306 _ A23.out).mono ?_
                rintro e w78 ⟨rfl,hb⟩
                refine ⟨_,rfl,?_⟩
                have n0_:=a_ (Kd.R_below (rp_ HO277.out) hb)
                have n1_:=a_ (Kd.R_below (rp_ HO289.out) hb)
                have n2_:=a_ (Kd.R_below (rp_ HO296.out) hb)
                have n3_:=a_ (blk_below (g:=gb271) (o:=.cells #[.slice A0_0 l0_0.length c0_0,.int .i64 a0_1,.bool a0_2] 32 (0,0)) (bp_ BK271.out) hb)
                have n4_:=a_ (blk_below (g:=gb272) (o:=.cells #[.int .i64 a1_0,.int .i64 a1_1,.int .i64 a1_2,.int .i64 a1_3,.int .i64 a1_4,.int .i64 a1_5,.string a1_6] 36 (0,0)) (bp_ BK272.out) hb)
                have n5_:=a_ (blk_below (g:=gb293) (o:=.cells #[.slice Ao62 t287.length co62,.int .i64 t290,.bool t291] 25 (0,0)) (bp_ BK293.out) hb)
                have n6_:=a_ (blk_below (g:=gb299) (o:=.cells #[.slice Ao70 t294.length co70,.int .i64 t297,.bool t298] 25 (0,0)) (bp_ BK299.out) hb)
                have n7_:=a_ (blk_below (g:=gb313) (o:=.cells #[.slice none 0 0,.int .i64 0,.bool false] 25 (0,0)) (bp_ BK313.out) hb)
                have n8_:=a_ (bS_ (bel_) hb)
                clear HO277
                clear HO289
                clear HO296
                clear BK271
                clear BK272
                clear BK293
                clear BK299
                clear BK313
                clear HB
                have HO277:=n0_
                have HO289:=n1_
                have HO296:=n2_
                have BK271:=n3_
                have BK272:=n4_
                have BK293:=n5_
                have BK299:=n6_
                have BK313:=n7_
                have HB:=n8_
                clear n0_ n1_ n2_ n3_ n4_ n5_ n6_ n7_ n8_
                (try clear hb)
                (try clear hb2)
                (try clear hk)
                (try clear hi)
                refine hK.out _ _ ⟨(bC_ BK299.out 0).trans rfl,(bC_ BK299.out 1).trans rfl,(bC_ BK299.out 2).trans rfl,(bC_ BK272.out 0).trans rfl,(bC_ BK272.out 1).trans rfl,(bC_ BK272.out 2).trans rfl,(bC_ BK272.out 3).trans rfl,(bC_ BK272.out 4).trans rfl,(bC_ BK272.out 5).trans rfl,(bC_ BK272.out 6).trans rfl⟩ (fun hHeld=>?_)
                clear hK K
                refine norm_ (a':=?_) ?_ ?_
                rotate_left
                ·show Act.put _ (some 39) _=_
                 simp only [Act.put,List.setIfInBounds_toArray,List.set_cons_zero,List.set_cons_succ,i64_w,i32_w]
                 rfl
                refine one_ (i:=3) (N:=some 40) #[true,true,true,true,false,false,false,true,false,false] rfl rfl (one_of HT_.out (by kernel_rfl)) (by decide) (fun K hK=>?_)
                refine goes_ Tryd.func24 (by kernel_rfl) rfl #[.agg #[.slice Ao70 t294.length co70,.int .i64 t297,.bool t298],.agg #[.int .i64 t300,.int .i64 t301,.int .i64 t302,.int .i64 t303,.int .i64 t304,.int .i64 t305,.string t306]] (by rfl) rfl rfl ar_ ?_
                with_reducible refine (impl_ServerHear.calls k _ _ t294 t297 t298 t300 t301 t302 t303 t304 t305 t306 t307 t310 t311 t312 _ ?side1 ?side2 A24.out ?side3).mono ?_
                (case side1=>exact cx_ (Kd.R_reads' HO296.out).2.2)
                (case side2=>exact (Kd.R_reads' HO296.out).2.1)
                (case side3=>exact Glob.below HG.out (bel_))
                rintro e w79 ⟨v308,rfl,ho0,hb⟩
                refine ⟨_,rfl,?_⟩
                have n0_:=a_ (Kd.R_elder' (rp_ HO277.out) (Kd.R_base ho0) hb)
                have n1_:=a_ (Kd.R_elder' (rp_ HO289.out) (Kd.R_base ho0) hb)
                have n2_:=a_ (Kd.R_elder' (rp_ HO296.out) (Kd.R_base ho0) hb)
                have n3_:=a_ (Kd.R_lower (Kd.R_new' (Kd.R_new' (Kd.R_new' ho0 (Kd.R_lt (rp_ HO277.out))) (Kd.R_lt (rp_ HO289.out))) (Kd.R_lt (rp_ HO296.out))) (below_size (bel_)))
                have n4_:=a_ (blk_below (g:=gb271) (o:=.cells #[.slice A0_0 l0_0.length c0_0,.int .i64 a0_1,.bool a0_2] 32 (0,0)) (bp_ BK271.out) hb)
                have n5_:=a_ (blk_below (g:=gb272) (o:=.cells #[.int .i64 a1_0,.int .i64 a1_1,.int .i64 a1_2,.int .i64 a1_3,.int .i64 a1_4,.int .i64 a1_5,.string a1_6] 36 (0,0)) (bp_ BK272.out) hb)
                have n6_:=a_ (blk_below (g:=gb293) (o:=.cells #[.slice Ao62 t287.length co62,.int .i64 t290,.bool t291] 25 (0,0)) (bp_ BK293.out) hb)
                have n7_:=a_ (blk_below (g:=gb299) (o:=.cells #[.slice Ao70 t294.length co70,.int .i64 t297,.bool t298] 25 (0,0)) (bp_ BK299.out) hb)
                have n8_:=a_ (blk_below (g:=gb313) (o:=.cells #[.slice none 0 0,.int .i64 0,.bool false] 25 (0,0)) (bp_ BK313.out) hb)
                have n9_:=a_ (bS_ (bel_) hb)
                clear HO277
                clear HO289
                clear HO296
                clear BK271
                clear BK272
                clear BK293
                clear BK299
                clear BK313
                clear HB
                have HO277:=n0_
                have HO289:=n1_
                have HO296:=n2_
                have HO309:=n3_
                have BK271:=n4_
                have BK272:=n5_
                have BK293:=n6_
                have BK299:=n7_
                have BK313:=n8_
                have HB:=n9_
                clear n0_ n1_ n2_ n3_ n4_ n5_ n6_ n7_ n8_ n9_
                (try clear hb)
                (try clear hb2)
                (try clear hk)
                (try clear hi)
                (try clear ho0)
                refine hK.out _ _ ⟨(bC_ BK299.out 0).trans rfl,(bC_ BK299.out 1).trans rfl,(bC_ BK299.out 2).trans rfl,(bC_ BK272.out 0).trans rfl,(bC_ BK272.out 1).trans rfl,(bC_ BK272.out 2).trans rfl,(bC_ BK272.out 3).trans rfl,(bC_ BK272.out 4).trans rfl,(bC_ BK272.out 5).trans rfl,(bC_ BK272.out 6).trans rfl⟩ (fun hHeld=>?_)
                clear hK K
                refine norm_ (a':=?_) ?_ ?_
                rotate_left
                ·show Act.put _ (some 40) _=_
                 simp only [Act.put,List.setIfInBounds_toArray,List.set_cons_zero,List.set_cons_succ,i64_w,i32_w]
                 rfl
                refine pure_ (i:=4) (N:=some 36) (v:=?_) (a':=?_) #[true,true,true,true,true,false,false,true,false,false] rfl rfl (any_of HT_.out (by kernel_rfl)) (fun _ _ _ h=>h) (Or.inl ⟨by rfl,?_⟩) ?_ ?_
                rotate_left
                ·intro w'
                 go_simp
                 with_reducible rfl
                rotate_left
                ·simp only [Act.put,List.setIfInBounds_toArray,List.set_cons_zero,List.set_cons_succ,i64_w,i32_w]
                 rfl
                refine pure_ (i:=5) (N:=some 41) (v:=?_) (a':=?_) #[true,true,true,true,true,true,false,true,false,false] rfl rfl (any_of HT_.out (by kernel_rfl)) (fun _ _ _ h=>h) (Or.inl ⟨by rfl,?_⟩) ?_ ?_
                rotate_left
                ·intro w'
                 go_simp
                 with_reducible rfl
                rotate_left
                ·simp only [Act.put,List.setIfInBounds_toArray,List.set_cons_zero,List.set_cons_succ,i64_w,i32_w]
                 rfl
                refine pure_ (i:=6) (N:=some 42) (v:=?_) (a':=?_) #[true,true,true,true,true,true,true,true,false,false] rfl rfl (any_of HT_.out (by kernel_rfl)) (fun _ _ _ h=>h) (Or.inl ⟨by rfl,?_⟩) ?_ ?_
                rotate_left
                ·intro w'
                 go_simp
                 with_reducible rfl
                rotate_left
                ·simp only [Act.put,List.setIfInBounds_toArray,List.set_cons_zero,List.set_cons_succ,i64_w,i32_w]
                 rfl
                exact norm_ (by simp only [putAll,Act.put,List.setIfInBounds_toArray,List.set_cons_zero,List.set_cons_succ]) (hCont (v308,gb313) _ ⟨hHeld,(by (with_reducible repeat (first|apply Kd.R_alloc|apply Kd.R_drewN|apply Kd.R_drew));exact Kd.R_mono HO277.out (fun _ hk=>⟨hk.1.1,⟨hk.1.2,hk.2⟩⟩)),(by (with_reducible repeat (first|apply Kd.R_alloc|apply Kd.R_drewN|apply Kd.R_drew));exact Kd.R_mono HO289.out (fun _ hk=>⟨hk.1.1,⟨hk.1.2,hk.2⟩⟩)),(by (with_reducible repeat (first|apply Kd.R_alloc|apply Kd.R_drewN|apply Kd.R_drew));exact Kd.R_mono HO296.out (fun _ hk=>⟨hk.1.1,⟨hk.1.2,hk.2⟩⟩)),(by (with_reducible repeat (first|apply Kd.R_alloc|apply Kd.R_drewN|apply Kd.R_drew));exact Kd.R_mono HO309.out (fun _ hk=>⟨hk.1.1.2,⟨hk.1.2,hk.2⟩⟩)),(bp_ BK271.out),(bp_ BK272.out),(bp_ BK293.out),(bp_ BK299.out),(bp_ BK313.out),GW313.out,GE313.out,NB271_313.out,NB313_271.out,NB272_313.out,NB313_272.out,NB293_313.out,NB313_293.out,NB299_313.out,NB313_299.out,(bel_)⟩)
              rintro ⟨v308,gb313⟩ w80 ⟨hS_,h0_,h1_,h2_,h3_,h4_,h5_,h6_,h7_,h8_,h9_,h10_,h11_,h12_,h13_,h14_,h15_,h16_,h17_,h18_,h19_⟩
              have n0_:Aside0 (Kd.R k44 44 w80 w.heap.size (fun k_=>some k_≠(.slice Ao62 t287.length co62:Value).ownBlock∧some k_≠(.slice Ao70 t294.length co70:Value).ownBlock∧some k_≠(v308:Value).ownBlock) v276 t275):=⟨h0_⟩
              have n1_:Aside0 (Kd.R k44 44 w80 w.heap.size (fun k_=>some k_≠(v276:Value).ownBlock∧some k_≠(.slice Ao70 t294.length co70:Value).ownBlock∧some k_≠(v308:Value).ownBlock) (.slice Ao62 t287.length co62) t287):=⟨h1_⟩
              have n2_:Aside0 (Kd.R k44 44 w80 w.heap.size (fun k_=>some k_≠(v276:Value).ownBlock∧some k_≠(.slice Ao62 t287.length co62:Value).ownBlock∧some k_≠(v308:Value).ownBlock) (.slice Ao70 t294.length co70) t294):=⟨h2_⟩
              have n3_:Aside0 (Kd.R k44 44 w80 w.heap.size (fun k_=>some k_≠(v276:Value).ownBlock∧some k_≠(.slice Ao62 t287.length co62:Value).ownBlock∧some k_≠(.slice Ao70 t294.length co70:Value).ownBlock) v308 t307):=⟨h3_⟩
              have n4_:Aside0 (w80.heap[gb271]?=some (.cells #[.slice A0_0 l0_0.length c0_0,.int .i64 a0_1,.bool a0_2] 32 (0,0))):=⟨h4_⟩
              have n5_:Aside0 (w80.heap[gb272]?=some (.cells #[.int .i64 a1_0,.int .i64 a1_1,.int .i64 a1_2,.int .i64 a1_3,.int .i64 a1_4,.int .i64 a1_5,.string a1_6] 36 (0,0))):=⟨h5_⟩
              have n6_:Aside0 (w80.heap[gb293]?=some (.cells #[.slice Ao62 t287.length co62,.int .i64 t290,.bool t291] 25 (0,0))):=⟨h6_⟩
              have n7_:Aside0 (w80.heap[gb299]?=some (.cells #[.slice Ao70 t294.length co70,.int .i64 t297,.bool t298] 25 (0,0))):=⟨h7_⟩
              have n8_:Aside0 (w80.heap[gb313]?=some (.cells #[.slice none 0 0,.int .i64 0,.bool false] 25 (0,0))):=⟨h8_⟩
              have n9_:Aside0 (w.heap.size≤gb313):=⟨h9_⟩
              have n10_:Aside0 (w.heap.size≤gb313):=⟨h10_⟩
              have n11_:Aside0 (gb271≠gb313):=⟨h11_⟩
              have n12_:Aside0 (gb313≠gb271):=⟨h12_⟩
              have n13_:Aside0 (gb272≠gb313):=⟨h13_⟩
              have n14_:Aside0 (gb313≠gb272):=⟨h14_⟩
              have n15_:Aside0 (gb293≠gb313):=⟨h15_⟩
              have n16_:Aside0 (gb313≠gb293):=⟨h16_⟩
              have n17_:Aside0 (gb299≠gb313):=⟨h17_⟩
              have n18_:Aside0 (gb313≠gb299):=⟨h18_⟩
              have n19_:Aside0 (Below w.heap.size w w80):=⟨h19_⟩
              clear HO277
              clear HO289
              clear HO296
              clear BK271
              clear BK272
              clear BK293
              clear BK299
              clear HB
              clear h0_ h1_ h2_ h3_ h4_ h5_ h6_ h7_ h8_ h9_ h10_ h11_ h12_ h13_ h14_ h15_ h16_ h17_ h18_ h19_
              have HO277:=n0_
              have HO289:=n1_
              have HO296:=n2_
              have HO309:=n3_
              have BK271:=n4_
              have BK272:=n5_
              have BK293:=n6_
              have BK299:=n7_
              have BK313:=n8_
              have GW313:=n9_
              have GE313:=n10_
              have NB271_313:=n11_
              have NB313_271:=n12_
              have NB272_313:=n13_
              have NB313_272:=n14_
              have NB293_313:=n15_
              have NB313_293:=n16_
              have NB299_313:=n17_
              have NB313_299:=n18_
              have HB:=n19_
              clear n0_ n1_ n2_ n3_ n4_ n5_ n6_ n7_ n8_ n9_ n10_ n11_ n12_ n13_ n14_ n15_ n16_ n17_ n18_ n19_
              have hHeld:w80.cell? ⟨gb299,0,none⟩=some (.slice Ao70 t294.length co70)∧w80.cell? ⟨gb299,1,none⟩=some (.int .i64 t297)∧w80.cell? ⟨gb299,2,none⟩=some (.bool t298)∧w80.cell? ⟨gb272,0,none⟩=some (.int .i64 a1_0)∧w80.cell? ⟨gb272,1,none⟩=some (.int .i64 a1_1)∧w80.cell? ⟨gb272,2,none⟩=some (.int .i64 a1_2)∧w80.cell? ⟨gb272,3,none⟩=some (.int .i64 a1_3)∧w80.cell? ⟨gb272,4,none⟩=some (.int .i64 a1_4)∧w80.cell? ⟨gb272,5,none⟩=some (.int .i64 a1_5)∧w80.cell? ⟨gb272,6,none⟩=some (.string a1_6):=hS_
              obtain ⟨Ao81,co81,eo81⟩:=Kd.R_slice HO309.out
              (first|subst eo81|(injection eo81 with f1_ f2_ f3_;have f4_:=f1_.symm;have f5_:=f3_.symm;clear f1_ f2_ f3_;subst f4_;subst f5_))
              refine norm_ (a':=?_) ?_ ?_
              rotate_left
              ·simp only [putAll,Act.put,List.setIfInBounds_toArray,List.set_cons_zero,List.set_cons_succ]
               rfl
              refine one_ (i:=8) (N:=none) #[true,true,true,true,true,true,true,true,true,false] rfl rfl (one_of HT_.out (by kernel_rfl)) (by decide) (fun K hK=>?_)
              have hs82:w80.cell? ⟨gb313,0,none⟩=some (.slice none 0 0):=(bC_ BK313.out 0).trans rfl
              have hfs82:=bF_ BK313.out 0
              have hns82_0:=NB271_313.out
              have hns82_1:=NB272_313.out
              have hns82_2:=NB293_313.out
              have hns82_3:=NB299_313.out
              have hms82_0:=NB313_271.out
              have hms82_1:=NB313_272.out
              have hms82_2:=NB313_293.out
              have hms82_3:=NB313_299.out
              have hs83:w80.cell? ⟨gb313,1,none⟩=some (.int .i64 0):=(bC_ BK313.out 1).trans rfl
              have hfs83:=bF_ BK313.out 1
              have hns83_0:=NB271_313.out
              have hns83_1:=NB272_313.out
              have hns83_2:=NB293_313.out
              have hns83_3:=NB299_313.out
              have hms83_0:=NB313_271.out
              have hms83_1:=NB313_272.out
              have hms83_2:=NB313_293.out
              have hms83_3:=NB313_299.out
              have hs84:w80.cell? ⟨gb313,2,none⟩=some (.bool false):=(bC_ BK313.out 2).trans rfl
              have hfs84:=bF_ BK313.out 2
              have hns84_0:=NB271_313.out
              have hns84_1:=NB272_313.out
              have hns84_2:=NB293_313.out
              have hns84_3:=NB299_313.out
              have hms84_0:=NB313_271.out
              have hms84_1:=NB313_272.out
              have hms84_2:=NB313_293.out
              have hms84_3:=NB313_299.out
              refine skip_ (w1:=?_) (by rfl) rfl ?_ ?_
              rotate_left
              ·go_simp
               rfl
              refine hK.out _ _ ⟨((cF_ (p:=⟨gb313,_,none⟩) NB299_313.out _).trans (((cF_ (p:=⟨gb313,_,none⟩) NB299_313.out _).trans (((cF_ (p:=⟨gb313,_,none⟩) NB299_313.out _).trans (hHeld.1)))))),((cF_ (p:=⟨gb313,_,none⟩) NB299_313.out _).trans (((cF_ (p:=⟨gb313,_,none⟩) NB299_313.out _).trans (((cF_ (p:=⟨gb313,_,none⟩) NB299_313.out _).trans (hHeld.2.1)))))),((cF_ (p:=⟨gb313,_,none⟩) NB299_313.out _).trans (((cF_ (p:=⟨gb313,_,none⟩) NB299_313.out _).trans (((cF_ (p:=⟨gb313,_,none⟩) NB299_313.out _).trans (hHeld.2.2.1)))))),((cF_ (p:=⟨gb313,_,none⟩) NB272_313.out _).trans (((cF_ (p:=⟨gb313,_,none⟩) NB272_313.out _).trans (((cF_ (p:=⟨gb313,_,none⟩) NB272_313.out _).trans (hHeld.2.2.2.1)))))),((cF_ (p:=⟨gb313,_,none⟩) NB272_313.out _).trans (((cF_ (p:=⟨gb313,_,none⟩) NB272_313.out _).trans (((cF_ (p:=⟨gb313,_,none⟩) NB272_313.out _).trans (hHeld.2.2.2.2.1)))))),((cF_ (p:=⟨gb313,_,none⟩) NB272_313.out _).trans (((cF_ (p:=⟨gb313,_,none⟩) NB272_313.out _).trans (((cF_ (p:=⟨gb313,_,none⟩) NB272_313.out _).trans (hHeld.2.2.2.2.2.1)))))),((cF_ (p:=⟨gb313,_,none⟩) NB272_313.out _).trans (((cF_ (p:=⟨gb313,_,none⟩) NB272_313.out _).trans (((cF_ (p:=⟨gb313,_,none⟩) NB272_313.out _).trans (hHeld.2.2.2.2.2.2.1)))))),((cF_ (p:=⟨gb313,_,none⟩) NB272_313.out _).trans (((cF_ (p:=⟨gb313,_,none⟩) NB272_313.out _).trans (((cF_ (p:=⟨gb313,_,none⟩) NB272_313.out _).trans (hHeld.2.2.2.2.2.2.2.1)))))),((cF_ (p:=⟨gb313,_,none⟩) NB272_313.out _).trans (((cF_ (p:=⟨gb313,_,none⟩) NB272_313.out _).trans (((cF_ (p:=⟨gb313,_,none⟩) NB272_313.out _).trans (hHeld.2.2.2.2.2.2.2.2.1)))))),((cF_ (p:=⟨gb313,_,none⟩) NB272_313.out _).trans (((cF_ (p:=⟨gb313,_,none⟩) NB272_313.out _).trans (((cF_ (p:=⟨gb313,_,none⟩) NB272_313.out _).trans (hHeld.2.2.2.2.2.2.2.2.2))))))⟩ (fun hHeld=>?_)
              clear hK K
              refine pure_ (i:=9) (N:=some 10) (v:=?_) (a':=?_) #[true,true,true,true,true,true,true,true,true,true] rfl rfl (any_of HT_.out (by kernel_rfl)) (fun _ _ _ h=>h) (Or.inl ⟨by rfl,?_⟩) ?_ ?_
              rotate_left
              ·intro w'
               go_simp
               with_reducible rfl
              rotate_left
              ·simp only [Act.put,List.setIfInBounds_toArray,List.set_cons_zero,List.set_cons_succ,i64_w,i32_w]
               rfl
              refine done_ (done_of HT_.out (by kernel_rfl)) ?_
              have hnb85:=NB313_271.out
              have hnc85:=NB271_313.out
              have hnb86:=NB313_272.out
              have hnc86:=NB272_313.out
              have hnb87:=NB313_293.out
              have hnc87:=NB293_313.out
              have hnb88:=NB313_299.out
              have hnc88:=NB299_313.out
              have Z89_0:=cz_ BK313.out 0 (.slice none 0 0)
              have Z89_1:=cz_ BK313.out 1 (.int .i64 0)
              have Z89_2:=cz_ BK313.out 2 (.bool false)
              have Y89_0:=bF_ BK313.out 0
              have Y89_1:=bF_ BK313.out 1
              have Y89_2:=bF_ BK313.out 2
              have hnb90:=NB293_272.out
              have hnc90:=NB272_293.out
              have Z91_0:=cz_ BK293.out 0 (.slice Ao62 t287.length co62)
              have Z91_1:=cz_ BK293.out 1 (.int .i64 t290)
              have Z91_2:=cz_ BK293.out 2 (.bool t291)
              have Y91_0:=bF_ BK293.out 0
              have Y91_1:=bF_ BK293.out 1
              have Y91_2:=bF_ BK293.out 2
              try go_wp2_with (first|((with_reducible refine gC_ (f:=25) rfl ?_);refine gl_ 45 Tryd.func25 #[.agg #[.slice Ao81 t307.length co81,.int .i64 t310,.bool t311],.agg #[.slice Ao62 t287.length co62,.int .i64 t290,.bool t291]] ?_;(with_reducible refine (laws_eqServer.calls k _ _ t307 t310 t311 _ _ t287 t290 t291 true _ ?side1 ?side2 ?side3 ?side4 A25.out).mono ?_);(case side1=>refine (Kd.R_reads' (e:=44) (base:=w.heap.size) (ok:=fun k_=>(some k_≠(v276:Value).ownBlock∧(some k_≠(.slice Ao62 t287.length co62:Value).ownBlock∧some k_≠(.slice Ao70 t294.length co70:Value).ownBlock))) (n:=t307.length) (c:=co81) ?_).2.2;exact (by (with_reducible repeat (first|apply Kd.R_alloc|apply Kd.R_drewN|apply Kd.R_drew));exact (Kd.R_mono (Kd.R_far (p:=⟨gb313,2,none⟩) (Kd.R_far (p:=⟨gb313,1,none⟩) (Kd.R_far (p:=⟨gb313,0,none⟩) (Kd.R_types HO309.out BK313.out (by decide)) (fun _ hk=>hk.2) (.slice Ao81 t307.length co81)) (fun _ hk=>hk.2) (.int .i64 t310)) (fun _ hk=>hk.2) (.bool t311)) (fun _ h_=>h_.1))));(case side2=>exact (Kd.R_reads' HO309.out).2.1);(case side3=>refine (Kd.R_reads' (e:=44) (base:=w.heap.size) (ok:=fun k_=>(some k_≠(v276:Value).ownBlock∧(some k_≠(.slice Ao70 t294.length co70:Value).ownBlock∧some k_≠(.slice Ao81 t307.length co81:Value).ownBlock))) (n:=t287.length) (c:=co62) ?_).2.2;exact (by (with_reducible repeat (first|apply Kd.R_alloc|apply Kd.R_drewN|apply Kd.R_drew));exact (Kd.R_mono (Kd.R_far (p:=⟨gb313,2,none⟩) (Kd.R_far (p:=⟨gb313,1,none⟩) (Kd.R_far (p:=⟨gb313,0,none⟩) (Kd.R_types HO289.out BK313.out (by decide)) (fun _ hk=>hk.2) (.slice Ao81 t307.length co81)) (fun _ hk=>hk.2) (.int .i64 t310)) (fun _ hk=>hk.2) (.bool t311)) (fun _ h_=>h_.1))));(case side4=>exact (Kd.R_reads' HO289.out).2.1);rintro e w92 ⟨rfl,hb⟩;refine ⟨_,rfl,?_⟩;have n0_:=a_ (Kd.R_below (by (with_reducible repeat (first|apply Kd.R_alloc|apply Kd.R_drewN|apply Kd.R_drew));exact (Kd.R_mono (Kd.R_far (p:=⟨gb313,2,none⟩) (Kd.R_far (p:=⟨gb313,1,none⟩) (Kd.R_far (p:=⟨gb313,0,none⟩) (Kd.R_types HO277.out BK313.out (by decide)) (fun _ hk=>hk.2) (.slice Ao81 t307.length co81)) (fun _ hk=>hk.2) (.int .i64 t310)) (fun _ hk=>hk.2) (.bool t311)) (fun _ h_=>h_.1))) hb);have n1_:=a_ (Kd.R_below (by (with_reducible repeat (first|apply Kd.R_alloc|apply Kd.R_drewN|apply Kd.R_drew));exact (Kd.R_mono (Kd.R_far (p:=⟨gb313,2,none⟩) (Kd.R_far (p:=⟨gb313,1,none⟩) (Kd.R_far (p:=⟨gb313,0,none⟩) (Kd.R_types HO289.out BK313.out (by decide)) (fun _ hk=>hk.2) (.slice Ao81 t307.length co81)) (fun _ hk=>hk.2) (.int .i64 t310)) (fun _ hk=>hk.2) (.bool t311)) (fun _ h_=>h_.1))) hb);have n2_:=a_ (Kd.R_below (by (with_reducible repeat (first|apply Kd.R_alloc|apply Kd.R_drewN|apply Kd.R_drew));exact (Kd.R_mono (Kd.R_far (p:=⟨gb313,2,none⟩) (Kd.R_far (p:=⟨gb313,1,none⟩) (Kd.R_far (p:=⟨gb313,0,none⟩) (Kd.R_types HO296.out BK313.out (by decide)) (fun _ hk=>hk.2) (.slice Ao81 t307.length co81)) (fun _ hk=>hk.2) (.int .i64 t310)) (fun _ hk=>hk.2) (.bool t311)) (fun _ h_=>h_.1))) hb);have n3_:=a_ (Kd.R_below (by (with_reducible repeat (first|apply Kd.R_alloc|apply Kd.R_drewN|apply Kd.R_drew));exact (Kd.R_mono (Kd.R_far (p:=⟨gb313,2,none⟩) (Kd.R_far (p:=⟨gb313,1,none⟩) (Kd.R_far (p:=⟨gb313,0,none⟩) (Kd.R_types HO309.out BK313.out (by decide)) (fun _ hk=>hk.2) (.slice Ao81 t307.length co81)) (fun _ hk=>hk.2) (.int .i64 t310)) (fun _ hk=>hk.2) (.bool t311)) (fun _ h_=>h_.1))) hb);have n4_:=a_ (blk_below (g:=gb271) (o:=.cells #[.slice A0_0 l0_0.length c0_0,.int .i64 a0_1,.bool a0_2] 32 (0,0)) (by (with_reducible repeat (first|refine bN_ ?_ _|refine bD_ ?_|refine bA_ ?_ _));refine blk_far ?_ NB271_313.out _;(with_reducible repeat (first|refine bN_ ?_ _|refine bD_ ?_|refine bA_ ?_ _));refine blk_far ?_ NB271_313.out _;(with_reducible repeat (first|refine bN_ ?_ _|refine bD_ ?_|refine bA_ ?_ _));refine blk_far ?_ NB271_313.out _;(with_reducible repeat (first|refine bN_ ?_ _|refine bD_ ?_|refine bA_ ?_ _));exact BK271.out) hb);have n5_:=a_ (blk_below (g:=gb272) (o:=.cells #[.int .i64 a1_0,.int .i64 a1_1,.int .i64 a1_2,.int .i64 a1_3,.int .i64 a1_4,.int .i64 a1_5,.string a1_6] 36 (0,0)) (by (with_reducible repeat (first|refine bN_ ?_ _|refine bD_ ?_|refine bA_ ?_ _));refine blk_far ?_ NB272_313.out _;(with_reducible repeat (first|refine bN_ ?_ _|refine bD_ ?_|refine bA_ ?_ _));refine blk_far ?_ NB272_313.out _;(with_reducible repeat (first|refine bN_ ?_ _|refine bD_ ?_|refine bA_ ?_ _));refine blk_far ?_ NB272_313.out _;(with_reducible repeat (first|refine bN_ ?_ _|refine bD_ ?_|refine bA_ ?_ _));exact BK272.out) hb);have n6_:=a_ (blk_below (g:=gb293) (o:=.cells #[.slice Ao62 t287.length co62,.int .i64 t290,.bool t291] 25 (0,0)) (by (with_reducible repeat (first|refine bN_ ?_ _|refine bD_ ?_|refine bA_ ?_ _));refine blk_far ?_ NB293_313.out _;(with_reducible repeat (first|refine bN_ ?_ _|refine bD_ ?_|refine bA_ ?_ _));refine blk_far ?_ NB293_313.out _;(with_reducible repeat (first|refine bN_ ?_ _|refine bD_ ?_|refine bA_ ?_ _));refine blk_far ?_ NB293_313.out _;(with_reducible repeat (first|refine bN_ ?_ _|refine bD_ ?_|refine bA_ ?_ _));exact BK293.out) hb);have n7_:=a_ (blk_below (g:=gb299) (o:=.cells #[.slice Ao70 t294.length co70,.int .i64 t297,.bool t298] 25 (0,0)) (by (with_reducible repeat (first|refine bN_ ?_ _|refine bD_ ?_|refine bA_ ?_ _));refine blk_far ?_ NB299_313.out _;(with_reducible repeat (first|refine bN_ ?_ _|refine bD_ ?_|refine bA_ ?_ _));refine blk_far ?_ NB299_313.out _;(with_reducible repeat (first|refine bN_ ?_ _|refine bD_ ?_|refine bA_ ?_ _));refine blk_far ?_ NB299_313.out _;(with_reducible repeat (first|refine bN_ ?_ _|refine bD_ ?_|refine bA_ ?_ _));exact BK299.out) hb);have n8_:=a_ (blk_below (g:=gb313) (o:=.cells #[.slice Ao81 t307.length co81,.int .i64 t310,.bool t311] 25 (0,0)) (by (with_reducible repeat (first|refine bN_ ?_ _|refine bD_ ?_|refine bA_ ?_ _));refine blk_put (cs:=#[.slice Ao81 t307.length co81,.int .i64 t310,.bool false]) ?_ 2 _ rfl;(with_reducible repeat (first|refine bN_ ?_ _|refine bD_ ?_|refine bA_ ?_ _));refine blk_put (cs:=#[.slice Ao81 t307.length co81,.int .i64 0,.bool false]) ?_ 1 _ rfl;(with_reducible repeat (first|refine bN_ ?_ _|refine bD_ ?_|refine bA_ ?_ _));refine blk_put (cs:=#[.slice none 0 0,.int .i64 0,.bool false]) ?_ 0 _ rfl;(with_reducible repeat (first|refine bN_ ?_ _|refine bD_ ?_|refine bA_ ?_ _));exact BK313.out) hb);have n9_:=a_ (bS_ (bel_) hb);clear HO277;clear HO289;clear HO296;clear HO309;clear BK271;clear BK272;clear BK293;clear BK299;clear BK313;clear HB;have HO277:=n0_;have HO289:=n1_;have HO296:=n2_;have HO309:=n3_;have BK271:=n4_;have BK272:=n5_;have BK293:=n6_;have BK299:=n7_;have BK313:=n8_;have HB:=n9_;clear n0_ n1_ n2_ n3_ n4_ n5_ n6_ n7_ n8_ n9_;(try clear hb)))
              have n0_:=a_ (Kd.R_drew HO277.out)
              have n1_:=a_ (Kd.R_drew HO289.out)
              have n2_:=a_ (Kd.R_drew HO296.out)
              have n3_:=a_ (Kd.R_drew HO309.out)
              have n4_:=a_ (bD_ BK271.out)
              have n5_:=a_ (bD_ BK272.out)
              have n6_:=a_ (bD_ BK293.out)
              have n7_:=a_ (bD_ BK299.out)
              have n8_:=a_ (bD_ BK313.out)
              have n9_:=a_ (below_drew1 HB.out)
              clear HO277
              clear HO289
              clear HO296
              clear HO309
              clear BK271
              clear BK272
              clear BK293
              clear BK299
              clear BK313
              clear HB
              have HO277:=n0_
              have HO289:=n1_
              have HO296:=n2_
              have HO309:=n3_
              have BK271:=n4_
              have BK272:=n5_
              have BK293:=n6_
              have BK299:=n7_
              have BK313:=n8_
              have HB:=n9_
              clear n0_ n1_ n2_ n3_ n4_ n5_ n6_ n7_ n8_ n9_
              refine start_ (n:=5) (S:=fun w'=>w'.cell? ⟨gb299,0,none⟩=some (.slice Ao70 t294.length co70)∧w'.cell? ⟨gb299,1,none⟩=some (.int .i64 t297)∧w'.cell? ⟨gb299,2,none⟩=some (.bool t298)∧w'.cell? ⟨gb271,0,none⟩=some (.slice A0_0 l0_0.length c0_0)∧w'.cell? ⟨gb271,1,none⟩=some (.int .i64 a0_1)∧w'.cell? ⟨gb271,2,none⟩=some (.bool a0_2)) (ds:=[]) #[false,false,false,false,false] (by kernel_rfl) rfl rfl ⟨(bC_ BK299.out 0).trans rfl,(bC_ BK299.out 1).trans rfl,(bC_ BK299.out 2).trans rfl,(bC_ BK271.out 0).trans rfl,(bC_ BK271.out 1).trans rfl,(bC_ BK271.out 2).trans rfl⟩ (fun hHeld=>?_)
              generalize w92.drew=w93 at HO277 HO289 HO296 HO309 BK271 BK272 BK293 BK299 BK313 HB hHeld ⊢
              refine take_ (i:=0) (N:=some 52) (v:=?_) (a':=?_) #[true,false,false,false,false] rfl rfl (by kernel_rfl) (fun _ _ _ h=>h) (Or.inl ⟨by rfl,?_⟩) hHeld ?_ ?_
              rotate_left
              ·rintro w' ⟨s0,s1,s2,s3,s4,s5⟩
               go_simp
               with_reducible rfl
              rotate_left
              ·simp only [Act.put,List.setIfInBounds_toArray,List.set_cons_zero,List.set_cons_succ,i64_w,i32_w]
               rfl
              refine take_ (i:=1) (N:=some 53) (v:=?_) (a':=?_) #[true,true,false,false,false] rfl rfl (by kernel_rfl) (fun _ _ _ h=>h) (Or.inl ⟨by rfl,?_⟩) hHeld ?_ ?_
              rotate_left
              ·rintro w' ⟨s0,s1,s2,s3,s4,s5⟩
               go_simp
               with_reducible rfl
              rotate_left
              ·simp only [Act.put,List.setIfInBounds_toArray,List.set_cons_zero,List.set_cons_succ,i64_w,i32_w]
               rfl
              refine one_ (i:=2) (N:=some 54) #[true,true,true,false,false] rfl rfl (by kernel_rfl) (by decide) (fun K hK=>?_)
              refine goes_ Tryd.func22 (by kernel_rfl) rfl #[.agg #[.slice A0_0 l0_0.length c0_0,.int .i64 a0_1,.bool a0_2]] (by rfl) rfl rfl ar_ ?_
              with_reducible refine (laws_toServer.calls k _ _ l0_0 a0_1 a0_2 t315 t318 t319 _ ?side1 ?side2 A28.out).mono ?_
              (case side1=>exact cp_ HR0_0.out)
              (case side2=>exact HC0_0.out)
              rintro e w94 ⟨v316,rfl,ho0,hb⟩
              refine ⟨_,rfl,?_⟩
              have n0_:=a_ (Kd.R_elder' (rp_ HO277.out) (Kd.R_base ho0) hb)
              have n1_:=a_ (Kd.R_elder' (rp_ HO289.out) (Kd.R_base ho0) hb)
              have n2_:=a_ (Kd.R_elder' (rp_ HO296.out) (Kd.R_base ho0) hb)
              have n3_:=a_ (Kd.R_elder' (rp_ HO309.out) (Kd.R_base ho0) hb)
              have n4_:=a_ (Kd.R_lower (Kd.R_new' (Kd.R_new' (Kd.R_new' (Kd.R_new' ho0 (Kd.R_lt (rp_ HO277.out))) (Kd.R_lt (rp_ HO289.out))) (Kd.R_lt (rp_ HO296.out))) (Kd.R_lt (rp_ HO309.out))) (below_size (bel_)))
              have n5_:=a_ (blk_below (g:=gb271) (o:=.cells #[.slice A0_0 l0_0.length c0_0,.int .i64 a0_1,.bool a0_2] 32 (0,0)) (bp_ BK271.out) hb)
              have n6_:=a_ (blk_below (g:=gb272) (o:=.cells #[.int .i64 a1_0,.int .i64 a1_1,.int .i64 a1_2,.int .i64 a1_3,.int .i64 a1_4,.int .i64 a1_5,.string a1_6] 36 (0,0)) (bp_ BK272.out) hb)
              have n7_:=a_ (blk_below (g:=gb293) (o:=.cells #[.slice Ao62 t287.length co62,.int .i64 t290,.bool t291] 25 (0,0)) (bp_ BK293.out) hb)
              have n8_:=a_ (blk_below (g:=gb299) (o:=.cells #[.slice Ao70 t294.length co70,.int .i64 t297,.bool t298] 25 (0,0)) (bp_ BK299.out) hb)
              have n9_:=a_ (blk_below (g:=gb313) (o:=.cells #[.slice Ao81 t307.length co81,.int .i64 t310,.bool t311] 25 (0,0)) (bp_ BK313.out) hb)
              have n10_:=a_ (bS_ (bel_) hb)
              clear HO277
              clear HO289
              clear HO296
              clear HO309
              clear BK271
              clear BK272
              clear BK293
              clear BK299
              clear BK313
              clear HB
              have HO277:=n0_
              have HO289:=n1_
              have HO296:=n2_
              have HO309:=n3_
              have HO317:=n4_
              have BK271:=n5_
              have BK272:=n6_
              have BK293:=n7_
              have BK299:=n8_
              have BK313:=n9_
              have HB:=n10_
              clear n0_ n1_ n2_ n3_ n4_ n5_ n6_ n7_ n8_ n9_ n10_
              (try clear hb)
              (try clear hb2)
              (try clear hk)
              (try clear hi)
              (try clear ho0)
              obtain ⟨Ao95,co95,eo95⟩:=Kd.R_slice HO317.out
              (first|subst eo95|(injection eo95 with f1_ f2_ f3_;have f4_:=f1_.symm;have f5_:=f3_.symm;clear f1_ f2_ f3_;subst f4_;subst f5_))
              refine hK.out _ _ ⟨(bC_ BK299.out 0).trans rfl,(bC_ BK299.out 1).trans rfl,(bC_ BK299.out 2).trans rfl,(bC_ BK271.out 0).trans rfl,(bC_ BK271.out 1).trans rfl,(bC_ BK271.out 2).trans rfl⟩ (fun hHeld=>?_)
              clear hK K
              refine norm_ (a':=?_) ?_ ?_
              rotate_left
              ·show Act.put _ (some 54) _=_
               simp only [Act.put,List.setIfInBounds_toArray,List.set_cons_zero,List.set_cons_succ,i64_w,i32_w]
               rfl
              refine one_ (i:=3) (N:=some 55) #[true,true,true,true,false] rfl rfl (by kernel_rfl) (by decide) (fun K hK=>?_)
              refine goes_ Tryd.func25 (by kernel_rfl) rfl #[.agg #[.slice Ao70 t294.length co70,.int .i64 t297,.bool t298],.agg #[.slice Ao95 t315.length co95,.int .i64 t318,.bool t319]] (by rfl) rfl rfl ar_ ?_
              with_reducible refine (laws_eqServer.calls k _ _ t294 t297 t298 _ _ t315 t318 t319 true _ ?side1 ?side2 ?side3 ?side4 A29.out).mono ?_
              (case side1=>exact cx_ (Kd.R_reads' HO296.out).2.2)
              (case side2=>exact (Kd.R_reads' HO296.out).2.1)
              (case side3=>exact cx_ (Kd.R_reads' HO317.out).2.2)
              (case side4=>exact (Kd.R_reads' HO317.out).2.1)
              rintro e w96 ⟨rfl,hb⟩
              refine ⟨_,rfl,?_⟩
              have n0_:=a_ (Kd.R_below (rp_ HO277.out) hb)
              have n1_:=a_ (Kd.R_below (rp_ HO289.out) hb)
              have n2_:=a_ (Kd.R_below (rp_ HO296.out) hb)
              have n3_:=a_ (Kd.R_below (rp_ HO309.out) hb)
              have n4_:=a_ (Kd.R_below (rp_ HO317.out) hb)
              have n5_:=a_ (blk_below (g:=gb271) (o:=.cells #[.slice A0_0 l0_0.length c0_0,.int .i64 a0_1,.bool a0_2] 32 (0,0)) (bp_ BK271.out) hb)
              have n6_:=a_ (blk_below (g:=gb272) (o:=.cells #[.int .i64 a1_0,.int .i64 a1_1,.int .i64 a1_2,.int .i64 a1_3,.int .i64 a1_4,.int .i64 a1_5,.string a1_6] 36 (0,0)) (bp_ BK272.out) hb)
              have n7_:=a_ (blk_below (g:=gb293) (o:=.cells #[.slice Ao62 t287.length co62,.int .i64 t290,.bool t291] 25 (0,0)) (bp_ BK293.out) hb)
              have n8_:=a_ (blk_below (g:=gb299) (o:=.cells #[.slice Ao70 t294.length co70,.int .i64 t297,.bool t298] 25 (0,0)) (bp_ BK299.out) hb)
              have n9_:=a_ (blk_below (g:=gb313) (o:=.cells #[.slice Ao81 t307.length co81,.int .i64 t310,.bool t311] 25 (0,0)) (bp_ BK313.out) hb)
              have n10_:=a_ (bS_ (bel_) hb)
              clear HO277
              clear HO289
              clear HO296
              clear HO309
              clear HO317
              clear BK271
              clear BK272
              clear BK293
              clear BK299
              clear BK313
              clear HB
              have HO277:=n0_
              have HO289:=n1_
              have HO296:=n2_
              have HO309:=n3_
              have HO317:=n4_
              have BK271:=n5_
              have BK272:=n6_
              have BK293:=n7_
              have BK299:=n8_
              have BK313:=n9_
              have HB:=n10_
              clear n0_ n1_ n2_ n3_ n4_ n5_ n6_ n7_ n8_ n9_ n10_
              (try clear hb)
              (try clear hb2)
              (try clear hk)
              (try clear hi)
              refine hK.out _ _ ⟨(bC_ BK299.out 0).trans rfl,(bC_ BK299.out 1).trans rfl,(bC_ BK299.out 2).trans rfl,(bC_ BK271.out 0).trans rfl,(bC_ BK271.out 1).trans rfl,(bC_ BK271.out 2).trans rfl⟩ (fun hHeld=>?_)
              clear hK K
              refine norm_ (a':=?_) ?_ ?_
              rotate_left
              ·show Act.put _ (some 55) _=_
               simp only [Act.put,List.setIfInBounds_toArray,List.set_cons_zero,List.set_cons_succ,i64_w,i32_w]
               rfl
              refine pure_ (i:=4) (N:=some 56) (v:=?_) (a':=?_) #[true,true,true,true,true] rfl rfl (by kernel_rfl) (fun _ _ _ h=>h) (Or.inl ⟨by rfl,?_⟩) ?_ ?_
              rotate_left
              ·intro w'
               go_simp
               with_reducible rfl
              rotate_left
              ·simp only [Act.put,List.setIfInBounds_toArray,List.set_cons_zero,List.set_cons_succ,i64_w,i32_w]
               rfl
              refine done_ (by kernel_rfl) ?_
              have Z97_0:=cz_ BK299.out 0 (.slice Ao70 t294.length co70)
              have Z97_1:=cz_ BK299.out 1 (.int .i64 t297)
              have Z97_2:=cz_ BK299.out 2 (.bool t298)
              have Y97_0:=bF_ BK299.out 0
              have Y97_1:=bF_ BK299.out 1
              have Y97_2:=bF_ BK299.out 2
              try go_wp2_with (first|((with_reducible refine gC_ (f:=26) rfl ?_);refine gl_ 59 Tryd.func26 #[.agg #[.slice Ao70 t294.length co70,.int .i64 t297,.bool t298],.int .i64 1] ?_;(with_reducible refine (laws_markServer.calls k (fun k_=>some k_=(.slice Ao70 t294.length co70:Value).ownBlock) (.slice Ao70 t294.length co70) t294 t297 t298 1 t321 t322 w _ ?side1 ?side2 A31.out).mono ?_);(case side1=>exact bel_);(case side2=>exact Kd.R_tight rfl HO296.out);rintro e w98 ⟨rfl,hy0,hb,hkp⟩;refine ⟨_,rfl,?_⟩;replace BK271:=a_ (blk_kept (bp_ BK271.out) hkp (fun hs_=>(fun e_=>(Kd.R_ne HO296.out BK271.out (by decide)) e_) hs_));replace BK272:=a_ (blk_kept (bp_ BK272.out) hkp (fun hs_=>(fun e_=>(Kd.R_ne HO296.out BK272.out (by decide)) e_) hs_));replace HO277:=a_ (Kd.R_mono (ok':=fun k_=>some k_≠(.slice Ao62 t287.length co62:Value).ownBlock∧some k_≠(.slice Ao70 t294.length co70:Value).ownBlock∧some k_≠(.slice Ao81 t307.length co81:Value).ownBlock∧some k_≠(.slice Ao95 t315.length co95:Value).ownBlock) (Kd.R_keptB (HO277.out) hkp (fun k_ hk_ hs_=>(hk_.1.2.1) hs_)) (fun k_ hk_=>⟨hk_.1.1.1,hk_.1.1.2.1,hk_.1.1.2.2,hk_.1.2⟩));replace HO289:=a_ (Kd.R_mono (ok':=fun k_=>some k_≠(v276:Value).ownBlock∧some k_≠(.slice Ao70 t294.length co70:Value).ownBlock∧some k_≠(.slice Ao81 t307.length co81:Value).ownBlock∧some k_≠(.slice Ao95 t315.length co95:Value).ownBlock) (Kd.R_keptB (HO289.out) hkp (fun k_ hk_ hs_=>(hk_.1.2.1) hs_)) (fun k_ hk_=>⟨hk_.1.1.1,hk_.1.1.2.1,hk_.1.1.2.2,hk_.1.2⟩));replace BK293:=a_ (blk_kept (bp_ BK293.out) hkp (fun hs_=>(fun e_=>(Kd.R_ne HO296.out BK293.out (by decide)) e_) hs_));replace BK299:=a_ (blk_kept (bp_ BK299.out) hkp (fun hs_=>(fun e_=>(Kd.R_ne HO296.out BK299.out (by decide)) e_) hs_));replace HO309:=a_ (Kd.R_mono (ok':=fun k_=>some k_≠(v276:Value).ownBlock∧some k_≠(.slice Ao62 t287.length co62:Value).ownBlock∧some k_≠(.slice Ao70 t294.length co70:Value).ownBlock∧some k_≠(.slice Ao95 t315.length co95:Value).ownBlock) (Kd.R_keptB (HO309.out) hkp (fun k_ hk_ hs_=>(hk_.1.2.2) hs_)) (fun k_ hk_=>⟨hk_.1.1.1,hk_.1.1.2.1,hk_.1.1.2.2,hk_.1.2⟩));replace BK313:=a_ (blk_kept (bp_ BK313.out) hkp (fun hs_=>(fun e_=>(Kd.R_ne HO296.out BK313.out (by decide)) e_) hs_));replace HO296:=a_ (Kd.R_reok rfl hy0 (fun k_ e_=>HO296.out.1 k_ e_));replace HO317:=a_ (Kd.R_mono (ok':=fun k_=>some k_≠(v276:Value).ownBlock∧some k_≠(.slice Ao62 t287.length co62:Value).ownBlock∧some k_≠(.slice Ao70 t294.length co70:Value).ownBlock∧some k_≠(.slice Ao81 t307.length co81:Value).ownBlock) (Kd.R_keptB (HO317.out) hkp (fun k_ hk_ hs_=>(hk_.1.2) hs_)) (fun k_ hk_=>⟨hk_.1.1.1.1.2,hk_.1.1.1.2,hk_.1.1.2,hk_.1.2⟩));replace HB:=a_ (hb);(try clear hb hkp hy0);have Z99_0:=cz_ BK313.out 0 (.slice Ao81 t307.length co81);have Z99_1:=cz_ BK313.out 1 (.int .i64 t310);have Z99_2:=cz_ BK313.out 2 (.bool t311);have Y99_0:=bF_ BK313.out 0;have Y99_1:=bF_ BK313.out 1;have Y99_2:=bF_ BK313.out 2;have Z100_0:=cz_ BK293.out 0 (.slice Ao62 t287.length co62);have Z100_1:=cz_ BK293.out 1 (.int .i64 t290);have Z100_2:=cz_ BK293.out 2 (.bool t291);have Y100_0:=bF_ BK293.out 0;have Y100_1:=bF_ BK293.out 1;have Y100_2:=bF_ BK293.out 2)|(go_at_call 25;(with_reducible refine (laws_eqServer.calls k _ _ t307 t310 t311 _ _ t287 t290 t291 true _ ?side1 ?side2 ?side3 ?side4 A33.out).mono ?_);(case side1=>exact cx_ (Kd.R_reads' HO309.out).2.2);(case side2=>exact (Kd.R_reads' HO309.out).2.1);(case side3=>exact cx_ (Kd.R_reads' HO289.out).2.2);(case side4=>exact (Kd.R_reads' HO289.out).2.1);rintro e w101 ⟨rfl,hb⟩;replace HO277:=a_ (Kd.R_below (rp_ HO277.out) hb);replace HO289:=a_ (Kd.R_below (rp_ HO289.out) hb);replace HO296:=a_ (Kd.R_below (rp_ HO296.out) hb);replace HO309:=a_ (Kd.R_below (rp_ HO309.out) hb);replace HO317:=a_ (Kd.R_below (rp_ HO317.out) hb);replace HB:=a_ (bS_ (bel_) hb);replace BK271:=a_ (blk_below (g:=gb271) (o:=.cells #[.slice A0_0 l0_0.length c0_0,.int .i64 a0_1,.bool a0_2] 32 (0,0)) (bp_ BK271.out) hb);replace BK272:=a_ (blk_below (g:=gb272) (o:=.cells #[.int .i64 a1_0,.int .i64 a1_1,.int .i64 a1_2,.int .i64 a1_3,.int .i64 a1_4,.int .i64 a1_5,.string a1_6] 36 (0,0)) (bp_ BK272.out) hb);replace BK293:=a_ (blk_below (g:=gb293) (o:=.cells #[.slice Ao62 t287.length co62,.int .i64 t290,.bool t291] 25 (0,0)) (bp_ BK293.out) hb);replace BK299:=a_ (blk_below (g:=gb299) (o:=.cells #[.slice Ao70 t294.length co70,.int .i64 t297,.bool t298] 25 (0,0)) (bp_ BK299.out) hb);replace BK313:=a_ (blk_below (g:=gb313) (o:=.cells #[.slice Ao81 t307.length co81,.int .i64 t310,.bool t311] 25 (0,0)) (bp_ BK313.out) hb);(try clear hb);have Z102_0:=cz_ BK313.out 0 (.slice Ao81 t307.length co81);have Z102_1:=cz_ BK313.out 1 (.int .i64 t310);have Z102_2:=cz_ BK313.out 2 (.bool t311);have Y102_0:=bF_ BK313.out 0;have Y102_1:=bF_ BK313.out 1;have Y102_2:=bF_ BK313.out 2)|((with_reducible refine gC_ (f:=26) rfl ?_);refine gl_ 75 Tryd.func26 #[.agg #[.slice Ao81 t307.length co81,.int .i64 t310,.bool t311],.int .i64 1] ?_;(with_reducible refine (laws_markServer.calls k (fun k_=>some k_=(.slice Ao81 t307.length co81:Value).ownBlock) (.slice Ao81 t307.length co81) t307 t310 t311 1 t324 t325 w _ ?side1 ?side2 A35.out).mono ?_);(case side1=>exact bel_);(case side2=>exact Kd.R_tight rfl HO309.out);rintro e w103 ⟨rfl,hy0,hb,hkp⟩;refine ⟨_,rfl,?_⟩;replace BK271:=a_ (blk_kept (bp_ BK271.out) hkp (fun hs_=>(fun e_=>(Kd.R_ne HO309.out BK271.out (by decide)) e_) hs_));replace BK272:=a_ (blk_kept (bp_ BK272.out) hkp (fun hs_=>(fun e_=>(Kd.R_ne HO309.out BK272.out (by decide)) e_) hs_));replace HO277:=a_ (Kd.R_mono (ok':=fun k_=>some k_≠(.slice Ao62 t287.length co62:Value).ownBlock∧some k_≠(.slice Ao70 t294.length co70:Value).ownBlock∧some k_≠(.slice Ao81 t307.length co81:Value).ownBlock∧some k_≠(.slice Ao95 t315.length co95:Value).ownBlock) (Kd.R_keptB (HO277.out) hkp (fun k_ hk_ hs_=>(hk_.2.2.1) hs_)) (fun k_ hk_=>⟨hk_.1.1,hk_.1.2.1,hk_.1.2.2.1,hk_.1.2.2.2⟩));replace HO289:=a_ (Kd.R_mono (ok':=fun k_=>some k_≠(v276:Value).ownBlock∧some k_≠(.slice Ao70 t294.length co70:Value).ownBlock∧some k_≠(.slice Ao81 t307.length co81:Value).ownBlock∧some k_≠(.slice Ao95 t315.length co95:Value).ownBlock) (Kd.R_keptB (HO289.out) hkp (fun k_ hk_ hs_=>(hk_.2.2.1) hs_)) (fun k_ hk_=>⟨hk_.1.1,hk_.1.2.1,hk_.1.2.2.1,hk_.1.2.2.2⟩));replace BK293:=a_ (blk_kept (bp_ BK293.out) hkp (fun hs_=>(fun e_=>(Kd.R_ne HO309.out BK293.out (by decide)) e_) hs_));replace HO296:=a_ (Kd.R_mono (ok':=fun k_=>some k_≠(v276:Value).ownBlock∧some k_≠(.slice Ao62 t287.length co62:Value).ownBlock∧some k_≠(.slice Ao81 t307.length co81:Value).ownBlock∧some k_≠(.slice Ao95 t315.length co95:Value).ownBlock) (Kd.R_keptB (HO296.out) hkp (fun k_ hk_ hs_=>(hk_.1.2.2) hs_)) (fun k_ hk_=>⟨hk_.1.1.1,hk_.1.1.2.1,hk_.1.1.2.2,hk_.1.2⟩));replace BK299:=a_ (blk_kept (bp_ BK299.out) hkp (fun hs_=>(fun e_=>(Kd.R_ne HO309.out BK299.out (by decide)) e_) hs_));replace BK313:=a_ (blk_kept (bp_ BK313.out) hkp (fun hs_=>(fun e_=>(Kd.R_ne HO309.out BK313.out (by decide)) e_) hs_));replace HO309:=a_ (Kd.R_reok rfl hy0 (fun k_ e_=>HO309.out.1 k_ e_));replace HO317:=a_ (Kd.R_mono (ok':=fun k_=>some k_≠(v276:Value).ownBlock∧some k_≠(.slice Ao62 t287.length co62:Value).ownBlock∧some k_≠(.slice Ao70 t294.length co70:Value).ownBlock∧some k_≠(.slice Ao81 t307.length co81:Value).ownBlock) (Kd.R_keptB (HO317.out) hkp (fun k_ hk_ hs_=>(hk_.2.2.2) hs_)) (fun k_ hk_=>⟨hk_.1.1,hk_.1.2.1,hk_.1.2.2.1,hk_.1.2.2.2⟩));replace HB:=a_ (hb);(try clear hb hkp hy0);have Z104_0:=cz_ BK313.out 0 (.slice Ao81 t307.length co81);have Z104_1:=cz_ BK313.out 1 (.int .i64 t310);have Z104_2:=cz_ BK313.out 2 (.bool t311);have Y104_0:=bF_ BK313.out 0;have Y104_1:=bF_ BK313.out 1;have Y104_2:=bF_ BK313.out 2)|((with_reducible refine gC_ (f:=27) rfl ?_);refine goesL_ (some 78) rfl rfl Tryd.func27 (by kernel_rfl) rfl #[.agg #[.slice Ao81 t325.length co81,.int .i64 t310,.bool t311],.int .i64 1] rfl (by (try simp only [List.map_toArray,List.map_cons,List.map_nil]);first|done|(rw [show t325.length=t307.length from (Kd.R_reads' HO309.out).1.symm] <;> rfl)|rfl|(simp only [List.length_drop,List.length_take];rfl)) ?_;(with_reducible refine (laws_heldServer.calls k _ _ t325 t310 t311 1 t326 _ ?side1 ?side2 A36.out).mono ?_);(case side1=>exact cx_ (Kd.R_reads' HO309.out).2.2);(case side2=>rw [show t325.length=t307.length from (Kd.R_reads' HO309.out).1.symm];exact (Kd.R_reads' HO309.out).2.1);rintro e w105 ⟨rfl,hb⟩;refine ⟨_,rfl,?_⟩;replace HO277:=a_ (Kd.R_below (rp_ HO277.out) hb);replace HO289:=a_ (Kd.R_below (rp_ HO289.out) hb);replace HO296:=a_ (Kd.R_below (rp_ HO296.out) hb);replace HO309:=a_ (Kd.R_below (rp_ HO309.out) hb);replace HO317:=a_ (Kd.R_below (rp_ HO317.out) hb);replace HB:=a_ (bS_ (bel_) hb);replace BK271:=a_ (blk_below (g:=gb271) (o:=.cells #[.slice A0_0 l0_0.length c0_0,.int .i64 a0_1,.bool a0_2] 32 (0,0)) (bp_ BK271.out) hb);replace BK272:=a_ (blk_below (g:=gb272) (o:=.cells #[.int .i64 a1_0,.int .i64 a1_1,.int .i64 a1_2,.int .i64 a1_3,.int .i64 a1_4,.int .i64 a1_5,.string a1_6] 36 (0,0)) (bp_ BK272.out) hb);replace BK293:=a_ (blk_below (g:=gb293) (o:=.cells #[.slice Ao62 t287.length co62,.int .i64 t290,.bool t291] 25 (0,0)) (bp_ BK293.out) hb);replace BK299:=a_ (blk_below (g:=gb299) (o:=.cells #[.slice Ao70 t294.length co70,.int .i64 t297,.bool t298] 25 (0,0)) (bp_ BK299.out) hb);replace BK313:=a_ (blk_below (g:=gb313) (o:=.cells #[.slice Ao81 t307.length co81,.int .i64 t310,.bool t311] 25 (0,0)) (bp_ BK313.out) hb);(try clear hb)))
              have n0_:=a_ (Kd.R_drew HO277.out)
              have n1_:=a_ (Kd.R_drew HO289.out)
              have n2_:=a_ (Kd.R_drew HO296.out)
              have n3_:=a_ (Kd.R_drew HO309.out)
              have n4_:=a_ (Kd.R_drew HO317.out)
              have n5_:=a_ (bD_ BK271.out)
              have n6_:=a_ (bD_ BK272.out)
              have n7_:=a_ (bD_ BK293.out)
              have n8_:=a_ (bD_ BK299.out)
              have n9_:=a_ (bD_ BK313.out)
              have n10_:=a_ (below_drew1 HB.out)
              clear HO277
              clear HO289
              clear HO296
              clear HO309
              clear HO317
              clear BK271
              clear BK272
              clear BK293
              clear BK299
              clear BK313
              clear HB
              have HO277:=n0_
              have HO289:=n1_
              have HO296:=n2_
              have HO309:=n3_
              have HO317:=n4_
              have BK271:=n5_
              have BK272:=n6_
              have BK293:=n7_
              have BK299:=n8_
              have BK313:=n9_
              have HB:=n10_
              clear n0_ n1_ n2_ n3_ n4_ n5_ n6_ n7_ n8_ n9_ n10_
              refine start_ (n:=11) (S:=fun w'=>w'.cell? ⟨gb271,0,none⟩=some (.slice A0_0 l0_0.length c0_0)∧w'.cell? ⟨gb271,1,none⟩=some (.int .i64 a0_1)∧w'.cell? ⟨gb271,2,none⟩=some (.bool a0_2)∧w'.cell? ⟨gb272,0,none⟩=some (.int .i64 a1_0)∧w'.cell? ⟨gb272,1,none⟩=some (.int .i64 a1_1)∧w'.cell? ⟨gb272,2,none⟩=some (.int .i64 a1_2)∧w'.cell? ⟨gb272,3,none⟩=some (.int .i64 a1_3)∧w'.cell? ⟨gb272,4,none⟩=some (.int .i64 a1_4)∧w'.cell? ⟨gb272,5,none⟩=some (.int .i64 a1_5)∧w'.cell? ⟨gb272,6,none⟩=some (.string a1_6)) (ds:=[]) #[false,false,false,false,false,false,false,false,false,false,false] (by kernel_rfl) rfl rfl ⟨(bC_ BK271.out 0).trans rfl,(bC_ BK271.out 1).trans rfl,(bC_ BK271.out 2).trans rfl,(bC_ BK272.out 0).trans rfl,(bC_ BK272.out 1).trans rfl,(bC_ BK272.out 2).trans rfl,(bC_ BK272.out 3).trans rfl,(bC_ BK272.out 4).trans rfl,(bC_ BK272.out 5).trans rfl,(bC_ BK272.out 6).trans rfl⟩ (fun hHeld=>?_);refine with_tabW laws_FnExactServerHear.tab27 laws_FnExactServerHear.bits27 (fun HT_ HW_=>?_)
              generalize w105.drew=w106 at HO277 HO289 HO296 HO309 HO317 BK271 BK272 BK293 BK299 BK313 HB hHeld ⊢
              refine take_ (i:=0) (N:=some 85) (v:=?_) (a':=?_) #[true,false,false,false,false,false,false,false,false,false,false] rfl rfl (take_ofW HT_.out HW_.out (by kernel_rfl)) (fun _ _ _ h=>h) (Or.inl ⟨by rfl,?_⟩) hHeld ?_ ?_
              rotate_left
              ·rintro w' ⟨s0,s1,s2,s3,s4,s5,s6,s7,s8,s9⟩
               go_simp
               with_reducible rfl
              rotate_left
              ·simp only [Act.put,List.setIfInBounds_toArray,List.set_cons_zero,List.set_cons_succ,i64_w,i32_w]
               rfl
              refine take_ (i:=2) (N:=some 87) (v:=?_) (a':=?_) #[true,false,true,false,false,false,false,false,false,false,false] rfl rfl (take_ofW HT_.out HW_.out (by kernel_rfl)) (fun _ _ _ h=>h) (Or.inl ⟨by rfl,?_⟩) hHeld ?_ ?_
              rotate_left
              ·rintro w' ⟨s0,s1,s2,s3,s4,s5,s6,s7,s8,s9⟩
               go_simp
               with_reducible rfl
              rotate_left
              ·simp only [Act.put,List.setIfInBounds_toArray,List.set_cons_zero,List.set_cons_succ,i64_w,i32_w]
               rfl
              refine join_ (σ:=Value×Value×Nat) 2 #[true,true,true,true,true,true,true,true,true,false,false] (fun s_=>[(86,.agg #[s_.1,.int .i64 t330,.bool t331]),(88,.agg #[.int .i64 t332,.int .i64 t333,.int .i64 t334,.int .i64 t335,.int .i64 t336,.int .i64 t337,.string t338]),(89,.tuple #[.agg #[s_.2.1,.int .i64 t342,.bool t343],.bool t344]),(14,.pointer (some ⟨s_.2.2,0,none⟩)),(84,.tuple #[.agg #[s_.2.1,.int .i64 t342,.bool t343],.bool t344]),(90,.agg #[s_.2.1,.int .i64 t342,.bool t343]),(91,.bool t344)]) (fun s_ w'=>(w'.cell? ⟨gb271,0,none⟩=some (.slice A0_0 l0_0.length c0_0)∧w'.cell? ⟨gb271,1,none⟩=some (.int .i64 a0_1)∧w'.cell? ⟨gb271,2,none⟩=some (.bool a0_2)∧w'.cell? ⟨gb272,0,none⟩=some (.int .i64 a1_0)∧w'.cell? ⟨gb272,1,none⟩=some (.int .i64 a1_1)∧w'.cell? ⟨gb272,2,none⟩=some (.int .i64 a1_2)∧w'.cell? ⟨gb272,3,none⟩=some (.int .i64 a1_3)∧w'.cell? ⟨gb272,4,none⟩=some (.int .i64 a1_4)∧w'.cell? ⟨gb272,5,none⟩=some (.int .i64 a1_5)∧w'.cell? ⟨gb272,6,none⟩=some (.string a1_6))∧(Kd.R k44 44 w' w.heap.size (fun k_=>some k_≠(.slice Ao62 t287.length co62:Value).ownBlock∧some k_≠(.slice Ao70 t294.length co70:Value).ownBlock∧some k_≠(.slice Ao81 t307.length co81:Value).ownBlock∧some k_≠(.slice Ao95 t315.length co95:Value).ownBlock∧some k_≠(s_.1:Value).ownBlock∧some k_≠(s_.2.1:Value).ownBlock) v276 t275)∧(Kd.R k44 44 w' w.heap.size (fun k_=>some k_≠(v276:Value).ownBlock∧some k_≠(.slice Ao70 t294.length co70:Value).ownBlock∧some k_≠(.slice Ao81 t307.length co81:Value).ownBlock∧some k_≠(.slice Ao95 t315.length co95:Value).ownBlock∧some k_≠(s_.1:Value).ownBlock∧some k_≠(s_.2.1:Value).ownBlock) (.slice Ao62 t287.length co62) t287)∧(Kd.R k44 44 w' w.heap.size (fun k_=>some k_≠(v276:Value).ownBlock∧some k_≠(.slice Ao62 t287.length co62:Value).ownBlock∧some k_≠(.slice Ao81 t307.length co81:Value).ownBlock∧some k_≠(.slice Ao95 t315.length co95:Value).ownBlock∧some k_≠(s_.1:Value).ownBlock∧some k_≠(s_.2.1:Value).ownBlock) (.slice Ao70 t294.length co70) t322)∧(Kd.R k44 44 w' w.heap.size (fun k_=>some k_≠(v276:Value).ownBlock∧some k_≠(.slice Ao62 t287.length co62:Value).ownBlock∧some k_≠(.slice Ao70 t294.length co70:Value).ownBlock∧some k_≠(.slice Ao95 t315.length co95:Value).ownBlock∧some k_≠(s_.1:Value).ownBlock∧some k_≠(s_.2.1:Value).ownBlock) (.slice Ao81 t307.length co81) t325)∧(Kd.R k44 44 w' w.heap.size (fun k_=>some k_≠(v276:Value).ownBlock∧some k_≠(.slice Ao62 t287.length co62:Value).ownBlock∧some k_≠(.slice Ao70 t294.length co70:Value).ownBlock∧some k_≠(.slice Ao81 t307.length co81:Value).ownBlock∧some k_≠(s_.1:Value).ownBlock∧some k_≠(s_.2.1:Value).ownBlock) (.slice Ao95 t315.length co95) t315)∧(Kd.R k44 44 w' w.heap.size (fun k_=>some k_≠(v276:Value).ownBlock∧some k_≠(.slice Ao62 t287.length co62:Value).ownBlock∧some k_≠(.slice Ao70 t294.length co70:Value).ownBlock∧some k_≠(.slice Ao81 t307.length co81:Value).ownBlock∧some k_≠(.slice Ao95 t315.length co95:Value).ownBlock∧some k_≠(s_.2.1:Value).ownBlock) s_.1 t327)∧(Kd.R k44 44 w' w.heap.size (fun k_=>some k_≠(v276:Value).ownBlock∧some k_≠(.slice Ao62 t287.length co62:Value).ownBlock∧some k_≠(.slice Ao70 t294.length co70:Value).ownBlock∧some k_≠(.slice Ao81 t307.length co81:Value).ownBlock∧some k_≠(.slice Ao95 t315.length co95:Value).ownBlock∧some k_≠(s_.1:Value).ownBlock) s_.2.1 t339)∧(w'.heap[gb271]?=some (.cells #[.slice A0_0 l0_0.length c0_0,.int .i64 a0_1,.bool a0_2] 32 (0,0)))∧(w'.heap[gb272]?=some (.cells #[.int .i64 a1_0,.int .i64 a1_1,.int .i64 a1_2,.int .i64 a1_3,.int .i64 a1_4,.int .i64 a1_5,.string a1_6] 36 (0,0)))∧(w'.heap[gb293]?=some (.cells #[.slice Ao62 t287.length co62,.int .i64 t290,.bool t291] 25 (0,0)))∧(w'.heap[gb299]?=some (.cells #[.slice Ao70 t294.length co70,.int .i64 t297,.bool t298] 25 (0,0)))∧(w'.heap[gb313]?=some (.cells #[.slice Ao81 t307.length co81,.int .i64 t310,.bool t311] 25 (0,0)))∧(w'.heap[s_.2.2]?=some (.cells #[.slice none 0 0,.int .i64 0,.bool false] 25 (0,0)))∧(w.heap.size≤s_.2.2)∧(w.heap.size≤s_.2.2)∧(gb271≠s_.2.2)∧(s_.2.2≠gb271)∧(gb272≠s_.2.2)∧(s_.2.2≠gb272)∧(gb293≠s_.2.2)∧(s_.2.2≠gb293)∧(gb299≠s_.2.2)∧(s_.2.2≠gb299)∧(gb313≠s_.2.2)∧(s_.2.2≠gb313)∧(Below w.heap.size w w')) ?_ ?_
              rotate_left
              ·intro hCont
               refine two_ (i:=1) (j:=8) (Ni:=some 86) (Nj:=some 14) #[true,true,true,false,false,false,false,false,false,false,false] #[true,false,true,false,false,false,false,false,true,false,false] rfl rfl rfl rfl (two_of HT_.out (by kernel_rfl)) (by decide) (by decide) (fun K hK=>?_) (fun K hK=>?_)
               ·skip
                refine goes_ Tryd.func22 (by kernel_rfl) rfl #[.agg #[.slice A0_0 l0_0.length c0_0,.int .i64 a0_1,.bool a0_2]] (by rfl) rfl rfl ar_ ?_
                with_reducible refine (laws_toServer.calls k _ _ l0_0 a0_1 a0_2 t327 t330 t331 _ ?side1 ?side2 A39.out).mono ?_
                (case side1=>exact cp_ HR0_0.out)
                (case side2=>exact HC0_0.out)
                rintro e w107 ⟨v328,rfl,ho0,hb⟩
                refine ⟨_,rfl,?_⟩
                have n0_:=a_ (Kd.R_elder' (rp_ HO277.out) (Kd.R_base ho0) hb)
                have n1_:=a_ (Kd.R_elder' (rp_ HO289.out) (Kd.R_base ho0) hb)
                have n2_:=a_ (Kd.R_elder' (rp_ HO296.out) (Kd.R_base ho0) hb)
                have n3_:=a_ (Kd.R_elder' (rp_ HO309.out) (Kd.R_base ho0) hb)
                have n4_:=a_ (Kd.R_elder' (rp_ HO317.out) (Kd.R_base ho0) hb)
                have n5_:=a_ (Kd.R_lower (Kd.R_new' (Kd.R_new' (Kd.R_new' (Kd.R_new' (Kd.R_new' ho0 (Kd.R_lt (rp_ HO277.out))) (Kd.R_lt (rp_ HO289.out))) (Kd.R_lt (rp_ HO296.out))) (Kd.R_lt (rp_ HO309.out))) (Kd.R_lt (rp_ HO317.out))) (below_size (bel_)))
                have n6_:=a_ (blk_below (g:=gb271) (o:=.cells #[.slice A0_0 l0_0.length c0_0,.int .i64 a0_1,.bool a0_2] 32 (0,0)) (bp_ BK271.out) hb)
                have n7_:=a_ (blk_below (g:=gb272) (o:=.cells #[.int .i64 a1_0,.int .i64 a1_1,.int .i64 a1_2,.int .i64 a1_3,.int .i64 a1_4,.int .i64 a1_5,.string a1_6] 36 (0,0)) (bp_ BK272.out) hb)
                have n8_:=a_ (blk_below (g:=gb293) (o:=.cells #[.slice Ao62 t287.length co62,.int .i64 t290,.bool t291] 25 (0,0)) (bp_ BK293.out) hb)
                have n9_:=a_ (blk_below (g:=gb299) (o:=.cells #[.slice Ao70 t294.length co70,.int .i64 t297,.bool t298] 25 (0,0)) (bp_ BK299.out) hb)
                have n10_:=a_ (blk_below (g:=gb313) (o:=.cells #[.slice Ao81 t307.length co81,.int .i64 t310,.bool t311] 25 (0,0)) (bp_ BK313.out) hb)
                have n11_:=a_ (bS_ (bel_) hb)
                clear HO277
                clear HO289
                clear HO296
                clear HO309
                clear HO317
                clear BK271
                clear BK272
                clear BK293
                clear BK299
                clear BK313
                clear HB
                have HO277:=n0_
                have HO289:=n1_
                have HO296:=n2_
                have HO309:=n3_
                have HO317:=n4_
                have HO329:=n5_
                have BK271:=n6_
                have BK272:=n7_
                have BK293:=n8_
                have BK299:=n9_
                have BK313:=n10_
                have HB:=n11_
                clear n0_ n1_ n2_ n3_ n4_ n5_ n6_ n7_ n8_ n9_ n10_ n11_
                (try clear hb)
                (try clear hb2)
                (try clear hk)
                (try clear hi)
                (try clear ho0)
                refine hK.out _ _ ⟨(bC_ BK271.out 0).trans rfl,(bC_ BK271.out 1).trans rfl,(bC_ BK271.out 2).trans rfl,(bC_ BK272.out 0).trans rfl,(bC_ BK272.out 1).trans rfl,(bC_ BK272.out 2).trans rfl,(bC_ BK272.out 3).trans rfl,(bC_ BK272.out 4).trans rfl,(bC_ BK272.out 5).trans rfl,(bC_ BK272.out 6).trans rfl⟩ (fun hHeld=>?_)
                clear hK K
                refine norm_ (a':=?_) ?_ ?_
                rotate_left
                ·show Act.put _ (some 86) _=_
                 simp only [Act.put,List.setIfInBounds_toArray,List.set_cons_zero,List.set_cons_succ,i64_w,i32_w]
                 rfl
                refine two_ (i:=3) (j:=8) (Ni:=some 88) (Nj:=some 14) #[true,true,true,true,false,false,false,false,false,false,false] #[true,true,true,false,false,false,false,false,true,false,false] rfl rfl rfl rfl (two_of HT_.out (by kernel_rfl)) (by decide) (by decide) (fun K hK=>?_) (fun K hK=>?_)
                ·skip
                 refine goes_ Tryd.func23 (by kernel_rfl) rfl #[.agg #[.int .i64 a1_0,.int .i64 a1_1,.int .i64 a1_2,.int .i64 a1_3,.int .i64 a1_4,.int .i64 a1_5,.string a1_6]] (by rfl) rfl rfl ar_ ?_
                 with_reducible refine (laws_toEntry.calls a1_0 a1_1 a1_2 a1_3 a1_4 a1_5 a1_6 t332 t333 t334 t335 t336 t337 t338 _ A40.out).mono ?_
                 rintro e w108 ⟨rfl,hb⟩
                 refine ⟨_,rfl,?_⟩
                 have n0_:=a_ (Kd.R_below (rp_ HO277.out) hb)
                 have n1_:=a_ (Kd.R_below (rp_ HO289.out) hb)
                 have n2_:=a_ (Kd.R_below (rp_ HO296.out) hb)
                 have n3_:=a_ (Kd.R_below (rp_ HO309.out) hb)
                 have n4_:=a_ (Kd.R_below (rp_ HO317.out) hb)
                 have n5_:=a_ (Kd.R_below (rp_ HO329.out) hb)
                 have n6_:=a_ (blk_below (g:=gb271) (o:=.cells #[.slice A0_0 l0_0.length c0_0,.int .i64 a0_1,.bool a0_2] 32 (0,0)) (bp_ BK271.out) hb)
                 have n7_:=a_ (blk_below (g:=gb272) (o:=.cells #[.int .i64 a1_0,.int .i64 a1_1,.int .i64 a1_2,.int .i64 a1_3,.int .i64 a1_4,.int .i64 a1_5,.string a1_6] 36 (0,0)) (bp_ BK272.out) hb)
                 have n8_:=a_ (blk_below (g:=gb293) (o:=.cells #[.slice Ao62 t287.length co62,.int .i64 t290,.bool t291] 25 (0,0)) (bp_ BK293.out) hb)
                 have n9_:=a_ (blk_below (g:=gb299) (o:=.cells #[.slice Ao70 t294.length co70,.int .i64 t297,.bool t298] 25 (0,0)) (bp_ BK299.out) hb)
                 have n10_:=a_ (blk_below (g:=gb313) (o:=.cells #[.slice Ao81 t307.length co81,.int .i64 t310,.bool t311] 25 (0,0)) (bp_ BK313.out) hb)
                 have n11_:=a_ (bS_ (bel_) hb)
                 clear HO277
                 clear HO289
                 clear HO296
                 clear HO309
                 clear HO317
                 clear HO329
                 clear BK271
                 clear BK272
                 clear BK293
                 clear BK299
                 clear BK313
                 clear HB
                 have HO277:=n0_
                 have HO289:=n1_
                 have HO296:=n2_
                 have HO309:=n3_
                 have HO317:=n4_
                 have HO329:=n5_
                 have BK271:=n6_
                 have BK272:=n7_
                 have BK293:=n8_
                 have BK299:=n9_
                 have BK313:=n10_
                 have HB:=n11_
                 clear n0_ n1_ n2_ n3_ n4_ n5_ n6_ n7_ n8_ n9_ n10_ n11_
                 (try clear hb)
                 (try clear hb2)
                 (try clear hk)
                 (try clear hi)
                 obtain ⟨Ao109,co109,eo109⟩:=Kd.R_slice HO329.out
                 (first|subst eo109|(injection eo109 with f1_ f2_ f3_;have f4_:=f1_.symm;have f5_:=f3_.symm;clear f1_ f2_ f3_;subst f4_;subst f5_))
                 refine hK.out _ _ ⟨(bC_ BK271.out 0).trans rfl,(bC_ BK271.out 1).trans rfl,(bC_ BK271.out 2).trans rfl,(bC_ BK272.out 0).trans rfl,(bC_ BK272.out 1).trans rfl,(bC_ BK272.out 2).trans rfl,(bC_ BK272.out 3).trans rfl,(bC_ BK272.out 4).trans rfl,(bC_ BK272.out 5).trans rfl,(bC_ BK272.out 6).trans rfl⟩ (fun hHeld=>?_)
                 clear hK K
                 refine norm_ (a':=?_) ?_ ?_
                 rotate_left
                 ·show Act.put _ (some 88) _=_
                  simp only [Act.put,List.setIfInBounds_toArray,List.set_cons_zero,List.set_cons_succ,i64_w,i32_w]
                  rfl
                 refine two_ (i:=4) (j:=8) (Ni:=some 89) (Nj:=some 14) #[true,true,true,true,true,false,false,false,false,false,false] #[true,true,true,true,false,false,false,false,true,false,false] rfl rfl rfl rfl (two_of HT_.out (by kernel_rfl)) (by decide) (by decide) (fun K hK=>?_) (fun K hK=>?_)
                 ·skip
                  refine goes_ Tryd.func24 (by kernel_rfl) rfl #[.agg #[.slice Ao109 t327.length co109,.int .i64 t330,.bool t331],.agg #[.int .i64 t332,.int .i64 t333,.int .i64 t334,.int .i64 t335,.int .i64 t336,.int .i64 t337,.string t338]] (by rfl) rfl rfl ar_ ?_
                  with_reducible refine (impl_ServerHear.calls k _ _ t327 t330 t331 t332 t333 t334 t335 t336 t337 t338 t339 t342 t343 t344 _ ?side1 ?side2 A41.out ?side3).mono ?_
                  (case side1=>exact cx_ (Kd.R_reads' HO329.out).2.2)
                  (case side2=>exact (Kd.R_reads' HO329.out).2.1)
                  (case side3=>exact Glob.below HG.out (bel_))
                  rintro e w110 ⟨v340,rfl,ho0,hb⟩
                  refine ⟨_,rfl,?_⟩
                  have n0_:=a_ (Kd.R_elder' (rp_ HO277.out) (Kd.R_base ho0) hb)
                  have n1_:=a_ (Kd.R_elder' (rp_ HO289.out) (Kd.R_base ho0) hb)
                  have n2_:=a_ (Kd.R_elder' (rp_ HO296.out) (Kd.R_base ho0) hb)
                  have n3_:=a_ (Kd.R_elder' (rp_ HO309.out) (Kd.R_base ho0) hb)
                  have n4_:=a_ (Kd.R_elder' (rp_ HO317.out) (Kd.R_base ho0) hb)
                  have n5_:=a_ (Kd.R_elder' (rp_ HO329.out) (Kd.R_base ho0) hb)
                  have n6_:=a_ (Kd.R_lower (Kd.R_new' (Kd.R_new' (Kd.R_new' (Kd.R_new' (Kd.R_new' (Kd.R_new' ho0 (Kd.R_lt (rp_ HO277.out))) (Kd.R_lt (rp_ HO289.out))) (Kd.R_lt (rp_ HO296.out))) (Kd.R_lt (rp_ HO309.out))) (Kd.R_lt (rp_ HO317.out))) (Kd.R_lt (rp_ HO329.out))) (below_size (bel_)))
                  have n7_:=a_ (blk_below (g:=gb271) (o:=.cells #[.slice A0_0 l0_0.length c0_0,.int .i64 a0_1,.bool a0_2] 32 (0,0)) (bp_ BK271.out) hb)
                  have n8_:=a_ (blk_below (g:=gb272) (o:=.cells #[.int .i64 a1_0,.int .i64 a1_1,.int .i64 a1_2,.int .i64 a1_3,.int .i64 a1_4,.int .i64 a1_5,.string a1_6] 36 (0,0)) (bp_ BK272.out) hb)
                  have n9_:=a_ (blk_below (g:=gb293) (o:=.cells #[.slice Ao62 t287.length co62,.int .i64 t290,.bool t291] 25 (0,0)) (bp_ BK293.out) hb)
                  have n10_:=a_ (blk_below (g:=gb299) (o:=.cells #[.slice Ao70 t294.length co70,.int .i64 t297,.bool t298] 25 (0,0)) (bp_ BK299.out) hb)
                  have n11_:=a_ (blk_below (g:=gb313) (o:=.cells #[.slice Ao81 t307.length co81,.int .i64 t310,.bool t311] 25 (0,0)) (bp_ BK313.out) hb)
                  have n12_:=a_ (bS_ (bel_) hb)
                  clear HO277
                  clear HO289
                  clear HO296
                  clear HO309
                  clear HO317
                  clear HO329
                  clear BK271
                  clear BK272
                  clear BK293
                  clear BK299
                  clear BK313
                  clear HB
                  have HO277:=n0_
                  have HO289:=n1_
                  have HO296:=n2_
                  have HO309:=n3_
                  have HO317:=n4_
                  have HO329:=n5_
                  have HO341:=n6_
                  have BK271:=n7_
                  have BK272:=n8_
                  have BK293:=n9_
                  have BK299:=n10_
                  have BK313:=n11_
                  have HB:=n12_
                  clear n0_ n1_ n2_ n3_ n4_ n5_ n6_ n7_ n8_ n9_ n10_ n11_ n12_
                  (try clear hb)
                  (try clear hb2)
                  (try clear hk)
                  (try clear hi)
                  (try clear ho0)
                  refine hK.out _ _ ⟨(bC_ BK271.out 0).trans rfl,(bC_ BK271.out 1).trans rfl,(bC_ BK271.out 2).trans rfl,(bC_ BK272.out 0).trans rfl,(bC_ BK272.out 1).trans rfl,(bC_ BK272.out 2).trans rfl,(bC_ BK272.out 3).trans rfl,(bC_ BK272.out 4).trans rfl,(bC_ BK272.out 5).trans rfl,(bC_ BK272.out 6).trans rfl⟩ (fun hHeld=>?_)
                  clear hK K
                  refine norm_ (a':=?_) ?_ ?_
                  rotate_left
                  ·show Act.put _ (some 89) _=_
                   simp only [Act.put,List.setIfInBounds_toArray,List.set_cons_zero,List.set_cons_succ,i64_w,i32_w]
                   rfl
                  refine pure_ (i:=5) (N:=some 84) (v:=?_) (a':=?_) #[true,true,true,true,true,true,false,false,false,false,false] rfl rfl (any_of HT_.out (by kernel_rfl)) (fun _ _ _ h=>h) (Or.inl ⟨by rfl,?_⟩) ?_ ?_
                  rotate_left
                  ·intro w'
                   go_simp
                   with_reducible rfl
                  rotate_left
                  ·simp only [Act.put,List.setIfInBounds_toArray,List.set_cons_zero,List.set_cons_succ,i64_w,i32_w]
                   rfl
                  refine pure_ (i:=6) (N:=some 90) (v:=?_) (a':=?_) #[true,true,true,true,true,true,true,false,false,false,false] rfl rfl (any_of HT_.out (by kernel_rfl)) (fun _ _ _ h=>h) (Or.inl ⟨by rfl,?_⟩) ?_ ?_
                  rotate_left
                  ·intro w'
                   go_simp
                   with_reducible rfl
                  rotate_left
                  ·simp only [Act.put,List.setIfInBounds_toArray,List.set_cons_zero,List.set_cons_succ,i64_w,i32_w]
                   rfl
                  refine pure_ (i:=7) (N:=some 91) (v:=?_) (a':=?_) #[true,true,true,true,true,true,true,true,false,false,false] rfl rfl (any_of HT_.out (by kernel_rfl)) (fun _ _ _ h=>h) (Or.inl ⟨by rfl,?_⟩) ?_ ?_
                  rotate_left
                  ·intro w'
                   go_simp
                   with_reducible rfl
                  rotate_left
                  ·simp only [Act.put,List.setIfInBounds_toArray,List.set_cons_zero,List.set_cons_succ,i64_w,i32_w]
                   rfl
                  refine one_ (i:=8) (N:=some 14) #[true,true,true,true,true,true,true,true,true,false,false] rfl rfl (one_of HT_.out (by kernel_rfl)) (by decide) (fun K hK=>?_)
                  refine box_step ?hg (N:=14) ?hd (cs:=#[.slice none 0 0,.int .i64 0,.bool false]) (t:=25) ?hr ?_;(case hd=>rfl);(case hg=>rfl);(case hr=>first|(go_simp;done)|(go_simp;rfl))
                  intro gb345 hg w111 hbox hb
                  have n0_:=a_ (Kd.R_below (rp_ HO277.out) hb)
                  have n1_:=a_ (Kd.R_below (rp_ HO289.out) hb)
                  have n2_:=a_ (Kd.R_below (rp_ HO296.out) hb)
                  have n3_:=a_ (Kd.R_below (rp_ HO309.out) hb)
                  have n4_:=a_ (Kd.R_below (rp_ HO317.out) hb)
                  have n5_:=a_ (Kd.R_below (rp_ HO329.out) hb)
                  have n6_:=a_ (Kd.R_below (rp_ HO341.out) hb)
                  have n7_:=a_ (blk_below (g:=gb271) (o:=.cells #[.slice A0_0 l0_0.length c0_0,.int .i64 a0_1,.bool a0_2] 32 (0,0)) (bp_ BK271.out) hb)
                  have n8_:=a_ (blk_below (g:=gb272) (o:=.cells #[.int .i64 a1_0,.int .i64 a1_1,.int .i64 a1_2,.int .i64 a1_3,.int .i64 a1_4,.int .i64 a1_5,.string a1_6] 36 (0,0)) (bp_ BK272.out) hb)
                  have n9_:=a_ (blk_below (g:=gb293) (o:=.cells #[.slice Ao62 t287.length co62,.int .i64 t290,.bool t291] 25 (0,0)) (bp_ BK293.out) hb)
                  have n10_:=a_ (blk_below (g:=gb299) (o:=.cells #[.slice Ao70 t294.length co70,.int .i64 t297,.bool t298] 25 (0,0)) (bp_ BK299.out) hb)
                  have n11_:=a_ (blk_below (g:=gb313) (o:=.cells #[.slice Ao81 t307.length co81,.int .i64 t310,.bool t311] 25 (0,0)) (bp_ BK313.out) hb)
                  have n12_:=a_ (bS_ (bel_) hb)
                  have n13_:=a_ (hbox)
                  have n14_:=a_ ((by rw [hg];exact (below_size (bel_)):w.heap.size≤gb345))
                  have n15_:=a_ ((by rw [hg];exact (below_size (bel_)):w.heap.size≤gb345))
                  have n16_:=a_ ((by rw [hg];exact Nat.ne_of_lt (blk_lt (g:=gb271) (o:=.cells #[.slice A0_0 l0_0.length c0_0,.int .i64 a0_1,.bool a0_2] 32 (0,0)) (bp_ BK271.out)):gb271≠gb345))
                  have n17_:=a_ ((by rw [hg];exact Nat.ne_of_gt (blk_lt (g:=gb271) (o:=.cells #[.slice A0_0 l0_0.length c0_0,.int .i64 a0_1,.bool a0_2] 32 (0,0)) (bp_ BK271.out)):gb345≠gb271))
                  have n18_:=a_ ((by rw [hg];exact Nat.ne_of_lt (blk_lt (g:=gb272) (o:=.cells #[.int .i64 a1_0,.int .i64 a1_1,.int .i64 a1_2,.int .i64 a1_3,.int .i64 a1_4,.int .i64 a1_5,.string a1_6] 36 (0,0)) (bp_ BK272.out)):gb272≠gb345))
                  have n19_:=a_ ((by rw [hg];exact Nat.ne_of_gt (blk_lt (g:=gb272) (o:=.cells #[.int .i64 a1_0,.int .i64 a1_1,.int .i64 a1_2,.int .i64 a1_3,.int .i64 a1_4,.int .i64 a1_5,.string a1_6] 36 (0,0)) (bp_ BK272.out)):gb345≠gb272))
                  have n20_:=a_ ((by rw [hg];exact Nat.ne_of_lt (blk_lt (g:=gb293) (o:=.cells #[.slice Ao62 t287.length co62,.int .i64 t290,.bool t291] 25 (0,0)) (bp_ BK293.out)):gb293≠gb345))
                  have n21_:=a_ ((by rw [hg];exact Nat.ne_of_gt (blk_lt (g:=gb293) (o:=.cells #[.slice Ao62 t287.length co62,.int .i64 t290,.bool t291] 25 (0,0)) (bp_ BK293.out)):gb345≠gb293))
                  have n22_:=a_ ((by rw [hg];exact Nat.ne_of_lt (blk_lt (g:=gb299) (o:=.cells #[.slice Ao70 t294.length co70,.int .i64 t297,.bool t298] 25 (0,0)) (bp_ BK299.out)):gb299≠gb345))
                  have n23_:=a_ ((by rw [hg];exact Nat.ne_of_gt (blk_lt (g:=gb299) (o:=.cells #[.slice Ao70 t294.length co70,.int .i64 t297,.bool t298] 25 (0,0)) (bp_ BK299.out)):gb345≠gb299))
                  have n24_:=a_ ((by rw [hg];exact Nat.ne_of_lt (blk_lt (g:=gb313) (o:=.cells #[.slice Ao81 t307.length co81,.int .i64 t310,.bool t311] 25 (0,0)) (bp_ BK313.out)):gb313≠gb345))
                  have n25_:=a_ ((by rw [hg];exact Nat.ne_of_gt (blk_lt (g:=gb313) (o:=.cells #[.slice Ao81 t307.length co81,.int .i64 t310,.bool t311] 25 (0,0)) (bp_ BK313.out)):gb345≠gb313))
                  clear HO277
                  clear HO289
                  clear HO296
                  clear HO309
                  clear HO317
                  clear HO329
                  clear HO341
                  clear BK271
                  clear BK272
                  clear BK293
                  clear BK299
                  clear BK313
                  clear HB
                  have HO277:=n0_
                  have HO289:=n1_
                  have HO296:=n2_
                  have HO309:=n3_
                  have HO317:=n4_
                  have HO329:=n5_
                  have HO341:=n6_
                  have BK271:=n7_
                  have BK272:=n8_
                  have BK293:=n9_
                  have BK299:=n10_
                  have BK313:=n11_
                  have HB:=n12_
                  have BK345:=n13_
                  have GW345:=n14_
                  have GE345:=n15_
                  have NB271_345:=n16_
                  have NB345_271:=n17_
                  have NB272_345:=n18_
                  have NB345_272:=n19_
                  have NB293_345:=n20_
                  have NB345_293:=n21_
                  have NB299_345:=n22_
                  have NB345_299:=n23_
                  have NB313_345:=n24_
                  have NB345_313:=n25_
                  clear n0_ n1_ n2_ n3_ n4_ n5_ n6_ n7_ n8_ n9_ n10_ n11_ n12_ n13_ n14_ n15_ n16_ n17_ n18_ n19_ n20_ n21_ n22_ n23_ n24_ n25_
                  clear hb hbox hg
                  refine hK.out _ _ ⟨(bC_ BK271.out 0).trans rfl,(bC_ BK271.out 1).trans rfl,(bC_ BK271.out 2).trans rfl,(bC_ BK272.out 0).trans rfl,(bC_ BK272.out 1).trans rfl,(bC_ BK272.out 2).trans rfl,(bC_ BK272.out 3).trans rfl,(bC_ BK272.out 4).trans rfl,(bC_ BK272.out 5).trans rfl,(bC_ BK272.out 6).trans rfl⟩ (fun hHeld=>?_)
                  clear hK K
                  refine norm_ (a':=?_) ?_ ?_
                  rotate_left
                  ·show Act.put _ (some 14) _=_
                   simp only [Act.put,List.setIfInBounds_toArray,List.set_cons_zero,List.set_cons_succ,i64_w,i32_w]
                   rfl
                  exact norm_ (by simp only [putAll,Act.put,List.setIfInBounds_toArray,List.set_cons_zero,List.set_cons_succ]) (hCont (.slice Ao109 t327.length co109,v340,gb345) _ ⟨hHeld,(by (with_reducible repeat (first|apply Kd.R_alloc|apply Kd.R_drewN|apply Kd.R_drew));exact Kd.R_mono HO277.out (fun _ hk=>⟨hk.1.1.1,⟨hk.1.1.2.1,⟨hk.1.1.2.2.1,⟨hk.1.1.2.2.2,⟨hk.1.2,hk.2⟩⟩⟩⟩⟩)),(by (with_reducible repeat (first|apply Kd.R_alloc|apply Kd.R_drewN|apply Kd.R_drew));exact Kd.R_mono HO289.out (fun _ hk=>⟨hk.1.1.1,⟨hk.1.1.2.1,⟨hk.1.1.2.2.1,⟨hk.1.1.2.2.2,⟨hk.1.2,hk.2⟩⟩⟩⟩⟩)),(by (with_reducible repeat (first|apply Kd.R_alloc|apply Kd.R_drewN|apply Kd.R_drew));exact Kd.R_mono HO296.out (fun _ hk=>⟨hk.1.1.1,⟨hk.1.1.2.1,⟨hk.1.1.2.2.1,⟨hk.1.1.2.2.2,⟨hk.1.2,hk.2⟩⟩⟩⟩⟩)),(by (with_reducible repeat (first|apply Kd.R_alloc|apply Kd.R_drewN|apply Kd.R_drew));exact Kd.R_mono HO309.out (fun _ hk=>⟨hk.1.1.1,⟨hk.1.1.2.1,⟨hk.1.1.2.2.1,⟨hk.1.1.2.2.2,⟨hk.1.2,hk.2⟩⟩⟩⟩⟩)),(by (with_reducible repeat (first|apply Kd.R_alloc|apply Kd.R_drewN|apply Kd.R_drew));exact Kd.R_mono HO317.out (fun _ hk=>⟨hk.1.1.1,⟨hk.1.1.2.1,⟨hk.1.1.2.2.1,⟨hk.1.1.2.2.2,⟨hk.1.2,hk.2⟩⟩⟩⟩⟩)),(by (with_reducible repeat (first|apply Kd.R_alloc|apply Kd.R_drewN|apply Kd.R_drew));exact Kd.R_mono HO329.out (fun _ hk=>⟨hk.1.1.1.1.1.2,⟨hk.1.1.1.1.2,⟨hk.1.1.1.2,⟨hk.1.1.2,⟨hk.1.2,hk.2⟩⟩⟩⟩⟩)),(by (with_reducible repeat (first|apply Kd.R_alloc|apply Kd.R_drewN|apply Kd.R_drew));exact Kd.R_mono HO341.out (fun _ hk=>⟨hk.1.1.1.1.1.2,⟨hk.1.1.1.1.2,⟨hk.1.1.1.2,⟨hk.1.1.2,⟨hk.1.2,hk.2⟩⟩⟩⟩⟩)),(bp_ BK271.out),(bp_ BK272.out),(bp_ BK293.out),(bp_ BK299.out),(bp_ BK313.out),(bp_ BK345.out),GW345.out,GE345.out,NB271_345.out,NB345_271.out,NB272_345.out,NB345_272.out,NB293_345.out,NB345_293.out,NB299_345.out,NB345_299.out,NB313_345.out,NB345_313.out,(bel_)⟩)
                 ·skip
                  refine box_step ?hg (N:=14) ?hd (cs:=#[.slice none 0 0,.int .i64 0,.bool false]) (t:=25) ?hr ?_;(case hd=>rfl);(case hg=>rfl);(case hr=>first|(go_simp;done)|(go_simp;rfl))
                  intro gb345 hg w109 hbox hb
                  have n0_:=a_ (Kd.R_below (rp_ HO277.out) hb)
                  have n1_:=a_ (Kd.R_below (rp_ HO289.out) hb)
                  have n2_:=a_ (Kd.R_below (rp_ HO296.out) hb)
                  have n3_:=a_ (Kd.R_below (rp_ HO309.out) hb)
                  have n4_:=a_ (Kd.R_below (rp_ HO317.out) hb)
                  have n5_:=a_ (Kd.R_below (rp_ HO329.out) hb)
                  have n6_:=a_ (blk_below (g:=gb271) (o:=.cells #[.slice A0_0 l0_0.length c0_0,.int .i64 a0_1,.bool a0_2] 32 (0,0)) (bp_ BK271.out) hb)
                  have n7_:=a_ (blk_below (g:=gb272) (o:=.cells #[.int .i64 a1_0,.int .i64 a1_1,.int .i64 a1_2,.int .i64 a1_3,.int .i64 a1_4,.int .i64 a1_5,.string a1_6] 36 (0,0)) (bp_ BK272.out) hb)
                  have n8_:=a_ (blk_below (g:=gb293) (o:=.cells #[.slice Ao62 t287.length co62,.int .i64 t290,.bool t291] 25 (0,0)) (bp_ BK293.out) hb)
                  have n9_:=a_ (blk_below (g:=gb299) (o:=.cells #[.slice Ao70 t294.length co70,.int .i64 t297,.bool t298] 25 (0,0)) (bp_ BK299.out) hb)
                  have n10_:=a_ (blk_below (g:=gb313) (o:=.cells #[.slice Ao81 t307.length co81,.int .i64 t310,.bool t311] 25 (0,0)) (bp_ BK313.out) hb)
                  have n11_:=a_ (bS_ (bel_) hb)
                  have n12_:=a_ (hbox)
                  have n13_:=a_ ((by rw [hg];exact (below_size (bel_)):w.heap.size≤gb345))
                  have n14_:=a_ ((by rw [hg];exact (below_size (bel_)):w.heap.size≤gb345))
                  have n15_:=a_ ((by rw [hg];exact Nat.ne_of_lt (blk_lt (g:=gb271) (o:=.cells #[.slice A0_0 l0_0.length c0_0,.int .i64 a0_1,.bool a0_2] 32 (0,0)) (bp_ BK271.out)):gb271≠gb345))
                  have n16_:=a_ ((by rw [hg];exact Nat.ne_of_gt (blk_lt (g:=gb271) (o:=.cells #[.slice A0_0 l0_0.length c0_0,.int .i64 a0_1,.bool a0_2] 32 (0,0)) (bp_ BK271.out)):gb345≠gb271))
                  have n17_:=a_ ((by rw [hg];exact Nat.ne_of_lt (blk_lt (g:=gb272) (o:=.cells #[.int .i64 a1_0,.int .i64 a1_1,.int .i64 a1_2,.int .i64 a1_3,.int .i64 a1_4,.int .i64 a1_5,.string a1_6] 36 (0,0)) (bp_ BK272.out)):gb272≠gb345))
                  have n18_:=a_ ((by rw [hg];exact Nat.ne_of_gt (blk_lt (g:=gb272) (o:=.cells #[.int .i64 a1_0,.int .i64 a1_1,.int .i64 a1_2,.int .i64 a1_3,.int .i64 a1_4,.int .i64 a1_5,.string a1_6] 36 (0,0)) (bp_ BK272.out)):gb345≠gb272))
                  have n19_:=a_ ((by rw [hg];exact Nat.ne_of_lt (blk_lt (g:=gb293) (o:=.cells #[.slice Ao62 t287.length co62,.int .i64 t290,.bool t291] 25 (0,0)) (bp_ BK293.out)):gb293≠gb345))
                  have n20_:=a_ ((by rw [hg];exact Nat.ne_of_gt (blk_lt (g:=gb293) (o:=.cells #[.slice Ao62 t287.length co62,.int .i64 t290,.bool t291] 25 (0,0)) (bp_ BK293.out)):gb345≠gb293))
                  have n21_:=a_ ((by rw [hg];exact Nat.ne_of_lt (blk_lt (g:=gb299) (o:=.cells #[.slice Ao70 t294.length co70,.int .i64 t297,.bool t298] 25 (0,0)) (bp_ BK299.out)):gb299≠gb345))
                  have n22_:=a_ ((by rw [hg];exact Nat.ne_of_gt (blk_lt (g:=gb299) (o:=.cells #[.slice Ao70 t294.length co70,.int .i64 t297,.bool t298] 25 (0,0)) (bp_ BK299.out)):gb345≠gb299))
                  have n23_:=a_ ((by rw [hg];exact Nat.ne_of_lt (blk_lt (g:=gb313) (o:=.cells #[.slice Ao81 t307.length co81,.int .i64 t310,.bool t311] 25 (0,0)) (bp_ BK313.out)):gb313≠gb345))
                  have n24_:=a_ ((by rw [hg];exact Nat.ne_of_gt (blk_lt (g:=gb313) (o:=.cells #[.slice Ao81 t307.length co81,.int .i64 t310,.bool t311] 25 (0,0)) (bp_ BK313.out)):gb345≠gb313))
                  clear HO277
                  clear HO289
                  clear HO296
                  clear HO309
                  clear HO317
                  clear HO329
                  clear BK271
                  clear BK272
                  clear BK293
                  clear BK299
                  clear BK313
                  clear HB
                  have HO277:=n0_
                  have HO289:=n1_
                  have HO296:=n2_
                  have HO309:=n3_
                  have HO317:=n4_
                  have HO329:=n5_
                  have BK271:=n6_
                  have BK272:=n7_
                  have BK293:=n8_
                  have BK299:=n9_
                  have BK313:=n10_
                  have HB:=n11_
                  have BK345:=n12_
                  have GW345:=n13_
                  have GE345:=n14_
                  have NB271_345:=n15_
                  have NB345_271:=n16_
                  have NB272_345:=n17_
                  have NB345_272:=n18_
                  have NB293_345:=n19_
                  have NB345_293:=n20_
                  have NB299_345:=n21_
                  have NB345_299:=n22_
                  have NB313_345:=n23_
                  have NB345_313:=n24_
                  clear n0_ n1_ n2_ n3_ n4_ n5_ n6_ n7_ n8_ n9_ n10_ n11_ n12_ n13_ n14_ n15_ n16_ n17_ n18_ n19_ n20_ n21_ n22_ n23_ n24_
                  clear hb hbox hg
                  obtain ⟨Ao110,co110,eo110⟩:=Kd.R_slice HO329.out
                  (first|subst eo110|(injection eo110 with f1_ f2_ f3_;have f4_:=f1_.symm;have f5_:=f3_.symm;clear f1_ f2_ f3_;subst f4_;subst f5_))
                  refine hK.out _ _ ⟨(bC_ BK271.out 0).trans rfl,(bC_ BK271.out 1).trans rfl,(bC_ BK271.out 2).trans rfl,(bC_ BK272.out 0).trans rfl,(bC_ BK272.out 1).trans rfl,(bC_ BK272.out 2).trans rfl,(bC_ BK272.out 3).trans rfl,(bC_ BK272.out 4).trans rfl,(bC_ BK272.out 5).trans rfl,(bC_ BK272.out 6).trans rfl⟩ (fun hHeld=>?_)
                  clear hK K
                  refine norm_ (a':=?_) ?_ ?_
                  rotate_left
                  ·show Act.put _ (some 14) _=_
                   simp only [Act.put,List.setIfInBounds_toArray,List.set_cons_zero,List.set_cons_succ,i64_w,i32_w]
                   rfl
                  refine one_ (i:=4) (N:=some 89) #[true,true,true,true,true,false,false,false,true,false,false] rfl rfl (one_of HT_.out (by kernel_rfl)) (by decide) (fun K hK=>?_)
                  refine goes_ Tryd.func24 (by kernel_rfl) rfl #[.agg #[.slice Ao110 t327.length co110,.int .i64 t330,.bool t331],.agg #[.int .i64 t332,.int .i64 t333,.int .i64 t334,.int .i64 t335,.int .i64 t336,.int .i64 t337,.string t338]] (by rfl) rfl rfl ar_ ?_
                  with_reducible refine (impl_ServerHear.calls k _ _ t327 t330 t331 t332 t333 t334 t335 t336 t337 t338 t339 t342 t343 t344 _ ?side1 ?side2 A41.out ?side3).mono ?_
                  (case side1=>exact cx_ (Kd.R_reads' HO329.out).2.2)
                  (case side2=>exact (Kd.R_reads' HO329.out).2.1)
                  (case side3=>exact Glob.below HG.out (bel_))
                  rintro e w111 ⟨v340,rfl,ho0,hb⟩
                  refine ⟨_,rfl,?_⟩
                  have n0_:=a_ (Kd.R_elder' (rp_ HO277.out) (Kd.R_base ho0) hb)
                  have n1_:=a_ (Kd.R_elder' (rp_ HO289.out) (Kd.R_base ho0) hb)
                  have n2_:=a_ (Kd.R_elder' (rp_ HO296.out) (Kd.R_base ho0) hb)
                  have n3_:=a_ (Kd.R_elder' (rp_ HO309.out) (Kd.R_base ho0) hb)
                  have n4_:=a_ (Kd.R_elder' (rp_ HO317.out) (Kd.R_base ho0) hb)
                  have n5_:=a_ (Kd.R_elder' (rp_ HO329.out) (Kd.R_base ho0) hb)
                  have n6_:=a_ (Kd.R_lower (Kd.R_new' (Kd.R_new' (Kd.R_new' (Kd.R_new' (Kd.R_new' (Kd.R_new' ho0 (Kd.R_lt (rp_ HO277.out))) (Kd.R_lt (rp_ HO289.out))) (Kd.R_lt (rp_ HO296.out))) (Kd.R_lt (rp_ HO309.out))) (Kd.R_lt (rp_ HO317.out))) (Kd.R_lt (rp_ HO329.out))) (below_size (bel_)))
                  have n7_:=a_ (blk_below (g:=gb271) (o:=.cells #[.slice A0_0 l0_0.length c0_0,.int .i64 a0_1,.bool a0_2] 32 (0,0)) (bp_ BK271.out) hb)
                  have n8_:=a_ (blk_below (g:=gb272) (o:=.cells #[.int .i64 a1_0,.int .i64 a1_1,.int .i64 a1_2,.int .i64 a1_3,.int .i64 a1_4,.int .i64 a1_5,.string a1_6] 36 (0,0)) (bp_ BK272.out) hb)
                  have n9_:=a_ (blk_below (g:=gb293) (o:=.cells #[.slice Ao62 t287.length co62,.int .i64 t290,.bool t291] 25 (0,0)) (bp_ BK293.out) hb)
                  have n10_:=a_ (blk_below (g:=gb299) (o:=.cells #[.slice Ao70 t294.length co70,.int .i64 t297,.bool t298] 25 (0,0)) (bp_ BK299.out) hb)
                  have n11_:=a_ (blk_below (g:=gb313) (o:=.cells #[.slice Ao81 t307.length co81,.int .i64 t310,.bool t311] 25 (0,0)) (bp_ BK313.out) hb)
                  have n12_:=a_ (blk_below (g:=gb345) (o:=.cells #[.slice none 0 0,.int .i64 0,.bool false] 25 (0,0)) (bp_ BK345.out) hb)
                  have n13_:=a_ (bS_ (bel_) hb)
                  clear HO277
                  clear HO289
                  clear HO296
                  clear HO309
                  clear HO317
                  clear HO329
                  clear BK271
                  clear BK272
                  clear BK293
                  clear BK299
                  clear BK313
                  clear BK345
                  clear HB
                  have HO277:=n0_
                  have HO289:=n1_
                  have HO296:=n2_
                  have HO309:=n3_
                  have HO317:=n4_
                  have HO329:=n5_
                  have HO341:=n6_
                  have BK271:=n7_
                  have BK272:=n8_
                  have BK293:=n9_
                  have BK299:=n10_
                  have BK313:=n11_
                  have BK345:=n12_
                  have HB:=n13_
                  clear n0_ n1_ n2_ n3_ n4_ n5_ n6_ n7_ n8_ n9_ n10_ n11_ n12_ n13_
                  (try clear hb)
                  (try clear hb2)
                  (try clear hk)
                  (try clear hi)
                  (try clear ho0)
                  refine hK.out _ _ ⟨(bC_ BK271.out 0).trans rfl,(bC_ BK271.out 1).trans rfl,(bC_ BK271.out 2).trans rfl,(bC_ BK272.out 0).trans rfl,(bC_ BK272.out 1).trans rfl,(bC_ BK272.out 2).trans rfl,(bC_ BK272.out 3).trans rfl,(bC_ BK272.out 4).trans rfl,(bC_ BK272.out 5).trans rfl,(bC_ BK272.out 6).trans rfl⟩ (fun hHeld=>?_)
                  clear hK K
                  refine norm_ (a':=?_) ?_ ?_
                  rotate_left
                  ·show Act.put _ (some 89) _=_
                   simp only [Act.put,List.setIfInBounds_toArray,List.set_cons_zero,List.set_cons_succ,i64_w,i32_w]
                   rfl
                  refine pure_ (i:=5) (N:=some 84) (v:=?_) (a':=?_) #[true,true,true,true,true,true,false,false,true,false,false] rfl rfl (any_of HT_.out (by kernel_rfl)) (fun _ _ _ h=>h) (Or.inl ⟨by rfl,?_⟩) ?_ ?_
                  rotate_left
                  ·intro w'
                   go_simp
                   with_reducible rfl
                  rotate_left
                  ·simp only [Act.put,List.setIfInBounds_toArray,List.set_cons_zero,List.set_cons_succ,i64_w,i32_w]
                   rfl
                  refine pure_ (i:=6) (N:=some 90) (v:=?_) (a':=?_) #[true,true,true,true,true,true,true,false,true,false,false] rfl rfl (any_of HT_.out (by kernel_rfl)) (fun _ _ _ h=>h) (Or.inl ⟨by rfl,?_⟩) ?_ ?_
                  rotate_left
                  ·intro w'
                   go_simp
                   with_reducible rfl
                  rotate_left
                  ·simp only [Act.put,List.setIfInBounds_toArray,List.set_cons_zero,List.set_cons_succ,i64_w,i32_w]
                   rfl
                  refine pure_ (i:=7) (N:=some 91) (v:=?_) (a':=?_) #[true,true,true,true,true,true,true,true,true,false,false] rfl rfl (any_of HT_.out (by kernel_rfl)) (fun _ _ _ h=>h) (Or.inl ⟨by rfl,?_⟩) ?_ ?_
                  rotate_left
                  ·intro w'
                   go_simp
                   with_reducible rfl
                  rotate_left
                  ·simp only [Act.put,List.setIfInBounds_toArray,List.set_cons_zero,List.set_cons_succ,i64_w,i32_w]
                   rfl
                  exact norm_ (by simp only [putAll,Act.put,List.setIfInBounds_toArray,List.set_cons_zero,List.set_cons_succ]) (hCont (.slice Ao110 t327.length co110,v340,gb345) _ ⟨hHeld,(by (with_reducible repeat (first|apply Kd.R_alloc|apply Kd.R_drewN|apply Kd.R_drew));exact Kd.R_mono HO277.out (fun _ hk=>⟨hk.1.1.1,⟨hk.1.1.2.1,⟨hk.1.1.2.2.1,⟨hk.1.1.2.2.2,⟨hk.1.2,hk.2⟩⟩⟩⟩⟩)),(by (with_reducible repeat (first|apply Kd.R_alloc|apply Kd.R_drewN|apply Kd.R_drew));exact Kd.R_mono HO289.out (fun _ hk=>⟨hk.1.1.1,⟨hk.1.1.2.1,⟨hk.1.1.2.2.1,⟨hk.1.1.2.2.2,⟨hk.1.2,hk.2⟩⟩⟩⟩⟩)),(by (with_reducible repeat (first|apply Kd.R_alloc|apply Kd.R_drewN|apply Kd.R_drew));exact Kd.R_mono HO296.out (fun _ hk=>⟨hk.1.1.1,⟨hk.1.1.2.1,⟨hk.1.1.2.2.1,⟨hk.1.1.2.2.2,⟨hk.1.2,hk.2⟩⟩⟩⟩⟩)),(by (with_reducible repeat (first|apply Kd.R_alloc|apply Kd.R_drewN|apply Kd.R_drew));exact Kd.R_mono HO309.out (fun _ hk=>⟨hk.1.1.1,⟨hk.1.1.2.1,⟨hk.1.1.2.2.1,⟨hk.1.1.2.2.2,⟨hk.1.2,hk.2⟩⟩⟩⟩⟩)),(by (with_reducible repeat (first|apply Kd.R_alloc|apply Kd.R_drewN|apply Kd.R_drew));exact Kd.R_mono HO317.out (fun _ hk=>⟨hk.1.1.1,⟨hk.1.1.2.1,⟨hk.1.1.2.2.1,⟨hk.1.1.2.2.2,⟨hk.1.2,hk.2⟩⟩⟩⟩⟩)),(by (with_reducible repeat (first|apply Kd.R_alloc|apply Kd.R_drewN|apply Kd.R_drew));exact Kd.R_mono HO329.out (fun _ hk=>⟨hk.1.1.1.1.1.2,⟨hk.1.1.1.1.2,⟨hk.1.1.1.2,⟨hk.1.1.2,⟨hk.1.2,hk.2⟩⟩⟩⟩⟩)),(by (with_reducible repeat (first|apply Kd.R_alloc|apply Kd.R_drewN|apply Kd.R_drew));exact Kd.R_mono HO341.out (fun _ hk=>⟨hk.1.1.1.1.1.2,⟨hk.1.1.1.1.2,⟨hk.1.1.1.2,⟨hk.1.1.2,⟨hk.1.2,hk.2⟩⟩⟩⟩⟩)),(bp_ BK271.out),(bp_ BK272.out),(bp_ BK293.out),(bp_ BK299.out),(bp_ BK313.out),(bp_ BK345.out),GW345.out,GE345.out,NB271_345.out,NB345_271.out,NB272_345.out,NB345_272.out,NB293_345.out,NB345_293.out,NB299_345.out,NB345_299.out,NB313_345.out,NB345_313.out,(bel_)⟩)
                ·skip
                 refine box_step ?hg (N:=14) ?hd (cs:=#[.slice none 0 0,.int .i64 0,.bool false]) (t:=25) ?hr ?_;(case hd=>rfl);(case hg=>rfl);(case hr=>first|(go_simp;done)|(go_simp;rfl))
                 intro gb345 hg w108 hbox hb
                 have n0_:=a_ (Kd.R_below (rp_ HO277.out) hb)
                 have n1_:=a_ (Kd.R_below (rp_ HO289.out) hb)
                 have n2_:=a_ (Kd.R_below (rp_ HO296.out) hb)
                 have n3_:=a_ (Kd.R_below (rp_ HO309.out) hb)
                 have n4_:=a_ (Kd.R_below (rp_ HO317.out) hb)
                 have n5_:=a_ (Kd.R_below (rp_ HO329.out) hb)
                 have n6_:=a_ (blk_below (g:=gb271) (o:=.cells #[.slice A0_0 l0_0.length c0_0,.int .i64 a0_1,.bool a0_2] 32 (0,0)) (bp_ BK271.out) hb)
                 have n7_:=a_ (blk_below (g:=gb272) (o:=.cells #[.int .i64 a1_0,.int .i64 a1_1,.int .i64 a1_2,.int .i64 a1_3,.int .i64 a1_4,.int .i64 a1_5,.string a1_6] 36 (0,0)) (bp_ BK272.out) hb)
                 have n8_:=a_ (blk_below (g:=gb293) (o:=.cells #[.slice Ao62 t287.length co62,.int .i64 t290,.bool t291] 25 (0,0)) (bp_ BK293.out) hb)
                 have n9_:=a_ (blk_below (g:=gb299) (o:=.cells #[.slice Ao70 t294.length co70,.int .i64 t297,.bool t298] 25 (0,0)) (bp_ BK299.out) hb)
                 have n10_:=a_ (blk_below (g:=gb313) (o:=.cells #[.slice Ao81 t307.length co81,.int .i64 t310,.bool t311] 25 (0,0)) (bp_ BK313.out) hb)
                 have n11_:=a_ (bS_ (bel_) hb)
                 have n12_:=a_ (hbox)
                 have n13_:=a_ ((by rw [hg];exact (below_size (bel_)):w.heap.size≤gb345))
                 have n14_:=a_ ((by rw [hg];exact (below_size (bel_)):w.heap.size≤gb345))
                 have n15_:=a_ ((by rw [hg];exact Nat.ne_of_lt (blk_lt (g:=gb271) (o:=.cells #[.slice A0_0 l0_0.length c0_0,.int .i64 a0_1,.bool a0_2] 32 (0,0)) (bp_ BK271.out)):gb271≠gb345))
                 have n16_:=a_ ((by rw [hg];exact Nat.ne_of_gt (blk_lt (g:=gb271) (o:=.cells #[.slice A0_0 l0_0.length c0_0,.int .i64 a0_1,.bool a0_2] 32 (0,0)) (bp_ BK271.out)):gb345≠gb271))
                 have n17_:=a_ ((by rw [hg];exact Nat.ne_of_lt (blk_lt (g:=gb272) (o:=.cells #[.int .i64 a1_0,.int .i64 a1_1,.int .i64 a1_2,.int .i64 a1_3,.int .i64 a1_4,.int .i64 a1_5,.string a1_6] 36 (0,0)) (bp_ BK272.out)):gb272≠gb345))
                 have n18_:=a_ ((by rw [hg];exact Nat.ne_of_gt (blk_lt (g:=gb272) (o:=.cells #[.int .i64 a1_0,.int .i64 a1_1,.int .i64 a1_2,.int .i64 a1_3,.int .i64 a1_4,.int .i64 a1_5,.string a1_6] 36 (0,0)) (bp_ BK272.out)):gb345≠gb272))
                 have n19_:=a_ ((by rw [hg];exact Nat.ne_of_lt (blk_lt (g:=gb293) (o:=.cells #[.slice Ao62 t287.length co62,.int .i64 t290,.bool t291] 25 (0,0)) (bp_ BK293.out)):gb293≠gb345))
                 have n20_:=a_ ((by rw [hg];exact Nat.ne_of_gt (blk_lt (g:=gb293) (o:=.cells #[.slice Ao62 t287.length co62,.int .i64 t290,.bool t291] 25 (0,0)) (bp_ BK293.out)):gb345≠gb293))
                 have n21_:=a_ ((by rw [hg];exact Nat.ne_of_lt (blk_lt (g:=gb299) (o:=.cells #[.slice Ao70 t294.length co70,.int .i64 t297,.bool t298] 25 (0,0)) (bp_ BK299.out)):gb299≠gb345))
                 have n22_:=a_ ((by rw [hg];exact Nat.ne_of_gt (blk_lt (g:=gb299) (o:=.cells #[.slice Ao70 t294.length co70,.int .i64 t297,.bool t298] 25 (0,0)) (bp_ BK299.out)):gb345≠gb299))
                 have n23_:=a_ ((by rw [hg];exact Nat.ne_of_lt (blk_lt (g:=gb313) (o:=.cells #[.slice Ao81 t307.length co81,.int .i64 t310,.bool t311] 25 (0,0)) (bp_ BK313.out)):gb313≠gb345))
                 have n24_:=a_ ((by rw [hg];exact Nat.ne_of_gt (blk_lt (g:=gb313) (o:=.cells #[.slice Ao81 t307.length co81,.int .i64 t310,.bool t311] 25 (0,0)) (bp_ BK313.out)):gb345≠gb313))
                 clear HO277
                 clear HO289
                 clear HO296
                 clear HO309
                 clear HO317
                 clear HO329
                 clear BK271
                 clear BK272
                 clear BK293
                 clear BK299
                 clear BK313
                 clear HB
                 have HO277:=n0_
                 have HO289:=n1_
                 have HO296:=n2_
                 have HO309:=n3_
                 have HO317:=n4_
                 have HO329:=n5_
                 have BK271:=n6_
                 have BK272:=n7_
                 have BK293:=n8_
                 have BK299:=n9_
                 have BK313:=n10_
                 have HB:=n11_
                 have BK345:=n12_
                 have GW345:=n13_
                 have GE345:=n14_
                 have NB271_345:=n15_
                 have NB345_271:=n16_
                 have NB272_345:=n17_
                 have NB345_272:=n18_
                 have NB293_345:=n19_
                 have NB345_293:=n20_
                 have NB299_345:=n21_
                 have NB345_299:=n22_
                 have NB313_345:=n23_
                 have NB345_313:=n24_
                 clear n0_ n1_ n2_ n3_ n4_ n5_ n6_ n7_ n8_ n9_ n10_ n11_ n12_ n13_ n14_ n15_ n16_ n17_ n18_ n19_ n20_ n21_ n22_ n23_ n24_
                 clear hb hbox hg
                 refine hK.out _ _ ⟨(bC_ BK271.out 0).trans rfl,(bC_ BK271.out 1).trans rfl,(bC_ BK271.out 2).trans rfl,(bC_ BK272.out 0).trans rfl,(bC_ BK272.out 1).trans rfl,(bC_ BK272.out 2).trans rfl,(bC_ BK272.out 3).trans rfl,(bC_ BK272.out 4).trans rfl,(bC_ BK272.out 5).trans rfl,(bC_ BK272.out 6).trans rfl⟩ (fun hHeld=>?_)
                 clear hK K
                 refine norm_ (a':=?_) ?_ ?_
                 rotate_left
                 ·show Act.put _ (some 14) _=_
                  simp only [Act.put,List.setIfInBounds_toArray,List.set_cons_zero,List.set_cons_succ,i64_w,i32_w]
                  rfl
                 refine one_ (i:=3) (N:=some 88) #[true,true,true,true,false,false,false,false,true,false,false] rfl rfl (one_of HT_.out (by kernel_rfl)) (by decide) (fun K hK=>?_)
                 refine goes_ Tryd.func23 (by kernel_rfl) rfl #[.agg #[.int .i64 a1_0,.int .i64 a1_1,.int .i64 a1_2,.int .i64 a1_3,.int .i64 a1_4,.int .i64 a1_5,.string a1_6]] (by rfl) rfl rfl ar_ ?_
                 with_reducible refine (laws_toEntry.calls a1_0 a1_1 a1_2 a1_3 a1_4 a1_5 a1_6 t332 t333 t334 t335 t336 t337 t338 _ A40.out).mono ?_
                 rintro e w109 ⟨rfl,hb⟩
                 refine ⟨_,rfl,?_⟩
                 have n0_:=a_ (Kd.R_below (rp_ HO277.out) hb)
                 have n1_:=a_ (Kd.R_below (rp_ HO289.out) hb)
                 have n2_:=a_ (Kd.R_below (rp_ HO296.out) hb)
                 have n3_:=a_ (Kd.R_below (rp_ HO309.out) hb)
                 have n4_:=a_ (Kd.R_below (rp_ HO317.out) hb)
                 have n5_:=a_ (Kd.R_below (rp_ HO329.out) hb)
                 have n6_:=a_ (blk_below (g:=gb271) (o:=.cells #[.slice A0_0 l0_0.length c0_0,.int .i64 a0_1,.bool a0_2] 32 (0,0)) (bp_ BK271.out) hb)
                 have n7_:=a_ (blk_below (g:=gb272) (o:=.cells #[.int .i64 a1_0,.int .i64 a1_1,.int .i64 a1_2,.int .i64 a1_3,.int .i64 a1_4,.int .i64 a1_5,.string a1_6] 36 (0,0)) (bp_ BK272.out) hb)
                 have n8_:=a_ (blk_below (g:=gb293) (o:=.cells #[.slice Ao62 t287.length co62,.int .i64 t290,.bool t291] 25 (0,0)) (bp_ BK293.out) hb)
                 have n9_:=a_ (blk_below (g:=gb299) (o:=.cells #[.slice Ao70 t294.length co70,.int .i64 t297,.bool t298] 25 (0,0)) (bp_ BK299.out) hb)
                 have n10_:=a_ (blk_below (g:=gb313) (o:=.cells #[.slice Ao81 t307.length co81,.int .i64 t310,.bool t311] 25 (0,0)) (bp_ BK313.out) hb)
                 have n11_:=a_ (blk_below (g:=gb345) (o:=.cells #[.slice none 0 0,.int .i64 0,.bool false] 25 (0,0)) (bp_ BK345.out) hb)
                 have n12_:=a_ (bS_ (bel_) hb)
                 clear HO277
                 clear HO289
                 clear HO296
                 clear HO309
                 clear HO317
                 clear HO329
                 clear BK271
                 clear BK272
                 clear BK293
                 clear BK299
                 clear BK313
                 clear BK345
                 clear HB
                 have HO277:=n0_
                 have HO289:=n1_
                 have HO296:=n2_
                 have HO309:=n3_
                 have HO317:=n4_
                 have HO329:=n5_
                 have BK271:=n6_
                 have BK272:=n7_
                 have BK293:=n8_
                 have BK299:=n9_
                 have BK313:=n10_
                 have BK345:=n11_
                 have HB:=n12_
                 clear n0_ n1_ n2_ n3_ n4_ n5_ n6_ n7_ n8_ n9_ n10_ n11_ n12_
                 (try clear hb)
                 (try clear hb2)
                 (try clear hk)
                 (try clear hi)
                 obtain ⟨Ao110,co110,eo110⟩:=Kd.R_slice HO329.out
                 (first|subst eo110|(injection eo110 with f1_ f2_ f3_;have f4_:=f1_.symm;have f5_:=f3_.symm;clear f1_ f2_ f3_;subst f4_;subst f5_))
                 refine hK.out _ _ ⟨(bC_ BK271.out 0).trans rfl,(bC_ BK271.out 1).trans rfl,(bC_ BK271.out 2).trans rfl,(bC_ BK272.out 0).trans rfl,(bC_ BK272.out 1).trans rfl,(bC_ BK272.out 2).trans rfl,(bC_ BK272.out 3).trans rfl,(bC_ BK272.out 4).trans rfl,(bC_ BK272.out 5).trans rfl,(bC_ BK272.out 6).trans rfl⟩ (fun hHeld=>?_)
                 clear hK K
                 refine norm_ (a':=?_) ?_ ?_
                 rotate_left
                 ·show Act.put _ (some 88) _=_
                  simp only [Act.put,List.setIfInBounds_toArray,List.set_cons_zero,List.set_cons_succ,i64_w,i32_w]
                  rfl
                 refine one_ (i:=4) (N:=some 89) #[true,true,true,true,true,false,false,false,true,false,false] rfl rfl (one_of HT_.out (by kernel_rfl)) (by decide) (fun K hK=>?_)
                 refine goes_ Tryd.func24 (by kernel_rfl) rfl #[.agg #[.slice Ao110 t327.length co110,.int .i64 t330,.bool t331],.agg #[.int .i64 t332,.int .i64 t333,.int .i64 t334,.int .i64 t335,.int .i64 t336,.int .i64 t337,.string t338]] (by rfl) rfl rfl ar_ ?_
                 with_reducible refine (impl_ServerHear.calls k _ _ t327 t330 t331 t332 t333 t334 t335 t336 t337 t338 t339 t342 t343 t344 _ ?side1 ?side2 A41.out ?side3).mono ?_
                 (case side1=>exact cx_ (Kd.R_reads' HO329.out).2.2)
                 (case side2=>exact (Kd.R_reads' HO329.out).2.1)
                 (case side3=>exact Glob.below HG.out (bel_))
                 rintro e w111 ⟨v340,rfl,ho0,hb⟩
                 refine ⟨_,rfl,?_⟩
                 have n0_:=a_ (Kd.R_elder' (rp_ HO277.out) (Kd.R_base ho0) hb)
                 have n1_:=a_ (Kd.R_elder' (rp_ HO289.out) (Kd.R_base ho0) hb)
                 have n2_:=a_ (Kd.R_elder' (rp_ HO296.out) (Kd.R_base ho0) hb)
                 have n3_:=a_ (Kd.R_elder' (rp_ HO309.out) (Kd.R_base ho0) hb)
                 have n4_:=a_ (Kd.R_elder' (rp_ HO317.out) (Kd.R_base ho0) hb)
                 have n5_:=a_ (Kd.R_elder' (rp_ HO329.out) (Kd.R_base ho0) hb)
                 have n6_:=a_ (Kd.R_lower (Kd.R_new' (Kd.R_new' (Kd.R_new' (Kd.R_new' (Kd.R_new' (Kd.R_new' ho0 (Kd.R_lt (rp_ HO277.out))) (Kd.R_lt (rp_ HO289.out))) (Kd.R_lt (rp_ HO296.out))) (Kd.R_lt (rp_ HO309.out))) (Kd.R_lt (rp_ HO317.out))) (Kd.R_lt (rp_ HO329.out))) (below_size (bel_)))
                 have n7_:=a_ (blk_below (g:=gb271) (o:=.cells #[.slice A0_0 l0_0.length c0_0,.int .i64 a0_1,.bool a0_2] 32 (0,0)) (bp_ BK271.out) hb)
                 have n8_:=a_ (blk_below (g:=gb272) (o:=.cells #[.int .i64 a1_0,.int .i64 a1_1,.int .i64 a1_2,.int .i64 a1_3,.int .i64 a1_4,.int .i64 a1_5,.string a1_6] 36 (0,0)) (bp_ BK272.out) hb)
                 have n9_:=a_ (blk_below (g:=gb293) (o:=.cells #[.slice Ao62 t287.length co62,.int .i64 t290,.bool t291] 25 (0,0)) (bp_ BK293.out) hb)
                 have n10_:=a_ (blk_below (g:=gb299) (o:=.cells #[.slice Ao70 t294.length co70,.int .i64 t297,.bool t298] 25 (0,0)) (bp_ BK299.out) hb)
                 have n11_:=a_ (blk_below (g:=gb313) (o:=.cells #[.slice Ao81 t307.length co81,.int .i64 t310,.bool t311] 25 (0,0)) (bp_ BK313.out) hb)
                 have n12_:=a_ (blk_below (g:=gb345) (o:=.cells #[.slice none 0 0,.int .i64 0,.bool false] 25 (0,0)) (bp_ BK345.out) hb)
                 have n13_:=a_ (bS_ (bel_) hb)
                 clear HO277
                 clear HO289
                 clear HO296
                 clear HO309
                 clear HO317
                 clear HO329
                 clear BK271
                 clear BK272
                 clear BK293
                 clear BK299
                 clear BK313
                 clear BK345
                 clear HB
                 have HO277:=n0_
                 have HO289:=n1_
                 have HO296:=n2_
                 have HO309:=n3_
                 have HO317:=n4_
                 have HO329:=n5_
                 have HO341:=n6_
                 have BK271:=n7_
                 have BK272:=n8_
                 have BK293:=n9_
                 have BK299:=n10_
                 have BK313:=n11_
                 have BK345:=n12_
                 have HB:=n13_
                 clear n0_ n1_ n2_ n3_ n4_ n5_ n6_ n7_ n8_ n9_ n10_ n11_ n12_ n13_
                 (try clear hb)
                 (try clear hb2)
                 (try clear hk)
                 (try clear hi)
                 (try clear ho0)
                 refine hK.out _ _ ⟨(bC_ BK271.out 0).trans rfl,(bC_ BK271.out 1).trans rfl,(bC_ BK271.out 2).trans rfl,(bC_ BK272.out 0).trans rfl,(bC_ BK272.out 1).trans rfl,(bC_ BK272.out 2).trans rfl,(bC_ BK272.out 3).trans rfl,(bC_ BK272.out 4).trans rfl,(bC_ BK272.out 5).trans rfl,(bC_ BK272.out 6).trans rfl⟩ (fun hHeld=>?_)
                 clear hK K
                 refine norm_ (a':=?_) ?_ ?_
                 rotate_left
                 ·show Act.put _ (some 89) _=_
                  simp only [Act.put,List.setIfInBounds_toArray,List.set_cons_zero,List.set_cons_succ,i64_w,i32_w]
                  rfl
                 refine pure_ (i:=5) (N:=some 84) (v:=?_) (a':=?_) #[true,true,true,true,true,true,false,false,true,false,false] rfl rfl (any_of HT_.out (by kernel_rfl)) (fun _ _ _ h=>h) (Or.inl ⟨by rfl,?_⟩) ?_ ?_
                 rotate_left
                 ·intro w'
                  go_simp
                  with_reducible rfl
                 rotate_left
                 ·simp only [Act.put,List.setIfInBounds_toArray,List.set_cons_zero,List.set_cons_succ,i64_w,i32_w]
                  rfl
                 refine pure_ (i:=6) (N:=some 90) (v:=?_) (a':=?_) #[true,true,true,true,true,true,true,false,true,false,false] rfl rfl (any_of HT_.out (by kernel_rfl)) (fun _ _ _ h=>h) (Or.inl ⟨by rfl,?_⟩) ?_ ?_
                 rotate_left
                 ·intro w'
                  go_simp
                  with_reducible rfl
                 rotate_left
                 ·simp only [Act.put,List.setIfInBounds_toArray,List.set_cons_zero,List.set_cons_succ,i64_w,i32_w]
                  rfl
                 refine pure_ (i:=7) (N:=some 91) (v:=?_) (a':=?_) #[true,true,true,true,true,true,true,true,true,false,false] rfl rfl (any_of HT_.out (by kernel_rfl)) (fun _ _ _ h=>h) (Or.inl ⟨by rfl,?_⟩) ?_ ?_
                 rotate_left
                 ·intro w'
                  go_simp
                  with_reducible rfl
                 rotate_left
                 ·simp only [Act.put,List.setIfInBounds_toArray,List.set_cons_zero,List.set_cons_succ,i64_w,i32_w]
                  rfl
                 exact norm_ (by simp only [putAll,Act.put,List.setIfInBounds_toArray,List.set_cons_zero,List.set_cons_succ]) (hCont (.slice Ao110 t327.length co110,v340,gb345) _ ⟨hHeld,(by (with_reducible repeat (first|apply Kd.R_alloc|apply Kd.R_drewN|apply Kd.R_drew));exact Kd.R_mono HO277.out (fun _ hk=>⟨hk.1.1.1,⟨hk.1.1.2.1,⟨hk.1.1.2.2.1,⟨hk.1.1.2.2.2,⟨hk.1.2,hk.2⟩⟩⟩⟩⟩)),(by (with_reducible repeat (first|apply Kd.R_alloc|apply Kd.R_drewN|apply Kd.R_drew));exact Kd.R_mono HO289.out (fun _ hk=>⟨hk.1.1.1,⟨hk.1.1.2.1,⟨hk.1.1.2.2.1,⟨hk.1.1.2.2.2,⟨hk.1.2,hk.2⟩⟩⟩⟩⟩)),(by (with_reducible repeat (first|apply Kd.R_alloc|apply Kd.R_drewN|apply Kd.R_drew));exact Kd.R_mono HO296.out (fun _ hk=>⟨hk.1.1.1,⟨hk.1.1.2.1,⟨hk.1.1.2.2.1,⟨hk.1.1.2.2.2,⟨hk.1.2,hk.2⟩⟩⟩⟩⟩)),(by (with_reducible repeat (first|apply Kd.R_alloc|apply Kd.R_drewN|apply Kd.R_drew));exact Kd.R_mono HO309.out (fun _ hk=>⟨hk.1.1.1,⟨hk.1.1.2.1,⟨hk.1.1.2.2.1,⟨hk.1.1.2.2.2,⟨hk.1.2,hk.2⟩⟩⟩⟩⟩)),(by (with_reducible repeat (first|apply Kd.R_alloc|apply Kd.R_drewN|apply Kd.R_drew));exact Kd.R_mono HO317.out (fun _ hk=>⟨hk.1.1.1,⟨hk.1.1.2.1,⟨hk.1.1.2.2.1,⟨hk.1.1.2.2.2,⟨hk.1.2,hk.2⟩⟩⟩⟩⟩)),(by (with_reducible repeat (first|apply Kd.R_alloc|apply Kd.R_drewN|apply Kd.R_drew));exact Kd.R_mono HO329.out (fun _ hk=>⟨hk.1.1.1.1.1.2,⟨hk.1.1.1.1.2,⟨hk.1.1.1.2,⟨hk.1.1.2,⟨hk.1.2,hk.2⟩⟩⟩⟩⟩)),(by (with_reducible repeat (first|apply Kd.R_alloc|apply Kd.R_drewN|apply Kd.R_drew));exact Kd.R_mono HO341.out (fun _ hk=>⟨hk.1.1.1.1.1.2,⟨hk.1.1.1.1.2,⟨hk.1.1.1.2,⟨hk.1.1.2,⟨hk.1.2,hk.2⟩⟩⟩⟩⟩)),(bp_ BK271.out),(bp_ BK272.out),(bp_ BK293.out),(bp_ BK299.out),(bp_ BK313.out),(bp_ BK345.out),GW345.out,GE345.out,NB271_345.out,NB345_271.out,NB272_345.out,NB345_272.out,NB293_345.out,NB345_293.out,NB299_345.out,NB345_299.out,NB313_345.out,NB345_313.out,(bel_)⟩)
               ·skip
                refine box_step ?hg (N:=14) ?hd (cs:=#[.slice none 0 0,.int .i64 0,.bool false]) (t:=25) ?hr ?_;(case hd=>rfl);(case hg=>rfl);(case hr=>first|(go_simp;done)|(go_simp;rfl))
                intro gb345 hg w107 hbox hb
                have n0_:=a_ (Kd.R_below (rp_ HO277.out) hb)
                have n1_:=a_ (Kd.R_below (rp_ HO289.out) hb)
                have n2_:=a_ (Kd.R_below (rp_ HO296.out) hb)
                have n3_:=a_ (Kd.R_below (rp_ HO309.out) hb)
                have n4_:=a_ (Kd.R_below (rp_ HO317.out) hb)
                have n5_:=a_ (blk_below (g:=gb271) (o:=.cells #[.slice A0_0 l0_0.length c0_0,.int .i64 a0_1,.bool a0_2] 32 (0,0)) (bp_ BK271.out) hb)
                have n6_:=a_ (blk_below (g:=gb272) (o:=.cells #[.int .i64 a1_0,.int .i64 a1_1,.int .i64 a1_2,.int .i64 a1_3,.int .i64 a1_4,.int .i64 a1_5,.string a1_6] 36 (0,0)) (bp_ BK272.out) hb)
                have n7_:=a_ (blk_below (g:=gb293) (o:=.cells #[.slice Ao62 t287.length co62,.int .i64 t290,.bool t291] 25 (0,0)) (bp_ BK293.out) hb)
                have n8_:=a_ (blk_below (g:=gb299) (o:=.cells #[.slice Ao70 t294.length co70,.int .i64 t297,.bool t298] 25 (0,0)) (bp_ BK299.out) hb)
                have n9_:=a_ (blk_below (g:=gb313) (o:=.cells #[.slice Ao81 t307.length co81,.int .i64 t310,.bool t311] 25 (0,0)) (bp_ BK313.out) hb)
                have n10_:=a_ (bS_ (bel_) hb)
                have n11_:=a_ (hbox)
                have n12_:=a_ ((by rw [hg];exact (below_size (bel_)):w.heap.size≤gb345))
                have n13_:=a_ ((by rw [hg];exact (below_size (bel_)):w.heap.size≤gb345))
                have n14_:=a_ ((by rw [hg];exact Nat.ne_of_lt (blk_lt (g:=gb271) (o:=.cells #[.slice A0_0 l0_0.length c0_0,.int .i64 a0_1,.bool a0_2] 32 (0,0)) (bp_ BK271.out)):gb271≠gb345))
                have n15_:=a_ ((by rw [hg];exact Nat.ne_of_gt (blk_lt (g:=gb271) (o:=.cells #[.slice A0_0 l0_0.length c0_0,.int .i64 a0_1,.bool a0_2] 32 (0,0)) (bp_ BK271.out)):gb345≠gb271))
                have n16_:=a_ ((by rw [hg];exact Nat.ne_of_lt (blk_lt (g:=gb272) (o:=.cells #[.int .i64 a1_0,.int .i64 a1_1,.int .i64 a1_2,.int .i64 a1_3,.int .i64 a1_4,.int .i64 a1_5,.string a1_6] 36 (0,0)) (bp_ BK272.out)):gb272≠gb345))
                have n17_:=a_ ((by rw [hg];exact Nat.ne_of_gt (blk_lt (g:=gb272) (o:=.cells #[.int .i64 a1_0,.int .i64 a1_1,.int .i64 a1_2,.int .i64 a1_3,.int .i64 a1_4,.int .i64 a1_5,.string a1_6] 36 (0,0)) (bp_ BK272.out)):gb345≠gb272))
                have n18_:=a_ ((by rw [hg];exact Nat.ne_of_lt (blk_lt (g:=gb293) (o:=.cells #[.slice Ao62 t287.length co62,.int .i64 t290,.bool t291] 25 (0,0)) (bp_ BK293.out)):gb293≠gb345))
                have n19_:=a_ ((by rw [hg];exact Nat.ne_of_gt (blk_lt (g:=gb293) (o:=.cells #[.slice Ao62 t287.length co62,.int .i64 t290,.bool t291] 25 (0,0)) (bp_ BK293.out)):gb345≠gb293))
                have n20_:=a_ ((by rw [hg];exact Nat.ne_of_lt (blk_lt (g:=gb299) (o:=.cells #[.slice Ao70 t294.length co70,.int .i64 t297,.bool t298] 25 (0,0)) (bp_ BK299.out)):gb299≠gb345))
                have n21_:=a_ ((by rw [hg];exact Nat.ne_of_gt (blk_lt (g:=gb299) (o:=.cells #[.slice Ao70 t294.length co70,.int .i64 t297,.bool t298] 25 (0,0)) (bp_ BK299.out)):gb345≠gb299))
                have n22_:=a_ ((by rw [hg];exact Nat.ne_of_lt (blk_lt (g:=gb313) (o:=.cells #[.slice Ao81 t307.length co81,.int .i64 t310,.bool t311] 25 (0,0)) (bp_ BK313.out)):gb313≠gb345))
                have n23_:=a_ ((by rw [hg];exact Nat.ne_of_gt (blk_lt (g:=gb313) (o:=.cells #[.slice Ao81 t307.length co81,.int .i64 t310,.bool t311] 25 (0,0)) (bp_ BK313.out)):gb345≠gb313))
                clear HO277
                clear HO289
                clear HO296
                clear HO309
                clear HO317
                clear BK271
                clear BK272
                clear BK293
                clear BK299
                clear BK313
                clear HB
                have HO277:=n0_
                have HO289:=n1_
                have HO296:=n2_
                have HO309:=n3_
                have HO317:=n4_
                have BK271:=n5_
                have BK272:=n6_
                have BK293:=n7_
                have BK299:=n8_
                have BK313:=n9_
                have HB:=n10_
                have BK345:=n11_
                have GW345:=n12_
                have GE345:=n13_
                have NB271_345:=n14_
                have NB345_271:=n15_
                have NB272_345:=n16_
                have NB345_272:=n17_
                have NB293_345:=n18_
                have NB345_293:=n19_
                have NB299_345:=n20_
                have NB345_299:=n21_
                have NB313_345:=n22_
                have NB345_313:=n23_
                clear n0_ n1_ n2_ n3_ n4_ n5_ n6_ n7_ n8_ n9_ n10_ n11_ n12_ n13_ n14_ n15_ n16_ n17_ n18_ n19_ n20_ n21_ n22_ n23_
                clear hb hbox hg
                refine hK.out _ _ ⟨(bC_ BK271.out 0).trans rfl,(bC_ BK271.out 1).trans rfl,(bC_ BK271.out 2).trans rfl,(bC_ BK272.out 0).trans rfl,(bC_ BK272.out 1).trans rfl,(bC_ BK272.out 2).trans rfl,(bC_ BK272.out 3).trans rfl,(bC_ BK272.out 4).trans rfl,(bC_ BK272.out 5).trans rfl,(bC_ BK272.out 6).trans rfl⟩ (fun hHeld=>?_)
                clear hK K
                refine norm_ (a':=?_) ?_ ?_
                rotate_left
                ·show Act.put _ (some 14) _=_
                 simp only [Act.put,List.setIfInBounds_toArray,List.set_cons_zero,List.set_cons_succ,i64_w,i32_w]
                 rfl
                refine one_ (i:=1) (N:=some 86) #[true,true,true,false,false,false,false,false,true,false,false] rfl rfl (one_of HT_.out (by kernel_rfl)) (by decide) (fun K hK=>?_)
                refine goes_ Tryd.func22 (by kernel_rfl) rfl #[.agg #[.slice A0_0 l0_0.length c0_0,.int .i64 a0_1,.bool a0_2]] (by rfl) rfl rfl ar_ ?_
                with_reducible refine (laws_toServer.calls k _ _ l0_0 a0_1 a0_2 t327 t330 t331 _ ?side1 ?side2 A39.out).mono ?_
                (case side1=>exact cp_ HR0_0.out)
                (case side2=>exact HC0_0.out)
                rintro e w108 ⟨v328,rfl,ho0,hb⟩
                refine ⟨_,rfl,?_⟩
                have n0_:=a_ (Kd.R_elder' (rp_ HO277.out) (Kd.R_base ho0) hb)
                have n1_:=a_ (Kd.R_elder' (rp_ HO289.out) (Kd.R_base ho0) hb)
                have n2_:=a_ (Kd.R_elder' (rp_ HO296.out) (Kd.R_base ho0) hb)
                have n3_:=a_ (Kd.R_elder' (rp_ HO309.out) (Kd.R_base ho0) hb)
                have n4_:=a_ (Kd.R_elder' (rp_ HO317.out) (Kd.R_base ho0) hb)
                have n5_:=a_ (Kd.R_lower (Kd.R_new' (Kd.R_new' (Kd.R_new' (Kd.R_new' (Kd.R_new' ho0 (Kd.R_lt (rp_ HO277.out))) (Kd.R_lt (rp_ HO289.out))) (Kd.R_lt (rp_ HO296.out))) (Kd.R_lt (rp_ HO309.out))) (Kd.R_lt (rp_ HO317.out))) (below_size (bel_)))
                have n6_:=a_ (blk_below (g:=gb271) (o:=.cells #[.slice A0_0 l0_0.length c0_0,.int .i64 a0_1,.bool a0_2] 32 (0,0)) (bp_ BK271.out) hb)
                have n7_:=a_ (blk_below (g:=gb272) (o:=.cells #[.int .i64 a1_0,.int .i64 a1_1,.int .i64 a1_2,.int .i64 a1_3,.int .i64 a1_4,.int .i64 a1_5,.string a1_6] 36 (0,0)) (bp_ BK272.out) hb)
                have n8_:=a_ (blk_below (g:=gb293) (o:=.cells #[.slice Ao62 t287.length co62,.int .i64 t290,.bool t291] 25 (0,0)) (bp_ BK293.out) hb)
                have n9_:=a_ (blk_below (g:=gb299) (o:=.cells #[.slice Ao70 t294.length co70,.int .i64 t297,.bool t298] 25 (0,0)) (bp_ BK299.out) hb)
                have n10_:=a_ (blk_below (g:=gb313) (o:=.cells #[.slice Ao81 t307.length co81,.int .i64 t310,.bool t311] 25 (0,0)) (bp_ BK313.out) hb)
                have n11_:=a_ (blk_below (g:=gb345) (o:=.cells #[.slice none 0 0,.int .i64 0,.bool false] 25 (0,0)) (bp_ BK345.out) hb)
                have n12_:=a_ (bS_ (bel_) hb)
                clear HO277
                clear HO289
                clear HO296
                clear HO309
                clear HO317
                clear BK271
                clear BK272
                clear BK293
                clear BK299
                clear BK313
                clear BK345
                clear HB
                have HO277:=n0_
                have HO289:=n1_
                have HO296:=n2_
                have HO309:=n3_
                have HO317:=n4_
                have HO329:=n5_
                have BK271:=n6_
                have BK272:=n7_
                have BK293:=n8_
                have BK299:=n9_
                have BK313:=n10_
                have BK345:=n11_
                have HB:=n12_
                clear n0_ n1_ n2_ n3_ n4_ n5_ n6_ n7_ n8_ n9_ n10_ n11_ n12_
                (try clear hb)
                (try clear hb2)
                (try clear hk)
                (try clear hi)
                (try clear ho0)
                refine hK.out _ _ ⟨(bC_ BK271.out 0).trans rfl,(bC_ BK271.out 1).trans rfl,(bC_ BK271.out 2).trans rfl,(bC_ BK272.out 0).trans rfl,(bC_ BK272.out 1).trans rfl,(bC_ BK272.out 2).trans rfl,(bC_ BK272.out 3).trans rfl,(bC_ BK272.out 4).trans rfl,(bC_ BK272.out 5).trans rfl,(bC_ BK272.out 6).trans rfl⟩ (fun hHeld=>?_)
                clear hK K
                refine norm_ (a':=?_) ?_ ?_
                rotate_left
                ·show Act.put _ (some 86) _=_
                 simp only [Act.put,List.setIfInBounds_toArray,List.set_cons_zero,List.set_cons_succ,i64_w,i32_w]
                 rfl
                refine one_ (i:=3) (N:=some 88) #[true,true,true,true,false,false,false,false,true,false,false] rfl rfl (one_of HT_.out (by kernel_rfl)) (by decide) (fun K hK=>?_)
                refine goes_ Tryd.func23 (by kernel_rfl) rfl #[.agg #[.int .i64 a1_0,.int .i64 a1_1,.int .i64 a1_2,.int .i64 a1_3,.int .i64 a1_4,.int .i64 a1_5,.string a1_6]] (by rfl) rfl rfl ar_ ?_
                with_reducible refine (laws_toEntry.calls a1_0 a1_1 a1_2 a1_3 a1_4 a1_5 a1_6 t332 t333 t334 t335 t336 t337 t338 _ A40.out).mono ?_
                rintro e w109 ⟨rfl,hb⟩
                refine ⟨_,rfl,?_⟩
                have n0_:=a_ (Kd.R_below (rp_ HO277.out) hb)
                have n1_:=a_ (Kd.R_below (rp_ HO289.out) hb)
                have n2_:=a_ (Kd.R_below (rp_ HO296.out) hb)
                have n3_:=a_ (Kd.R_below (rp_ HO309.out) hb)
                have n4_:=a_ (Kd.R_below (rp_ HO317.out) hb)
                have n5_:=a_ (Kd.R_below (rp_ HO329.out) hb)
                have n6_:=a_ (blk_below (g:=gb271) (o:=.cells #[.slice A0_0 l0_0.length c0_0,.int .i64 a0_1,.bool a0_2] 32 (0,0)) (bp_ BK271.out) hb)
                have n7_:=a_ (blk_below (g:=gb272) (o:=.cells #[.int .i64 a1_0,.int .i64 a1_1,.int .i64 a1_2,.int .i64 a1_3,.int .i64 a1_4,.int .i64 a1_5,.string a1_6] 36 (0,0)) (bp_ BK272.out) hb)
                have n8_:=a_ (blk_below (g:=gb293) (o:=.cells #[.slice Ao62 t287.length co62,.int .i64 t290,.bool t291] 25 (0,0)) (bp_ BK293.out) hb)
                have n9_:=a_ (blk_below (g:=gb299) (o:=.cells #[.slice Ao70 t294.length co70,.int .i64 t297,.bool t298] 25 (0,0)) (bp_ BK299.out) hb)
                have n10_:=a_ (blk_below (g:=gb313) (o:=.cells #[.slice Ao81 t307.length co81,.int .i64 t310,.bool t311] 25 (0,0)) (bp_ BK313.out) hb)
                have n11_:=a_ (blk_below (g:=gb345) (o:=.cells #[.slice none 0 0,.int .i64 0,.bool false] 25 (0,0)) (bp_ BK345.out) hb)
                have n12_:=a_ (bS_ (bel_) hb)
                clear HO277
                clear HO289
                clear HO296
                clear HO309
                clear HO317
                clear HO329
                clear BK271
                clear BK272
                clear BK293
                clear BK299
                clear BK313
                clear BK345
                clear HB
                have HO277:=n0_
                have HO289:=n1_
                have HO296:=n2_
                have HO309:=n3_
                have HO317:=n4_
                have HO329:=n5_
                have BK271:=n6_
                have BK272:=n7_
                have BK293:=n8_
                have BK299:=n9_
                have BK313:=n10_
                have BK345:=n11_
                have HB:=n12_
                clear n0_ n1_ n2_ n3_ n4_ n5_ n6_ n7_ n8_ n9_ n10_ n11_ n12_
                (try clear hb)
                (try clear hb2)
                (try clear hk)
                (try clear hi)
                obtain ⟨Ao110,co110,eo110⟩:=Kd.R_slice HO329.out
                (first|subst eo110|(injection eo110 with f1_ f2_ f3_;have f4_:=f1_.symm;have f5_:=f3_.symm;clear f1_ f2_ f3_;subst f4_;subst f5_))
                refine hK.out _ _ ⟨(bC_ BK271.out 0).trans rfl,(bC_ BK271.out 1).trans rfl,(bC_ BK271.out 2).trans rfl,(bC_ BK272.out 0).trans rfl,(bC_ BK272.out 1).trans rfl,(bC_ BK272.out 2).trans rfl,(bC_ BK272.out 3).trans rfl,(bC_ BK272.out 4).trans rfl,(bC_ BK272.out 5).trans rfl,(bC_ BK272.out 6).trans rfl⟩ (fun hHeld=>?_)
                clear hK K
                refine norm_ (a':=?_) ?_ ?_
                rotate_left
                ·show Act.put _ (some 88) _=_
                 simp only [Act.put,List.setIfInBounds_toArray,List.set_cons_zero,List.set_cons_succ,i64_w,i32_w]
                 rfl
                refine one_ (i:=4) (N:=some 89) #[true,true,true,true,true,false,false,false,true,false,false] rfl rfl (one_of HT_.out (by kernel_rfl)) (by decide) (fun K hK=>?_)
                refine goes_ Tryd.func24 (by kernel_rfl) rfl #[.agg #[.slice Ao110 t327.length co110,.int .i64 t330,.bool t331],.agg #[.int .i64 t332,.int .i64 t333,.int .i64 t334,.int .i64 t335,.int .i64 t336,.int .i64 t337,.string t338]] (by rfl) rfl rfl ar_ ?_
                with_reducible refine (impl_ServerHear.calls k _ _ t327 t330 t331 t332 t333 t334 t335 t336 t337 t338 t339 t342 t343 t344 _ ?side1 ?side2 A41.out ?side3).mono ?_
                (case side1=>exact cx_ (Kd.R_reads' HO329.out).2.2)
                (case side2=>exact (Kd.R_reads' HO329.out).2.1)
                (case side3=>exact Glob.below HG.out (bel_))
                rintro e w111 ⟨v340,rfl,ho0,hb⟩
                refine ⟨_,rfl,?_⟩
                have n0_:=a_ (Kd.R_elder' (rp_ HO277.out) (Kd.R_base ho0) hb)
                have n1_:=a_ (Kd.R_elder' (rp_ HO289.out) (Kd.R_base ho0) hb)
                have n2_:=a_ (Kd.R_elder' (rp_ HO296.out) (Kd.R_base ho0) hb)
                have n3_:=a_ (Kd.R_elder' (rp_ HO309.out) (Kd.R_base ho0) hb)
                have n4_:=a_ (Kd.R_elder' (rp_ HO317.out) (Kd.R_base ho0) hb)
                have n5_:=a_ (Kd.R_elder' (rp_ HO329.out) (Kd.R_base ho0) hb)
                have n6_:=a_ (Kd.R_lower (Kd.R_new' (Kd.R_new' (Kd.R_new' (Kd.R_new' (Kd.R_new' (Kd.R_new' ho0 (Kd.R_lt (rp_ HO277.out))) (Kd.R_lt (rp_ HO289.out))) (Kd.R_lt (rp_ HO296.out))) (Kd.R_lt (rp_ HO309.out))) (Kd.R_lt (rp_ HO317.out))) (Kd.R_lt (rp_ HO329.out))) (below_size (bel_)))
                have n7_:=a_ (blk_below (g:=gb271) (o:=.cells #[.slice A0_0 l0_0.length c0_0,.int .i64 a0_1,.bool a0_2] 32 (0,0)) (bp_ BK271.out) hb)
                have n8_:=a_ (blk_below (g:=gb272) (o:=.cells #[.int .i64 a1_0,.int .i64 a1_1,.int .i64 a1_2,.int .i64 a1_3,.int .i64 a1_4,.int .i64 a1_5,.string a1_6] 36 (0,0)) (bp_ BK272.out) hb)
                have n9_:=a_ (blk_below (g:=gb293) (o:=.cells #[.slice Ao62 t287.length co62,.int .i64 t290,.bool t291] 25 (0,0)) (bp_ BK293.out) hb)
                have n10_:=a_ (blk_below (g:=gb299) (o:=.cells #[.slice Ao70 t294.length co70,.int .i64 t297,.bool t298] 25 (0,0)) (bp_ BK299.out) hb)
                have n11_:=a_ (blk_below (g:=gb313) (o:=.cells #[.slice Ao81 t307.length co81,.int .i64 t310,.bool t311] 25 (0,0)) (bp_ BK313.out) hb)
                have n12_:=a_ (blk_below (g:=gb345) (o:=.cells #[.slice none 0 0,.int .i64 0,.bool false] 25 (0,0)) (bp_ BK345.out) hb)
                have n13_:=a_ (bS_ (bel_) hb)
                clear HO277
                clear HO289
                clear HO296
                clear HO309
                clear HO317
                clear HO329
                clear BK271
                clear BK272
                clear BK293
                clear BK299
                clear BK313
                clear BK345
                clear HB
                have HO277:=n0_
                have HO289:=n1_
                have HO296:=n2_
                have HO309:=n3_
                have HO317:=n4_
                have HO329:=n5_
                have HO341:=n6_
                have BK271:=n7_
                have BK272:=n8_
                have BK293:=n9_
                have BK299:=n10_
                have BK313:=n11_
                have BK345:=n12_
                have HB:=n13_
                clear n0_ n1_ n2_ n3_ n4_ n5_ n6_ n7_ n8_ n9_ n10_ n11_ n12_ n13_
                (try clear hb)
                (try clear hb2)
                (try clear hk)
                (try clear hi)
                (try clear ho0)
                refine hK.out _ _ ⟨(bC_ BK271.out 0).trans rfl,(bC_ BK271.out 1).trans rfl,(bC_ BK271.out 2).trans rfl,(bC_ BK272.out 0).trans rfl,(bC_ BK272.out 1).trans rfl,(bC_ BK272.out 2).trans rfl,(bC_ BK272.out 3).trans rfl,(bC_ BK272.out 4).trans rfl,(bC_ BK272.out 5).trans rfl,(bC_ BK272.out 6).trans rfl⟩ (fun hHeld=>?_)
                clear hK K
                refine norm_ (a':=?_) ?_ ?_
                rotate_left
                ·show Act.put _ (some 89) _=_
                 simp only [Act.put,List.setIfInBounds_toArray,List.set_cons_zero,List.set_cons_succ,i64_w,i32_w]
                 rfl
                refine pure_ (i:=5) (N:=some 84) (v:=?_) (a':=?_) #[true,true,true,true,true,true,false,false,true,false,false] rfl rfl (any_of HT_.out (by kernel_rfl)) (fun _ _ _ h=>h) (Or.inl ⟨by rfl,?_⟩) ?_ ?_
                rotate_left
                ·intro w'
                 go_simp
                 with_reducible rfl
                rotate_left
                ·simp only [Act.put,List.setIfInBounds_toArray,List.set_cons_zero,List.set_cons_succ,i64_w,i32_w]
                 rfl
                refine pure_ (i:=6) (N:=some 90) (v:=?_) (a':=?_) #[true,true,true,true,true,true,true,false,true,false,false] rfl rfl (any_of HT_.out (by kernel_rfl)) (fun _ _ _ h=>h) (Or.inl ⟨by rfl,?_⟩) ?_ ?_
                rotate_left
                ·intro w'
                 go_simp
                 with_reducible rfl
                rotate_left
                ·simp only [Act.put,List.setIfInBounds_toArray,List.set_cons_zero,List.set_cons_succ,i64_w,i32_w]
                 rfl
                refine pure_ (i:=7) (N:=some 91) (v:=?_) (a':=?_) #[true,true,true,true,true,true,true,true,true,false,false] rfl rfl (any_of HT_.out (by kernel_rfl)) (fun _ _ _ h=>h) (Or.inl ⟨by rfl,?_⟩) ?_ ?_
                rotate_left
                ·intro w'
                 go_simp
                 with_reducible rfl
                rotate_left
                ·simp only [Act.put,List.setIfInBounds_toArray,List.set_cons_zero,List.set_cons_succ,i64_w,i32_w]
                 rfl
                exact norm_ (by simp only [putAll,Act.put,List.setIfInBounds_toArray,List.set_cons_zero,List.set_cons_succ]) (hCont (.slice Ao110 t327.length co110,v340,gb345) _ ⟨hHeld,(by (with_reducible repeat (first|apply Kd.R_alloc|apply Kd.R_drewN|apply Kd.R_drew));exact Kd.R_mono HO277.out (fun _ hk=>⟨hk.1.1.1,⟨hk.1.1.2.1,⟨hk.1.1.2.2.1,⟨hk.1.1.2.2.2,⟨hk.1.2,hk.2⟩⟩⟩⟩⟩)),(by (with_reducible repeat (first|apply Kd.R_alloc|apply Kd.R_drewN|apply Kd.R_drew));exact Kd.R_mono HO289.out (fun _ hk=>⟨hk.1.1.1,⟨hk.1.1.2.1,⟨hk.1.1.2.2.1,⟨hk.1.1.2.2.2,⟨hk.1.2,hk.2⟩⟩⟩⟩⟩)),(by (with_reducible repeat (first|apply Kd.R_alloc|apply Kd.R_drewN|apply Kd.R_drew));exact Kd.R_mono HO296.out (fun _ hk=>⟨hk.1.1.1,⟨hk.1.1.2.1,⟨hk.1.1.2.2.1,⟨hk.1.1.2.2.2,⟨hk.1.2,hk.2⟩⟩⟩⟩⟩)),(by (with_reducible repeat (first|apply Kd.R_alloc|apply Kd.R_drewN|apply Kd.R_drew));exact Kd.R_mono HO309.out (fun _ hk=>⟨hk.1.1.1,⟨hk.1.1.2.1,⟨hk.1.1.2.2.1,⟨hk.1.1.2.2.2,⟨hk.1.2,hk.2⟩⟩⟩⟩⟩)),(by (with_reducible repeat (first|apply Kd.R_alloc|apply Kd.R_drewN|apply Kd.R_drew));exact Kd.R_mono HO317.out (fun _ hk=>⟨hk.1.1.1,⟨hk.1.1.2.1,⟨hk.1.1.2.2.1,⟨hk.1.1.2.2.2,⟨hk.1.2,hk.2⟩⟩⟩⟩⟩)),(by (with_reducible repeat (first|apply Kd.R_alloc|apply Kd.R_drewN|apply Kd.R_drew));exact Kd.R_mono HO329.out (fun _ hk=>⟨hk.1.1.1.1.1.2,⟨hk.1.1.1.1.2,⟨hk.1.1.1.2,⟨hk.1.1.2,⟨hk.1.2,hk.2⟩⟩⟩⟩⟩)),(by (with_reducible repeat (first|apply Kd.R_alloc|apply Kd.R_drewN|apply Kd.R_drew));exact Kd.R_mono HO341.out (fun _ hk=>⟨hk.1.1.1.1.1.2,⟨hk.1.1.1.1.2,⟨hk.1.1.1.2,⟨hk.1.1.2,⟨hk.1.2,hk.2⟩⟩⟩⟩⟩)),(bp_ BK271.out),(bp_ BK272.out),(bp_ BK293.out),(bp_ BK299.out),(bp_ BK313.out),(bp_ BK345.out),GW345.out,GE345.out,NB271_345.out,NB345_271.out,NB272_345.out,NB345_272.out,NB293_345.out,NB345_293.out,NB299_345.out,NB345_299.out,NB313_345.out,NB345_313.out,(bel_)⟩)
              rintro ⟨v328,v340,gb345⟩ w112 ⟨hS_,h0_,h1_,h2_,h3_,h4_,h5_,h6_,h7_,h8_,h9_,h10_,h11_,h12_,h13_,h14_,h15_,h16_,h17_,h18_,h19_,h20_,h21_,h22_,h23_,h24_,h25_⟩
              have n0_:Aside0 (Kd.R k44 44 w112 w.heap.size (fun k_=>some k_≠(.slice Ao62 t287.length co62:Value).ownBlock∧some k_≠(.slice Ao70 t294.length co70:Value).ownBlock∧some k_≠(.slice Ao81 t307.length co81:Value).ownBlock∧some k_≠(.slice Ao95 t315.length co95:Value).ownBlock∧some k_≠(v328:Value).ownBlock∧some k_≠(v340:Value).ownBlock) v276 t275):=⟨h0_⟩
              have n1_:Aside0 (Kd.R k44 44 w112 w.heap.size (fun k_=>some k_≠(v276:Value).ownBlock∧some k_≠(.slice Ao70 t294.length co70:Value).ownBlock∧some k_≠(.slice Ao81 t307.length co81:Value).ownBlock∧some k_≠(.slice Ao95 t315.length co95:Value).ownBlock∧some k_≠(v328:Value).ownBlock∧some k_≠(v340:Value).ownBlock) (.slice Ao62 t287.length co62) t287):=⟨h1_⟩
              have n2_:Aside0 (Kd.R k44 44 w112 w.heap.size (fun k_=>some k_≠(v276:Value).ownBlock∧some k_≠(.slice Ao62 t287.length co62:Value).ownBlock∧some k_≠(.slice Ao81 t307.length co81:Value).ownBlock∧some k_≠(.slice Ao95 t315.length co95:Value).ownBlock∧some k_≠(v328:Value).ownBlock∧some k_≠(v340:Value).ownBlock) (.slice Ao70 t294.length co70) t322):=⟨h2_⟩
              have n3_:Aside0 (Kd.R k44 44 w112 w.heap.size (fun k_=>some k_≠(v276:Value).ownBlock∧some k_≠(.slice Ao62 t287.length co62:Value).ownBlock∧some k_≠(.slice Ao70 t294.length co70:Value).ownBlock∧some k_≠(.slice Ao95 t315.length co95:Value).ownBlock∧some k_≠(v328:Value).ownBlock∧some k_≠(v340:Value).ownBlock) (.slice Ao81 t307.length co81) t325):=⟨h3_⟩
              have n4_:Aside0 (Kd.R k44 44 w112 w.heap.size (fun k_=>some k_≠(v276:Value).ownBlock∧some k_≠(.slice Ao62 t287.length co62:Value).ownBlock∧some k_≠(.slice Ao70 t294.length co70:Value).ownBlock∧some k_≠(.slice Ao81 t307.length co81:Value).ownBlock∧some k_≠(v328:Value).ownBlock∧some k_≠(v340:Value).ownBlock) (.slice Ao95 t315.length co95) t315):=⟨h4_⟩
              have n5_:Aside0 (Kd.R k44 44 w112 w.heap.size (fun k_=>some k_≠(v276:Value).ownBlock∧some k_≠(.slice Ao62 t287.length co62:Value).ownBlock∧some k_≠(.slice Ao70 t294.length co70:Value).ownBlock∧some k_≠(.slice Ao81 t307.length co81:Value).ownBlock∧some k_≠(.slice Ao95 t315.length co95:Value).ownBlock∧some k_≠(v340:Value).ownBlock) v328 t327):=⟨h5_⟩
              have n6_:Aside0 (Kd.R k44 44 w112 w.heap.size (fun k_=>some k_≠(v276:Value).ownBlock∧some k_≠(.slice Ao62 t287.length co62:Value).ownBlock∧some k_≠(.slice Ao70 t294.length co70:Value).ownBlock∧some k_≠(.slice Ao81 t307.length co81:Value).ownBlock∧some k_≠(.slice Ao95 t315.length co95:Value).ownBlock∧some k_≠(v328:Value).ownBlock) v340 t339):=⟨h6_⟩
              have n7_:Aside0 (w112.heap[gb271]?=some (.cells #[.slice A0_0 l0_0.length c0_0,.int .i64 a0_1,.bool a0_2] 32 (0,0))):=⟨h7_⟩
              have n8_:Aside0 (w112.heap[gb272]?=some (.cells #[.int .i64 a1_0,.int .i64 a1_1,.int .i64 a1_2,.int .i64 a1_3,.int .i64 a1_4,.int .i64 a1_5,.string a1_6] 36 (0,0))):=⟨h8_⟩
              have n9_:Aside0 (w112.heap[gb293]?=some (.cells #[.slice Ao62 t287.length co62,.int .i64 t290,.bool t291] 25 (0,0))):=⟨h9_⟩
              have n10_:Aside0 (w112.heap[gb299]?=some (.cells #[.slice Ao70 t294.length co70,.int .i64 t297,.bool t298] 25 (0,0))):=⟨h10_⟩
              have n11_:Aside0 (w112.heap[gb313]?=some (.cells #[.slice Ao81 t307.length co81,.int .i64 t310,.bool t311] 25 (0,0))):=⟨h11_⟩
              have n12_:Aside0 (w112.heap[gb345]?=some (.cells #[.slice none 0 0,.int .i64 0,.bool false] 25 (0,0))):=⟨h12_⟩
              have n13_:Aside0 (w.heap.size≤gb345):=⟨h13_⟩
              have n14_:Aside0 (w.heap.size≤gb345):=⟨h14_⟩
              have n15_:Aside0 (gb271≠gb345):=⟨h15_⟩
              have n16_:Aside0 (gb345≠gb271):=⟨h16_⟩
              have n17_:Aside0 (gb272≠gb345):=⟨h17_⟩
              have n18_:Aside0 (gb345≠gb272):=⟨h18_⟩
              have n19_:Aside0 (gb293≠gb345):=⟨h19_⟩
              have n20_:Aside0 (gb345≠gb293):=⟨h20_⟩
              have n21_:Aside0 (gb299≠gb345):=⟨h21_⟩
              have n22_:Aside0 (gb345≠gb299):=⟨h22_⟩
              have n23_:Aside0 (gb313≠gb345):=⟨h23_⟩
              have n24_:Aside0 (gb345≠gb313):=⟨h24_⟩
              have n25_:Aside0 (Below w.heap.size w w112):=⟨h25_⟩
              clear HO277
              clear HO289
              clear HO296
              clear HO309
              clear HO317
              clear BK271
              clear BK272
              clear BK293
              clear BK299
              clear BK313
              clear HB
              clear h0_ h1_ h2_ h3_ h4_ h5_ h6_ h7_ h8_ h9_ h10_ h11_ h12_ h13_ h14_ h15_ h16_ h17_ h18_ h19_ h20_ h21_ h22_ h23_ h24_ h25_
              have HO277:=n0_
              have HO289:=n1_
              have HO296:=n2_
              have HO309:=n3_
              have HO317:=n4_
              have HO329:=n5_
              have HO341:=n6_
              have BK271:=n7_
              have BK272:=n8_
              have BK293:=n9_
              have BK299:=n10_
              have BK313:=n11_
              have BK345:=n12_
              have GW345:=n13_
              have GE345:=n14_
              have NB271_345:=n15_
              have NB345_271:=n16_
              have NB272_345:=n17_
              have NB345_272:=n18_
              have NB293_345:=n19_
              have NB345_293:=n20_
              have NB299_345:=n21_
              have NB345_299:=n22_
              have NB313_345:=n23_
              have NB345_313:=n24_
              have HB:=n25_
              clear n0_ n1_ n2_ n3_ n4_ n5_ n6_ n7_ n8_ n9_ n10_ n11_ n12_ n13_ n14_ n15_ n16_ n17_ n18_ n19_ n20_ n21_ n22_ n23_ n24_ n25_
              have hHeld:w112.cell? ⟨gb271,0,none⟩=some (.slice A0_0 l0_0.length c0_0)∧w112.cell? ⟨gb271,1,none⟩=some (.int .i64 a0_1)∧w112.cell? ⟨gb271,2,none⟩=some (.bool a0_2)∧w112.cell? ⟨gb272,0,none⟩=some (.int .i64 a1_0)∧w112.cell? ⟨gb272,1,none⟩=some (.int .i64 a1_1)∧w112.cell? ⟨gb272,2,none⟩=some (.int .i64 a1_2)∧w112.cell? ⟨gb272,3,none⟩=some (.int .i64 a1_3)∧w112.cell? ⟨gb272,4,none⟩=some (.int .i64 a1_4)∧w112.cell? ⟨gb272,5,none⟩=some (.int .i64 a1_5)∧w112.cell? ⟨gb272,6,none⟩=some (.string a1_6):=hS_
              obtain ⟨Ao113,co113,eo113⟩:=Kd.R_slice HO341.out
              (first|subst eo113|(injection eo113 with f1_ f2_ f3_;have f4_:=f1_.symm;have f5_:=f3_.symm;clear f1_ f2_ f3_;subst f4_;subst f5_))
              refine norm_ (a':=?_) ?_ ?_
              rotate_left
              ·simp only [putAll,Act.put,List.setIfInBounds_toArray,List.set_cons_zero,List.set_cons_succ]
               rfl
              refine one_ (i:=9) (N:=none) #[true,true,true,true,true,true,true,true,true,true,false] rfl rfl (one_of HT_.out (by kernel_rfl)) (by decide) (fun K hK=>?_)
              have hs114:w112.cell? ⟨gb345,0,none⟩=some (.slice none 0 0):=(bC_ BK345.out 0).trans rfl
              have hfs114:=bF_ BK345.out 0
              have hns114_0:=NB271_345.out
              have hns114_1:=NB272_345.out
              have hns114_2:=NB293_345.out
              have hns114_3:=NB299_345.out
              have hns114_4:=NB313_345.out
              have hms114_0:=NB345_271.out
              have hms114_1:=NB345_272.out
              have hms114_2:=NB345_293.out
              have hms114_3:=NB345_299.out
              have hms114_4:=NB345_313.out
              have hs115:w112.cell? ⟨gb345,1,none⟩=some (.int .i64 0):=(bC_ BK345.out 1).trans rfl
              have hfs115:=bF_ BK345.out 1
              have hns115_0:=NB271_345.out
              have hns115_1:=NB272_345.out
              have hns115_2:=NB293_345.out
              have hns115_3:=NB299_345.out
              have hns115_4:=NB313_345.out
              have hms115_0:=NB345_271.out
              have hms115_1:=NB345_272.out
              have hms115_2:=NB345_293.out
              have hms115_3:=NB345_299.out
              have hms115_4:=NB345_313.out
              have hs116:w112.cell? ⟨gb345,2,none⟩=some (.bool false):=(bC_ BK345.out 2).trans rfl
              have hfs116:=bF_ BK345.out 2
              have hns116_0:=NB271_345.out
              have hns116_1:=NB272_345.out
              have hns116_2:=NB293_345.out
              have hns116_3:=NB299_345.out
              have hns116_4:=NB313_345.out
              have hms116_0:=NB345_271.out
              have hms116_1:=NB345_272.out
              have hms116_2:=NB345_293.out
              have hms116_3:=NB345_299.out
              have hms116_4:=NB345_313.out
              refine skip_ (w1:=?_) (by rfl) rfl ?_ ?_
              rotate_left
              ·go_simp
               rfl
              refine hK.out _ _ ⟨((cF_ (p:=⟨gb345,_,none⟩) NB271_345.out _).trans (((cF_ (p:=⟨gb345,_,none⟩) NB271_345.out _).trans (((cF_ (p:=⟨gb345,_,none⟩) NB271_345.out _).trans (hHeld.1)))))),((cF_ (p:=⟨gb345,_,none⟩) NB271_345.out _).trans (((cF_ (p:=⟨gb345,_,none⟩) NB271_345.out _).trans (((cF_ (p:=⟨gb345,_,none⟩) NB271_345.out _).trans (hHeld.2.1)))))),((cF_ (p:=⟨gb345,_,none⟩) NB271_345.out _).trans (((cF_ (p:=⟨gb345,_,none⟩) NB271_345.out _).trans (((cF_ (p:=⟨gb345,_,none⟩) NB271_345.out _).trans (hHeld.2.2.1)))))),((cF_ (p:=⟨gb345,_,none⟩) NB272_345.out _).trans (((cF_ (p:=⟨gb345,_,none⟩) NB272_345.out _).trans (((cF_ (p:=⟨gb345,_,none⟩) NB272_345.out _).trans (hHeld.2.2.2.1)))))),((cF_ (p:=⟨gb345,_,none⟩) NB272_345.out _).trans (((cF_ (p:=⟨gb345,_,none⟩) NB272_345.out _).trans (((cF_ (p:=⟨gb345,_,none⟩) NB272_345.out _).trans (hHeld.2.2.2.2.1)))))),((cF_ (p:=⟨gb345,_,none⟩) NB272_345.out _).trans (((cF_ (p:=⟨gb345,_,none⟩) NB272_345.out _).trans (((cF_ (p:=⟨gb345,_,none⟩) NB272_345.out _).trans (hHeld.2.2.2.2.2.1)))))),((cF_ (p:=⟨gb345,_,none⟩) NB272_345.out _).trans (((cF_ (p:=⟨gb345,_,none⟩) NB272_345.out _).trans (((cF_ (p:=⟨gb345,_,none⟩) NB272_345.out _).trans (hHeld.2.2.2.2.2.2.1)))))),((cF_ (p:=⟨gb345,_,none⟩) NB272_345.out _).trans (((cF_ (p:=⟨gb345,_,none⟩) NB272_345.out _).trans (((cF_ (p:=⟨gb345,_,none⟩) NB272_345.out _).trans (hHeld.2.2.2.2.2.2.2.1)))))),((cF_ (p:=⟨gb345,_,none⟩) NB272_345.out _).trans (((cF_ (p:=⟨gb345,_,none⟩) NB272_345.out _).trans (((cF_ (p:=⟨gb345,_,none⟩) NB272_345.out _).trans (hHeld.2.2.2.2.2.2.2.2.1)))))),((cF_ (p:=⟨gb345,_,none⟩) NB272_345.out _).trans (((cF_ (p:=⟨gb345,_,none⟩) NB272_345.out _).trans (((cF_ (p:=⟨gb345,_,none⟩) NB272_345.out _).trans (hHeld.2.2.2.2.2.2.2.2.2))))))⟩ (fun hHeld=>?_)
              clear hK K
              refine pure_ (i:=10) (N:=some 15) (v:=?_) (a':=?_) #[true,true,true,true,true,true,true,true,true,true,true] rfl rfl (any_of HT_.out (by kernel_rfl)) (fun _ _ _ h=>h) (Or.inl ⟨by rfl,?_⟩) ?_ ?_
              rotate_left
              ·intro w'
               go_simp
               with_reducible rfl
              rotate_left
              ·simp only [Act.put,List.setIfInBounds_toArray,List.set_cons_zero,List.set_cons_succ,i64_w,i32_w]
               rfl
              refine done_ (done_of HT_.out (by kernel_rfl)) ?_
              have hnb117:=NB345_271.out
              have hnc117:=NB271_345.out
              have hnb118:=NB345_272.out
              have hnc118:=NB272_345.out
              have hnb119:=NB345_293.out
              have hnc119:=NB293_345.out
              have hnb120:=NB345_299.out
              have hnc120:=NB299_345.out
              have hnb121:=NB345_313.out
              have hnc121:=NB313_345.out
              have Z122_0:=cz_ BK345.out 0 (.slice none 0 0)
              have Z122_1:=cz_ BK345.out 1 (.int .i64 0)
              have Z122_2:=cz_ BK345.out 2 (.bool false)
              have Y122_0:=bF_ BK345.out 0
              have Y122_1:=bF_ BK345.out 1
              have Y122_2:=bF_ BK345.out 2
              have Z123_0:=cz_ BK293.out 0 (.slice Ao62 t287.length co62)
              have Z123_1:=cz_ BK293.out 1 (.int .i64 t290)
              have Z123_2:=cz_ BK293.out 2 (.bool t291)
              have Y123_0:=bF_ BK293.out 0
              have Y123_1:=bF_ BK293.out 1
              have Y123_2:=bF_ BK293.out 2
              try go_wp2_with (first|((with_reducible refine gC_ (f:=25) rfl ?_);refine gl_ 94 Tryd.func25 #[.agg #[.slice Ao113 t339.length co113,.int .i64 t342,.bool t343],.agg #[.slice Ao62 t287.length co62,.int .i64 t290,.bool t291]] ?_;(with_reducible refine (laws_eqServer.calls k _ _ t339 t342 t343 _ _ t287 t290 t291 true _ ?side1 ?side2 ?side3 ?side4 A42.out).mono ?_);(case side1=>refine (Kd.R_reads' (e:=44) (base:=w.heap.size) (ok:=fun k_=>(some k_≠(v276:Value).ownBlock∧(some k_≠(.slice Ao62 t287.length co62:Value).ownBlock∧(some k_≠(.slice Ao70 t294.length co70:Value).ownBlock∧(some k_≠(.slice Ao81 t307.length co81:Value).ownBlock∧(some k_≠(.slice Ao95 t315.length co95:Value).ownBlock∧some k_≠(v328:Value).ownBlock)))))) (n:=t339.length) (c:=co113) ?_).2.2;exact (by (with_reducible repeat (first|apply Kd.R_alloc|apply Kd.R_drewN|apply Kd.R_drew));exact (Kd.R_mono (Kd.R_far (p:=⟨gb345,2,none⟩) (Kd.R_far (p:=⟨gb345,1,none⟩) (Kd.R_far (p:=⟨gb345,0,none⟩) (Kd.R_types HO341.out BK345.out (by decide)) (fun _ hk=>hk.2) (.slice Ao113 t339.length co113)) (fun _ hk=>hk.2) (.int .i64 t342)) (fun _ hk=>hk.2) (.bool t343)) (fun _ h_=>h_.1))));(case side2=>exact (Kd.R_reads' HO341.out).2.1);(case side3=>refine (Kd.R_reads' (e:=44) (base:=w.heap.size) (ok:=fun k_=>(some k_≠(v276:Value).ownBlock∧(some k_≠(.slice Ao70 t294.length co70:Value).ownBlock∧(some k_≠(.slice Ao81 t307.length co81:Value).ownBlock∧(some k_≠(.slice Ao95 t315.length co95:Value).ownBlock∧(some k_≠(v328:Value).ownBlock∧some k_≠(.slice Ao113 t339.length co113:Value).ownBlock)))))) (n:=t287.length) (c:=co62) ?_).2.2;exact (by (with_reducible repeat (first|apply Kd.R_alloc|apply Kd.R_drewN|apply Kd.R_drew));exact (Kd.R_mono (Kd.R_far (p:=⟨gb345,2,none⟩) (Kd.R_far (p:=⟨gb345,1,none⟩) (Kd.R_far (p:=⟨gb345,0,none⟩) (Kd.R_types HO289.out BK345.out (by decide)) (fun _ hk=>hk.2) (.slice Ao113 t339.length co113)) (fun _ hk=>hk.2) (.int .i64 t342)) (fun _ hk=>hk.2) (.bool t343)) (fun _ h_=>h_.1))));(case side4=>exact (Kd.R_reads' HO289.out).2.1);rintro e w124 ⟨rfl,hb⟩;refine ⟨_,rfl,?_⟩;have n0_:=a_ (Kd.R_below (by (with_reducible repeat (first|apply Kd.R_alloc|apply Kd.R_drewN|apply Kd.R_drew));exact (Kd.R_mono (Kd.R_far (p:=⟨gb345,2,none⟩) (Kd.R_far (p:=⟨gb345,1,none⟩) (Kd.R_far (p:=⟨gb345,0,none⟩) (Kd.R_types HO277.out BK345.out (by decide)) (fun _ hk=>hk.2) (.slice Ao113 t339.length co113)) (fun _ hk=>hk.2) (.int .i64 t342)) (fun _ hk=>hk.2) (.bool t343)) (fun _ h_=>h_.1))) hb);have n1_:=a_ (Kd.R_below (by (with_reducible repeat (first|apply Kd.R_alloc|apply Kd.R_drewN|apply Kd.R_drew));exact (Kd.R_mono (Kd.R_far (p:=⟨gb345,2,none⟩) (Kd.R_far (p:=⟨gb345,1,none⟩) (Kd.R_far (p:=⟨gb345,0,none⟩) (Kd.R_types HO289.out BK345.out (by decide)) (fun _ hk=>hk.2) (.slice Ao113 t339.length co113)) (fun _ hk=>hk.2) (.int .i64 t342)) (fun _ hk=>hk.2) (.bool t343)) (fun _ h_=>h_.1))) hb);have n2_:=a_ (Kd.R_below (by (with_reducible repeat (first|apply Kd.R_alloc|apply Kd.R_drewN|apply Kd.R_drew));exact (Kd.R_mono (Kd.R_far (p:=⟨gb345,2,none⟩) (Kd.R_far (p:=⟨gb345,1,none⟩) (Kd.R_far (p:=⟨gb345,0,none⟩) (Kd.R_types HO296.out BK345.out (by decide)) (fun _ hk=>hk.2) (.slice Ao113 t339.length co113)) (fun _ hk=>hk.2) (.int .i64 t342)) (fun _ hk=>hk.2) (.bool t343)) (fun _ h_=>h_.1))) hb);have n3_:=a_ (Kd.R_below (by (with_reducible repeat (first|apply Kd.R_alloc|apply Kd.R_drewN|apply Kd.R_drew));exact (Kd.R_mono (Kd.R_far (p:=⟨gb345,2,none⟩) (Kd.R_far (p:=⟨gb345,1,none⟩) (Kd.R_far (p:=⟨gb345,0,none⟩) (Kd.R_types HO309.out BK345.out (by decide)) (fun _ hk=>hk.2) (.slice Ao113 t339.length co113)) (fun _ hk=>hk.2) (.int .i64 t342)) (fun _ hk=>hk.2) (.bool t343)) (fun _ h_=>h_.1))) hb);have n4_:=a_ (Kd.R_below (by (with_reducible repeat (first|apply Kd.R_alloc|apply Kd.R_drewN|apply Kd.R_drew));exact (Kd.R_mono (Kd.R_far (p:=⟨gb345,2,none⟩) (Kd.R_far (p:=⟨gb345,1,none⟩) (Kd.R_far (p:=⟨gb345,0,none⟩) (Kd.R_types HO317.out BK345.out (by decide)) (fun _ hk=>hk.2) (.slice Ao113 t339.length co113)) (fun _ hk=>hk.2) (.int .i64 t342)) (fun _ hk=>hk.2) (.bool t343)) (fun _ h_=>h_.1))) hb);have n5_:=a_ (Kd.R_below (by (with_reducible repeat (first|apply Kd.R_alloc|apply Kd.R_drewN|apply Kd.R_drew));exact (Kd.R_mono (Kd.R_far (p:=⟨gb345,2,none⟩) (Kd.R_far (p:=⟨gb345,1,none⟩) (Kd.R_far (p:=⟨gb345,0,none⟩) (Kd.R_types HO329.out BK345.out (by decide)) (fun _ hk=>hk.2) (.slice Ao113 t339.length co113)) (fun _ hk=>hk.2) (.int .i64 t342)) (fun _ hk=>hk.2) (.bool t343)) (fun _ h_=>h_.1))) hb);have n6_:=a_ (Kd.R_below (by (with_reducible repeat (first|apply Kd.R_alloc|apply Kd.R_drewN|apply Kd.R_drew));exact (Kd.R_mono (Kd.R_far (p:=⟨gb345,2,none⟩) (Kd.R_far (p:=⟨gb345,1,none⟩) (Kd.R_far (p:=⟨gb345,0,none⟩) (Kd.R_types HO341.out BK345.out (by decide)) (fun _ hk=>hk.2) (.slice Ao113 t339.length co113)) (fun _ hk=>hk.2) (.int .i64 t342)) (fun _ hk=>hk.2) (.bool t343)) (fun _ h_=>h_.1))) hb);have n7_:=a_ (blk_below (g:=gb271) (o:=.cells #[.slice A0_0 l0_0.length c0_0,.int .i64 a0_1,.bool a0_2] 32 (0,0)) (by (with_reducible repeat (first|refine bN_ ?_ _|refine bD_ ?_|refine bA_ ?_ _));refine blk_far ?_ NB271_345.out _;(with_reducible repeat (first|refine bN_ ?_ _|refine bD_ ?_|refine bA_ ?_ _));refine blk_far ?_ NB271_345.out _;(with_reducible repeat (first|refine bN_ ?_ _|refine bD_ ?_|refine bA_ ?_ _));refine blk_far ?_ NB271_345.out _;(with_reducible repeat (first|refine bN_ ?_ _|refine bD_ ?_|refine bA_ ?_ _));exact BK271.out) hb);have n8_:=a_ (blk_below (g:=gb272) (o:=.cells #[.int .i64 a1_0,.int .i64 a1_1,.int .i64 a1_2,.int .i64 a1_3,.int .i64 a1_4,.int .i64 a1_5,.string a1_6] 36 (0,0)) (by (with_reducible repeat (first|refine bN_ ?_ _|refine bD_ ?_|refine bA_ ?_ _));refine blk_far ?_ NB272_345.out _;(with_reducible repeat (first|refine bN_ ?_ _|refine bD_ ?_|refine bA_ ?_ _));refine blk_far ?_ NB272_345.out _;(with_reducible repeat (first|refine bN_ ?_ _|refine bD_ ?_|refine bA_ ?_ _));refine blk_far ?_ NB272_345.out _;(with_reducible repeat (first|refine bN_ ?_ _|refine bD_ ?_|refine bA_ ?_ _));exact BK272.out) hb);have n9_:=a_ (blk_below (g:=gb293) (o:=.cells #[.slice Ao62 t287.length co62,.int .i64 t290,.bool t291] 25 (0,0)) (by (with_reducible repeat (first|refine bN_ ?_ _|refine bD_ ?_|refine bA_ ?_ _));refine blk_far ?_ NB293_345.out _;(with_reducible repeat (first|refine bN_ ?_ _|refine bD_ ?_|refine bA_ ?_ _));refine blk_far ?_ NB293_345.out _;(with_reducible repeat (first|refine bN_ ?_ _|refine bD_ ?_|refine bA_ ?_ _));refine blk_far ?_ NB293_345.out _;(with_reducible repeat (first|refine bN_ ?_ _|refine bD_ ?_|refine bA_ ?_ _));exact BK293.out) hb);have n10_:=a_ (blk_below (g:=gb299) (o:=.cells #[.slice Ao70 t294.length co70,.int .i64 t297,.bool t298] 25 (0,0)) (by (with_reducible repeat (first|refine bN_ ?_ _|refine bD_ ?_|refine bA_ ?_ _));refine blk_far ?_ NB299_345.out _;(with_reducible repeat (first|refine bN_ ?_ _|refine bD_ ?_|refine bA_ ?_ _));refine blk_far ?_ NB299_345.out _;(with_reducible repeat (first|refine bN_ ?_ _|refine bD_ ?_|refine bA_ ?_ _));refine blk_far ?_ NB299_345.out _;(with_reducible repeat (first|refine bN_ ?_ _|refine bD_ ?_|refine bA_ ?_ _));exact BK299.out) hb);have n11_:=a_ (blk_below (g:=gb313) (o:=.cells #[.slice Ao81 t307.length co81,.int .i64 t310,.bool t311] 25 (0,0)) (by (with_reducible repeat (first|refine bN_ ?_ _|refine bD_ ?_|refine bA_ ?_ _));refine blk_far ?_ NB313_345.out _;(with_reducible repeat (first|refine bN_ ?_ _|refine bD_ ?_|refine bA_ ?_ _));refine blk_far ?_ NB313_345.out _;(with_reducible repeat (first|refine bN_ ?_ _|refine bD_ ?_|refine bA_ ?_ _));refine blk_far ?_ NB313_345.out _;(with_reducible repeat (first|refine bN_ ?_ _|refine bD_ ?_|refine bA_ ?_ _));exact BK313.out) hb);have n12_:=a_ (blk_below (g:=gb345) (o:=.cells #[.slice Ao113 t339.length co113,.int .i64 t342,.bool t343] 25 (0,0)) (by (with_reducible repeat (first|refine bN_ ?_ _|refine bD_ ?_|refine bA_ ?_ _));refine blk_put (cs:=#[.slice Ao113 t339.length co113,.int .i64 t342,.bool false]) ?_ 2 _ rfl;(with_reducible repeat (first|refine bN_ ?_ _|refine bD_ ?_|refine bA_ ?_ _));refine blk_put (cs:=#[.slice Ao113 t339.length co113,.int .i64 0,.bool false]) ?_ 1 _ rfl;(with_reducible repeat (first|refine bN_ ?_ _|refine bD_ ?_|refine bA_ ?_ _));refine blk_put (cs:=#[.slice none 0 0,.int .i64 0,.bool false]) ?_ 0 _ rfl;(with_reducible repeat (first|refine bN_ ?_ _|refine bD_ ?_|refine bA_ ?_ _));exact BK345.out) hb);have n13_:=a_ (bS_ (bel_) hb);clear HO277;clear HO289;clear HO296;clear HO309;clear HO317;clear HO329;clear HO341;clear BK271;clear BK272;clear BK293;clear BK299;clear BK313;clear BK345;clear HB;have HO277:=n0_;have HO289:=n1_;have HO296:=n2_;have HO309:=n3_;have HO317:=n4_;have HO329:=n5_;have HO341:=n6_;have BK271:=n7_;have BK272:=n8_;have BK293:=n9_;have BK299:=n10_;have BK313:=n11_;have BK345:=n12_;have HB:=n13_;clear n0_ n1_ n2_ n3_ n4_ n5_ n6_ n7_ n8_ n9_ n10_ n11_ n12_ n13_;(try clear hb);have Z125_0:=cz_ BK313.out 0 (.slice Ao81 t307.length co81);have Z125_1:=cz_ BK313.out 1 (.int .i64 t310);have Z125_2:=cz_ BK313.out 2 (.bool t311);have Y125_0:=bF_ BK313.out 0;have Y125_1:=bF_ BK313.out 1;have Y125_2:=bF_ BK313.out 2)|((with_reducible refine gC_ (f:=27) rfl ?_);refine goesL_ (some 103) rfl rfl Tryd.func27 (by kernel_rfl) rfl #[.agg #[.slice Ao81 t325.length co81,.int .i64 t310,.bool t311],.int .i64 1] rfl (by (try simp only [List.map_toArray,List.map_cons,List.map_nil]);first|done|(rw [show t325.length=t307.length from (Kd.R_reads' HO309.out).1.symm] <;> rfl)|rfl|(simp only [List.length_drop,List.length_take];rfl)) ?_;(with_reducible refine (laws_heldServer.calls k _ _ t325 t310 t311 1 t347 _ ?side1 ?side2 A45.out).mono ?_);(case side1=>exact cx_ (Kd.R_reads' HO309.out).2.2);(case side2=>rw [show t325.length=t307.length from (Kd.R_reads' HO309.out).1.symm];exact (Kd.R_reads' HO309.out).2.1);rintro e w126 ⟨rfl,hb⟩;refine ⟨_,rfl,?_⟩;replace HO277:=a_ (Kd.R_below (rp_ HO277.out) hb);replace HO289:=a_ (Kd.R_below (rp_ HO289.out) hb);replace HO296:=a_ (Kd.R_below (rp_ HO296.out) hb);replace HO309:=a_ (Kd.R_below (rp_ HO309.out) hb);replace HO317:=a_ (Kd.R_below (rp_ HO317.out) hb);replace HO329:=a_ (Kd.R_below (rp_ HO329.out) hb);replace HO341:=a_ (Kd.R_below (rp_ HO341.out) hb);replace HB:=a_ (bS_ (bel_) hb);replace BK271:=a_ (blk_below (g:=gb271) (o:=.cells #[.slice A0_0 l0_0.length c0_0,.int .i64 a0_1,.bool a0_2] 32 (0,0)) (bp_ BK271.out) hb);replace BK272:=a_ (blk_below (g:=gb272) (o:=.cells #[.int .i64 a1_0,.int .i64 a1_1,.int .i64 a1_2,.int .i64 a1_3,.int .i64 a1_4,.int .i64 a1_5,.string a1_6] 36 (0,0)) (bp_ BK272.out) hb);replace BK293:=a_ (blk_below (g:=gb293) (o:=.cells #[.slice Ao62 t287.length co62,.int .i64 t290,.bool t291] 25 (0,0)) (bp_ BK293.out) hb);replace BK299:=a_ (blk_below (g:=gb299) (o:=.cells #[.slice Ao70 t294.length co70,.int .i64 t297,.bool t298] 25 (0,0)) (bp_ BK299.out) hb);replace BK313:=a_ (blk_below (g:=gb313) (o:=.cells #[.slice Ao81 t307.length co81,.int .i64 t310,.bool t311] 25 (0,0)) (bp_ BK313.out) hb);replace BK345:=a_ (blk_below (g:=gb345) (o:=.cells #[.slice Ao113 t339.length co113,.int .i64 t342,.bool t343] 25 (0,0)) (bp_ BK345.out) hb);(try clear hb)))
              go_ret
              exact ⟨fi_,bel_⟩
             ·rw [if_neg c47] at H
              exact absurd H (by simp)
          ·replace c43:=Bool.eq_false_iff.mpr c43
           subst c43
           have H1:(none)=some r:=by rw [if_neg (show ¬ (false=true) by decide)] at H;exact H
           clear H
           have H:=H1
           clear H1
           exact absurd H (by simp)
         ·rw [if_neg c38] at H
          exact absurd H (by simp)
       ·replace c34:=Bool.eq_false_iff.mpr c34
        subst c34
        have H1:(none)=some r:=by rw [if_neg (show ¬ (false=true) by decide)] at H;exact H
        clear H
        have H:=H1
        clear H1
        exact absurd H (by simp)
     ·replace c30:=Bool.eq_false_iff.mpr c30
      subst c30
      have H1:(none)=some r:=by rw [if_neg (show ¬ (false=true) by decide)] at H;exact H
      clear H
      have H:=H1
      clear H1
      exact absurd H (by simp)
   ·replace c26:=Bool.eq_false_iff.mpr c26
    subst c26
    have H1:(none)=some r:=by rw [if_neg (show ¬ (false=true) by decide)] at H;exact H
    clear H
    have H:=H1
    clear H1
    exact absurd H (by simp)
end Go.Proofs.YtdpklbomhdpimaaDoor.P
