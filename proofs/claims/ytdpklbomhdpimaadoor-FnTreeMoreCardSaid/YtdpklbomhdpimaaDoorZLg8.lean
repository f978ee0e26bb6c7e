/- Joined by a program (wip/shake.py): the declarations that 'YtdpklbomhdpimaaDoorCardFnTreeMore' reaches. -/
import Derived.Test.YtdpklbomhdpimaaDoorZLg7
set_option linter.unusedVariables false
set_option linter.unusedSimpArgs false
set_option linter.unusedSectionVars false
set_option maxHeartbeats 8000000
set_option maxRecDepth 100000
namespace Go.Proofs.YtdpklbomhdpimaaDoor.P
open Go.RowKit Go.Proofs.YtdpklbomhdpimaaDoorW.PrintWords Go.Proofs.YtdpklbomhdpimaaDoorW.PrintLast
theorem laws_FnTreeMore.calls (k:Nat) (A0:Option Addr) (c0:Nat) (l0:List Int) (r:Bool) (w:World) (hr0:Kd.C (Kd.int .u8) w A0 l0.length l0) (hc0:l0.length≤c0) (h:laws_FnTreeMore.f k l0=some r) (hG:Glob w) :
  Calls Tryd.prog 8 #[.slice A0 l0.length c0] w fun e w'=>e=.returned (.bool r)∧Below w.heap.size w w':=by
 have hu44:=Tryd.underlying44
 have hu42:=Tryd.underlying42
 have HR0:=a_ hr0
 have HC0:=a_ hc0
 clear hr0 hc0
 have HB:=a_ (Below.refl w.heap.size w)
 have HG:=a_ hG
 clear hG
 have H:(if (l0.length:Int) > 1048576 then (some true) else ((spec_DrawLogAdd.f k l0).bind fun bt650=>((spec_LogAdd.f k bt650.1 bt650.2.1 bt650.2.2.1 bt650.2.2.2.1 bt650.2.2.2.2.1 bt650.2.2.2.2.2.1 bt650.2.2.2.2.2.2.1 bt650.2.2.2.2.2.2.2).bind fun bt661=>((impl_LogAdd.f k bt650.1 bt650.2.1 bt650.2.2.1 bt650.2.2.2.1 bt650.2.2.2.2.1 bt650.2.2.2.2.2.1 bt650.2.2.2.2.2.2.1 bt650.2.2.2.2.2.2.2).bind fun bt665=>(if bt665.2=bt661.2 then ((laws_lpLog.f k bt665.1 bt661.1).bind fun t669=>(if t669=true then (laws_FnTreeMore.j0 k bt650.1 bt661.1 bt661.2 bt665.1 bt665.2 (bt665.2 != 1) bt650.2.1 bt650.2.2.1 bt650.2.2.2.1 bt650.2.2.2.2.1 bt650.2.2.2.2.2.1 bt650.2.2.2.2.2.2.1 bt650.2.2.2.2.2.2.2) else (none))) else (laws_FnTreeMore.j0 k bt650.1 bt661.1 bt661.2 bt665.1 bt665.2 true bt650.2.1 bt650.2.2.1 bt650.2.2.2.1 bt650.2.2.2.2.1 bt650.2.2.2.2.2.1 bt650.2.2.2.2.2.2.1 bt650.2.2.2.2.2.2.2))))))=some r:=h
 clear h
 by_cases c2:(l0.length:Int) > 1048576
 ·rw [if_pos c2] at H
  have c2b0:decide (1048576 < (l0.length:Int))=true:=dt_ c2
  have c2b1:decide (1048576 < l0.length)=true:=dt_ (by omega)
  clear c2
  obtain rfl:=sj_ H
  go_enter Tryd.func8,Tryd.ntmps8
  go_wp2
  go_ret
  exact ⟨by first|rfl|(simp [errW_none,errW_some] <;> rfl)|(simp [*,errW_none,errW_some] <;> rfl),by repeat (first|(with_reducible first|exact HB.out|apply wA_|apply pw_below_drewN|apply below_drew1)|exact HB.out)⟩
 ·rw [if_neg c2] at H
  have c2b0:decide (1048576 < (l0.length:Int))=false:=df_ c2
  have c2b1:decide (1048576 < l0.length)=false:=df_ (by omega)
  clear c2
  replace H:=bs_ H
  obtain ⟨⟨t650,t653,t654,t655,t656,t657,t658,t659⟩,A30,H⟩:=H
  replace H:((spec_LogAdd.f k t650 t653 t654 t655 t656 t657 t658 t659).bind fun bt661=>((impl_LogAdd.f k t650 t653 t654 t655 t656 t657 t658 t659).bind fun bt665=>(if bt665.2=bt661.2 then ((laws_lpLog.f k bt665.1 bt661.1).bind fun t669=>(if t669=true then (laws_FnTreeMore.j0 k t650 bt661.1 bt661.2 bt665.1 bt665.2 (bt665.2 != 1) t653 t654 t655 t656 t657 t658 t659) else (none))) else (laws_FnTreeMore.j0 k t650 bt661.1 bt661.2 bt665.1 bt665.2 true t653 t654 t655 t656 t657 t658 t659))))=some r:=H
  have A3:=a_ A30
  clear A30
  replace H:=bs_ H
  obtain ⟨⟨t661,t664⟩,A40,H⟩:=H
  replace H:((impl_LogAdd.f k t650 t653 t654 t655 t656 t657 t658 t659).bind fun bt665=>(if bt665.2=t664 then ((laws_lpLog.f k bt665.1 t661).bind fun t669=>(if t669=true then (laws_FnTreeMore.j0 k t650 t661 t664 bt665.1 bt665.2 (bt665.2 != 1) t653 t654 t655 t656 t657 t658 t659) else (none))) else (laws_FnTreeMore.j0 k t650 t661 t664 bt665.1 bt665.2 true t653 t654 t655 t656 t657 t658 t659)))=some r:=H
  have A4:=a_ A40
  clear A40
  replace H:=bs_ H
  obtain ⟨⟨t665,t668⟩,A50,H⟩:=H
  replace H:(if t668=t664 then ((laws_lpLog.f k t665 t661).bind fun t669=>(if t669=true then (laws_FnTreeMore.j0 k t650 t661 t664 t665 t668 (t668 != 1) t653 t654 t655 t656 t657 t658 t659) else (none))) else (laws_FnTreeMore.j0 k t650 t661 t664 t665 t668 true t653 t654 t655 t656 t657 t658 t659))=some r:=H
  have A5:=a_ A50
  clear A50
  have HC6:=a_ H
  clear H
  go_enter Tryd.func8,Tryd.ntmps8
  go_upto_region 6 with (first|((with_reducible refine gC_ (f:=36) rfl ?_);refine goesL_ (some 14) rfl rfl Tryd.func36 (by kernel_rfl) rfl #[.slice A0 l0.length c0] rfl (by (try simp only [List.map_toArray,List.map_cons,List.map_nil]);first|done|rfl|(simp only [List.length_drop,List.length_take];rfl)) ?_;(with_reducible refine (spec_DrawLogAdd.calls k _ _ l0 t650 t653 t654 t655 t656 t657 t658 t659 _ ?side1 ?side2 A3.out).mono ?_);(case side1=>repeat (first|exact HR0.out|(with_reducible refine Kd.C_alloc ?_ _)|(with_reducible refine Kd.C_drewN ?_ _)|(with_reducible refine Kd.C_drew ?_)));(case side2=>exact HC0.out);rintro e w7 ⟨v651,rfl,ho0,hb⟩;refine ⟨_,rfl,?_⟩;have n0_:=a_ (Kd.R_lower ho0 (below_size (by repeat (first|(with_reducible first|exact HB.out|apply wA_|apply pw_below_drewN|apply below_drew1)|exact HB.out))));have n1_:=a_ (bS_ (by repeat (first|(with_reducible first|exact HB.out|apply wA_|apply pw_below_drewN|apply below_drew1)|exact HB.out)) hb);clear HB;have HO652:=n0_;have HB:=n1_;clear n0_ n1_;(try clear hb);(try clear hb2);(try clear hk);(try clear hi);(try clear ho0))|((with_reducible refine gD_ (N:=4) rfl ?_);refine box_event ?hg (N:=4) ?hd (cs:=#[.int .i64 0,.int .i64 0,.int .i64 0,.int .i64 0,.int .i64 0,.int .i64 0,.string (⟨#[]⟩:ByteArray)]) (t:=44) ?hr ?_;(case hd=>rfl);(case hg=>rfl);(case hr=>first|(go_simp;done)|(go_simp;rfl));intro gb660 hg w8 hbox hb;have n0_:=a_ (Kd.R_below (Kd.R_elderB (by (with_reducible repeat (first|apply Kd.R_alloc|apply Kd.R_drewN|apply Kd.R_drew));exact HO652.out) gb660 (Nat.le_of_eq hg.symm)) hb);have n1_:=a_ (bS_ (by repeat (first|(with_reducible first|exact HB.out|apply wA_|apply pw_below_drewN|apply below_drew1)|exact HB.out)) hb);have n2_:=a_ (hbox);have n3_:=a_ ((by rw [hg];exact (below_size (by repeat (first|(with_reducible first|exact HB.out|apply wA_|apply pw_below_drewN|apply below_drew1)|exact HB.out))):w.heap.size≤gb660));have n4_:=a_ ((by rw [hg];exact (below_size (by repeat (first|(with_reducible first|exact HB.out|apply wA_|apply pw_below_drewN|apply below_drew1)|exact HB.out))):w.heap.size≤gb660));clear HO652;clear HB;have HO652:=n0_;have HB:=n1_;have BK660:=n2_;have GW660:=n3_;have GE660:=n4_;clear n0_ n1_ n2_ n3_ n4_;clear hb hbox hg;have Z9_0:w8.cell? ⟨gb660,0,none⟩=some (.int .i64 0):=(bC_ BK660.out 0).trans rfl;have Z9_1:w8.cell? ⟨gb660,1,none⟩=some (.int .i64 0):=(bC_ BK660.out 1).trans rfl;have Z9_2:w8.cell? ⟨gb660,2,none⟩=some (.int .i64 0):=(bC_ BK660.out 2).trans rfl;have Z9_3:w8.cell? ⟨gb660,3,none⟩=some (.int .i64 0):=(bC_ BK660.out 3).trans rfl;have Z9_4:w8.cell? ⟨gb660,4,none⟩=some (.int .i64 0):=(bC_ BK660.out 4).trans rfl;have Z9_5:w8.cell? ⟨gb660,5,none⟩=some (.int .i64 0):=(bC_ BK660.out 5).trans rfl;have Z9_6:w8.cell? ⟨gb660,6,none⟩=some (.string (⟨#[]⟩:ByteArray)):=(bC_ BK660.out 6).trans rfl;have Y9_0:=bF_ BK660.out 0;have Y9_1:=bF_ BK660.out 1;have Y9_2:=bF_ BK660.out 2;have Y9_3:=bF_ BK660.out 3;have Y9_4:=bF_ BK660.out 4;have Y9_5:=bF_ BK660.out 5;have Y9_6:=bF_ BK660.out 6;obtain ⟨Ao10,co10,eo10⟩:=Kd.R_slice HO652.out;subst eo10)|((with_reducible refine gC_ (f:=37) rfl ?_);refine goesL_ (some 20) rfl rfl Tryd.func37 (by kernel_rfl) rfl #[.slice Ao10 t650.length co10,.agg #[.int .i64 t653,.int .i64 t654,.int .i64 t655,.int .i64 t656,.int .i64 t657,.int .i64 t658,.string t659]] rfl (by (try simp only [List.map_toArray,List.map_cons,List.map_nil]);first|done|rfl|(simp only [List.length_drop,List.length_take];rfl)) ?_;(with_reducible refine (spec_LogAdd.calls k _ _ t650 t653 t654 t655 t656 t657 t658 t659 t661 t664 _ ?side1 ?side2 A4.out).mono ?_);(case side1=>refine (Kd.R_reads' (e:=44) (base:=w.heap.size) (ok:=fun k_=>(True∧k_≠gb660)) (n:=t650.length) (c:=co10) ?_).2.2;exact (by (with_reducible repeat (first|apply Kd.R_alloc|apply Kd.R_drewN|apply Kd.R_drew));exact (Kd.R_mono (Kd.R_far (p:=⟨gb660,6,none⟩) (Kd.R_far (p:=⟨gb660,5,none⟩) (Kd.R_far (p:=⟨gb660,4,none⟩) (Kd.R_far (p:=⟨gb660,3,none⟩) (Kd.R_far (p:=⟨gb660,2,none⟩) (Kd.R_far (p:=⟨gb660,1,none⟩) (Kd.R_far (p:=⟨gb660,0,none⟩) (Kd.R_mono HO652.out (fun k_ hk=>(⟨hk,hk.2⟩:_∧k_≠gb660))) (fun _ hk=>hk.2) (.int .i64 t653)) (fun _ hk=>hk.2) (.int .i64 t654)) (fun _ hk=>hk.2) (.int .i64 t655)) (fun _ hk=>hk.2) (.int .i64 t656)) (fun _ hk=>hk.2) (.int .i64 t657)) (fun _ hk=>hk.2) (.int .i64 t658)) (fun _ hk=>hk.2) (.string t659)) (fun _ h_=>h_.1))));(case side2=>exact (Kd.R_reads' HO652.out).2.1);rintro e w11 ⟨v662,rfl,ho0,hb⟩;refine ⟨_,rfl,?_⟩;have n0_:=a_ (Kd.R_elder' (by (with_reducible repeat (first|apply Kd.R_alloc|apply Kd.R_drewN|apply Kd.R_drew));exact (Kd.R_mono (Kd.R_far (p:=⟨gb660,6,none⟩) (Kd.R_far (p:=⟨gb660,5,none⟩) (Kd.R_far (p:=⟨gb660,4,none⟩) (Kd.R_far (p:=⟨gb660,3,none⟩) (Kd.R_far (p:=⟨gb660,2,none⟩) (Kd.R_far (p:=⟨gb660,1,none⟩) (Kd.R_far (p:=⟨gb660,0,none⟩) (Kd.R_mono HO652.out (fun k_ hk=>(⟨hk,hk.2⟩:_∧k_≠gb660))) (fun _ hk=>hk.2) (.int .i64 t653)) (fun _ hk=>hk.2) (.int .i64 t654)) (fun _ hk=>hk.2) (.int .i64 t655)) (fun _ hk=>hk.2) (.int .i64 t656)) (fun _ hk=>hk.2) (.int .i64 t657)) (fun _ hk=>hk.2) (.int .i64 t658)) (fun _ hk=>hk.2) (.string t659)) (fun _ h_=>h_.1))) (Kd.R_base ho0) hb);have n1_:=a_ (Kd.R_lower (Kd.R_newB (Kd.R_new' ho0 (Kd.R_lt (by (with_reducible repeat (first|apply Kd.R_alloc|apply Kd.R_drewN|apply Kd.R_drew));exact (Kd.R_mono (Kd.R_far (p:=⟨gb660,6,none⟩) (Kd.R_far (p:=⟨gb660,5,none⟩) (Kd.R_far (p:=⟨gb660,4,none⟩) (Kd.R_far (p:=⟨gb660,3,none⟩) (Kd.R_far (p:=⟨gb660,2,none⟩) (Kd.R_far (p:=⟨gb660,1,none⟩) (Kd.R_far (p:=⟨gb660,0,none⟩) (Kd.R_mono HO652.out (fun k_ hk=>(⟨hk,hk.2⟩:_∧k_≠gb660))) (fun _ hk=>hk.2) (.int .i64 t653)) (fun _ hk=>hk.2) (.int .i64 t654)) (fun _ hk=>hk.2) (.int .i64 t655)) (fun _ hk=>hk.2) (.int .i64 t656)) (fun _ hk=>hk.2) (.int .i64 t657)) (fun _ hk=>hk.2) (.int .i64 t658)) (fun _ hk=>hk.2) (.string t659)) (fun _ h_=>h_.1))))) (g:=gb660) (o:=.cells #[.int .i64 t653,.int .i64 t654,.int .i64 t655,.int .i64 t656,.int .i64 t657,.int .i64 t658,.string t659] 44 (0,0)) (by (with_reducible repeat (first|refine bN_ ?_ _|refine bD_ ?_|refine bA_ ?_ _));refine blk_put (cs:=#[.int .i64 t653,.int .i64 t654,.int .i64 t655,.int .i64 t656,.int .i64 t657,.int .i64 t658,.string (⟨#[]⟩:ByteArray)]) ?_ 6 _ rfl;(with_reducible repeat (first|refine bN_ ?_ _|refine bD_ ?_|refine bA_ ?_ _));refine blk_put (cs:=#[.int .i64 t653,.int .i64 t654,.int .i64 t655,.int .i64 t656,.int .i64 t657,.int .i64 0,.string (⟨#[]⟩:ByteArray)]) ?_ 5 _ rfl;(with_reducible repeat (first|refine bN_ ?_ _|refine bD_ ?_|refine bA_ ?_ _));refine blk_put (cs:=#[.int .i64 t653,.int .i64 t654,.int .i64 t655,.int .i64 t656,.int .i64 0,.int .i64 0,.string (⟨#[]⟩:ByteArray)]) ?_ 4 _ rfl;(with_reducible repeat (first|refine bN_ ?_ _|refine bD_ ?_|refine bA_ ?_ _));refine blk_put (cs:=#[.int .i64 t653,.int .i64 t654,.int .i64 t655,.int .i64 0,.int .i64 0,.int .i64 0,.string (⟨#[]⟩:ByteArray)]) ?_ 3 _ rfl;(with_reducible repeat (first|refine bN_ ?_ _|refine bD_ ?_|refine bA_ ?_ _));refine blk_put (cs:=#[.int .i64 t653,.int .i64 t654,.int .i64 0,.int .i64 0,.int .i64 0,.int .i64 0,.string (⟨#[]⟩:ByteArray)]) ?_ 2 _ rfl;(with_reducible repeat (first|refine bN_ ?_ _|refine bD_ ?_|refine bA_ ?_ _));refine blk_put (cs:=#[.int .i64 t653,.int .i64 0,.int .i64 0,.int .i64 0,.int .i64 0,.int .i64 0,.string (⟨#[]⟩:ByteArray)]) ?_ 1 _ rfl;(with_reducible repeat (first|refine bN_ ?_ _|refine bD_ ?_|refine bA_ ?_ _));refine blk_put (cs:=#[.int .i64 0,.int .i64 0,.int .i64 0,.int .i64 0,.int .i64 0,.int .i64 0,.string (⟨#[]⟩:ByteArray)]) ?_ 0 _ rfl;(with_reducible repeat (first|refine bN_ ?_ _|refine bD_ ?_|refine bA_ ?_ _));exact BK660.out)) (below_size (by repeat (first|(with_reducible first|exact HB.out|apply wA_|apply pw_below_drewN|apply below_drew1|refine wS_ ?_ GE660.out)|exact HB.out))));have n2_:=a_ (blk_below (g:=gb660) (o:=.cells #[.int .i64 t653,.int .i64 t654,.int .i64 t655,.int .i64 t656,.int .i64 t657,.int .i64 t658,.string t659] 44 (0,0)) (by (with_reducible repeat (first|refine bN_ ?_ _|refine bD_ ?_|refine bA_ ?_ _));refine blk_put (cs:=#[.int .i64 t653,.int .i64 t654,.int .i64 t655,.int .i64 t656,.int .i64 t657,.int .i64 t658,.string (⟨#[]⟩:ByteArray)]) ?_ 6 _ rfl;(with_reducible repeat (first|refine bN_ ?_ _|refine bD_ ?_|refine bA_ ?_ _));refine blk_put (cs:=#[.int .i64 t653,.int .i64 t654,.int .i64 t655,.int .i64 t656,.int .i64 t657,.int .i64 0,.string (⟨#[]⟩:ByteArray)]) ?_ 5 _ rfl;(with_reducible repeat (first|refine bN_ ?_ _|refine bD_ ?_|refine bA_ ?_ _));refine blk_put (cs:=#[.int .i64 t653,.int .i64 t654,.int .i64 t655,.int .i64 t656,.int .i64 0,.int .i64 0,.string (⟨#[]⟩:ByteArray)]) ?_ 4 _ rfl;(with_reducible repeat (first|refine bN_ ?_ _|refine bD_ ?_|refine bA_ ?_ _));refine blk_put (cs:=#[.int .i64 t653,.int .i64 t654,.int .i64 t655,.int .i64 0,.int .i64 0,.int .i64 0,.string (⟨#[]⟩:ByteArray)]) ?_ 3 _ rfl;(with_reducible repeat (first|refine bN_ ?_ _|refine bD_ ?_|refine bA_ ?_ _));refine blk_put (cs:=#[.int .i64 t653,.int .i64 t654,.int .i64 0,.int .i64 0,.int .i64 0,.int .i64 0,.string (⟨#[]⟩:ByteArray)]) ?_ 2 _ rfl;(with_reducible repeat (first|refine bN_ ?_ _|refine bD_ ?_|refine bA_ ?_ _));refine blk_put (cs:=#[.int .i64 t653,.int .i64 0,.int .i64 0,.int .i64 0,.int .i64 0,.int .i64 0,.string (⟨#[]⟩:ByteArray)]) ?_ 1 _ rfl;(with_reducible repeat (first|refine bN_ ?_ _|refine bD_ ?_|refine bA_ ?_ _));refine blk_put (cs:=#[.int .i64 0,.int .i64 0,.int .i64 0,.int .i64 0,.int .i64 0,.int .i64 0,.string (⟨#[]⟩:ByteArray)]) ?_ 0 _ rfl;(with_reducible repeat (first|refine bN_ ?_ _|refine bD_ ?_|refine bA_ ?_ _));exact BK660.out) hb);have n3_:=a_ (bS_ (by repeat (first|(with_reducible first|exact HB.out|apply wA_|apply pw_below_drewN|apply below_drew1|refine wS_ ?_ GE660.out)|exact HB.out)) hb);clear HO652;clear BK660;clear HB;have HO652:=n0_;have HO663:=n1_;have BK660:=n2_;have HB:=n3_;clear n0_ n1_ n2_ n3_;(try clear hb);(try clear hb2);(try clear hk);(try clear hi);(try clear ho0);have Z12_0:w11.cell? ⟨gb660,0,none⟩=some (.int .i64 t653):=(bC_ BK660.out 0).trans rfl;have Z12_1:w11.cell? ⟨gb660,1,none⟩=some (.int .i64 t654):=(bC_ BK660.out 1).trans rfl;have Z12_2:w11.cell? ⟨gb660,2,none⟩=some (.int .i64 t655):=(bC_ BK660.out 2).trans rfl;have Z12_3:w11.cell? ⟨gb660,3,none⟩=some (.int .i64 t656):=(bC_ BK660.out 3).trans rfl;have Z12_4:w11.cell? ⟨gb660,4,none⟩=some (.int .i64 t657):=(bC_ BK660.out 4).trans rfl;have Z12_5:w11.cell? ⟨gb660,5,none⟩=some (.int .i64 t658):=(bC_ BK660.out 5).trans rfl;have Z12_6:w11.cell? ⟨gb660,6,none⟩=some (.string t659):=(bC_ BK660.out 6).trans rfl;have Y12_0:=bF_ BK660.out 0;have Y12_1:=bF_ BK660.out 1;have Y12_2:=bF_ BK660.out 2;have Y12_3:=bF_ BK660.out 3;have Y12_4:=bF_ BK660.out 4;have Y12_5:=bF_ BK660.out 5;have Y12_6:=bF_ BK660.out 6)|((with_reducible refine gC_ (f:=31) rfl ?_);refine goesL_ (some 26) rfl rfl Tryd.func31 (by kernel_rfl) rfl #[.slice Ao10 t650.length co10,.agg #[.int .i64 t653,.int .i64 t654,.int .i64 t655,.int .i64 t656,.int .i64 t657,.int .i64 t658,.string t659]] rfl (by (try simp only [List.map_toArray,List.map_cons,List.map_nil]);first|done|rfl|(simp only [List.length_drop,List.length_take];rfl)) ?_;(with_reducible refine (impl_LogAdd.calls k _ _ t650 t653 t654 t655 t656 t657 t658 t659 t665 t668 _ ?side1 ?side2 A5.out ?side3).mono ?_);(case side1=>repeat (first|exact (Kd.R_reads' HO652.out).2.2|(with_reducible refine Kd.C_alloc ?_ _)|(with_reducible refine Kd.C_drewN ?_ _)|(with_reducible refine Kd.C_drew ?_)));(case side2=>exact (Kd.R_reads' HO652.out).2.1);(case side3=>exact Glob.below HG.out (by repeat (first|(with_reducible first|exact HB.out|apply wA_|apply pw_below_drewN|apply below_drew1|refine wS_ ?_ GE660.out)|exact HB.out)));rintro e w13 ⟨v666,rfl,ho0,hb⟩;refine ⟨_,rfl,?_⟩;have n0_:=a_ (Kd.R_elder' (by (with_reducible repeat (first|apply Kd.R_alloc|apply Kd.R_drewN|apply Kd.R_drew));exact HO652.out) (Kd.R_base ho0) hb);have n1_:=a_ (Kd.R_elder' (by (with_reducible repeat (first|apply Kd.R_alloc|apply Kd.R_drewN|apply Kd.R_drew));exact HO663.out) (Kd.R_base ho0) hb);have n2_:=a_ (Kd.R_lower (Kd.R_newB (Kd.R_new' (Kd.R_new' ho0 (Kd.R_lt (by (with_reducible repeat (first|apply Kd.R_alloc|apply Kd.R_drewN|apply Kd.R_drew));exact HO652.out))) (Kd.R_lt (by (with_reducible repeat (first|apply Kd.R_alloc|apply Kd.R_drewN|apply Kd.R_drew));exact HO663.out))) (g:=gb660) (o:=.cells #[.int .i64 t653,.int .i64 t654,.int .i64 t655,.int .i64 t656,.int .i64 t657,.int .i64 t658,.string t659] 44 (0,0)) (by (with_reducible repeat (first|refine bN_ ?_ _|refine bD_ ?_|refine bA_ ?_ _));exact BK660.out)) (below_size (by repeat (first|(with_reducible first|exact HB.out|apply wA_|apply pw_below_drewN|apply below_drew1|refine wS_ ?_ GE660.out)|exact HB.out))));have n3_:=a_ (blk_below (g:=gb660) (o:=.cells #[.int .i64 t653,.int .i64 t654,.int .i64 t655,.int .i64 t656,.int .i64 t657,.int .i64 t658,.string t659] 44 (0,0)) (by (with_reducible repeat (first|refine bN_ ?_ _|refine bD_ ?_|refine bA_ ?_ _));exact BK660.out) hb);have n4_:=a_ (bS_ (by repeat (first|(with_reducible first|exact HB.out|apply wA_|apply pw_below_drewN|apply below_drew1|refine wS_ ?_ GE660.out)|exact HB.out)) hb);clear HO652;clear HO663;clear BK660;clear HB;have HO652:=n0_;have HO663:=n1_;have HO667:=n2_;have BK660:=n3_;have HB:=n4_;clear n0_ n1_ n2_ n3_ n4_;(try clear hb);(try clear hb2);(try clear hk);(try clear hi);(try clear ho0)))
  (try simp only [Act.put,List.setIfInBounds_toArray,List.set_cons_zero,List.set_cons_succ])
  go_cut [41] (fun v41 wc=>∃ (kq:Nat) (x41_5:Bool),v41=.bool x41_5∧Aside0 (laws_FnTreeMore.j0 kq t650 t661 t664 t665 t668 x41_5 t653 t654 t655 t656 t657 t658 t659=some r)∧Aside0 (kq≤k)∧Aside0 (Kd.R k44 44 wc w.heap.size (fun k_=>some k_≠(v662:Value).ownBlock∧some k_≠(v666:Value).ownBlock∧k_≠gb660) (.slice Ao10 t650.length co10) t650)∧Aside0 (Kd.R k44 44 wc w.heap.size (fun k_=>some k_≠((.slice Ao10 t650.length co10):Value).ownBlock∧some k_≠(v666:Value).ownBlock∧k_≠gb660) v662 t661)∧Aside0 (Kd.R k44 44 wc w.heap.size (fun k_=>some k_≠((.slice Ao10 t650.length co10):Value).ownBlock∧some k_≠(v662:Value).ownBlock∧k_≠gb660) v666 t665)∧Aside0 (wc.heap[gb660]?=some (.cells #[.int .i64 t653,.int .i64 t654,.int .i64 t655,.int .i64 t656,.int .i64 t657,.int .i64 t658,.string t659] 44 (0,0)))∧Aside0 (Below w.heap.size w wc))
  case first =>
   have H:=HC6.out
   clear HC6
   by_cases c14:t668=t664
   ·rw [if_pos c14] at H
    have c14b0:(t668==t664)=true:=beq_iff_eq.mpr c14
    have c14b1:(t668 != t664)=false:=be_ c14
    clear c14
    (first|rw [c14b0]|(simp only [i64_w,i32_w];rw [c14b0])|skip)
    replace H:=bs_ H
    obtain ⟨t669,A150,H⟩:=H
    replace H:(if t669=true then (laws_FnTreeMore.j0 k t650 t661 t664 t665 t668 (t668 != 1) t653 t654 t655 t656 t657 t658 t659) else (none))=some r:=H
    have A15:=a_ A150
    clear A150
    by_cases c16:t669=true
    ·subst c16
     have H1:(laws_FnTreeMore.j0 k t650 t661 t664 t665 t668 (t668 != 1) t653 t654 t655 t656 t657 t658 t659)=some r:=by rw [if_pos rfl] at H;exact H
     clear H
     have H:=H1
     clear H1
     have H':=a_ H
     clear H
     obtain ⟨Ao17,co17,eo17⟩:=Kd.R_slice HO667.out
     subst eo17
     obtain ⟨Ao18,co18,eo18⟩:=Kd.R_slice HO663.out
     subst eo18
     go_wp2_with (first|(go_at_call 32;(with_reducible refine (laws_lpLog.calls k _ _ t665 _ _ t661 true _ ?side1 ?side2 ?side3 ?side4 A15.out).mono ?_);(case side1=>repeat (first|exact (Kd.R_reads' HO667.out).2.2|(with_reducible refine Kd.C_alloc ?_ _)|(with_reducible refine Kd.C_drewN ?_ _)|(with_reducible refine Kd.C_drew ?_)));(case side2=>exact (Kd.R_reads' HO667.out).2.1);(case side3=>repeat (first|exact (Kd.R_reads' HO663.out).2.2|(with_reducible refine Kd.C_alloc ?_ _)|(with_reducible refine Kd.C_drewN ?_ _)|(with_reducible refine Kd.C_drew ?_)));(case side4=>exact (Kd.R_reads' HO663.out).2.1);rintro e w' ⟨rfl,⟨nd,rfl⟩⟩))
     go_meet
     case rel=>exact ⟨_,((t668 != 1)),(by first|rfl|(simp;done)|(simp [*];done)),H',⟨by first|omega|exact Nat.le_refl _⟩,⟨by (with_reducible repeat (first|apply Kd.R_alloc|apply Kd.R_drewN|apply Kd.R_drew));exact Kd.R_mono HO652.out (fun _ hk=>⟨hk.1.2,⟨hk.2,hk.1.1.2⟩⟩)⟩,⟨by (with_reducible repeat (first|apply Kd.R_alloc|apply Kd.R_drewN|apply Kd.R_drew));exact Kd.R_mono HO663.out (fun _ hk=>⟨hk.1.1.2,⟨hk.2,hk.1.2⟩⟩)⟩,⟨by (with_reducible repeat (first|apply Kd.R_alloc|apply Kd.R_drewN|apply Kd.R_drew));exact Kd.R_mono HO667.out (fun _ hk=>⟨hk.1.1.2,⟨hk.1.2,hk.2⟩⟩)⟩,⟨by (with_reducible repeat (first|refine bN_ ?_ _|refine bD_ ?_|refine bA_ ?_ _));exact BK660.out⟩,⟨by repeat (first|(with_reducible first|exact HB.out|apply wA_|apply pw_below_drewN|apply below_drew1|refine wS_ ?_ GE660.out)|exact HB.out)⟩⟩
    ·replace c16:=Bool.eq_false_iff.mpr c16
     subst c16
     have H1:(none)=some r:=by rw [if_neg (show ¬ (false=true) by decide)] at H;exact H
     clear H
     have H:=H1
     clear H1
     exact absurd H (by simp)
   ·rw [if_neg c14] at H
    have c14b0:(t668==t664)=false:=bn_ c14
    have c14b1:(t668 != t664)=true:=bne_iff_ne.mpr c14
    (first|rw [c14b0]|(simp only [i64_w,i32_w];rw [c14b0])|skip)
    have H':=a_ H
    clear H
    go_wp2
    go_meet
    case rel=>exact ⟨_,(true),(by first|rfl|(simp;done)|(simp [*];done)),H',⟨by first|omega|exact Nat.le_refl _⟩,⟨by (with_reducible repeat (first|apply Kd.R_alloc|apply Kd.R_drewN|apply Kd.R_drew));exact Kd.R_mono HO652.out (fun _ hk=>⟨hk.1.2,⟨hk.2,hk.1.1.2⟩⟩)⟩,⟨by (with_reducible repeat (first|apply Kd.R_alloc|apply Kd.R_drewN|apply Kd.R_drew));exact Kd.R_mono HO663.out (fun _ hk=>⟨hk.1.1.2,⟨hk.2,hk.1.2⟩⟩)⟩,⟨by (with_reducible repeat (first|apply Kd.R_alloc|apply Kd.R_drewN|apply Kd.R_drew));exact Kd.R_mono HO667.out (fun _ hk=>⟨hk.1.1.2,⟨hk.1.2,hk.2⟩⟩)⟩,⟨by (with_reducible repeat (first|refine bN_ ?_ _|refine bD_ ?_|refine bA_ ?_ _));exact BK660.out⟩,⟨by repeat (first|(with_reducible first|exact HB.out|apply wA_|apply pw_below_drewN|apply below_drew1|refine wS_ ?_ GE660.out)|exact HB.out)⟩⟩
  case rest =>
   clear HC6
   try clear c1
   try clear c2
   try clear c2b0
   try clear c2b1
   try clear p2
   try clear c3
   try clear c8
   try clear c14
   try clear c14b0
   try clear c14b1
   try clear c16
   try clear Z12_0
   try clear Z12_1
   try clear Z12_2
   try clear Z12_3
   try clear Z12_4
   try clear Z12_5
   try clear Z12_6
   try clear Z9_0
   try clear Z9_1
   try clear Z9_2
   try clear Z9_3
   try clear Z9_4
   try clear Z9_5
   try clear Z9_6
   try clear Y12_0
   try clear Y12_1
   try clear Y12_2
   try clear Y12_3
   try clear Y12_4
   try clear Y12_5
   try clear Y12_6
   try clear Y9_0
   try clear Y9_1
   try clear Y9_2
   try clear Y9_3
   try clear Y9_4
   try clear Y9_5
   try clear Y9_6
   obtain ⟨kq,x41_5,rfl,HA,HJ5,HO_3,HO_5,HO_7,BK660,HB⟩:=hcut
   cases kq with
   | zero=>exact absurd HA.out (by simp [laws_FnTreeMore.j0])
   | succ kj5 =>
    have H:=HA.out
    clear HA
    simp only [laws_FnTreeMore.j0] at H
    by_cases c19:x41_5=true
    ·subst c19
     have H1:(if t668=t664 then ((laws_lpLog.f kj5 t665 t661).bind fun t670=>(some t670)) else (none))=some r:=by rw [if_pos rfl] at H;exact H
     clear H
     have H:=H1
     clear H1
     by_cases c20:t668=t664
     ·rw [if_pos c20] at H
      have c20b0:(t668==t664)=true:=beq_iff_eq.mpr c20
      have c20b1:(t668 != t664)=false:=be_ c20
      clear c20
      replace H:=bs_ H
      obtain ⟨t670,A210,H⟩:=H
      replace H:(some t670)=some r:=H
      have A21:=a_ A210
      clear A210
      obtain rfl:=sj_ H
      obtain ⟨Ao22,co22,eo22⟩:=Kd.R_slice HO_7.out
      subst eo22
      obtain ⟨Ao23,co23,eo23⟩:=Kd.R_slice HO_5.out
      subst eo23
      go_wp2_with (first|(go_at_call 32;(with_reducible refine (laws_lpLog.calls kj5 _ _ t665 _ _ t661 t670 _ ?side1 ?side2 ?side3 ?side4 A21.out).mono ?_);(case side1=>repeat (first|exact (Kd.R_reads' HO_7.out).2.2|(with_reducible refine Kd.C_alloc ?_ _)|(with_reducible refine Kd.C_drewN ?_ _)|(with_reducible refine Kd.C_drew ?_)));(case side2=>exact (Kd.R_reads' HO_7.out).2.1);(case side3=>repeat (first|exact (Kd.R_reads' HO_5.out).2.2|(with_reducible refine Kd.C_alloc ?_ _)|(with_reducible refine Kd.C_drewN ?_ _)|(with_reducible refine Kd.C_drew ?_)));(case side4=>exact (Kd.R_reads' HO_5.out).2.1);rintro e w' ⟨rfl,⟨nd,rfl⟩⟩))
      go_ret
      exact ⟨by first|rfl|(simp [errW_none,errW_some] <;> rfl)|(simp [*,errW_none,errW_some] <;> rfl),by repeat (first|(with_reducible first|exact HB.out|apply wA_|apply pw_below_drewN|apply below_drew1|refine wS_ ?_ GE660.out)|exact HB.out)⟩
     ·rw [if_neg c20] at H
      exact absurd H (by simp)
    ·replace c19:=Bool.eq_false_iff.mpr c19
     subst c19
     have H1:((impl_LogTree.f kj5 t665).bind fun t671=>((impl_LogTree.f kj5 t650).bind fun t674=>((impl_OpDo.f kj5 t674 t655 t656 t657 t658 t659).bind fun t677=>((laws_lpRows.f kj5 t671 t677).bind fun t680=>(some t680)))))=some r:=by rw [if_neg (show ¬ (false=true) by decide)] at H;exact H
     clear H
     have H:=H1
     clear H1
     replace H:=bs_ H
     obtain ⟨t671,A240,H⟩:=H
     replace H:((impl_LogTree.f kj5 t650).bind fun t674=>((impl_OpDo.f kj5 t674 t655 t656 t657 t658 t659).bind fun t677=>((laws_lpRows.f kj5 t671 t677).bind fun t680=>(some t680))))=some r:=H
     have A24:=a_ A240
     clear A240
     replace H:=bs_ H
     obtain ⟨t674,A250,H⟩:=H
     replace H:((impl_OpDo.f kj5 t674 t655 t656 t657 t658 t659).bind fun t677=>((laws_lpRows.f kj5 t671 t677).bind fun t680=>(some t680)))=some r:=H
     have A25:=a_ A250
     clear A250
     replace H:=bs_ H
     obtain ⟨t677,A260,H⟩:=H
     replace H:((laws_lpRows.f kj5 t671 t677).bind fun t680=>(some t680))=some r:=H
     have A26:=a_ A260
     clear A260
     replace H:=bs_ H
     obtain ⟨t680,A270,H⟩:=H
     replace H:(some t680)=some r:=H
     have A27:=a_ A270
     clear A270
     obtain rfl:=sj_ H
     try go_wp2
     have n0_:=a_ (Kd.R_drew HO_3.out)
     have n1_:=a_ (Kd.R_drew HO_5.out)
     have n2_:=a_ (Kd.R_drew HO_7.out)
     have n3_:=a_ (bD_ BK660.out)
     have n4_:=a_ (below_drew1 HB.out)
     clear HO_3
     clear HO_5
     clear HO_7
     clear BK660
     clear HB
     have HO_3:=n0_
     have HO_5:=n1_
     have HO_7:=n2_
     have BK660:=n3_
     have HB:=n4_
     clear n0_ n1_ n2_ n3_ n4_
     obtain ⟨Ao29,co29,eo29⟩:=Kd.R_slice HO_7.out
     (first|subst eo29|(injection eo29 with f1_ f2_ f3_;have f4_:=f1_.symm;have f5_:=f3_.symm;clear f1_ f2_ f3_;subst f4_;subst f5_))
     refine start_ (n:=9) (S:=fun w'=>w'.cell? ⟨gb660,0,none⟩=some (.int .i64 t653)∧w'.cell? ⟨gb660,1,none⟩=some (.int .i64 t654)∧w'.cell? ⟨gb660,2,none⟩=some (.int .i64 t655)∧w'.cell? ⟨gb660,3,none⟩=some (.int .i64 t656)∧w'.cell? ⟨gb660,4,none⟩=some (.int .i64 t657)∧w'.cell? ⟨gb660,5,none⟩=some (.int .i64 t658)∧w'.cell? ⟨gb660,6,none⟩=some (.string t659)) (ds:=[]) #[false,false,false,false,false,false,false,false,false] (by kernel_rfl) rfl rfl ⟨(bC_ BK660.out 0).trans rfl,(bC_ BK660.out 1).trans rfl,(bC_ BK660.out 2).trans rfl,(bC_ BK660.out 3).trans rfl,(bC_ BK660.out 4).trans rfl,(bC_ BK660.out 5).trans rfl,(bC_ BK660.out 6).trans rfl⟩ (fun hHeld=>?_);refine with_tabW laws_FnTreeMore.tab8 laws_FnTreeMore.bits8 (fun HT_ HW_=>?_)
     generalize wc.drew=w28 at HO_3 HO_5 HO_7 BK660 HB hHeld ⊢
     refine pure_ (i:=0) (N:=some 50) (v:=?_) (a':=?_) #[true,false,false,false,false,false,false,false,false] rfl rfl (any_of HT_.out (by kernel_rfl)) (fun _ _ _ h=>h) (Or.inl ⟨by rfl,?_⟩) ?_ ?_
     rotate_left
     ·intro w'
      go_simp
      with_reducible rfl
     rotate_left
     ·simp only [Act.put,List.setIfInBounds_toArray,List.set_cons_zero,List.set_cons_succ,i64_w,i32_w]
      rfl
     refine pure_ (i:=2) (N:=some 52) (v:=?_) (a':=?_) #[true,false,true,false,false,false,false,false,false] rfl rfl (any_of HT_.out (by kernel_rfl)) (fun _ _ _ h=>h) (Or.inl ⟨by rfl,?_⟩) ?_ ?_
     rotate_left
     ·intro w'
      go_simp
      with_reducible rfl
     rotate_left
     ·simp only [Act.put,List.setIfInBounds_toArray,List.set_cons_zero,List.set_cons_succ,i64_w,i32_w]
      rfl
     refine pure_ (i:=4) (N:=some 54) (v:=?_) (a':=?_) #[true,false,true,false,true,false,false,false,false] rfl rfl (any_of HT_.out (by kernel_rfl)) (fun _ _ _ h=>h) (Or.inl ⟨by rfl,?_⟩) ?_ ?_
     rotate_left
     ·intro w'
      go_simp
      with_reducible rfl
     rotate_left
     ·simp only [Act.put,List.setIfInBounds_toArray,List.set_cons_zero,List.set_cons_succ,i64_w,i32_w]
      rfl
     refine take_ (i:=5) (N:=some 55) (v:=?_) (a':=?_) #[true,false,true,false,true,true,false,false,false] rfl rfl (take_ofW HT_.out HW_.out (by kernel_rfl)) (fun _ _ _ h=>h) (Or.inl ⟨by rfl,?_⟩) hHeld ?_ ?_
     rotate_left
     ·rintro w' ⟨s0,s1,s2,s3,s4,s5,s6⟩
      go_simp
      with_reducible rfl
     rotate_left
     ·simp only [Act.put,List.setIfInBounds_toArray,List.set_cons_zero,List.set_cons_succ,i64_w,i32_w]
      rfl
     refine one_ (i:=1) (N:=some 51) #[true,true,true,false,true,true,false,false,false] rfl rfl (one_of HT_.out (by kernel_rfl)) (by decide) (fun K hK=>?_)
     refine goes_ Tryd.func39 (by kernel_rfl) rfl #[.slice Ao29 t665.length co29] (by rfl) rfl rfl (by (try simp only [List.map_toArray,List.map_cons,List.map_nil]);first|done|rfl|(simp only [List.length_drop,List.length_take];rfl)) ?_
     with_reducible refine (impl_LogTree.calls kj5 _ _ t665 t671 _ ?side1 ?side2 A24.out ?side3).mono ?_
     (case side1=>repeat (first|exact (Kd.R_reads' HO_7.out).2.2|(with_reducible refine Kd.C_alloc ?_ _)|(with_reducible refine Kd.C_drewN ?_ _)|(with_reducible refine Kd.C_drew ?_)))
     (case side2=>exact (Kd.R_reads' HO_7.out).2.1)
     (case side3=>exact Glob.below HG.out (by repeat (first|(with_reducible first|exact HB.out|apply wA_|apply pw_below_drewN|apply below_drew1|refine wS_ ?_ GE660.out)|exact HB.out)))
     rintro e w30 ⟨v672,rfl,ho0,hb⟩
     refine ⟨_,rfl,?_⟩
     have n0_:=a_ (Kd.R_below (by (with_reducible repeat (first|apply Kd.R_alloc|apply Kd.R_drewN|apply Kd.R_drew));exact HO_3.out) hb)
     have n1_:=a_ (Kd.R_below (by (with_reducible repeat (first|apply Kd.R_alloc|apply Kd.R_drewN|apply Kd.R_drew));exact HO_5.out) hb)
     have n2_:=a_ (Kd.R_below (by (with_reducible repeat (first|apply Kd.R_alloc|apply Kd.R_drewN|apply Kd.R_drew));exact HO_7.out) hb)
     have n3_:=a_ (Kd.R_lower ho0 (below_size (by repeat (first|(with_reducible first|exact HB.out|apply wA_|apply pw_below_drewN|apply below_drew1|refine wS_ ?_ GE660.out)|exact HB.out))))
     have n4_:=a_ (blk_below (g:=gb660) (o:=.cells #[.int .i64 t653,.int .i64 t654,.int .i64 t655,.int .i64 t656,.int .i64 t657,.int .i64 t658,.string t659] 44 (0,0)) (by (with_reducible repeat (first|refine bN_ ?_ _|refine bD_ ?_|refine bA_ ?_ _));exact BK660.out) hb)
     have n5_:=a_ (bS_ (by repeat (first|(with_reducible first|exact HB.out|apply wA_|apply pw_below_drewN|apply below_drew1|refine wS_ ?_ GE660.out)|exact HB.out)) hb)
     clear HO_3
     clear HO_5
     clear HO_7
     clear BK660
     clear HB
     have HO_3:=n0_
     have HO_5:=n1_
     have HO_7:=n2_
     have HO673:=n3_
     have BK660:=n4_
     have HB:=n5_
     clear n0_ n1_ n2_ n3_ n4_ n5_
     (try clear hb)
     (try clear hb2)
     (try clear hk)
     (try clear hi)
     (try clear ho0)
     refine hK.out _ _ ⟨(bC_ BK660.out 0).trans rfl,(bC_ BK660.out 1).trans rfl,(bC_ BK660.out 2).trans rfl,(bC_ BK660.out 3).trans rfl,(bC_ BK660.out 4).trans rfl,(bC_ BK660.out 5).trans rfl,(bC_ BK660.out 6).trans rfl⟩ (fun hHeld=>?_)
     clear hK K
     refine norm_ (a':=?_) ?_ ?_
     rotate_left
     ·show Act.put _ (some 51) _=_
      simp only [Act.put,List.setIfInBounds_toArray,List.set_cons_zero,List.set_cons_succ,i64_w,i32_w]
      rfl
     refine one_ (i:=3) (N:=some 53) #[true,true,true,true,true,true,false,false,false] rfl rfl (one_of HT_.out (by kernel_rfl)) (by decide) (fun K hK=>?_)
     refine goes_ Tryd.func39 (by kernel_rfl) rfl #[.slice Ao10 t650.length co10] (by rfl) rfl rfl (by (try simp only [List.map_toArray,List.map_cons,List.map_nil]);first|done|rfl|(simp only [List.length_drop,List.length_take];rfl)) ?_
     with_reducible refine (impl_LogTree.calls kj5 _ _ t650 t674 _ ?side1 ?side2 A25.out ?side3).mono ?_
     (case side1=>repeat (first|exact (Kd.R_reads' HO_3.out).2.2|(with_reducible refine Kd.C_alloc ?_ _)|(with_reducible refine Kd.C_drewN ?_ _)|(with_reducible refine Kd.C_drew ?_)))
     (case side2=>exact (Kd.R_reads' HO_3.out).2.1)
     (case side3=>exact Glob.below HG.out (by repeat (first|(with_reducible first|exact HB.out|apply wA_|apply pw_below_drewN|apply below_drew1|refine wS_ ?_ GE660.out)|exact HB.out)))
     rintro e w31 ⟨v675,rfl,ho0,hb⟩
     refine ⟨_,rfl,?_⟩
     have n0_:=a_ (Kd.R_below (by (with_reducible repeat (first|apply Kd.R_alloc|apply Kd.R_drewN|apply Kd.R_drew));exact HO_3.out) hb)
     have n1_:=a_ (Kd.R_below (by (with_reducible repeat (first|apply Kd.R_alloc|apply Kd.R_drewN|apply Kd.R_drew));exact HO_5.out) hb)
     have n2_:=a_ (Kd.R_below (by (with_reducible repeat (first|apply Kd.R_alloc|apply Kd.R_drewN|apply Kd.R_drew));exact HO_7.out) hb)
     have n3_:=a_ (Kd.R_elder' (by (with_reducible repeat (first|apply Kd.R_alloc|apply Kd.R_drewN|apply Kd.R_drew));exact HO673.out) (Kd.R_base ho0) hb)
     have n4_:=a_ (Kd.R_lower (Kd.R_new' ho0 (Kd.R_lt (by (with_reducible repeat (first|apply Kd.R_alloc|apply Kd.R_drewN|apply Kd.R_drew));exact HO673.out))) (below_size (by repeat (first|(with_reducible first|exact HB.out|apply wA_|apply pw_below_drewN|apply below_drew1|refine wS_ ?_ GE660.out)|exact HB.out))))
     have n5_:=a_ (blk_below (g:=gb660) (o:=.cells #[.int .i64 t653,.int .i64 t654,.int .i64 t655,.int .i64 t656,.int .i64 t657,.int .i64 t658,.string t659] 44 (0,0)) (by (with_reducible repeat (first|refine bN_ ?_ _|refine bD_ ?_|refine bA_ ?_ _));exact BK660.out) hb)
     have n6_:=a_ (bS_ (by repeat (first|(with_reducible first|exact HB.out|apply wA_|apply pw_below_drewN|apply below_drew1|refine wS_ ?_ GE660.out)|exact HB.out)) hb)
     clear HO_3
     clear HO_5
     clear HO_7
     clear HO673
     clear BK660
     clear HB
     have HO_3:=n0_
     have HO_5:=n1_
     have HO_7:=n2_
     have HO673:=n3_
     have HO676:=n4_
     have BK660:=n5_
     have HB:=n6_
     clear n0_ n1_ n2_ n3_ n4_ n5_ n6_
     (try clear hb)
     (try clear hb2)
     (try clear hk)
     (try clear hi)
     (try clear ho0)
     obtain ⟨Ao32,co32,eo32⟩:=Kd.R_slice HO676.out
     (first|subst eo32|(injection eo32 with f1_ f2_ f3_;have f4_:=f1_.symm;have f5_:=f3_.symm;clear f1_ f2_ f3_;subst f4_;subst f5_))
     refine hK.out _ _ ⟨(bC_ BK660.out 0).trans rfl,(bC_ BK660.out 1).trans rfl,(bC_ BK660.out 2).trans rfl,(bC_ BK660.out 3).trans rfl,(bC_ BK660.out 4).trans rfl,(bC_ BK660.out 5).trans rfl,(bC_ BK660.out 6).trans rfl⟩ (fun hHeld=>?_)
     clear hK K
     refine norm_ (a':=?_) ?_ ?_
     rotate_left
     ·show Act.put _ (some 53) _=_
      simp only [Act.put,List.setIfInBounds_toArray,List.set_cons_zero,List.set_cons_succ,i64_w,i32_w]
      rfl
     refine one_ (i:=6) (N:=some 56) #[true,true,true,true,true,true,true,false,false] rfl rfl (one_of HT_.out (by kernel_rfl)) (by decide) (fun K hK=>?_)
     refine goes_ Tryd.func40 (by kernel_rfl) rfl #[.slice Ao32 t674.length co32,.agg #[.int .i64 t655,.int .i64 t656,.int .i64 t657,.int .i64 t658,.string t659]] (by rfl) rfl rfl (by (try simp only [List.map_toArray,List.map_cons,List.map_nil]);first|done|rfl|(simp only [List.length_drop,List.length_take];rfl)) ?_
     with_reducible refine (impl_OpDo.calls kj5 _ _ t674 t655 t656 t657 t658 t659 t677 _ ?side1 ?side2 A26.out ?side3).mono ?_
     (case side1=>repeat (first|exact (Kd.R_reads' HO676.out).2.2|(with_reducible refine Kd.C_alloc ?_ _)|(with_reducible refine Kd.C_drewN ?_ _)|(with_reducible refine Kd.C_drew ?_)))
     (case side2=>exact (Kd.R_reads' HO676.out).2.1)
     (case side3=>exact Glob.below HG.out (by repeat (first|(with_reducible first|exact HB.out|apply wA_|apply pw_below_drewN|apply below_drew1|refine wS_ ?_ GE660.out)|exact HB.out)))
     rintro e w33 ⟨v678,rfl,ho0,hb⟩
     refine ⟨_,rfl,?_⟩
     have n0_:=a_ (Kd.R_below (by (with_reducible repeat (first|apply Kd.R_alloc|apply Kd.R_drewN|apply Kd.R_drew));exact HO_3.out) hb)
     have n1_:=a_ (Kd.R_below (by (with_reducible repeat (first|apply Kd.R_alloc|apply Kd.R_drewN|apply Kd.R_drew));exact HO_5.out) hb)
     have n2_:=a_ (Kd.R_below (by (with_reducible repeat (first|apply Kd.R_alloc|apply Kd.R_drewN|apply Kd.R_drew));exact HO_7.out) hb)
     have n3_:=a_ (Kd.R_elder' (by (with_reducible repeat (first|apply Kd.R_alloc|apply Kd.R_drewN|apply Kd.R_drew));exact HO673.out) (Kd.R_base ho0) hb)
     have n4_:=a_ (Kd.R_elder' (by (with_reducible repeat (first|apply Kd.R_alloc|apply Kd.R_drewN|apply Kd.R_drew));exact HO676.out) (Kd.R_base ho0) hb)
     have n5_:=a_ (Kd.R_lower (Kd.R_new' (Kd.R_new' ho0 (Kd.R_lt (by (with_reducible repeat (first|apply Kd.R_alloc|apply Kd.R_drewN|apply Kd.R_drew));exact HO673.out))) (Kd.R_lt (by (with_reducible repeat (first|apply Kd.R_alloc|apply Kd.R_drewN|apply Kd.R_drew));exact HO676.out))) (below_size (by repeat (first|(with_reducible first|exact HB.out|apply wA_|apply pw_below_drewN|apply below_drew1|refine wS_ ?_ GE660.out)|exact HB.out))))
     have n6_:=a_ (blk_below (g:=gb660) (o:=.cells #[.int .i64 t653,.int .i64 t654,.int .i64 t655,.int .i64 t656,.int .i64 t657,.int .i64 t658,.string t659] 44 (0,0)) (by (with_reducible repeat (first|refine bN_ ?_ _|refine bD_ ?_|refine bA_ ?_ _));exact BK660.out) hb)
     have n7_:=a_ (bS_ (by repeat (first|(with_reducible first|exact HB.out|apply wA_|apply pw_below_drewN|apply below_drew1|refine wS_ ?_ GE660.out)|exact HB.out)) hb)
     clear HO_3
     clear HO_5
     clear HO_7
     clear HO673
     clear HO676
     clear BK660
     clear HB
     have HO_3:=n0_
     have HO_5:=n1_
     have HO_7:=n2_
     have HO673:=n3_
     have HO676:=n4_
     have HO679:=n5_
     have BK660:=n6_
     have HB:=n7_
     clear n0_ n1_ n2_ n3_ n4_ n5_ n6_ n7_
     (try clear hb)
     (try clear hb2)
     (try clear hk)
     (try clear hi)
     (try clear ho0)
     obtain ⟨Ao34,co34,eo34⟩:=Kd.R_slice HO673.out
     (first|subst eo34|(injection eo34 with f1_ f2_ f3_;have f4_:=f1_.symm;have f5_:=f3_.symm;clear f1_ f2_ f3_;subst f4_;subst f5_))
     obtain ⟨Ao35,co35,eo35⟩:=Kd.R_slice HO679.out
     (first|subst eo35|(injection eo35 with f1_ f2_ f3_;have f4_:=f1_.symm;have f5_:=f3_.symm;clear f1_ f2_ f3_;subst f4_;subst f5_))
     refine hK.out _ _ ⟨(bC_ BK660.out 0).trans rfl,(bC_ BK660.out 1).trans rfl,(bC_ BK660.out 2).trans rfl,(bC_ BK660.out 3).trans rfl,(bC_ BK660.out 4).trans rfl,(bC_ BK660.out 5).trans rfl,(bC_ BK660.out 6).trans rfl⟩ (fun hHeld=>?_)
     clear hK K
     refine norm_ (a':=?_) ?_ ?_
     rotate_left
     ·show Act.put _ (some 56) _=_
      simp only [Act.put,List.setIfInBounds_toArray,List.set_cons_zero,List.set_cons_succ,i64_w,i32_w]
      rfl
     refine one_ (i:=7) (N:=some 57) #[true,true,true,true,true,true,true,true,false] rfl rfl (one_of HT_.out (by kernel_rfl)) (by decide) (fun K hK=>?_)
     refine goes_ Tryd.func38 (by kernel_rfl) rfl #[.slice Ao34 t671.length co34,.slice Ao35 t677.length co35] (by rfl) rfl rfl (by (try simp only [List.map_toArray,List.map_cons,List.map_nil]);first|done|rfl|(simp only [List.length_drop,List.length_take];rfl)) ?_
     with_reducible refine (laws_lpRows.calls kj5 _ _ t671 _ _ t677 t680 _ ?side1 ?side2 ?side3 ?side4 A27.out).mono ?_
     (case side1=>repeat (first|exact (Kd.R_reads' HO673.out).2.2|(with_reducible refine Kd.C_alloc ?_ _)|(with_reducible refine Kd.C_drewN ?_ _)|(with_reducible refine Kd.C_drew ?_)))
     (case side2=>exact (Kd.R_reads' HO673.out).2.1)
     (case side3=>repeat (first|exact (Kd.R_reads' HO679.out).2.2|(with_reducible refine Kd.C_alloc ?_ _)|(with_reducible refine Kd.C_drewN ?_ _)|(with_reducible refine Kd.C_drew ?_)))
     (case side4=>exact (Kd.R_reads' HO679.out).2.1)
     rintro e w' ⟨rfl,⟨nd,rfl⟩⟩
     refine ⟨_,rfl,?_⟩
     refine hK.out _ _ ⟨(bC_ BK660.out 0).trans rfl,(bC_ BK660.out 1).trans rfl,(bC_ BK660.out 2).trans rfl,(bC_ BK660.out 3).trans rfl,(bC_ BK660.out 4).trans rfl,(bC_ BK660.out 5).trans rfl,(bC_ BK660.out 6).trans rfl⟩ (fun hHeld=>?_)
     clear hK K
     refine norm_ (a':=?_) ?_ ?_
     rotate_left
     ·show Act.put _ (some 57) _=_
      simp only [Act.put,List.setIfInBounds_toArray,List.set_cons_zero,List.set_cons_succ,i64_w,i32_w]
      rfl
     refine pure_ (i:=8) (N:=some 2) (v:=?_) (a':=?_) #[true,true,true,true,true,true,true,true,true] rfl rfl (any_of HT_.out (by kernel_rfl)) (fun _ _ _ h=>h) (Or.inl ⟨by rfl,?_⟩) ?_ ?_
     rotate_left
     ·intro w'
      go_simp
      with_reducible rfl
     rotate_left
     ·simp only [Act.put,List.setIfInBounds_toArray,List.set_cons_zero,List.set_cons_succ,i64_w,i32_w]
      rfl
     refine done_ (done_of HT_.out (by kernel_rfl)) ?_
     try go_wp2
     go_ret
     exact ⟨by first|rfl|(simp [errW_none,errW_some] <;> rfl)|(simp [*,errW_none,errW_some] <;> rfl),by repeat (first|(with_reducible first|exact HB.out|apply wA_|apply pw_below_drewN|apply below_drew1|refine wS_ ?_ GE660.out)|exact HB.out)⟩

def laws_FnTreeMore.Pure:Prop:=∀ (l0:List Int),l0.length≤maxLen→l0.length * 1≤140737488351232→(∀ x∈l0,(Lit.int .u8 x).wf=true)→∃ k,laws_FnTreeMore.f k l0=some true
theorem laws_FnTreeMore.walk (P:laws_FnTreeMore.Pure) (a0:Option Addr) (len0 cap0:Nat) (z0:List Int) (w:World) (w0:(a0=none∧len0=0∧cap0=0∧z0=[])∨∃ x,a0=some x∧len0≤cap0∧cap0≤maxLen∧z0.length=cap0∧(∀ i,i < z0.length→w.cell? (x.add i)=some (.int .u8 (z0.getD i 0)))∧∀ n∈z0,(Lit.int .u8 n).wf=true) (y0:len0 * 1≤140737488351232) (hG:Glob w) :
  Calls Tryd.prog 8 #[.slice a0 len0 cap0] w fun e w'=>e=.returned (.bool true)∧Below w.heap.size w w':=by
 obtain ⟨l0,rfl,hr0,hm0,hw0,hc0⟩:=ReadsInt.ofRowC w0
 obtain ⟨k,h⟩:=P l0 hm0 y0 hw0
 refine (laws_FnTreeMore.calls k _ _ l0 true w (Kd.C_of_reads (d:=(0:Int)) (h1:=fun _=>rfl) hr0) hc0 h hG).mono ?_
 rintro e w' ⟨rfl,hd⟩
 exact ⟨rfl,hd⟩
end Go.Proofs.YtdpklbomhdpimaaDoor.P
namespace Go.Proofs.YtdpklbomhdpimaaDoor.PL
open Go.RowKit Go.Proofs.YtdpklbomhdpimaaDoor.P Go.Proofs.YtdpklbomhdpimaaDoorW.PrintWords Go.Proofs.YtdpklbomhdpimaaDoorW.PrintLast
def wfE (e:S44):Prop:=I64 e.f0∧I64 e.f1∧I64 e.f2.f0∧I64 e.f2.f1∧I64 e.f2.f2∧I64 e.f2.f3∧e.f2.f4.size≤9223372036854775807
def entB (e:S44):Bool :=
 decide (1≤e.f0)&&decide (e.f0≤3)&&(decide (1≤e.f1)&&decide (e.f1≤40))&&opB e.f2.f0 e.f2.f1 e.f2.f2 e.f2.f3 e.f2.f4&&(decide (e.f2.f0≠1) || decide (ownI e.f2.f1 - 1=e.f0))
theorem who_made (i:Int) (h:madeB i=true):ownI i - 1=wrap64 (Int.tdiv i 10):=by
 obtain ⟨h0,h1⟩:=made_small i h
 obtain ⟨n,rfl⟩:∃ n:Nat,i=n:=⟨i.toNat,by omega⟩
 rw [tdiv_wrap _ ⟨by omega,by omega⟩]
 exact small_who n (by omega) h
theorem ent_f (e:S44) (h:wfE e):Ev (fun n=>impl_EntryOk.f n e.f0 e.f1 e.f2.f0 e.f2.f1 e.f2.f2 e.f2.f3 e.f2.f4) (entB e):=by
 obtain ⟨h0,h1,h2,h3,h4,h5,h6⟩:=h
 unfold impl_EntryOk.f impl_whoOk.f entB
 by_cases a1:e.f0≥1
 ·simp only [a1,if_true,Option.bind_some,ge_iff_le,decide_true,Bool.true_and]
  cases a2:decide (e.f0≤3) with
  | false=>simp only [Bool.false_eq_true,if_false,Bool.false_and];exact evnow _
  | true =>
   simp only [if_true,Bool.true_and]
   by_cases a3:e.f1 < 1
   ·have:decide (1≤e.f1)=false:=df_ (by omega)
    simp only [a3,if_true,this,Bool.false_and];exact evnow _
   ·have e3:decide (1≤e.f1)=true:=dt_ (by omega)
    by_cases a4:e.f1 > 40
    ·have:decide (e.f1≤40)=false:=df_ (by omega)
     simp only [a3,if_false,a4,if_true,this,Bool.and_false,Bool.false_and];exact evnow _
    ·have e4:decide (e.f1≤40)=true:=dt_ (by omega)
     simp only [a3,if_false,a4,e3,e4,Bool.true_and]
     refine Ev.bind (opOk_f _ _ _ _ _ h6) ?_
     cases ho:opB e.f2.f0 e.f2.f1 e.f2.f2 e.f2.f3 e.f2.f4 with
     | false=>simp only [Bool.false_eq_true,if_false,Bool.false_and];exact evnow _
     | true =>
      simp only [if_true,Bool.true_and]
      have hm:=opB_made _ _ _ _ _ ho
      unfold impl_RowWho.f
      have hn:ownI e.f2.f1≠0:=by
       intro hz
       unfold madeB at hm
       rw [hz] at hm
       simp at hm
      rw [if_neg hn]
      simp only [Option.bind_some]
      by_cases a5:e.f2.f0=1
      ·simp only [a5,if_true,ne_eq,not_true,decide_false,Bool.false_or]
       have:(ownI e.f2.f1 - 1==e.f0)=decide (ownI e.f2.f1 - 1=e.f0):=by by_cases hq:ownI e.f2.f1 - 1=e.f0 <;> simp [hq]
       rw [this];exact evnow _
      ·simp only [a5,if_false,ne_eq,not_false_eq_true,decide_true,Bool.true_or];exact evnow _
 ·have:decide (1≤e.f0)=false:=df_ (by omega)
  simp only [a1,if_false,Option.bind_some,Bool.false_eq_true,this,Bool.false_and];exact evnow _
theorem sent_f (e:S44) (h:wfE e):Ev (fun n=>spec_EntryOk.f n e.f0 e.f1 e.f2.f0 e.f2.f1 e.f2.f2 e.f2.f3 e.f2.f4) (entB e):=by
 obtain ⟨h0,h1,h2,h3,h4,h5,h6⟩:=h
 unfold spec_EntryOk.f entB
 rw [in_f,in_f]
 simp only [Option.bind_some]
 cases (decide (1≤e.f0)&&decide (e.f0≤3)) with
 | false=>simp only [Bool.false_eq_true,if_false,Bool.false_and];exact evnow _
 | true =>
  cases (decide (1≤e.f1)&&decide (e.f1≤40)) with
  | false=>simp only [Bool.false_eq_true,if_true,if_false,Bool.true_and,Bool.false_and];exact evnow _
  | true =>
   simp only [if_true,Bool.true_and]
   refine Ev.bind (sop_f _ _ _ _ _ h3 h4 h5 h6) ?_
   cases ho:opB e.f2.f0 e.f2.f1 e.f2.f2 e.f2.f3 e.f2.f4 with
   | false=>simp only [Bool.false_eq_true,if_false,Bool.false_and];exact evnow _
   | true =>
    simp only [if_true,Bool.true_and]
    have hm:=who_made _ (opB_made _ _ _ _ _ ho)
    by_cases a5:e.f2.f0=1
    ·simp only [a5,if_true,ne_eq,not_true,decide_false,Bool.false_or]
     have:(wrap64 (Int.tdiv e.f2.f1 10)==e.f0)=decide (ownI e.f2.f1 - 1=e.f0):=by rw [hm];by_cases hq:wrap64 (Int.tdiv e.f2.f1 10)=e.f0 <;> simp [hq]
     rw [this];exact evnow _
    ·simp only [a5,if_false,ne_eq,not_false_eq_true,decide_true,Bool.true_or];exact evnow _
def goB:List S44→List S44→Bool
 | _,[]=>true
 | pre,e::rest=>entB e&&decide (cntE pre e.f0+1=e.f1)&&goB (pre++[e]) rest
def logB (l:List S44):Bool:=decide (l.length≤40)&&goB [] l
def wfL (l:List S44):Prop:=∀ e∈l,wfE e
theorem log_go:∀ (rest pre:List S44),wfL rest→Ev (fun n=>impl_LogOk.go n pre rest) (goB pre rest)
 | [],_,_=>Ev.congr (f:=fun _=>some true) (fun n=>by unfold impl_LogOk.go;rfl) (evnow _)
 | e::rest,pre,h=>by
  unfold goB
  refine Ev.congr (f:=fun k=>(impl_EntryOk.f k e.f0 e.f1 e.f2.f0 e.f2.f1 e.f2.f2 e.f2.f3 e.f2.f4).bind fun t=>if t=true then (if cntE pre e.f0+1=e.f1 then impl_LogOk.go k (pre++[e]) rest else some false) else some false) (fun n=>by rw [impl_LogOk.go]) ?_
  refine Ev.bind (ent_f e (h e (List.mem_cons_self))) ?_
  cases entB e with
  | false=>simp only [Bool.false_eq_true,if_false,Bool.false_and];exact evnow _
  | true =>
   simp only [if_true,Bool.true_and]
   by_cases hq:cntE pre e.f0+1=e.f1
   ·simp only [hq,if_true,decide_true,Bool.true_and];exact log_go rest _ (fun x hx=>h x (List.mem_cons_of_mem _ hx))
   ·simp only [hq,if_false,decide_false,Bool.false_and];exact evnow _
theorem log_f (l:List S44) (h:wfL l):Ev (fun n=>impl_LogOk.f n l) (logB l):=by
 unfold impl_LogOk.f logB
 by_cases h40:(l.length:Int) > 40
 ·refine ev_pos h40 ?_
  have:decide (l.length≤40)=false:=df_ (by omega)
  rw [this,Bool.false_and];exact evnow _
 ·refine ev_neg h40 ?_
  have:decide (l.length≤40)=true:=dt_ (by omega)
  rw [this,Bool.true_and];exact log_go l [] h
theorem rdE_get (l:List S44) (i:Nat) (h:i < l.length):rd_T44 l i=l[i]:=by
 unfold rd_T44
 rw [List.getD_eq_getElem?_getD,show ((i:Int)).toNat=i from rfl,List.getElem?_eq_getElem h]
 rfl
theorem seq_l0 (l:List S44) (who:Int) (hl:l.length≤281474976710656):∀ (n:Nat) (i:Nat) (c:Int),i+n=l.length→0≤c→c≤i→Ev (fun k=>spec_l12Seq.l0 k l who c i) (c+cntE (l.drop i) who)
 | 0,i,c,h,h0,h1=>by
  refine Ev.step (f:=fun _=>some c) (fun k=>?_) ?_
  ·simp only [spec_l12Seq.l0];rw [if_neg (by omega)]
  ·have:c+cntE (l.drop i) who=c:=by rw [List.drop_eq_nil_of_le (by omega)];unfold cntE;simp
   rw [this];exact evnow _
 | n+1,i,c,h,h0,h1=>by
  have hi:i < l.length:=by omega
  have hd:=List.drop_eq_getElem_cons hi
  have hc:cntE (l.drop i) who=cntE (l.drop (i+1)) who+(if l[i].f0=who then 1 else 0):=by
   rw [hd]
   unfold cntE
   rw [List.countP_cons]
   by_cases hq:l[i].f0=who <;> simp [hq]
  rw [hc]
  by_cases hq:l[i].f0=who
  ·rw [if_pos hq,show c+(cntE (l.drop (i+1)) who+1)=(c+1)+cntE (l.drop (i+1)) who by omega]
   refine Ev.step (fun k=>?_) (seq_l0 l who hl n (i+1) (c+1) (by omega) (by omega) (by omega))
   simp only [spec_l12Seq.l0]
   rw [if_pos (by omega),if_pos (by omega),rdE_get l i hi,if_pos hq,wrapS i (by omega) (by omega),wrapS c (by omega) (by omega)]
   rfl
  ·rw [if_neg hq,Int.add_zero]
   refine Ev.step (fun k=>?_) (seq_l0 l who hl n (i+1) c (by omega) (by omega) (by omega))
   simp only [spec_l12Seq.l0]
   rw [if_pos (by omega),if_pos (by omega),rdE_get l i hi,if_neg hq,wrapS i (by omega) (by omega)]
   rfl
theorem seq_f (l:List S44) (who:Int) (hl:l.length≤281474976710656):Ev (fun k=>spec_l12Seq.f k l who) (cntE l who):=by
 have:=seq_l0 l who hl l.length 0 0 (by omega) (by omega) (by omega)
 rw [Int.zero_add] at this
 exact this
theorem slog_l0 (l:List S44) (h:wfL l) (hl:l.length≤281474976710656):∀ (n:Nat) (i:Nat),i+n=l.length→Ev (fun k=>spec_LogOk.l0 k l i) (goB (l.take i) (l.drop i)&&decide (l.length≤40))
 | 0,i,hn=>by
  rw [List.drop_eq_nil_of_le (by omega)]
  refine Ev.step (f:=fun _=>some (decide ((l.length:Int)≤40))) (fun k=>?_) ?_
  ·simp only [spec_LogOk.l0];rw [if_neg (by omega)]
  ·have:decide ((l.length:Int)≤40)=(goB (l.take i) []&&decide (l.length≤40)):=by unfold goB;simp;omega
   rw [this];exact evnow _
 | n+1,i,hn=>by
  have hi:i < l.length:=by omega
  rw [List.drop_eq_getElem_cons hi]
  unfold goB
  rw [←List.take_succ_eq_append_getElem hi]
  refine Ev.step (f:=fun k=>(spec_EntryOk.f k l[i].f0 l[i].f1 l[i].f2.f0 l[i].f2.f1 l[i].f2.f2 l[i].f2.f3 l[i].f2.f4).bind fun t127=>(if t127=true then ((spec_l12Seq.f k (l.take i) l[i].f0).bind fun t134=>(if l[i].f1=(wrap64 (t134+1)) then (spec_LogOk.l0 k l ((i+1:Nat):Int)) else (some false))) else (some false))) (fun k=>?_) ?_
  ·simp only [spec_LogOk.l0]
   rw [if_pos (by omega),if_pos (by omega),rdE_get l i hi,if_pos (by omega),wrapS i (by omega) (by omega)]
   rfl
  ·refine Ev.bind (sent_f _ (h _ (List.getElem_mem hi))) ?_
   cases entB l[i] with
   | false=>simp only [Bool.false_eq_true,if_false,Bool.false_and];exact evnow _
   | true =>
    simp only [if_true,Bool.true_and]
    refine Ev.bind (seq_f (l.take i) l[i].f0 (by rw [List.length_take];omega)) ?_
    have hcn:=cntE_le (l.take i) l[i].f0
    have hw:wrap64 (cntE (l.take i) l[i].f0+1)=cntE (l.take i) l[i].f0+1:=wrapS _ hcn.1 (by have:=hcn.2;rw [List.length_take] at this;omega)
    rw [hw]
    by_cases hq:cntE (l.take i) l[i].f0+1=l[i].f1
    ·rw [dt_ hq,Bool.true_and]
     refine ev_pos hq.symm ?_
     exact slog_l0 l h hl n (i+1) (by omega)
    ·rw [df_ hq,Bool.false_and,Bool.false_and]
     refine ev_neg (fun e=>hq e.symm) ?_
     exact evnow _
theorem slog_f (l:List S44) (h:wfL l) (hl:l.length≤281474976710656):Ev (fun k=>spec_LogOk.f k l) (logB l):=by
 have:=slog_l0 l h hl l.length 0 (by omega)
 unfold logB
 rw [Bool.and_comm]
 exact this
theorem logB_len {l:List S44} (h:logB l=true):l.length≤40:=by
 unfold logB at h
 simp only [Bool.and_eq_true,decide_eq_true_eq] at h
 exact h.1
def Bytes (b:List Int):Prop:=b.length≤2000∧∀ x∈b,0≤x∧x≤255
def Rd (p:Int) (m:Nat):Prop:=0≤p∧p+m≤1000000
theorem Rd.less {p:Int} {m n:Nat} (h:Rd p m) (hn:n≤m):Rd p n:=⟨h.1,by have:=h.2;omega⟩
theorem wrap_id (x:Int) (h0:-9223372036854775808≤x) (h1:x≤9223372036854775807):wrap64 x=x:=by unfold wrap64;omega
theorem wraps_i64 (n:Int) (h0:0≤n) (h1:n < 2 ^ 62):IntKind.i64.wrap n=n:=by rw [IntKind.wrap_i64];omega
theorem xor_pos (a b:Int) (ha:0≤a) (hb:0≤b) (ha':a < 4611686018427387904) (hb':b < 4611686018427387904):0≤Go.bits .xor .i64 a b:=by
 obtain ⟨m,rfl⟩:∃ m:Nat,a=m:=⟨a.toNat,by omega⟩
 obtain ⟨n,rfl⟩:∃ n:Nat,b=n:=⟨b.toNat,by omega⟩
 have hm:m < 2 ^ 62:=by omega
 have hn:n < 2 ^ 62:=by omega
 have e1:m % 2 ^ 64=m:=Nat.mod_eq_of_lt (by omega)
 have e2:n % 2 ^ 64=n:=Nat.mod_eq_of_lt (by omega)
 have hx:m ^^^ n < 2 ^ 62:=Nat.xor_lt_two_pow hm hn
 have hq:(BitVec.ofNat 64 m ^^^ BitVec.ofNat 64 n).toNat=m ^^^ n:=by rw [BitVec.toNat_xor,BitVec.toNat_ofNat,BitVec.toNat_ofNat,e1,e2]
 have h2:Go.bits .xor .i64 (m:Int) (n:Int)=IntKind.i64.wrap (((BitVec.ofNat 64 m ^^^ BitVec.ofNat 64 n).toNat:Nat):Int):=by simp only [Go.bits,BitVec.ofInt_natCast];rfl
 rw [h2,hq,wraps_i64 _ (by omega) (by omega)]
 omega
theorem rd_byte {b:List Int} (hb:Bytes b) (i:Int):0≤rd b i∧rd b i≤255:=by
 unfold rd
 rw [List.getD_eq_getElem?_getD]
 rcases Nat.lt_or_ge i.toNat b.length with h|h
 ·rw [List.getElem?_eq_getElem h]
  exact hb.2 _ (List.getElem_mem h)
 ·rw [List.getElem?_eq_none h]
  simp
theorem tmod_range (x n:Int) (hx:0≤x) (hn:1≤n):0≤Int.tmod x n∧Int.tmod x n < n:=by
 rw [Int.tmod_eq_emod_of_nonneg hx]
 exact ⟨Int.emod_nonneg _ (by omega),Int.emod_lt_of_pos _ (by omega)⟩
theorem pick_f (b:List Int) (p n:Int) (m:Nat) (hb:Bytes b) (hp:Rd p (m+1)):∃ r:Int,Ev (fun k=>spec_l6Rd_pick.f k b p n) (r,p+1)∧Rd (p+1) m∧0≤r∧(1≤n→r < n)∧(n < 1→r=0):=by
 obtain ⟨h0,h1⟩:=hp
 have hR:Rd (p+1) m:=⟨by omega,by omega⟩
 have w1:wrap64 (p+1)=p+1:=wrap_id _ (by omega) (by omega)
 have w2:wrap64 (p+1 - 1)=p:=by rw [wrap_id (p+1 - 1) (by omega) (by omega)];omega
 unfold spec_l6Rd_pick.f
 rw [w1]
 by_cases hn:n < 1
 ·refine ⟨0,ev_pos hn ?_,hR,Int.le_refl _,fun h=>by omega,fun _=>rfl⟩
  refine Ev.step (f:=fun _=>some (0,p+1)) (fun k=>?_) (evnow _)
  simp only [spec_l6Rd_pick.j0,if_true]
 ·by_cases hl:b.length=0
  ·refine ⟨0,ev_neg hn ?_,hR,Int.le_refl _,fun h=>by omega,fun _=>rfl⟩
   refine Ev.step (f:=fun _=>some (0,p+1)) (fun k=>?_) (evnow _)
   have:((b.length:Int)==0)=true:=by simp [hl]
   simp only [spec_l6Rd_pick.j0,this,if_true]
  ·have hf:((b.length:Int)==0)=false:=beq_eq_false_iff_ne.2 (by omega)
   by_cases hk:p < (b.length:Int)
   ·have hx:=rd_byte hb p
    have hr:=tmod_range (wrap64 (rd b p)) n (by rw [wrap_id (rd b p) (by omega) (by omega)];omega) (by omega)
    refine ⟨Int.tmod (wrap64 (rd b p)) n,ev_neg hn ?_,hR,hr.1,fun _=>hr.2,fun h=>absurd h hn⟩
    refine Ev.step (f:=fun _=>some (Int.tmod (wrap64 (rd b p)) n,p+1)) (fun k=>?_) (evnow _)
    simp only [spec_l6Rd_pick.j0,hf,Bool.false_eq_true,if_false,w2]
    rw [if_pos hk,if_pos h0,if_neg (show ¬ n=0 by omega)]
   ·have hlen:(1:Int)≤b.length:=by omega
    have m1:=tmod_range p b.length h0 hlen
    have e7:wrap64 (p * 7)=p * 7:=wrap_id _ (by omega) (by omega)
    have e73:wrap64 (p * 7+3)=p * 7+3:=wrap_id _ (by omega) (by omega)
    have m2:=tmod_range (p * 7+3) b.length (by omega) hlen
    have x1:=rd_byte hb (Int.tmod p b.length)
    have x2:=rd_byte hb (Int.tmod (p * 7+3) b.length)
    have d1:0≤Int.tdiv p b.length∧Int.tdiv p b.length≤1000000:=by
     rw [Int.tdiv_eq_ediv_of_nonneg h0]
     exact ⟨Int.ediv_nonneg h0 (by omega),Int.le_trans (Int.ediv_le_self _ h0) (by omega)⟩
    obtain ⟨r,hr⟩:∃ r,r=Int.tmod (Go.bits .xor .i64 (wrap64 ((wrap64 ((wrap64 ((wrap64 ((wrap64 (rd b (Int.tmod p (b.length:Int)))) * 131))+(wrap64 ((wrap64 (rd b (Int.tmod (p * 7+3) (b.length:Int)))) * 1117))))+(wrap64 (p * 29))))+(wrap64 ((wrap64 (Int.tdiv p (b.length:Int))) * 53)))) (wrap64 (Int.tdiv (wrap64 ((wrap64 ((wrap64 ((wrap64 ((wrap64 (rd b (Int.tmod p (b.length:Int)))) * 131))+(wrap64 ((wrap64 (rd b (Int.tmod (p * 7+3) (b.length:Int)))) * 1117))))+(wrap64 (p * 29))))+(wrap64 ((wrap64 (Int.tdiv p (b.length:Int))) * 53)))) 64))) n:=⟨_,rfl⟩
    have hrr:0≤r∧r < n:=by
     rw [hr]
     refine tmod_range _ n ?_ (by omega)
     generalize rd b (Int.tmod p (b.length:Int))=u at x1
     generalize rd b (Int.tmod (p * 7+3) (b.length:Int))=v at x2
     generalize Int.tdiv p (b.length:Int)=d at d1
     rw [wrap_id u (by omega) (by omega),wrap_id v (by omega) (by omega),wrap_id d (by omega) (by omega)]
     rw [wrap_id (u * 131) (by omega) (by omega),wrap_id (v * 1117) (by omega) (by omega),wrap_id (p * 29) (by omega) (by omega),wrap_id (d * 53) (by omega) (by omega)]
     rw [wrap_id (u * 131+v * 1117) (by omega) (by omega)]
     rw [wrap_id (u * 131+v * 1117+p * 29) (by omega) (by omega)]
     rw [wrap_id (u * 131+v * 1117+p * 29+d * 53) (by omega) (by omega)]
     have hs:Int.tdiv (u * 131+v * 1117+p * 29+d * 53) 64=(u * 131+v * 1117+p * 29+d * 53) / 64:=Int.tdiv_eq_ediv_of_nonneg (by omega)
     rw [hs,wrap_id _ (by omega) (by omega)]
     exact xor_pos _ _ (by omega) (by omega) (by omega) (by omega)
    refine ⟨r,ev_neg hn ?_,hR,hrr.1,fun _=>hrr.2,fun h=>absurd h hn⟩
    refine Ev.step (f:=fun _=>some (r,p+1)) (fun k=>?_) (evnow _)
    simp only [spec_l6Rd_pick.j0,hf,Bool.false_eq_true,if_false,w2,e7,e73]
    rw [if_neg hk,if_neg (show ¬ (b.length:Int)=0 by omega),if_pos m1.1,if_pos m1.2,if_pos m2.1,if_pos m2.2,if_neg (show ¬ n=0 by omega),hr]
theorem rdR_get (t:List S69) (i:Nat) (h:i < t.length):rd_T69 t i=t[i]:=by
 unfold rd_T69
 rw [List.getD_eq_getElem?_getD,show ((i:Int)).toNat=i from rfl,List.getElem?_eq_getElem h]
 rfl
def atFrom (id:Int):List S69→Nat→Int
 | [],_=>-1
 | r::rest,i=>if r.f0=id then (i:Int) else atFrom id rest (i+1)
def atI (t:List S69) (id:Int):Int:=atFrom id t 0
theorem at_l0 (t:List S69) (id:Int) (hl:t.length≤1099511627776):∀ (n i:Nat),i+n=t.length→Ev (fun k=>spec_l2At.l0 k t id i) (atFrom id (t.drop i) i)
 | 0,i,h=>by
  rw [List.drop_eq_nil_of_le (by omega)]
  refine Ev.step (f:=fun _=>some (-1)) (fun k=>?_) (evnow _)
  simp only [spec_l2At.l0];rw [if_neg (by omega)]
 | n+1,i,h=>by
  have hi:i < t.length:=by omega
  rw [List.drop_eq_getElem_cons hi]
  unfold atFrom
  by_cases hq:t[i].f0=id
  ·rw [if_pos hq]
   refine Ev.step (f:=fun _=>some (i:Int)) (fun k=>?_) (evnow _)
   simp only [spec_l2At.l0]
   rw [if_pos (by omega),if_pos (by omega),rdR_get t i hi,if_pos hq]
  ·rw [if_neg hq]
   refine Ev.step (fun k=>?_) (at_l0 t id hl n (i+1) (by omega))
   simp only [spec_l2At.l0]
   rw [if_pos (by omega),if_pos (by omega),rdR_get t i hi,if_neg hq,wrapS i (by omega) (by omega)]
   rfl
theorem at_f (t:List S69) (id:Int) (hl:t.length≤1099511627776):Ev (fun k=>spec_l2At.f k t id) (atI t id):=at_l0 t id hl t.length 0 (by omega)
theorem atFrom_spec (id:Int):∀ (t:List S69) (i:Nat),(atFrom id t i=-1∧∀ x∈t,x.f0≠id)∨∃ (j:Nat) (h:j < t.length),atFrom id t i=((i+j:Nat):Int)∧t[j].f0=id
 | [],i=>Or.inl ⟨rfl,fun x hx=>by cases hx⟩
 | r::rest,i=>by
  unfold atFrom
  by_cases hq:r.f0=id
  ·rw [if_pos hq]
   exact Or.inr ⟨0,by simp,by simp,hq⟩
  ·rw [if_neg hq]
   rcases atFrom_spec id rest (i+1) with ⟨h1,h2⟩|⟨j,h,h1,h2⟩
   ·refine Or.inl ⟨h1,fun x hx=>?_⟩
    rcases List.mem_cons.1 hx with rfl|hx
    ·exact hq
    ·exact h2 x hx
   ·exact Or.inr ⟨j+1,by simp;omega,by rw [h1];congr 1;omega,by simpa using h2⟩
theorem atI_spec (t:List S69) (id:Int):(atI t id=-1∧∀ x∈t,x.f0≠id)∨∃ (j:Nat) (h:j < t.length),atI t id=(j:Int)∧t[j].f0=id:=by
 rcases atFrom_spec id t 0 with h|⟨j,h,h1,h2⟩
 ·exact Or.inl h
 ·exact Or.inr ⟨j,h,by rw [atI,h1];congr 1;omega,h2⟩
theorem atI_mem {t:List S69} {id:Int} {x:S69} (hx:x∈t) (h:x.f0=id):∃ (j:Nat) (hj:j < t.length),atI t id=(j:Int)∧t[j].f0=id:=by
 rcases atI_spec t id with ⟨_,h2⟩|h2
 ·exact absurd h (h2 x hx)
 ·exact h2
def endFrom (d:Int):List S69→Nat→Nat
 | [],e=>e
 | r::rest,e=>if r.f1 > d then endFrom d rest (e+1) else e
def endI (t:List S69) (i:Nat):Nat:=endFrom (t.getD i z69).f1 (t.drop (i+1)) (i+1)
theorem getD_get (t:List S69) (i:Nat) (h:i < t.length):t.getD i z69=t[i]:=by
 rw [List.getD_eq_getElem?_getD,List.getElem?_eq_getElem h]
 rfl
theorem end_l0 (t:List S69) (a:Nat) (ha:a < t.length) (hl:t.length≤1099511627776):∀ (n i:Nat),i+n=t.length→Ev (fun k=>spec_l2End.l0 k t a i) (endFrom t[a].f1 (t.drop i) i:Int)
 | 0,i,h=>by
  rw [List.drop_eq_nil_of_le (by omega)]
  refine Ev.step (f:=fun _=>some (i:Int)) (fun k=>?_) (evnow _)
  simp only [spec_l2End.l0];rw [if_neg (by omega)]
 | n+1,i,h=>by
  have hi:i < t.length:=by omega
  rw [List.drop_eq_getElem_cons hi]
  unfold endFrom
  by_cases hq:t[i].f1 > t[a].f1
  ·rw [if_pos hq]
   refine Ev.step (fun k=>?_) (end_l0 t a ha hl n (i+1) (by omega))
   simp only [spec_l2End.l0]
   rw [if_pos (by omega),if_pos (by omega),if_pos (by omega),if_pos (by omega),rdR_get t i hi,rdR_get t a ha,if_pos hq,wrapS i (by omega) (by omega)]
   rfl
  ·rw [if_neg hq]
   refine Ev.step (f:=fun _=>some (i:Int)) (fun k=>?_) (evnow _)
   simp only [spec_l2End.l0]
   rw [if_pos (by omega),if_pos (by omega),if_pos (by omega),if_pos (by omega),rdR_get t i hi,rdR_get t a ha,if_neg hq]
theorem end_f (t:List S69) (a:Nat) (ha:a < t.length) (hl:t.length≤1099511627776):Ev (fun k=>spec_l2End.f k t a) (endI t a:Int):=by
 have:=end_l0 t a ha hl (t.length - (a+1)) (a+1) (by omega)
 unfold endI
 rw [getD_get t a ha]
 refine Ev.congr (fun k=>?_) this
 unfold spec_l2End.f
 rw [wrapS a (by omega) (by omega)]
 rfl
theorem endFrom_spec (d:Int):∀ (t:List S69) (e:Nat),e≤endFrom d t e∧endFrom d t e≤e+t.length∧(∀ (j:Nat) (hj:j < t.length),e+j < endFrom d t e→d < t[j].f1)∧(∀ (hj:endFrom d t e - e < t.length),t[endFrom d t e - e].f1≤d)
 | [],e=>⟨Nat.le_refl _,by simp [endFrom],fun j hj=>by simp at hj,fun hj=>by simp at hj⟩
 | r::rest,e=>by
  by_cases hq:r.f1 > d
  ·have he:endFrom d (r::rest) e=endFrom d rest (e+1):=if_pos hq
   obtain ⟨h1,h2,h3,h4⟩:=endFrom_spec d rest (e+1)
   refine ⟨by rw [he];omega,by rw [he];simp;omega,fun j hj hlt=>?_,fun hj=>?_⟩
   ·rw [he] at hlt
    cases j with
    | zero=>exact hq
    | succ j=>exact h3 j (by simpa using hj) (by omega)
   ·have e1:endFrom d (r::rest) e - e=(endFrom d rest (e+1) - (e+1))+1:=by rw [he];omega
    have hj':endFrom d rest (e+1) - (e+1) < rest.length:=by rw [e1] at hj;simpa using hj
    have:=h4 hj'
    simp only [e1,List.getElem_cons_succ]
    exact this
  ·have he:endFrom d (r::rest) e=e:=if_neg hq
   refine ⟨by rw [he];exact Nat.le_refl _,by rw [he];omega,fun j hj hlt=>by rw [he] at hlt;omega,fun hj=>?_⟩
   have e1:endFrom d (r::rest) e - e=0:=by rw [he];omega
   simp only [e1,List.getElem_cons_zero]
   omega
theorem endI_spec (t:List S69) (a:Nat) (ha:a < t.length):a < endI t a∧endI t a≤t.length∧(∀ (j:Nat) (hj:j < t.length),a < j→j < endI t a→t[a].f1 < t[j].f1)∧(∀ (hj:endI t a < t.length),t[endI t a].f1≤t[a].f1):=by
 unfold endI
 rw [getD_get t a ha]
 obtain ⟨h1,h2,h3,h4⟩:=endFrom_spec t[a].f1 (t.drop (a+1)) (a+1)
 rw [List.length_drop] at h2
 refine ⟨by omega,by omega,fun j hj h5 h6=>?_,fun hj=>?_⟩
 ·have:=h3 (j - (a+1)) (by rw [List.length_drop];omega) (by omega)
  rw [List.getElem_drop] at this
  simpa [show a+1+(j - (a+1))=j by omega] using this
 ·have:=h4 (by rw [List.length_drop];omega)
  rw [List.getElem_drop] at this
  simpa [show a+1+(endFrom t[a].f1 (t.drop (a+1)) (a+1) - (a+1))=endFrom t[a].f1 (t.drop (a+1)) (a+1) by omega] using this
def KidOf (t:List S69) (a i:Nat) (x:Int):Prop:=∃ (ha:a < t.length) (j:Nat) (hj:j < t.length),i≤j∧j < endI t a∧t[j].f0=x∧t[j].f1=wrap64 (t[a].f1+1)
theorem kids_l0 (t:List S69) (a:Nat) (ha:a < t.length) (hl:t.length≤1099511627776):∀ (n i:Nat) (acc:List Int),i+n=endI t a→acc.length+n≤1099511627776 →
  ∃ r:List Int,Ev (fun k=>spec_l2Kids.l0 k t acc a i) (acc++r)∧r.length≤n∧∀ x∈r,KidOf t a i x
 | 0,i,acc,h,hacc=>by
  refine ⟨[],?_,by simp,fun x hx=>by cases hx⟩
  rw [List.append_nil]
  refine Ev.step (fun k=>by simp only [spec_l2Kids.l0];rfl) ?_
  refine Ev.bind (end_f t a ha hl) ?_
  refine ev_neg (by omega) ?_
  exact evnow _
 | n+1,i,acc,h,hacc=>by
  obtain ⟨e1,e2,_,_⟩:=endI_spec t a ha
  have hi:i < t.length:=by omega
  by_cases hq:t[i].f1=wrap64 (t[a].f1+1)
  ·obtain ⟨r,hr,hlen,hk⟩:=kids_l0 t a ha hl n (i+1) (acc++[t[i].f0]) (by omega) (by simp;omega)
   refine ⟨t[i].f0::r,?_,by simp;omega,fun x hx=>?_⟩
   ·rw [List.append_assoc] at hr
    refine Ev.step (fun k=>by simp only [spec_l2Kids.l0];rfl) ?_
    refine Ev.bind (end_f t a ha hl) ?_
    refine ev_pos (by omega) (ev_pos (by omega) (ev_pos (by omega) (ev_pos (by omega) (ev_pos (by omega) ?_))))
    rw [rdR_get t i hi,rdR_get t a ha,wrapS i (by omega) (by omega)]
    refine ev_pos hq (ev_pos (by omega) ?_)
    exact hr
   ·rcases List.mem_cons.1 hx with rfl|hx
    ·exact ⟨ha,i,hi,Nat.le_refl _,by omega,rfl,hq⟩
    ·obtain ⟨h1,j,hj,h2,h3,h4,h5⟩:=hk x hx
     exact ⟨h1,j,hj,by omega,h3,h4,h5⟩
  ·obtain ⟨r,hr,hlen,hk⟩:=kids_l0 t a ha hl n (i+1) acc (by omega) (by omega)
   refine ⟨r,?_,by omega,fun x hx=>?_⟩
   ·refine Ev.step (fun k=>by simp only [spec_l2Kids.l0];rfl) ?_
    refine Ev.bind (end_f t a ha hl) ?_
    refine ev_pos (by omega) (ev_pos (by omega) (ev_pos (by omega) (ev_pos (by omega) (ev_pos (by omega) ?_))))
    rw [rdR_get t i hi,rdR_get t a ha,wrapS i (by omega) (by omega)]
    refine ev_neg hq ?_
    exact hr
   ·obtain ⟨h1,j,hj,h2,h3,h4,h5⟩:=hk x hx
    exact ⟨h1,j,hj,by omega,h3,h4,h5⟩
theorem kids_f (t:List S69) (id:Int) (hl:t.length≤1000000):∃ r:List Int,Ev (fun k=>spec_l2Kids.f k t id) r∧r.length≤t.length∧∀ x∈r,∃ a:Nat,atI t id=(a:Int)∧KidOf t a (a+1) x:=by
 unfold spec_l2Kids.f
 simp only [Option.bind_some]
 rcases atI_spec t id with ⟨h1,_⟩|⟨a,ha,h1,_⟩
 ·refine ⟨[],?_,by simp,fun x hx=>by cases hx⟩
  refine Ev.bind (at_f t id (by omega)) ?_
  rw [h1]
  exact ev_pos (by omega) (evnow _)
 ·obtain ⟨e1,e2,_,_⟩:=endI_spec t a ha
  obtain ⟨r,hr,hlen,hk⟩:=kids_l0 t a ha (by omega) (endI t a - (a+1)) (a+1) [] (by omega) (by simp;omega)
  refine ⟨r,?_,by omega,fun x hx=>⟨a,h1,hk x hx⟩⟩
  refine Ev.bind (at_f t id (by omega)) ?_
  rw [h1]
  refine ev_neg (by omega) ?_
  rw [wrapS a (by omega) (by omega)]
  exact hr
def shift (d:Int) (r:S69):S69:=⟨r.f0,wrap64 (r.f1+d),r.f2⟩
theorem put_l0 (t rows:List S69) (d:Int) (p:Nat) (hp:p≤t.length) (hl:t.length≤1000000) (hr:rows.length≤1000000):∀ (n i:Nat) (acc:List S69),i+n=rows.length→acc.length+n≤3000000 →
  Ev (fun k=>spec_l3Put.l0 k t rows d p acc i) (acc++(rows.drop i).map (shift d)++t.drop p)
 | 0,i,acc,h,ha=>by
  rw [List.drop_eq_nil_of_le (show rows.length≤i by omega),List.map_nil,List.append_nil]
  refine Ev.step (fun k=>by simp only [spec_l3Put.l0];rfl) ?_
  refine ev_neg (by omega) (ev_pos (by omega) (ev_pos (by omega) ?_))
  simp only [Option.bind_some]
  refine ev_pos (by rw [List.length_drop];omega) ?_
  exact evnow _
 | n+1,i,acc,h,ha=>by
  have hi:i < rows.length:=by omega
  rw [List.drop_eq_getElem_cons hi,List.map_cons]
  have ih:=put_l0 t rows d p hp hl hr n (i+1) (acc++[shift d rows[i]]) (by omega) (by simp;omega)
  rw [List.append_assoc acc] at ih
  refine Ev.step (fun k=>by simp only [spec_l3Put.l0];rfl) ?_
  refine ev_pos (by omega) (ev_pos (by omega) (ev_pos (by omega) ?_))
  rw [rdR_get rows i hi,wrapS i (by omega) (by omega)]
  exact ih
theorem put_f (t rows:List S69) (u a:Int) (hl:t.length≤1000000) (hr:rows.length≤1000000) (h0:0 < rows.length) (hu:∃ x∈t,x.f0=u) (ha:a > 0→∃ x∈t,x.f0=a) :
  ∃ (y:S69) (p:Nat),y∈t∧y.f0=u∧p≤t.length∧Ev (fun k=>spec_l3Put.f k t rows u a) (t.take p++rows.map (shift (wrap64 (wrap64 (y.f1+1) - rows[0].f1)))++t.drop p):=by
 obtain ⟨x,hx,hxu⟩:=hu
 obtain ⟨j,hj,e1,e2⟩:=atI_mem hx hxu
 have fin:∀ (p:Nat),p≤t.length→Ev (fun k=>spec_l3Put.j0 k t rows (wrap64 (wrap64 (t[j].f1+1) - rows[0].f1)) p) (t.take p++rows.map (shift (wrap64 (wrap64 (t[j].f1+1) - rows[0].f1)))++t.drop p):=fun p hp=>by
  refine Ev.step (fun k=>by simp only [spec_l3Put.j0];rfl) ?_
  simp only [Option.bind_some]
  refine ev_pos (by omega) (ev_pos (by omega) ?_)
  refine ev_pos (by simp;omega) ?_
  simp only [List.nil_append,Int.toNat_natCast]
  have:=put_l0 t rows (wrap64 (wrap64 (t[j].f1+1) - rows[0].f1)) p hp hl hr rows.length 0 (t.take p) (by omega) (by rw [List.length_take];omega)
  simpa using this
 have r0:rd_T69 rows 0=rows[0]:=rdR_get rows 0 h0
 by_cases h:a > 0
 ·obtain ⟨x2,hx2,hxa⟩:=ha h
  obtain ⟨i,hi,e3,e4⟩:=atI_mem hx2 hxa
  obtain ⟨_,e5,_,_⟩:=endI_spec t i hi
  refine ⟨t[j],endI t i,List.getElem_mem hj,e2,e5,?_⟩
  unfold spec_l3Put.f
  refine Ev.bind (at_f t u (by omega)) ?_
  rw [e1]
  refine ev_pos (by omega) (ev_pos (by omega) (ev_pos (by omega) (ev_pos h ?_)))
  refine Ev.bind (at_f t a (by omega)) ?_
  rw [e3]
  refine Ev.bind (end_f t i hi (by omega)) ?_
  rw [rdR_get t j hj,r0]
  exact fin _ e5
 ·refine ⟨t[j],j+1,List.getElem_mem hj,e2,by omega,?_⟩
  unfold spec_l3Put.f
  refine Ev.bind (at_f t u (by omega)) ?_
  rw [e1]
  refine ev_pos (by omega) (ev_pos (by omega) (ev_pos (by omega) (ev_neg h ?_)))
  rw [rdR_get t j hj,r0,wrapS j (by omega) (by omega)]
  exact fin (j+1) (by omega)
theorem under_f (t:List S69) (u id:Int) (k:Nat) (hk:k < t.length) (hi:atI t id=(k:Int)) (hl:t.length≤1000000) :
  Ev (fun n=>spec_l2Under.f n t u id) (decide (0≤atI t u)&&(decide ((k:Int)≤atI t u)&&decide (atI t u≤(endI t k:Int) - 1))):=by
 obtain ⟨e1,e2,_,_⟩:=endI_spec t k hk
 unfold spec_l2Under.f
 refine Ev.bind (at_f t u (by omega)) ?_
 refine Ev.bind (at_f t id (by omega)) ?_
 rw [hi]
 by_cases h:atI t u≥0
 ·refine ev_pos h (ev_pos (by omega) ?_)
  refine Ev.bind (end_f t k hk (by omega)) ?_
  have hw:wrap64 ((endI t k:Int) - 1)=(endI t k:Int) - 1:=by unfold wrap64;omega
  rw [hw,in_f,dt_ (show 0≤atI t u from h),Bool.true_and]
  simp only [Option.bind_some]
  exact evnow _
 ·rw [df_ (show ¬ 0≤atI t u from h),Bool.false_and]
  exact ev_neg h (evnow _)
theorem where_l0 (u:Int) (ks:List Int) (kd id up at_:Int) (s:ByteArray) (hl:ks.length≤1000000):∀ (n i:Nat) (a:Int),i+n=ks.length→(a > 0→a∈ks∧a≠id)→∃ a':Int,Ev (fun k=>spec_l3Where.l0 k u a ks i kd id up at_ s) (u,a',true)∧(a' > 0→a'∈ks∧a'≠id)
 | 0,i,a,h,ha=>⟨a,by
   refine Ev.step (fun k=>by simp only [spec_l3Where.l0];rfl) ?_
   exact ev_neg (by omega) (evnow _),ha⟩
 | n+1,i,a,h,ha=>by
  have hi:i < ks.length:=by omega
  have hrd:rd ks i=ks[i]:=by
   unfold rd
   rw [List.getD_eq_getElem?_getD,show ((i:Int)).toNat=i from rfl,List.getElem?_eq_getElem hi]
   rfl
  by_cases hq:ks[i]=at_∧at_≠id
  ·obtain ⟨a',h1,h2⟩:=where_l0 u ks kd id up at_ s hl n (i+1) at_ (by omega) (fun _=>⟨hq.1 ▸ List.getElem_mem hi,hq.2⟩)
   refine ⟨a',?_,h2⟩
   refine Ev.step (fun k=>by simp only [spec_l3Where.l0];rfl) ?_
   rw [hrd,wrapS i (by omega) (by omega)]
   exact ev_pos (by omega) (ev_pos (by omega) (ev_pos hq.1 (ev_neg hq.2 h1)))
  ·obtain ⟨a',h1,h2⟩:=where_l0 u ks kd id up at_ s hl n (i+1) a (by omega) ha
   refine ⟨a',?_,h2⟩
   refine Ev.step (fun k=>by simp only [spec_l3Where.l0];rfl) ?_
   rw [hrd,wrapS i (by omega) (by omega)]
   refine ev_pos (by omega) (ev_pos (by omega) ?_)
   by_cases h3:ks[i]=at_
   ·refine ev_pos h3 (ev_pos ?_ h1)
    by_cases h4:at_=id
    ·exact h4
    ·exact absurd ⟨h3,h4⟩ hq
   ·exact ev_neg h3 h1
structure Inv (t:List S69) (B:Int):Prop where
 deep:∀ x∈t,0≤x.f1∧x.f1≤B
 root:∀ x∈t,x.f0=3→x.f1=0
 found:∃ x∈t,x.f0=3
 ids:∀ x∈t,I64 x.f0∧x.f2.size≤2000
def Fits (t:List S69) (kd id:Int) (u a:Int):Prop :=
 kd≠2∧(kd≠3→atI t id=-1)∧(kd=3→∃ k:Nat,k < t.length∧atI t id=(k:Int)) ∧
 ∃ (p:Nat) (hp:p < t.length),t[p].f0=u∧(a > 0→∃ (q:Nat) (hq:q < t.length),t[q].f0=a∧∀ k:Nat,kd=3→atI t id=(k:Int)→¬ (k≤q∧q < endI t k)) ∧
  ∀ k:Nat,kd=3→atI t id=(k:Int)→¬ (k≤p∧p < endI t k)
theorem where_f (t:List S69) (B kd id up at_:Int) (s:ByteArray) (hI:Inv t B) (hB:B≤1099511627776) (hid:id≠3) (hl:t.length≤1000000) :
  ∃ (u a:Int) (ok:Bool),Ev (fun n=>spec_l3Where.f n t kd id up at_ s) (u,a,ok)∧(ok=true→Fits t kd id u a):=by
 have none_:∀ f:Nat→Option (Int×Int×Bool),(∀ n,f n=spec_l3Where.j0 n t true kd id up at_ s)→Ev f (0,0,false):=fun f hf =>
  Ev.congr hf (Ev.step (f:=fun _=>some (0,0,false)) (fun n=>by simp only [spec_l3Where.j0,if_true]) (evnow _))
 unfold spec_l3Where.f
 by_cases h2:kd=2
 ·exact ⟨0,0,false,Ev.bind (at_f t id (by omega)) (ev_pos h2 (none_ _ (fun n=>rfl))),fun h=>by cases h⟩
 ·by_cases h3:((decide (atI t id≥0)) != (kd==3))=true
  ·exact ⟨0,0,false,Ev.bind (at_f t id (by omega)) (ev_neg h2 (ev_pos h3 (none_ _ (fun n=>rfl)))),fun h=>by cases h⟩
  ·have h3':decide (atI t id≥0)=(kd==3):=by simpa using h3
   -- the rest: 'up' is there,or it isn't
   have rest:(∀ (p k:Nat),atI t up=(p:Int)→kd=3→atI t id=(k:Int)→¬ (k≤p∧p < endI t k))→∃ (u a:Int),Ev (fun n=>spec_l3Where.j0 n t false kd id up at_ s) (u,a,true)∧Fits t kd id u a:=by
    intro hout
    have c1:kd≠3→atI t id=-1:=fun hk=>by
     have:(kd==3)=false:=beq_eq_false_iff_ne.2 hk
     rw [this] at h3'
     have h4:=of_decide_eq_false h3'
     rcases atI_spec t id with ⟨h5,_⟩|⟨j,hj,h5,_⟩
     ·exact h5
     ·omega
    have c2:kd=3→∃ k:Nat,k < t.length∧atI t id=(k:Int):=fun hk=>by
     have:(kd==3)=true:=beq_iff_eq.2 hk
     rw [this] at h3'
     have h4:=of_decide_eq_true h3'
     rcases atI_spec t id with ⟨h5,_⟩|⟨j,hj,h5,_⟩
     ·omega
     ·exact ⟨j,hj,h5⟩
    rcases atI_spec t up with ⟨h5,_⟩|⟨p,hp,h5,h6⟩
    ·obtain ⟨x,hx,hx3⟩:=hI.found
     obtain ⟨p,hp,rfl⟩:=List.getElem_of_mem hx
     refine ⟨3,0,?_,h2,c1,c2,p,hp,hx3,fun h=>by omega,fun k hk hik hin=>?_⟩
     ·refine Ev.step (fun n=>by simp only [spec_l3Where.j0];rfl) ?_
      refine ev_neg (by decide) ?_
      refine Ev.bind (at_f t up (by omega)) ?_
      exact ev_pos (by omega) (evnow _)
     ·obtain ⟨k',hk',e⟩:=c2 hk
      obtain rfl:k'=k:=by omega
      rcases Nat.eq_or_lt_of_le hin.1 with e6|e6
      ·subst e6
       rcases atI_spec t id with ⟨h7,_⟩|⟨j,hj,h7,h8⟩
       ·omega
       ·obtain rfl:j=k':=by omega
        exact hid (h8.symm.trans hx3)
      ·have:=(endI_spec t k' hk').2.2.1 p hp e6 hin.2
       have d1:=(hI.deep _ (List.getElem_mem hk')).1
       have d2:=hI.root _ hx hx3
       omega
    ·obtain ⟨ks,hks,hkl,hkk⟩:=kids_f t up hl
     obtain ⟨a,ha,hak⟩:=where_l0 up ks kd id up at_ s (by omega) ks.length 0 0 (by omega) (fun h=>by omega)
     refine ⟨up,a,?_,h2,c1,c2,p,hp,h6,fun hpos=>?_,fun k hk hik=>hout p k h5 hk hik⟩
     ·refine Ev.step (fun n=>by simp only [spec_l3Where.j0];rfl) ?_
      refine ev_neg (by decide) ?_
      refine Ev.bind (at_f t up (by omega)) ?_
      refine ev_neg (by omega) ?_
      exact Ev.bind hks ha
     ·obtain ⟨hmem,hne⟩:=hak hpos
      obtain ⟨p',hp',hpl,q,hq,hq1,hq2,hq3,hq4⟩:=hkk a hmem
      obtain rfl:p'=p:=by omega
      refine ⟨q,hq,hq3,fun k hk hik hin=>?_⟩
      obtain ⟨k',hk',e⟩:=c2 hk
      obtain rfl:k'=k:=by omega
      have out:=hout p' k' h5 hk hik
      have hkq:k'≠q:=by
       rintro rfl
       rcases atI_spec t id with ⟨h7,_⟩|⟨j,hj,h7,h8⟩
       ·omega
       ·obtain rfl:j=k':=by omega
        exact hne (hq3.symm.trans h8)
      have dq:=(endI_spec t k' hk').2.2.1 q hq (by omega) hin.2
      have dB:=hI.deep _ (List.getElem_mem hp)
      have hw:wrap64 (t[p'].f1+1)=t[p'].f1+1:=wrap_id _ (by omega) (by omega)
      rw [hw] at hq4
      rcases Nat.lt_or_ge p' k' with h9|h9
      ·have:=(endI_spec t p' hp).2.2.1 k' hk' h9 (by omega)
       omega
      ·exact out ⟨h9,by omega⟩
   by_cases h4:atI t id≥0
   ·have h33:kd=3:=by
     rw [dt_ h4] at h3'
     exact beq_iff_eq.1 h3'.symm
    rcases atI_spec t id with ⟨h5,_⟩|⟨k,hk,h5,h6⟩
    ·omega
    have hu:=under_f t up id k hk h5 hl
    cases hd:(decide (0≤atI t up)&&(decide ((k:Int)≤atI t up)&&decide (atI t up≤(endI t k:Int) - 1))) with
    | true =>
     rw [hd] at hu
     exact ⟨0,0,false,Ev.bind (at_f t id (by omega)) (ev_neg h2 (ev_neg h3 (ev_pos h4 (Ev.bind hu (none_ _ (fun n=>rfl)))))),fun h=>by cases h⟩
    | false =>
     rw [hd] at hu
     obtain ⟨u,a,h7,h8⟩:=rest (fun p k2 hp _ hk2 hin=>by
      obtain rfl:k2=k:=by omega
      have:(decide (0≤atI t up)&&(decide ((k2:Int)≤atI t up)&&decide (atI t up≤(endI t k2:Int) - 1)))=true:=by
       simp only [Bool.and_eq_true,decide_eq_true_eq]
       omega
      rw [this] at hd
      cases hd)
     exact ⟨u,a,true,Ev.bind (at_f t id (by omega)) (ev_neg h2 (ev_neg h3 (ev_pos h4 (Ev.bind hu h7)))),fun _=>h8⟩
   ·obtain ⟨u,a,h7,h8⟩:=rest (fun p k2 hp _ hk2 hin=>by omega)
    exact ⟨u,a,true,Ev.bind (at_f t id (by omega)) (ev_neg h2 (ev_neg h3 (ev_neg h4 h7))),fun _=>h8⟩
theorem mem_rest {t:List S69} {k e j:Nat} (hj:j < t.length) (h:¬ (k≤j∧j < e)) (hk:k≤e):t[j]∈t.take k++t.drop e:=by
 rcases Nat.lt_or_ge j k with h1|h1
 ·exact List.mem_append_left _ (List.mem_take_iff_getElem.2 ⟨j,by omega,rfl⟩)
 ·exact List.mem_append_right _ (List.mem_drop_iff_getElem.2 ⟨j - e,by omega,by congr 1;omega⟩)
theorem rest_mem {t:List S69} {k e:Nat} {x:S69} (h:x∈t.take k++t.drop e):x∈t:=by
 rcases List.mem_append.1 h with h|h
 ·exact List.mem_of_mem_take h
 ·exact List.mem_of_mem_drop h
theorem Inv.more {t:List S69} {B C:Int} (h:Inv t B) (hc:B≤C):Inv t C:=⟨fun x hx=>⟨(h.deep x hx).1,Int.le_trans (h.deep x hx).2 hc⟩,h.root,h.found,h.ids⟩
theorem do_f (t:List S69) (B kd id up at_:Int) (s:ByteArray) (hI:Inv t B) (hB0:0≤B) (hB:B≤1099511627776) (hk:kd=1∨kd=2∨kd=3) (hid:id≠3) (hid64:I64 id) (hl:t.length≤100000) (hs:s.size≤2000) :
  ∃ t':List S69,Ev (fun n=>spec_l3Do.f n t kd id up at_ s) t'∧Inv t' (2 * B+1)∧(t'.length≤t.length+1∧t.length≤t'.length):=by
 have same:∀ y:List S69,y=t→Inv y (2 * B+1)∧(y.length≤t.length+1∧t.length≤y.length):=fun y hy=>by
  subst hy
  exact ⟨hI.more (by omega),by omega⟩
 unfold spec_l3Do.f
 by_cases h2:kd=2
 ·rcases atI_spec t id with ⟨h5,_⟩|⟨k,hk',h5,h6⟩
  ·refine ⟨[]++t,Ev.bind (at_f t id (by omega)) (ev_pos h2 ?_),same _ (by simp)⟩
   simp only [Option.bind_some]
   refine ev_pos (by simp;omega) ?_
   rw [h5]
   exact ev_neg (by omega) (evnow _)
  ·refine ⟨t.set k ⟨t[k].f0,t[k].f1,s⟩,Ev.bind (at_f t id (by omega)) (ev_pos h2 ?_),?_,by rw [List.length_set];omega⟩
   ·simp only [Option.bind_some]
    refine ev_pos (by simp;omega) ?_
    rw [h5]
    simp only [List.nil_append,Int.toNat_natCast,rdR_get t k hk']
    exact ev_pos (by omega) (ev_pos (by omega) (ev_pos (by omega) (evnow _)))
   ·have hm:∀ x∈t.set k ⟨t[k].f0,t[k].f1,s⟩,∃ y∈t,x.f0=y.f0∧x.f1=y.f1∧(x.f2=s∨x.f2=y.f2):=fun x hx=>by
     obtain ⟨i,hi,rfl⟩:=List.getElem_of_mem hx
     rw [List.length_set] at hi
     rw [List.getElem_set]
     split
     ·exact ⟨t[k],List.getElem_mem hk',rfl,rfl,Or.inl rfl⟩
     ·exact ⟨t[i],List.getElem_mem hi,rfl,rfl,Or.inr rfl⟩
    refine ⟨fun x hx=>?_,fun x hx h3=>?_,?_,fun x hx=>?_⟩
    ·obtain ⟨y,hy,_,e,_⟩:=hm x hx
     have:=hI.deep y hy
     rw [e];omega
    ·obtain ⟨y,hy,e0,e,_⟩:=hm x hx
     rw [e]
     exact hI.root y hy (e0 ▸ h3)
    ·obtain ⟨x,hx,h3⟩:=hI.found
     obtain ⟨i,hi,rfl⟩:=List.getElem_of_mem hx
     refine ⟨(t.set k ⟨t[k].f0,t[k].f1,s⟩)[i]'(by rw [List.length_set];exact hi),List.getElem_mem _,?_⟩
     rw [List.getElem_set]
     split
     ·rename_i e;subst e;exact h3
     ·exact h3
    ·obtain ⟨y,hy,e0,_,e2⟩:=hm x hx
     rw [e0]
     refine ⟨(hI.ids y hy).1,?_⟩
     rcases e2 with e2|e2 <;> rw [e2]
     ·exact hs
     ·exact (hI.ids y hy).2
 ·obtain ⟨u,a,ok,hw,hfit⟩:=where_f t B kd id up at_ s hI hB hid (by omega)
  cases ok with
  | false =>
   refine ⟨[]++t,Ev.bind (at_f t id (by omega)) (ev_neg h2 (Ev.bind hw (ev_neg (by simp) ?_))),same _ (by simp)⟩
   simp only [Option.bind_some]
   exact ev_pos (by simp;omega) (evnow _)
  | true =>
   obtain ⟨_,c1,c2,p,hp,hpu,hpa,hpo⟩:=hfit rfl
   by_cases h1:kd=1
   ·obtain ⟨y,q,hy,hyu,hq,hev⟩:=put_f t [⟨id,0,s⟩] u a (by omega) (by simp) (by simp) ⟨t[p],List.getElem_mem hp,hpu⟩ (fun h=>by
     obtain ⟨q,hq,e,_⟩:=hpa h
     exact ⟨t[q],List.getElem_mem hq,e⟩)
    refine ⟨_,Ev.bind (at_f t id (by omega)) (ev_neg h2 (Ev.bind hw (ev_pos rfl (ev_pos h1 (Ev.bind hev (evnow _)))))),?_,by simp;omega⟩
    have dy:=hI.deep y hy
    have hw1:wrap64 (wrap64 (y.f1+1) - 0)=y.f1+1:=by rw [wrap_id (y.f1+1) (by omega) (by omega),wrap_id _ (by omega) (by omega)];omega
    have hmem:∀ x∈t.take q++[(⟨id,0,s⟩:S69)].map (shift (wrap64 (wrap64 (y.f1+1) - ([(⟨id,0,s⟩:S69)])[0].f1)))++t.drop q,x∈t∨(x.f0=id∧x.f1=y.f1+1∧x.f2=s):=fun x hx=>by
     rcases List.mem_append.1 hx with hx|hx
     ·rcases List.mem_append.1 hx with hx|hx
      ·exact Or.inl (List.mem_of_mem_take hx)
      ·right
       simp only [List.map_cons,List.map_nil,List.mem_singleton] at hx
       subst hx
       refine ⟨rfl,?_,rfl⟩
       show wrap64 (0+wrap64 (wrap64 (y.f1+1) - 0))=y.f1+1
       rw [hw1,wrap_id _ (by omega) (by omega)]
       omega
     ·exact Or.inl (List.mem_of_mem_drop hx)
    refine ⟨fun x hx=>?_,fun x hx h3=>?_,?_,fun x hx=>?_⟩
    ·rcases hmem x hx with h|⟨_,h,_⟩
     ·have:=hI.deep x h
      omega
     ·rw [h];omega
    ·rcases hmem x hx with h|⟨h,_⟩
     ·exact hI.root x h h3
     ·exact absurd (h.symm.trans h3) hid
    ·obtain ⟨x,hx,h3⟩:=hI.found
     rw [←List.take_append_drop q t] at hx
     rcases List.mem_append.1 hx with hx|hx
     ·exact ⟨x,List.mem_append_left _ (List.mem_append_left _ hx),h3⟩
     ·exact ⟨x,List.mem_append_right _ hx,h3⟩
    ·rcases hmem x hx with h|⟨h,_,h2⟩
     ·exact hI.ids x h
     ·rw [h,h2];exact ⟨hid64,hs⟩
   ·have h33:kd=3:=by
     rcases hk with h|h|h
     ·exact absurd h h1
     ·exact absurd h h2
     ·exact h
    obtain ⟨k,hk',h5⟩:=c2 h33
    obtain ⟨e1,e2,e3,_⟩:=endI_spec t k hk'
    have hkid:t[k].f0=id:=by
     rcases atI_spec t id with ⟨h7,_⟩|⟨j,hj,h7,h8⟩
     ·omega
     ·obtain rfl:j=k:=by omega
      exact h8
    have hout:=hpo k h33 h5
    obtain ⟨rest,hrest⟩:∃ r,r=t.take k++t.drop (endI t k):=⟨_,rfl⟩
    obtain ⟨rows,hrows⟩:∃ r,r=(t.take (endI t k)).drop k:=⟨_,rfl⟩
    have hrl:rows.length=endI t k - k:=by rw [hrows,List.length_drop,List.length_take];omega
    have hsl:rest.length=k+(t.length - endI t k):=by rw [hrest,List.length_append,List.length_take,List.length_drop];omega
    have hr0:rows[0]'(by omega)=t[k]:=by
     simp only [hrows,List.getElem_drop,List.getElem_take]
     rfl
    have hrm:∀ x∈rows,∃ (j:Nat) (hj:j < t.length),k≤j∧j < endI t k∧x=t[j]:=fun x hx=>by
     rw [hrows] at hx
     obtain ⟨i,hi,rfl⟩:=List.getElem_of_mem hx
     rw [List.length_drop,List.length_take] at hi
     refine ⟨k+i,by omega,by omega,by omega,?_⟩
     rw [List.getElem_drop,List.getElem_take]
    obtain ⟨y,q,hy,hyu,hq,hev⟩:=put_f rest rows u a (by omega) (by omega) (by omega) ⟨t[p],by rw [hrest];exact mem_rest hp hout (by omega),hpu⟩ (fun h=>by
     obtain ⟨q,hq,e,ho⟩:=hpa h
     exact ⟨t[q],by rw [hrest];exact mem_rest hq (ho k h33 h5) (by omega),e⟩)
    refine ⟨rest.take q++rows.map (shift (wrap64 (wrap64 (y.f1+1) - (rows[0]'(by omega)).f1)))++rest.drop q,Ev.bind (at_f t id (by omega)) (ev_neg h2 (Ev.bind hw (ev_pos rfl (ev_neg h1 ?_)))),?_,?_⟩
    rotate_left
    ·have hyt:y∈t:=rest_mem (hrest ▸ hy)
     have dy:=hI.deep y hyt
     have dk:=hI.deep _ (List.getElem_mem hk')
     have hw1:wrap64 (wrap64 (y.f1+1) - (rows[0]'(by omega)).f1)=y.f1+1 - t[k].f1:=by rw [hr0,wrap_id (y.f1+1) (by omega) (by omega),wrap_id _ (by omega) (by omega)]
     rw [hw1]
     have hmem:∀ x∈rest.take q++rows.map (shift (y.f1+1 - t[k].f1))++rest.drop q,x∈t∨(x.f0≠3∧(0≤x.f1∧x.f1≤2 * B+1)∧I64 x.f0∧x.f2.size≤2000):=fun x hx=>by
      rcases List.mem_append.1 hx with hx|hx
      ·rcases List.mem_append.1 hx with hx|hx
       ·exact Or.inl (rest_mem (hrest ▸ List.mem_of_mem_take hx))
       ·right
        obtain ⟨z,hz,rfl⟩:=List.mem_map.1 hx
        obtain ⟨j,hj,hkj,hje,rfl⟩:=hrm z hz
        have dj:=hI.deep _ (List.getElem_mem hj)
        have hge:t[k].f1≤t[j].f1:=by
         rcases Nat.eq_or_lt_of_le hkj with e|e
         ·subst e;exact Int.le_refl _
         ·exact Int.le_of_lt (e3 j hj e hje)
        have hf:(shift (y.f1+1 - t[k].f1) t[j]).f1=t[j].f1+(y.f1+1 - t[k].f1):=wrap_id _ (by omega) (by omega)
        refine ⟨?_,⟨by rw [hf];omega,by rw [hf];omega⟩,hI.ids t[j] (List.getElem_mem hj)⟩
        show t[j].f0≠3
        intro h3
        rcases Nat.eq_or_lt_of_le hkj with e|e
        ·subst e;exact hid (hkid.symm.trans h3)
        ·have:=e3 j hj e hje
         have:=hI.root _ (List.getElem_mem hj) h3
         omega
      ·exact Or.inl (rest_mem (hrest ▸ List.mem_of_mem_drop hx))
     refine ⟨fun x hx=>?_,fun x hx h3=>?_,?_,fun x hx=>?_⟩
     ·rcases hmem x hx with h|⟨_,h,_⟩
      ·have:=hI.deep x h
       omega
      ·exact h
     ·rcases hmem x hx with h|⟨h,_⟩
      ·exact hI.root x h h3
      ·exact absurd h3 h
     ·obtain ⟨x,hx,h3⟩:=hI.found
      obtain ⟨j,hj,rfl⟩:=List.getElem_of_mem hx
      have hj3:¬ (k≤j∧j < endI t k):=by
       rintro ⟨g1,g2⟩
       rcases Nat.eq_or_lt_of_le g1 with e|e
       ·subst e;exact hid (hkid.symm.trans h3)
       ·have:=e3 j hj e g2
        have:=hI.root _ (List.getElem_mem hj) h3
        omega
      have hxr:t[j]∈rest:=by rw [hrest];exact mem_rest hj hj3 (by omega)
      rw [←List.take_append_drop q rest] at hxr
      rcases List.mem_append.1 hxr with hx|hx
      ·exact ⟨_,List.mem_append_left _ (List.mem_append_left _ hx),h3⟩
      ·exact ⟨_,List.mem_append_right _ hx,h3⟩
     ·rcases hmem x hx with h|⟨_,_,h⟩
      ·exact hI.ids x h
      ·exact h
    ·rw [List.length_append,List.length_append,List.length_map,List.length_take,List.length_drop]
     omega
    ·rw [h5]
     refine Ev.bind (end_f t k hk' (by omega)) ?_
     simp only [Option.bind_some,Int.toNat_natCast]
     refine ev_pos (by omega) (ev_pos (by omega) (ev_pos (by omega) ?_))
     refine ev_pos (by rw [List.length_drop,List.length_take];simp;omega) ?_
     refine ev_pos (by omega) ?_
     refine ev_pos (by rw [List.length_take];simp;omega) ?_
     refine ev_pos (by omega) ?_
     refine ev_pos (by rw [List.length_append,List.length_take,List.length_drop];simp;omega) ?_
     simp only [List.nil_append]
     rw [←hrest,←hrows]
     exact Ev.bind hev (evnow _)
theorem of_f (b:List Int) (p:Int) (m:Nat) (l:List ByteArray) (hb:Bytes b) (hp:Rd p (m+1)) (h1:1≤l.length) (h2:l.length≤1000):∃ (s:ByteArray),Ev (fun k=>spec_l6Rd_of.f k b p l) (s,p+1)∧s∈l:=by
 obtain ⟨r,hr,_,h0,hlt,_⟩:=pick_f b p (l.length:Int) m hb hp
 have hlt:=hlt (by omega)
 have hi:r.toNat < l.length:=by omega
 refine ⟨l[r.toNat],?_,List.getElem_mem hi⟩
 unfold spec_l6Rd_of.f
 refine Ev.bind hr ?_
 refine ev_pos h0 (ev_pos hlt ?_)
 have:rdOf ByteArray.empty l r=l[r.toNat]:=by
  unfold rdOf
  rw [List.getD_eq_getElem?_getD,List.getElem?_eq_getElem hi]
  rfl
 rw [this]
 exact evnow _
theorem text_l0_f (b:List Int) (hb:Bytes b):∀ (n:Nat) (s:ByteArray) (p:Int) (m:Nat),s.size+n≤1000→Rd p (m+n+2)→∃ (s':ByteArray) (p':Int),Ev (fun k=>spec_l71Text.l0 k s n b p) (s',p')∧Rd p' m∧s'.size≤1010
 | 0,s,p,m,hs,hp=>by
  obtain ⟨r,hr,hR,_,_,_⟩:=pick_f b p 40 (m+1) hb hp
  by_cases h0:r=0
  ·obtain ⟨u,hu,hm⟩:=of_f b (p+1) m [(⟨#[101]⟩:ByteArray),(⟨#[32]⟩:ByteArray),(⟨#[97,97,97,97]⟩:ByteArray),(⟨#[39]⟩:ByteArray)] hb hR (by simp) (by simp)
   have hz:u.size≤4:=by
    simp only [List.mem_cons,List.not_mem_nil,or_false] at hm
    rcases hm with rfl|rfl|rfl|rfl <;> decide
   refine ⟨s++u,p+1+1,?_,⟨by have:=hR.1;omega,by have:=hR.2;omega⟩,by rw [ByteArray.size_append];omega⟩
   refine Ev.step (fun k=>by simp only [spec_l71Text.l0];rfl) ?_
   refine ev_neg (by omega) (Ev.bind hr (ev_pos h0 (Ev.bind hu (ev_pos (show s.size+u.size≤9223372036854775807 by omega) (evnow _)))))
  ·refine ⟨s,p+1,?_,hR.less (by omega),by omega⟩
   refine Ev.step (fun k=>by simp only [spec_l71Text.l0];rfl) ?_
   exact ev_neg (by omega) (Ev.bind hr (ev_neg h0 (evnow _)))
 | n+1,s,p,m,hs,hp=>by
  obtain ⟨u,hu,hm⟩:=of_f b p (m+n+2) [(⟨#[97]⟩:ByteArray),(⟨#[98]⟩:ByteArray),(⟨#[99]⟩:ByteArray),(⟨#[100]⟩:ByteArray)] hb (hp.less (by omega)) (by simp) (by simp)
  have hz:u.size=1:=by
   simp only [List.mem_cons,List.not_mem_nil,or_false] at hm
   rcases hm with rfl|rfl|rfl|rfl <;> decide
  obtain ⟨s',p',h1,h2,h3⟩:=text_l0_f b hb n (s++u) (p+1) m (by rw [ByteArray.size_append];omega) ⟨by have:=hp.1;omega,by have:=hp.2;omega⟩
  refine ⟨s',p',?_,h2,h3⟩
  refine Ev.step (fun k=>by simp only [spec_l71Text.l0];rfl) ?_
  refine ev_pos (by omega) (Ev.bind hu (ev_pos (show s.size+u.size≤9223372036854775807 by omega) ?_))
  have hw:wrap64 (((n+1:Nat):Int) - 1)=n:=by rw [wrap_id _ (by omega) (by have:=hs;omega)];omega
  rw [hw]
  exact h1
theorem dtext_f (b:List Int) (p:Int) (m:Nat) (hb:Bytes b) (hp:Rd p (m+6)):∃ (s:ByteArray) (p':Int),Ev (fun k=>spec_l71Text.f k b p) (s,p')∧Rd p' m∧s.size≤1010:=by
 obtain ⟨r,hr,hR,h0,hlt,_⟩:=pick_f b p 4 (m+5) hb hp
 have hlt:=hlt (by omega)
 obtain ⟨n,rfl⟩:∃ n:Nat,r=n:=⟨r.toNat,by omega⟩
 obtain ⟨s',p',h1,h2,h3⟩:=text_l0_f b hb n ⟨#[]⟩ (p+1) m (by show 0+n≤1000;omega) (hR.less (by omega))
 refine ⟨s',p',?_,h2,h3⟩
 unfold spec_l71Text.f
 exact Ev.bind hr h1
theorem did_f (b:List Int) (p:Int) (m:Nat) (hb:Bytes b) (hp:Rd p (m+2)):∃ r p':Int,Ev (fun k=>spec_l71Id.f k b p) (r,p')∧Rd p' m∧11≤r∧r≤44:=by
 obtain ⟨x,hx,hR,x0,x1,_⟩:=pick_f b p 3 (m+1) hb hp
 obtain ⟨y,hy,hR2,y0,y1,_⟩:=pick_f b (p+1) 4 m hb hR
 have x1:=x1 (by omega)
 have y1:=y1 (by omega)
 have e:wrap64 (wrap64 (wrap64 (10 * wrap64 (1+x))+1)+y)=10 * (1+x)+1+y:=by
  rw [wrap_id (1+x) (by omega) (by omega),wrap_id (10 * (1+x)) (by omega) (by omega),wrap_id (10 * (1+x)+1) (by omega) (by omega),wrap_id _ (by omega) (by omega)]
 refine ⟨10 * (1+x)+1+y,p+1+1,?_,hR2,by omega,by omega⟩
 unfold spec_l71Id.f
 refine Ev.bind hx (Ev.bind hy ?_)
 rw [e]
 exact evnow _
theorem rowMade_f (w n:Int):∃ r:Int,spec_RowMade.f w n=some r∧(r=0∨11≤r∧r≤36):=by
 unfold spec_RowMade.f
 simp only [in_f,Option.bind_some]
 cases h1:(decide (1≤w)&&decide (w≤3)) with
 | false=>exact ⟨0,by simp,Or.inl rfl⟩
 | true =>
  cases h2:(decide (1≤n)&&decide (n≤6)) with
  | false=>exact ⟨0,by simp,Or.inl rfl⟩
  | true =>
   simp only [Bool.and_eq_true,decide_eq_true_eq] at h1 h2
   refine ⟨10 * w+n,?_,Or.inr ⟨by omega,by omega⟩⟩
   simp only [if_true]
   rw [wrap_id (10 * w) (by omega) (by omega),wrap_id _ (by omega) (by omega)]
def OpD (k i u a:Int) (s:ByteArray):Prop:=(k=1∨k=2∨k=3)∧i≠3∧I64 i∧I64 u∧I64 a∧s.size≤2000
theorem i64_small {x:Int} (h0:-1000≤x) (h1:x≤1000):I64 x:=⟨by omega,by omega⟩
theorem made_ne {i:Int} (h:madeB i=true):i≠3:=by
 rintro rfl
 exact absurd h (by decide)
theorem op_j4 (b:List Int) (hb:Bytes b) (w md id up at_:Int) (s:ByteArray) (f:Bool) (p:Int) (m:Nat) (hi:I64 id) (hu:I64 up) (ha:I64 at_) (hs:s.size≤2000) (hp:Rd p (m+3)) :
  ∃ (k i u a:Int) (s':ByteArray) (p':Int),Ev (fun n=>spec_l72Op.j4 n w md id up at_ s f b p) (k,i,u,a,s',p')∧OpD k i u a s'∧Rd p' m:=by
 cases f with
 | true =>
  obtain ⟨r,hr,hrr⟩:=rowMade_f w (wrap64 (md+1))
  refine ⟨1,r,up,at_,s,p,?_,⟨Or.inl rfl,by omega,i64_small (by omega) (by omega),hu,ha,hs⟩,hp.less (by omega)⟩
  refine Ev.step (fun n=>by simp only [spec_l72Op.j4];rfl) ?_
  refine ev_pos (by simp) ?_
  rw [hr]
  simp only [Option.bind_some]
  exact evnow _
 | false =>
  cases hm:madeB id with
  | true =>
   obtain ⟨r,hr,hR,_,_,_⟩:=pick_f b p 3 (m+2) hb hp
   by_cases h0:r=0
   ·refine ⟨2,id,0,0,s,p+1,?_,⟨Or.inr (Or.inl rfl),made_ne hm,hi,i64_small (by omega) (by omega),i64_small (by omega) (by omega),hs⟩,hR.less (by omega)⟩
    refine Ev.step (fun n=>by simp only [spec_l72Op.j4];rfl) ?_
    refine ev_neg (by decide) ?_
    rw [made_f id hi,hm]
    simp only [Option.bind_some]
    exact ev_pos (by simp) (Ev.bind hr (ev_pos h0 (evnow _)))
   ·refine ⟨3,id,up,at_,⟨#[]⟩,p+1,?_,⟨Or.inr (Or.inr rfl),made_ne hm,hi,hu,ha,by decide⟩,hR.less (by omega)⟩
    refine Ev.step (fun n=>by simp only [spec_l72Op.j4];rfl) ?_
    refine ev_neg (by decide) ?_
    rw [made_f id hi,hm]
    simp only [Option.bind_some]
    exact ev_pos (by simp) (Ev.bind hr (ev_neg h0 (evnow _)))
  | false =>
   obtain ⟨x,p1,hx,hR1,x0,x1⟩:=did_f b p (m+1) hb hp
   obtain ⟨r,hr,hR,_,_,_⟩:=pick_f b p1 3 m hb hR1
   by_cases h0:r=0
   ·refine ⟨2,x,0,0,s,p1+1,?_,⟨Or.inr (Or.inl rfl),by omega,i64_small (by omega) (by omega),i64_small (by omega) (by omega),i64_small (by omega) (by omega),hs⟩,hR⟩
    refine Ev.step (fun n=>by simp only [spec_l72Op.j4];rfl) ?_
    refine ev_neg (by decide) ?_
    rw [made_f id hi,hm]
    simp only [Option.bind_some]
    exact ev_neg (by decide) (Ev.bind hx (Ev.bind hr (ev_pos h0 (evnow _))))
   ·refine ⟨3,x,up,at_,⟨#[]⟩,p1+1,?_,⟨Or.inr (Or.inr rfl),by omega,i64_small (by omega) (by omega),hu,ha,by decide⟩,hR⟩
    refine Ev.step (fun n=>by simp only [spec_l72Op.j4];rfl) ?_
    refine ev_neg (by decide) ?_
    rw [made_f id hi,hm]
    simp only [Option.bind_some]
    exact ev_neg (by decide) (Ev.bind hx (Ev.bind hr (ev_neg h0 (evnow _))))
theorem op_j3 (b:List Int) (hb:Bytes b) (w md id up at_:Int) (s:ByteArray) (p:Int) (m:Nat) (hi:I64 id) (hu:I64 up) (ha:I64 at_) (hs:s.size≤2000) (hp:Rd p (m+4)) :
  ∃ (k i u a:Int) (s':ByteArray) (p':Int),Ev (fun n=>spec_l72Op.j3 n w md id up at_ s b p) (k,i,u,a,s',p')∧OpD k i u a s'∧Rd p' m:=by
 by_cases h6:md < 6
 ·obtain ⟨r,hr,hR,_,_,_⟩:=pick_f b p 3 (m+3) hb hp
  by_cases h0:r=0
  ·obtain ⟨k,i,u,a,s',p',h1,h2,h3⟩:=op_j4 b hb w md id up at_ s true (p+1) m hi hu ha hs hR
   refine ⟨k,i,u,a,s',p',?_,h2,h3⟩
   refine Ev.step (fun n=>by simp only [spec_l72Op.j3];rfl) ?_
   exact ev_pos h6 (Ev.bind hr (ev_pos h0 h1))
  ·obtain ⟨k,i,u,a,s',p',h1,h2,h3⟩:=op_j4 b hb w md id up at_ s (!(madeB id)) (p+1) m hi hu ha hs hR
   refine ⟨k,i,u,a,s',p',?_,h2,h3⟩
   refine Ev.step (fun n=>by simp only [spec_l72Op.j3];rfl) ?_
   rw [made_f id hi]
   simp only [Option.bind_some]
   exact ev_pos h6 (Ev.bind hr (ev_neg h0 h1))
 ·obtain ⟨k,i,u,a,s',p',h1,h2,h3⟩:=op_j4 b hb w md id up at_ s false p m hi hu ha hs (hp.less (by omega))
  refine ⟨k,i,u,a,s',p',?_,h2,h3⟩
  refine Ev.step (fun n=>by simp only [spec_l72Op.j3];rfl) ?_
  exact ev_neg h6 h1
theorem op_j2 (b:List Int) (hb:Bytes b) (w md id up at_:Int) (s:ByteArray) (p:Int) (m:Nat) (hi:I64 id) (hu:I64 up) (ha:I64 at_) (hs:s.size≤2000) (hp:Rd p (m+7)) :
  ∃ (k i u a:Int) (s':ByteArray) (p':Int),Ev (fun n=>spec_l72Op.j2 n w md id up at_ s b p) (k,i,u,a,s',p')∧OpD k i u a s'∧Rd p' m:=by
 obtain ⟨r,hr,hR,_,_,_⟩:=pick_f b p 6 (m+6) hb hp
 by_cases h0:r=0
 ·obtain ⟨x,p1,hx,hR1,x0,x1⟩:=did_f b (p+1) (m+4) hb hR
  obtain ⟨k,i,u,a,s',p',h1,h2,h3⟩:=op_j3 b hb w md id x at_ s p1 m hi (i64_small (by omega) (by omega)) ha hs hR1
  refine ⟨k,i,u,a,s',p',?_,h2,h3⟩
  refine Ev.step (fun n=>by simp only [spec_l72Op.j2];rfl) ?_
  exact Ev.bind hr (ev_pos h0 (Ev.bind hx h1))
 ·obtain ⟨k,i,u,a,s',p',h1,h2,h3⟩:=op_j3 b hb w md id up at_ s (p+1) m hi hu ha hs (hR.less (by omega))
  refine ⟨k,i,u,a,s',p',?_,h2,h3⟩
  refine Ev.step (fun n=>by simp only [spec_l72Op.j2];rfl) ?_
  exact Ev.bind hr (ev_neg h0 h1)
theorem op_j1 (b:List Int) (hb:Bytes b) (w md id up at_:Int) (p:Int) (m:Nat) (hi:I64 id) (hu:I64 up) (ha:I64 at_) (hp:Rd p (m+13)) :
  ∃ (k i u a:Int) (s':ByteArray) (p':Int),Ev (fun n=>spec_l72Op.j1 n w md id up at_ b p) (k,i,u,a,s',p')∧OpD k i u a s'∧Rd p' m:=by
 obtain ⟨s,p1,hx,hR1,hs⟩:=dtext_f b p (m+7) hb hp
 have ht:=text_f s (by omega)
 cases hB:textB s with
 | true =>
  rw [hB] at ht
  obtain ⟨k,i,u,a,s',p',h1,h2,h3⟩:=op_j2 b hb w md id up at_ s p1 m hi hu ha (by omega) hR1
  refine ⟨k,i,u,a,s',p',?_,h2,h3⟩
  refine Ev.step (fun n=>by simp only [spec_l72Op.j1];rfl) ?_
  exact Ev.bind hx (Ev.bind ht (ev_pos rfl h1))
 | false =>
  rw [hB] at ht
  obtain ⟨k,i,u,a,s',p',h1,h2,h3⟩:=op_j2 b hb w md id up at_ ⟨#[97]⟩ p1 m hi hu ha (by decide) hR1
  refine ⟨k,i,u,a,s',p',?_,h2,h3⟩
  refine Ev.step (fun n=>by simp only [spec_l72Op.j1];rfl) ?_
  exact Ev.bind hx (Ev.bind ht (ev_neg (by decide) h1))
theorem op_j0 (b:List Int) (hb:Bytes b) (w md id up at_:Int) (ks:List Int) (f:Bool) (p:Int) (m:Nat) (hi:I64 id) (hu:I64 up) (ha:I64 at_) (hk:∀ x∈ks,I64 x) (hk0:f=true→0 < ks.length) (hp:Rd p (m+14)) :
  ∃ (k i u a:Int) (s':ByteArray) (p':Int),Ev (fun n=>spec_l72Op.j0 n w md id up ks at_ f b p) (k,i,u,a,s',p')∧OpD k i u a s'∧Rd p' m:=by
 cases f with
 | true =>
  have h0:=hk0 rfl
  obtain ⟨r,hr,hR,r0,r1,_⟩:=pick_f b p (ks.length:Int) (m+13) hb hp
  have r1:=r1 (by omega)
  have hi':r.toNat < ks.length:=by omega
  have hrd:rd ks r=ks[r.toNat]:=by
   unfold rd
   rw [List.getD_eq_getElem?_getD,List.getElem?_eq_getElem hi']
   rfl
  obtain ⟨k,i,u,a,s',p',h1,h2,h3⟩:=op_j1 b hb w md id up (ks[r.toNat]) (p+1) m hi hu (hk _ (List.getElem_mem hi')) hR
  refine ⟨k,i,u,a,s',p',?_,h2,h3⟩
  refine Ev.step (fun n=>by simp only [spec_l72Op.j0];rfl) ?_
  refine ev_pos (by simp) (Ev.bind hr (ev_pos r0 (ev_pos r1 ?_)))
  rw [hrd]
  exact h1
 | false =>
  obtain ⟨k,i,u,a,s',p',h1,h2,h3⟩:=op_j1 b hb w md id up at_ p m hi hu ha (hp.less (by omega))
  refine ⟨k,i,u,a,s',p',?_,h2,h3⟩
  refine Ev.step (fun n=>by simp only [spec_l72Op.j0];rfl) ?_
  exact ev_neg (by decide) h1
theorem op72_f (b:List Int) (hb:Bytes b) (t:List S69) (B w md p:Int) (m:Nat) (hI:Inv t B) (hl:t.length≤1000000) (hp:Rd p (m+17)) :
  ∃ (k i u a:Int) (s':ByteArray) (p':Int),Ev (fun n=>spec_l72Op.f n b p t w md) (k,i,u,a,s',p')∧OpD k i u a s'∧Rd p' m:=by
 obtain ⟨x,hx,_⟩:=hI.found
 have h0:0 < t.length:=List.length_pos_of_mem hx
 obtain ⟨r,hr,hR,r0,r1,_⟩:=pick_f b p (t.length:Int) (m+16) hb hp
 have r1:=r1 (by omega)
 obtain ⟨q,hq,hQ,q0,q1,_⟩:=pick_f b (p+1) (t.length:Int) (m+15) hb hR
 have q1:=q1 (by omega)
 obtain ⟨rn,rfl⟩:∃ n:Nat,r=n:=⟨r.toNat,by omega⟩
 obtain ⟨qn,rfl⟩:∃ n:Nat,q=n:=⟨q.toNat,by omega⟩
 have hrn:rn < t.length:=by omega
 have hqn:qn < t.length:=by omega
 have ir:=(hI.ids _ (List.getElem_mem hrn)).1
 have iq:=(hI.ids _ (List.getElem_mem hqn)).1
 obtain ⟨ks,hks,hkl,hkk⟩:=kids_f t t[qn].f0 hl
 have hk64:∀ x∈ks,I64 x:=fun x hx=>by
  obtain ⟨_,_,_,j,hj,_,_,e,_⟩:=hkk x hx
  rw [←e]
  exact (hI.ids _ (List.getElem_mem hj)).1
 by_cases hz:(ks.length:Int) > 0
 ·obtain ⟨z,hz',hZ,_,_,_⟩:=pick_f b (p+1+1) 2 (m+14) hb hQ
  obtain ⟨k,i,u,a,s',p',h1,h2,h3⟩:=op_j0 b hb w md t[rn].f0 t[qn].f0 0 ks (z==0) (p+1+1+1) m ir iq (i64_small (by omega) (by omega)) hk64 (fun _=>by omega) hZ
  refine ⟨k,i,u,a,s',p',?_,h2,h3⟩
  unfold spec_l72Op.f
  refine Ev.bind hr (ev_pos r0 (ev_pos r1 (Ev.bind hq (ev_pos q0 (ev_pos q1 ?_)))))
  simp only [rdR_get t rn hrn,rdR_get t qn hqn]
  exact Ev.bind hks (ev_pos hz (Ev.bind hz' h1))
 ·obtain ⟨k,i,u,a,s',p',h1,h2,h3⟩:=op_j0 b hb w md t[rn].f0 t[qn].f0 0 ks false (p+1+1) m ir iq (i64_small (by omega) (by omega)) hk64 (fun h=>by cases h) (hQ.less (by omega))
  refine ⟨k,i,u,a,s',p',?_,h2,h3⟩
  unfold spec_l72Op.f
  refine Ev.bind hr (ev_pos r0 (ev_pos r1 (Ev.bind hq (ev_pos q0 (ev_pos q1 ?_)))))
  simp only [rdR_get t rn hrn,rdR_get t qn hqn]
  exact Ev.bind hks (ev_neg hz h1)
theorem wrap_I64 (x:Int):I64 (wrap64 x):=by unfold wrap64;exact ⟨by omega,by omega⟩
def OpX (k i u a:Int) (s:ByteArray):Prop:=I64 k∧I64 i∧I64 u∧I64 a∧s.size≤2000
theorem opx_j1 (b:List Int) (hb:Bytes b) (k i u a p:Int) (s:ByteArray) (m:Nat) (h:OpX k i u a s) (hp:Rd p (m+2)) :
  ∃ (k' i' u' a':Int) (s':ByteArray) (p':Int),Ev (fun n=>spec_l71Op.j1 n b p k i u a s) (k',i',u',a',s',p')∧OpX k' i' u' a' s'∧Rd p' m:=by
 obtain ⟨h1,h2,h3,h4,h5⟩:=h
 obtain ⟨r,hr,hR,r0,r1,_⟩:=pick_f b p 30 (m+1) hb hp
 obtain ⟨x,hx,hX,x0,x1,_⟩:=pick_f b (p+1) 5 m hb hR
 obtain ⟨y,hy,hY,y0,y1,_⟩:=pick_f b (p+1) 50 m hb hR
 have x1:=x1 (by omega)
 have y1:=y1 (by omega)
 have ix:I64 x:=i64_small (by omega) (by omega)
 have iy:I64 y:=i64_small (by omega) (by omega)
 by_cases e0:r=0
 ·refine ⟨x,i,u,a,s,p+1+1,?_,⟨ix,h2,h3,h4,h5⟩,hX⟩
  refine Ev.step (fun n=>by simp only [spec_l71Op.j1];rfl) ?_
  exact Ev.bind hr (ev_pos e0 (Ev.bind hx (evnow _)))
 ·by_cases e1:r=1
  ·refine ⟨k,y,u,a,s,p+1+1,?_,⟨h1,iy,h3,h4,h5⟩,hX⟩
   refine Ev.step (fun n=>by simp only [spec_l71Op.j1];rfl) ?_
   exact Ev.bind hr (ev_neg e0 (ev_pos e1 (Ev.bind hy (evnow _))))
  ·by_cases e2:r=2
   ·refine ⟨k,i,y,a,s,p+1+1,?_,⟨h1,h2,iy,h4,h5⟩,hX⟩
    refine Ev.step (fun n=>by simp only [spec_l71Op.j1];rfl) ?_
    exact Ev.bind hr (ev_neg e0 (ev_neg e1 (ev_pos e2 (Ev.bind hy (evnow _)))))
   ·by_cases e3:r=3
    ·refine ⟨k,i,u,y,s,p+1+1,?_,⟨h1,h2,h3,iy,h5⟩,hX⟩
     refine Ev.step (fun n=>by simp only [spec_l71Op.j1];rfl) ?_
     exact Ev.bind hr (ev_neg e0 (ev_neg e1 (ev_neg e2 (ev_pos e3 (Ev.bind hy (evnow _))))))
    ·refine ⟨k,i,u,a,s,p+1,?_,⟨h1,h2,h3,h4,h5⟩,hR.less (by omega)⟩
     refine Ev.step (fun n=>by simp only [spec_l71Op.j1];rfl) ?_
     exact Ev.bind hr (ev_neg e0 (ev_neg e1 (ev_neg e2 (ev_neg e3 (evnow _)))))
theorem opx_j0 (b:List Int) (hb:Bytes b) (up at_ w:Int) (f:Bool) (k i u a p:Int) (s:ByteArray) (m:Nat) (h:OpX k i u a s) (hu:I64 up) (ha:I64 at_) (hp:Rd p (m+2)) :
  ∃ (k' i' u' a':Int) (s':ByteArray) (p':Int),Ev (fun n=>spec_l71Op.j0 n up at_ w f b p k i u a s) (k',i',u',a',s',p')∧OpX k' i' u' a' s'∧Rd p' m:=by
 obtain ⟨h1,h2,h3,h4,h5⟩:=h
 have j1:I64 1:=i64_small (by omega) (by omega)
 have j3:I64 3:=i64_small (by omega) (by omega)
 cases f with
 | true =>
  obtain ⟨k',i',u',a',s',p',g1,g2,g3⟩:=opx_j1 b hb 1 i up at_ p s m ⟨j1,h2,hu,ha,h5⟩ hp
  refine ⟨k',i',u',a',s',p',?_,g2,g3⟩
  refine Ev.step (fun n=>by simp only [spec_l71Op.j0];rfl) ?_
  exact ev_pos (by simp) g1
 | false =>
  obtain ⟨k',i',u',a',s',p',g1,g2,g3⟩:=opx_j1 b hb 3 i up at_ p ⟨#[]⟩ m ⟨j3,h2,hu,ha,by decide⟩ hp
  by_cases w2:w=2
  ·refine ⟨k',i',u',a',s',p',?_,g2,g3⟩
   refine Ev.step (fun n=>by simp only [spec_l71Op.j0];rfl) ?_
   exact ev_neg (by decide) (ev_pos w2 g1)
  ·by_cases w3:w=3
   ·refine ⟨k',i',u',a',s',p',?_,g2,g3⟩
    refine Ev.step (fun n=>by simp only [spec_l71Op.j0];rfl) ?_
    exact ev_neg (by decide) (ev_neg w2 (ev_pos w3 g1))
   ·obtain ⟨k',i',u',a',s',p',g1,g2,g3⟩:=opx_j1 b hb k i u a p s m ⟨h1,h2,h3,h4,h5⟩ hp
    refine ⟨k',i',u',a',s',p',?_,g2,g3⟩
    refine Ev.step (fun n=>by simp only [spec_l71Op.j0];rfl) ?_
    exact ev_neg (by decide) (ev_neg w2 (ev_neg w3 g1))
theorem rd_mem (l:List Int) (r:Int) (h0:0≤r) (h1:r < l.length):rd l r∈l:=by
 have hi:r.toNat < l.length:=by omega
 unfold rd
 rw [List.getD_eq_getElem?_getD,List.getElem?_eq_getElem hi]
 exact List.getElem_mem hi
theorem op71_f (b:List Int) (hb:Bytes b) (p:Int) (m:Nat) (hp:Rd p (m+17)) :
  ∃ (k i u a:Int) (s:ByteArray) (p':Int),Ev (fun n=>spec_l71Op.f n b p) (k,i,u,a,s,p')∧OpX k i u a s∧Rd p' m:=by
 obtain ⟨i,p1,hi,R1,i0,i1⟩:=did_f b p (m+15) hb hp
 obtain ⟨s,p2,hs,R2,s0⟩:=dtext_f b p1 (m+9) hb R1
 obtain ⟨u,p3,hu,R3,u0,u1⟩:=did_f b p2 (m+7) hb R2
 obtain ⟨x,hx,R4,x0,x1,_⟩:=pick_f b p3 5 (m+6) hb R3
 have x1:=x1 (by omega)
 obtain ⟨v,p5,hv,R5,v0,v1⟩:=did_f b (p3+1) (m+4) hb R4
 obtain ⟨y,hy,R6,y0,y1,_⟩:=pick_f b p5 2 (m+3) hb R5
 have y1:=y1 (by omega)
 obtain ⟨z,hz,R7,z0,z1,_⟩:=pick_f b (p5+1) 5 (m+2) hb R6
 have iu:I64 (rd ([1,1,u,2,3]:List Int) x):=by
  have:=rd_mem ([1,1,u,2,3]:List Int) x x0 (by simpa using x1)
  simp only [List.mem_cons,List.not_mem_nil,or_false] at this
  exact i64_small (by omega) (by omega)
 have ia:I64 (rd ([0,v]:List Int) y):=by
  have:=rd_mem ([0,v]:List Int) y y0 (by simpa using y1)
  simp only [List.mem_cons,List.not_mem_nil,or_false] at this
  exact i64_small (by omega) (by omega)
 have hX:OpX 2 i 0 0 s:=⟨i64_small (by omega) (by omega),i64_small (by omega) (by omega),i64_small (by omega) (by omega),i64_small (by omega) (by omega),by omega⟩
 unfold spec_l71Op.f
 by_cases e0:z=0
 ·obtain ⟨k',i',u',a',s',p',g1,g2,g3⟩:=opx_j0 b hb _ _ z (z==0) 2 i 0 0 (p5+1+1) s m hX iu ia R7
  refine ⟨k',i',u',a',s',p',?_,g2,g3⟩
  refine Ev.bind hi (Ev.bind hs (Ev.bind hu ?_))
  simp only [Option.bind_some]
  refine Ev.bind hx (ev_pos x0 (ev_pos (by simpa using x1) (Ev.bind hv ?_)))
  refine Ev.bind hy (ev_pos y0 (ev_pos (by simpa using y1) (Ev.bind hz (ev_pos e0 g1))))
 ·obtain ⟨k',i',u',a',s',p',g1,g2,g3⟩:=opx_j0 b hb _ _ z (z==1) 2 i 0 0 (p5+1+1) s m hX iu ia R7
  refine ⟨k',i',u',a',s',p',?_,g2,g3⟩
  refine Ev.bind hi (Ev.bind hs (Ev.bind hu ?_))
  simp only [Option.bind_some]
  refine Ev.bind hx (ev_pos x0 (ev_pos (by simpa using x1) (Ev.bind hv ?_)))
  refine Ev.bind hy (ev_pos y0 (ev_pos (by simpa using y1) (Ev.bind hz (ev_neg e0 g1))))
theorem wfL_snoc {l:List S44} (h:wfL l) {e:S44} (he:wfE e):wfL (l++[e]):=by
 intro x hx
 rcases List.mem_append.1 hx with hx|hx
 ·exact h x hx
 ·rw [List.mem_singleton.1 hx];exact he
theorem log_end (b:List Int) (hb:Bytes b) (l:List S44) (t:List S69) (md:List Int) (p:Int) (m:Nat) (hw:wfL l) (hl:l.length≤20) (hp:Rd p (m+20)) :
  ∃ (l':List S44) (p':Int),Ev (fun k=>spec_l72Log.l0 k l t md 0 b p) (l',p')∧wfL l'∧l'.length≤21∧Rd p' m:=by
 obtain ⟨r,hr,hR,r0,r1,_⟩:=pick_f b p 24 (m+19) hb hp
 by_cases e0:r=0
 ·obtain ⟨x,hx,hX,x0,x1,_⟩:=pick_f b (p+1) 3 (m+18) hb hR
  obtain ⟨y,hy,hY,y0,y1,_⟩:=pick_f b (p+1+1) 4 (m+17) hb hX
  obtain ⟨k,i,u,a,s,p',h1,⟨g1,g2,g3,g4,g5⟩,h3⟩:=op71_f b hb (p+1+1+1) m hY
  refine ⟨l++[⟨wrap64 (1+x),wrap64 (1+y),⟨k,i,u,a,s⟩⟩],p',?_,wfL_snoc hw ⟨wrap_I64 _,wrap_I64 _,g1,g2,g3,g4,by show s.size≤_;omega⟩,by simp;omega,h3⟩
  refine Ev.step (fun n=>by simp only [spec_l72Log.l0];rfl) ?_
  exact ev_neg (by omega) (Ev.bind hr (ev_pos e0 (Ev.bind hx (Ev.bind hy (Ev.bind h1 (ev_pos (by omega) (evnow _)))))))
 ·by_cases e1:r=1
  ·by_cases hz:(l.length:Int) > 0
   ·obtain ⟨x,hx,hX,x0,x1,_⟩:=pick_f b (p+1) (l.length:Int) (m+18) hb hR
    obtain ⟨y,hy,hY,y0,y1,_⟩:=pick_f b (p+1+1) 4 (m+17) hb hX
    have x1:=x1 (by omega)
    have y1:=y1 (by omega)
    obtain ⟨j,rfl⟩:∃ n:Nat,x=n:=⟨x.toNat,by omega⟩
    have hj:j < l.length:=by omega
    have hwj:=hw _ (List.getElem_mem hj)
    refine ⟨l.set j ⟨l[j].f0,y,⟨l[j].f2.f0,l[j].f2.f1,l[j].f2.f2,l[j].f2.f3,l[j].f2.f4⟩⟩,p+1+1+1,?_,?_,by rw [List.length_set];omega,hY.less (by omega)⟩
    ·refine Ev.step (fun n=>by simp only [spec_l72Log.l0];rfl) ?_
     refine ev_neg (by omega) (Ev.bind hr (ev_neg e0 (ev_pos e1 (ev_pos hz (Ev.bind hx (Ev.bind hy (ev_pos x0 (ev_pos x1 ?_))))))))
     simp only [rdE_get l j hj,Int.toNat_natCast]
     exact evnow _
    ·intro e he
     rcases List.mem_or_eq_of_mem_set he with he|rfl
     ·exact hw e he
     ·obtain ⟨q0,q1,q2,q3,q4,q5,q6⟩:=hwj
      have iy:I64 y:=i64_small (by omega) (by omega)
      exact ⟨q0,iy,q2,q3,q4,q5,q6⟩
   ·refine ⟨l,p+1,?_,hw,by omega,hR.less (by omega)⟩
    refine Ev.step (fun n=>by simp only [spec_l72Log.l0];rfl) ?_
    exact ev_neg (by omega) (Ev.bind hr (ev_neg e0 (ev_pos e1 (ev_neg hz (evnow _)))))
  ·refine ⟨l,p+1,?_,hw,by omega,hR.less (by omega)⟩
   refine Ev.step (fun n=>by simp only [spec_l72Log.l0];rfl) ?_
   exact ev_neg (by omega) (Ev.bind hr (ev_neg e0 (ev_neg e1 (evnow _))))
theorem log_l0 (b:List Int) (hb:Bytes b):∀ (n:Nat) (l:List S44) (t:List S69) (B:Nat) (md:List Int) (p:Int) (m:Nat),wfL l→l.length+n≤20→Inv t B→(B+1) * 2 ^ n≤16384→t.length+n≤100→md.length=3→Rd p (m+18 * n+20) →
  ∃ (l':List S44) (p':Int),Ev (fun k=>spec_l72Log.l0 k l t md n b p) (l',p')∧wfL l'∧l'.length≤21∧Rd p' m
 | 0,l,t,B,md,p,m,hw,hl,hI,hB,ht,hm,hp=>log_end b hb l t md p m hw (by omega) (hp.less (by omega))
 | n+1,l,t,B,md,p,m,hw,hl,hI,hB,ht,hm,hp=>by
  obtain ⟨r,hr,hR,r0,r1,_⟩:=pick_f b p 3 (m+18 * n+37) hb (hp.less (by omega))
  have r1:=r1 (by omega)
  have w1:wrap64 (1+r)=1+r:=wrap_id _ (by omega) (by omega)
  have w2:wrap64 (1+r - 1)=r:=by rw [wrap_id _ (by omega) (by omega)];omega
  obtain ⟨k,i,u,a,s,p',h1,⟨hk,hi3,g2,g3,g4,g5⟩,h3⟩:=op72_f b hb t B (1+r) (rd md r) (p+1) (m+18 * n+20) hI (by omega) hR
  have hB2:B+1≤16384:=Nat.le_trans (Nat.le_mul_of_pos_right _ (Nat.two_pow_pos _)) hB
  obtain ⟨t',ht',hI',hlt⟩:=do_f t B k i u a s hI (by omega) (by omega) hk hi3 g2 (by omega) g5
  have hI2:Inv t' ((2 * B+1:Nat):Int):=hI'.more (by omega)
  have hB3:(2 * B+1+1) * 2 ^ n≤16384:=by
   have e:(2 * B+1+1) * 2 ^ n=(B+1) * 2 ^ (n+1):=by rw [Nat.pow_succ,show 2 * B+1+1=(B+1) * 2 by omega,Nat.mul_assoc,Nat.mul_comm 2]
   rw [e];exact hB
  have hs:=seq_f l (1+r) (by omega)
  have hkx:I64 k:=by rcases hk with rfl|rfl|rfl <;> exact i64_small (by omega) (by omega)
  have ir:I64 (1+r):=i64_small (by omega) (by omega)
  have hwe:wfE (⟨1+r,wrap64 (cntE l (1+r)+1),⟨k,i,u,a,s⟩⟩:S44):=⟨ir,wrap_I64 _,hkx,g2,g3,g4,by show s.size≤_;omega⟩
  have wn:wrap64 (((n+1:Nat):Int) - 1)=n:=by rw [wrap_id _ (by omega) (by omega)];omega
  by_cases e1:k=1
  ·obtain ⟨l',q,f1,f2,f3,f4⟩:=log_l0 b hb n (l++[⟨1+r,wrap64 (cntE l (1+r)+1),⟨k,i,u,a,s⟩⟩]) t' (2 * B+1) (md.set r.toNat (wrap64 (rd md r+1))) p' m (wfL_snoc hw hwe) (by simp;omega) hI2 hB3 (by omega) (by rw [List.length_set];exact hm) h3
   refine ⟨l',q,?_,f2,f3,f4⟩
   refine Ev.step (fun n=>by simp only [spec_l72Log.l0];rfl) ?_
   refine ev_pos (by omega) (Ev.bind hr ?_)
   simp only [w1,w2]
   refine ev_pos r0 (ev_pos (by omega) (Ev.bind h1 (ev_pos e1 (Ev.bind hs (ev_pos (by omega) (Ev.bind ht' ?_))))))
   rw [wn]
   exact f1
  ·obtain ⟨l',q,f1,f2,f3,f4⟩:=log_l0 b hb n (l++[⟨1+r,wrap64 (cntE l (1+r)+1),⟨k,i,u,a,s⟩⟩]) t' (2 * B+1) md p' m (wfL_snoc hw hwe) (by simp;omega) hI2 hB3 (by omega) hm h3
   refine ⟨l',q,?_,f2,f3,f4⟩
   refine Ev.step (fun n=>by simp only [spec_l72Log.l0];rfl) ?_
   refine ev_pos (by omega) (Ev.bind hr ?_)
   simp only [w1,w2]
   refine ev_pos r0 (ev_pos (by omega) (Ev.bind h1 (ev_neg e1 (Ev.bind hs (ev_pos (by omega) (Ev.bind ht' ?_))))))
   rw [wn]
   exact f1
theorem log72_f (b:List Int) (hb:Bytes b) (p:Int) (m:Nat) (hp:Rd p (m+300)):∃ (l:List S44) (p':Int),Ev (fun k=>spec_l72Log.f k b p) (l,p')∧wfL l∧l.length≤21∧Rd p' m:=by
 obtain ⟨r,hr,hR,r0,r1,_⟩:=pick_f b p 14 (m+299) hb hp
 have r1:=r1 (by omega)
 obtain ⟨n,rfl⟩:∃ n:Nat,r=n:=⟨r.toNat,by omega⟩
 have hI:Inv ([⟨1,0,⟨#[]⟩⟩,⟨2,0,⟨#[]⟩⟩,⟨3,0,⟨#[]⟩⟩]:List S69) ((0:Nat):Int):=by
  refine ⟨fun x hx=>?_,fun x hx h3=>?_,⟨⟨3,0,⟨#[]⟩⟩,by simp,rfl⟩,fun x hx=>?_⟩
  all_goals simp only [List.mem_cons,List.not_mem_nil,or_false] at hx
  ·rcases hx with rfl|rfl|rfl <;> exact ⟨Int.le_refl _,Int.le_refl _⟩
  ·rcases hx with rfl|rfl|rfl <;> rfl
  ·rcases hx with rfl|rfl|rfl <;> exact ⟨i64_small (by decide) (by decide),by decide⟩
 have hpow:(0+1) * 2 ^ n≤16384:=by
  have:2 ^ n≤2 ^ 14:=Nat.pow_le_pow_right (by decide) (by omega)
  omega
 obtain ⟨l,p',h1,h2,h3,h4⟩:=log_l0 b hb n [] _ 0 [0,0,0] (p+1) m (fun e he=>by cases he) (by simp;omega) hI hpow (by simp;omega) rfl (hR.less (by omega))
 refine ⟨l,p',?_,h2,h3,h4⟩
 unfold spec_l72Log.f spec_TreeNew.f
 simp only [Option.bind_some]
 exact Ev.bind hr h1
theorem open_f (code:List Int) (h:∀ x∈code,0≤x∧x≤255):∃ b:List Int,spec_l6Open.f code=some (b,0)∧Bytes b:=by
 unfold spec_l6Open.f
 by_cases hl:(code.length:Int) > 2000
 ·refine ⟨code.take 2000,by rw [if_pos hl,if_pos (by omega)],by rw [List.length_take];omega,fun x hx=>h x (List.mem_of_mem_take hx)⟩
 ·exact ⟨code,by rw [if_neg hl],by omega,h⟩
theorem byte_of {x:Int} (h:(Lit.int .u8 x).wf=true):0≤x∧x≤255:=by
 simp only [Lit.wf,Bool.and_eq_true,decide_eq_true_eq] at h
 exact ⟨h.1,h.2⟩
theorem dent_j1 (b:List Int) (hb:Bytes b) (e:S44) (he:wfE e) (p:Int) (hp:Rd p 10):∃ e':S44,Ev (fun k=>spec_DrawEntryOk.j1 k b p e.f0 e.f1 e.f2.f0 e.f2.f1 e.f2.f2 e.f2.f3 e.f2.f4) (e'.f0,e'.f1,e'.f2.f0,e'.f2.f1,e'.f2.f2,e'.f2.f3,e'.f2.f4)∧wfE e':=by
 obtain ⟨q0,q1,q2,q3,q4,q5,q6⟩:=he
 obtain ⟨r,hr,hR,r0,r1,_⟩:=pick_f b p 12 9 hb hp
 by_cases e0:r=0
 ·obtain ⟨x,hx,hX,x0,x1,_⟩:=pick_f b (p+1) 6 8 hb hR
  refine ⟨⟨wrap64 (x - 1),e.f1,e.f2⟩,?_,wrap_I64 _,q1,q2,q3,q4,q5,q6⟩
  refine Ev.step (fun n=>by simp only [spec_DrawEntryOk.j1];rfl) ?_
  exact Ev.bind hr (ev_pos e0 (Ev.bind hx (evnow _)))
 ·by_cases e1:r=1
  ·obtain ⟨x,hx,hX,x0,x1,_⟩:=pick_f b (p+1) 3 8 hb hR
   have x1:=x1 (by omega)
   have ix:I64 (rd ([0,40,41]:List Int) x):=by
    have:=rd_mem ([0,40,41]:List Int) x x0 (by simpa using x1)
    simp only [List.mem_cons,List.not_mem_nil,or_false] at this
    exact i64_small (by omega) (by omega)
   refine ⟨⟨e.f0,rd ([0,40,41]:List Int) x,e.f2⟩,?_,q0,ix,q2,q3,q4,q5,q6⟩
   refine Ev.step (fun n=>by simp only [spec_DrawEntryOk.j1,Option.bind_some];rfl) ?_
   exact Ev.bind hr (ev_neg e0 (ev_pos e1 (Ev.bind hx (ev_pos x0 (ev_pos (by simpa using x1) (evnow _))))))
  ·refine ⟨e,?_,q0,q1,q2,q3,q4,q5,q6⟩
   refine Ev.step (fun n=>by simp only [spec_DrawEntryOk.j1];rfl) ?_
   exact Ev.bind hr (ev_neg e0 (ev_neg e1 (evnow _)))
theorem dent_j0 (b:List Int) (hb:Bytes b) (e:S44) (he:wfE e) (f:Bool) (p:Int) (hp:Rd p 10):∃ e':S44,Ev (fun k=>spec_DrawEntryOk.j0 k f b p e.f0 e.f1 e.f2.f0 e.f2.f1 e.f2.f2 e.f2.f3 e.f2.f4) (e'.f0,e'.f1,e'.f2.f0,e'.f2.f1,e'.f2.f2,e'.f2.f3,e'.f2.f4)∧wfE e':=by
 cases f with
 | true =>
  obtain ⟨q0,q1,q2⟩:=he
  obtain ⟨e',h1,h2⟩:=dent_j1 b hb ⟨wrap64 (Int.tdiv e.f2.f1 10),e.f1,e.f2⟩ ⟨wrap_I64 _,q1,q2⟩ p hp
  refine ⟨e',?_,h2⟩
  refine Ev.step (fun n=>by simp only [spec_DrawEntryOk.j0];rfl) ?_
  exact ev_pos (by simp) h1
 | false =>
  obtain ⟨e',h1,h2⟩:=dent_j1 b hb e he p hp
  refine ⟨e',?_,h2⟩
  refine Ev.step (fun n=>by simp only [spec_DrawEntryOk.j0];rfl) ?_
  exact ev_neg (by decide) h1
theorem dent_f (code:List Int) (h:∀ x∈code,(Lit.int .u8 x).wf=true):∃ e:S44,Ev (fun k=>spec_DrawEntryOk.f k code) (e.f0,e.f1,e.f2.f0,e.f2.f1,e.f2.f2,e.f2.f3,e.f2.f4)∧wfE e:=by
 obtain ⟨b,hb,hB⟩:=open_f code (fun x hx=>byte_of (h x hx))
 obtain ⟨x,hx,hX,x0,x1,_⟩:=pick_f b 0 3 40 hB ⟨by omega,by omega⟩
 obtain ⟨y,hy,hY,y0,y1,_⟩:=pick_f b (0+1) 9 39 hB hX
 obtain ⟨k,i,u,a,s,p',g1,⟨q1,q2,q3,q4,q5⟩,g3⟩:=op71_f b hB (0+1+1) 20 (hY.less (by omega))
 have he:wfE (⟨wrap64 (1+x),wrap64 (1+y),⟨k,i,u,a,s⟩⟩:S44):=⟨wrap_I64 _,wrap_I64 _,q1,q2,q3,q4,by show s.size≤_;omega⟩
 by_cases e1:k=1
 ·obtain ⟨z,hz,hZ,z0,z1,_⟩:=pick_f b p' 4 19 hB g3
  obtain ⟨e',h1,h2⟩:=dent_j0 b hB ⟨wrap64 (1+x),wrap64 (1+y),⟨k,i,u,a,s⟩⟩ he (decide (z > 0)) (p'+1) (hZ.less (by omega))
  refine ⟨e',?_,h2⟩
  unfold spec_DrawEntryOk.f
  rw [hb]
  simp only [Option.bind_some]
  exact Ev.bind hx (Ev.bind hy (Ev.bind g1 (ev_pos e1 (Ev.bind hz h1))))
 ·obtain ⟨e',h1,h2⟩:=dent_j0 b hB ⟨wrap64 (1+x),wrap64 (1+y),⟨k,i,u,a,s⟩⟩ he false p' (g3.less (by omega))
  refine ⟨e',?_,h2⟩
  unfold spec_DrawEntryOk.f
  rw [hb]
  simp only [Option.bind_some]
  exact Ev.bind hx (Ev.bind hy (Ev.bind g1 (ev_neg e1 h1)))
theorem dadd_j0 (code:List Int) (h:∀ x∈code,(Lit.int .u8 x).wf=true) (b:List Int) (hb:Bytes b) (l:List S44) (hw:wfL l) (hl:l.length≤21) (p:Int) (hp:Rd p 10) (f:Bool) (hf:f=true→0 < l.length):∃ e:S44,Ev (fun k=>spec_DrawLogAdd.j0 k code l f b p) (l,e.f0,e.f1,e.f2.f0,e.f2.f1,e.f2.f2,e.f2.f3,e.f2.f4)∧wfE e:=by
 cases f with
 | true =>
  have h0:=hf rfl
  obtain ⟨x,hx,hX,x0,x1,_⟩:=pick_f b p (l.length:Int) 9 hb hp
  have x1:=x1 (by omega)
  obtain ⟨j,rfl⟩:∃ n:Nat,x=n:=⟨x.toNat,by omega⟩
  have hj:j < l.length:=by omega
  refine ⟨l[j],?_,hw _ (List.getElem_mem hj)⟩
  refine Ev.step (fun n=>by simp only [spec_DrawLogAdd.j0];rfl) ?_
  refine ev_pos (by simp) (Ev.bind hx (ev_pos x0 (ev_pos x1 ?_)))
  simp only [rdE_get l j hj]
  exact evnow _
 | false =>
  obtain ⟨e,he,hE⟩:=dent_f code h
  obtain ⟨x,hx,hX,x0,x1,_⟩:=pick_f b p 6 9 hb hp
  by_cases c0:x > 0
  ·obtain ⟨q0,q1,q2⟩:=hE
   refine ⟨⟨e.f0,wrap64 (cntE l e.f0+1),e.f2⟩,?_,q0,wrap_I64 _,q2⟩
   refine Ev.step (fun n=>by simp only [spec_DrawLogAdd.j0];rfl) ?_
   exact ev_neg (by decide) (Ev.bind he (Ev.bind hx (ev_pos c0 (Ev.bind (seq_f l e.f0 (by omega)) (evnow _)))))
  ·refine ⟨e,?_,hE⟩
   refine Ev.step (fun n=>by simp only [spec_DrawLogAdd.j0];rfl) ?_
   exact ev_neg (by decide) (Ev.bind he (Ev.bind hx (ev_neg c0 (evnow _))))
theorem drawAdd_f (code:List Int) (h:∀ x∈code,(Lit.int .u8 x).wf=true):∃ (l:List S44) (e:S44),Ev (fun k=>spec_DrawLogAdd.f k code) (l,e.f0,e.f1,e.f2.f0,e.f2.f1,e.f2.f2,e.f2.f3,e.f2.f4)∧wfL l∧wfE e∧l.length≤21:=by
 obtain ⟨b,hb,hB⟩:=open_f code (fun x hx=>byte_of (h x hx))
 obtain ⟨l,p,h1,h2,h3,h4⟩:=log72_f b hB 0 30 ⟨by omega,by omega⟩
 by_cases c0:(l.length:Int) > 0
 ·obtain ⟨x,hx,hX,x0,x1,_⟩:=pick_f b p 4 29 hB h4
  obtain ⟨e,he,hE⟩:=dadd_j0 code h b hB l h2 h3 (p+1) (hX.less (by omega)) (x==0) (fun _=>by omega)
  refine ⟨l,e,?_,h2,hE,h3⟩
  unfold spec_DrawLogAdd.f
  rw [hb]
  simp only [Option.bind_some]
  exact Ev.bind h1 (ev_pos c0 (Ev.bind hx he))
 ·obtain ⟨e,he,hE⟩:=dadd_j0 code h b hB l h2 h3 p (h4.less (by omega)) false (fun h=>by cases h)
  refine ⟨l,e,?_,h2,hE,h3⟩
  unfold spec_DrawLogAdd.f
  rw [hb]
  simp only [Option.bind_some]
  exact Ev.bind h1 (ev_neg c0 he)
def eqEn (a b:S44):Bool:=a.f0==b.f0&&(a.f1==b.f1&&(a.f2.f0==b.f2.f0&&(a.f2.f1==b.f2.f1&&(a.f2.f2==b.f2.f2&&(a.f2.f3==b.f2.f3&&(a.f2.f4.toList==b.f2.f4.toList))))))
theorem eqEn_comm (a b:S44):eqEn a b=eqEn b a:=by
 have h:∀ a b:S44,eqEn a b=true→eqEn b a=true:=by
  intro a b h
  unfold eqEn at *
  simp only [Bool.and_eq_true,beq_iff_eq] at *
  obtain ⟨h0,h1,h2,h3,h4,h5,h6⟩:=h
  exact ⟨h0.symm,h1.symm,h2.symm,h3.symm,h4.symm,h5.symm,h6.symm⟩
 exact Bool.eq_iff_iff.2 ⟨h a b,h b a⟩
def hasE (l:List S44) (e:S44):Bool:=l.any fun x=>eqEn x e
theorem hasE_cons (x:S44) (l:List S44) (e:S44):hasE (x::l) e=(eqEn x e || hasE l e):=rfl
theorem has_l0 (l:List S44) (e:S44) (hl:l.length≤1099511627776):∀ n i:Nat,i+n=l.length→Ev (fun k=>spec_l12Has.l0 k l i e.f0 e.f1 e.f2.f0 e.f2.f1 e.f2.f2 e.f2.f3 e.f2.f4) (hasE (l.drop i) e)
 | 0,i,h=>by
  rw [List.drop_eq_nil_of_le (by omega)]
  refine Ev.step (f:=fun _=>some false) (fun k=>?_) (evnow _)
  simp only [spec_l12Has.l0];rw [if_neg (by omega)]
 | n+1,i,h=>by
  have hi:i < l.length:=by omega
  rw [List.drop_eq_getElem_cons hi,hasE_cons]
  refine Ev.step (f:=fun k=>if eqEn l[i] e=true then some true else spec_l12Has.l0 k l ((i+1:Nat):Int) e.f0 e.f1 e.f2.f0 e.f2.f1 e.f2.f2 e.f2.f3 e.f2.f4) (fun k=>?_) ?_
  ·simp only [spec_l12Has.l0]
   rw [if_pos (by omega),if_pos (by omega),rdE_get l i hi,wrapS i (by omega) (by omega)]
   rfl
  ·cases hq:eqEn l[i] e with
   | true=>exact ev_pos rfl (evnow _)
   | false=>exact ev_neg (by decide) (has_l0 l e hl n (i+1) (by omega))
theorem has_f (l:List S44) (e:S44) (hl:l.length≤1099511627776):Ev (fun k=>spec_l12Has.f k l e.f0 e.f1 e.f2.f0 e.f2.f1 e.f2.f2 e.f2.f3 e.f2.f4) (hasE l e):=by
 unfold spec_l12Has.f
 exact has_l0 l e hl l.length 0 (by omega)
theorem ihas_l0 (l:List S44) (e:S44) (hl:l.length≤1099511627776):∀ n i:Nat,i+n=l.length→∃ r:Int,Ev (fun k=>impl_Entry_123.l0 k l (l.length:Int) i e.f0 e.f1 e.f2.f0 e.f2.f1 e.f2.f2 e.f2.f3 e.f2.f4) r∧decide (r≥0)=hasE (l.drop i) e
 | 0,i,h=>by
  rw [List.drop_eq_nil_of_le (by omega)]
  refine ⟨-1,Ev.step (f:=fun _=>some (-1)) (fun k=>?_) (evnow _),rfl⟩
  simp only [impl_Entry_123.l0];rw [if_neg (by omega)]
 | n+1,i,h=>by
  have hi:i < l.length:=by omega
  obtain ⟨r,hr,hd⟩:=ihas_l0 l e hl n (i+1) (by omega)
  rw [List.drop_eq_getElem_cons hi,hasE_cons]
  have st:∀ k,impl_Entry_123.l0 (k+1) l (l.length:Int) i e.f0 e.f1 e.f2.f0 e.f2.f1 e.f2.f2 e.f2.f3 e.f2.f4=if eqEn e l[i]=true then some (i:Int) else impl_Entry_123.l0 k l (l.length:Int) ((i+1:Nat):Int) e.f0 e.f1 e.f2.f0 e.f2.f1 e.f2.f2 e.f2.f3 e.f2.f4:=fun k=>by
   simp only [impl_Entry_123.l0]
   rw [if_pos (by omega),if_pos (by omega),if_pos (by omega),rdE_get l i hi,wrapS i (by omega) (by omega)]
   rfl
  rw [eqEn_comm l[i] e]
  cases hq:eqEn e l[i] with
  | true =>
   rw [hq] at st
   exact ⟨i,Ev.step (f:=fun _=>some (i:Int)) (fun k=>by rw [st k,if_pos rfl]) (evnow _),by simp⟩
  | false =>
   rw [hq] at st
   exact ⟨r,Ev.step (fun k=>by rw [st k,if_neg (by decide)]) hr,by rw [hd,Bool.false_or]⟩
theorem ihas_f (l:List S44) (e:S44) (hl:l.length≤1099511627776):Ev (fun k=>impl_Entry_86.f k l e.f0 e.f1 e.f2.f0 e.f2.f1 e.f2.f2 e.f2.f3 e.f2.f4) (hasE l e):=by
 obtain ⟨r,hr,hd⟩:=ihas_l0 l e hl l.length 0 (by omega)
 have hd:decide (r≥0)=hasE l e:=hd
 unfold impl_Entry_86.f impl_Entry_123.f
 rw [←hd]
 exact Ev.bind hr (evnow _)
def addV (l:List S44) (e:S44):List S44×Int:=if hasE l e=true then (l,0) else if e.f1=cntE l e.f0+1 then (if (l.length:Int)≥40 then (l,-1) else (l++[e],1)) else (l,-1)
theorem add_f (l:List S44) (e:S44) (hl:l.length≤1099511627776):Ev (fun k=>spec_l12Add.f k l e.f0 e.f1 e.f2.f0 e.f2.f1 e.f2.f2 e.f2.f3 e.f2.f4) (addV l e):=by
 have hc:=cntE_le l e.f0
 have w1:wrap64 (cntE l e.f0+1)=cntE l e.f0+1:=wrapS _ hc.1 (by omega)
 unfold spec_l12Add.f addV
 refine Ev.bind (seq_f l e.f0 (by omega)) (Ev.bind (has_f l e hl) ?_)
 rw [w1]
 cases hasE l e with
 | true=>exact ev_pos rfl (evnow _)
 | false =>
  refine ev_neg (by decide) ?_
  rw [if_neg (show ¬ (false=true) by decide)]
  by_cases h1:e.f1=cntE l e.f0+1
  ·refine ev_pos h1 ?_
   rw [if_pos h1]
   by_cases h2:(l.length:Int)≥40
   ·refine ev_pos h2 ?_
    rw [if_pos h2]
    exact evnow _
   ·refine ev_neg h2 ?_
    rw [if_neg h2]
    simp only [Option.bind_some,List.nil_append,List.length_nil,List.length_cons]
    exact ev_pos (by omega) (ev_pos (by omega) (evnow _))
  ·refine ev_neg h1 ?_
   rw [if_neg h1]
   exact evnow _
def logAddV (l:List S44) (e:S44):List S44×Int:=if logB l=true then (if entB e=true then addV l e else ([],-1)) else ([],-1)
theorem entB_who {e:S44} (h:entB e=true):1≤e.f0∧e.f0≤3:=by
 unfold entB at h
 simp only [Bool.and_eq_true,decide_eq_true_eq] at h
 exact h.1.1.1
theorem ilogAdd_f (l:List S44) (e:S44) (hw:wfL l) (he:wfE e):Ev (fun k=>impl_LogAdd.f k l e.f0 e.f1 e.f2.f0 e.f2.f1 e.f2.f2 e.f2.f3 e.f2.f4) (logAddV l e):=by
 have j0t:Ev (fun k=>impl_LogAdd.j0 k l true e.f0 e.f1 e.f2.f0 e.f2.f1 e.f2.f2 e.f2.f3 e.f2.f4) (([]:List S44),(-1:Int)):=Ev.step (f:=fun _=>some (([]:List S44),(-1:Int))) (fun k=>by simp only [impl_LogAdd.j0];rfl) (evnow _)
 unfold impl_LogAdd.f logAddV
 refine Ev.bind (log_f l hw) ?_
 cases hb:logB l with
 | false=>exact ev_neg (by decide) j0t
 | true =>
  have h40:=logB_len hb
  refine ev_pos rfl (Ev.bind (ent_f e he) ?_)
  rw [if_pos rfl]
  cases hE:entB e with
  | false=>exact j0t
  | true =>
   have hwho:=entB_who hE
   have hc:=cntE_le l e.f0
   have w1:wrap64 (cntE l e.f0+1)=cntE l e.f0+1:=wrapS _ hc.1 (by omega)
   have hS:Ev (fun k=>impl_LogSeq.f k l e.f0) (cntE l e.f0):=by
    unfold impl_LogSeq.f
    have:=log_f l hw
    rw [hb] at this
    exact Ev.bind this (ev_pos rfl (ev_pos ⟨by omega,by omega⟩ (evnow _)))
   rw [if_pos rfl]
   refine Ev.step (fun k=>by simp only [impl_LogAdd.j0];rfl) ?_
   refine ev_neg (by decide) ?_
   unfold impl_Entry_85.f addV
   rw [if_pos (by omega)]
   simp only [Option.bind_some]
   refine Ev.bind (ihas_f l e (by omega)) ?_
   cases hasE l e with
   | true=>exact ev_pos rfl (evnow _)
   | false =>
    refine ev_neg (by decide) (Ev.bind hS ?_)
    rw [w1,if_neg (show ¬ (false=true) by decide)]
    by_cases h1:e.f1=cntE l e.f0+1
    ·refine ev_pos h1 ?_
     rw [if_pos h1]
     by_cases h2:(l.length:Int)≥40
     ·refine ev_pos h2 ?_
      rw [if_pos h2]
      exact evnow _
     ·refine ev_neg h2 ?_
      rw [if_neg h2]
      exact ev_pos (by omega) (evnow _)
    ·refine ev_neg h1 ?_
     rw [if_neg h1]
     exact evnow _
theorem addV_one {l:List S44} {e:S44} (h:(addV l e).2=1):(addV l e).1=l++[e]∧hasE l e=false∧e.f1=cntE l e.f0+1∧l.length < 40:=by
 unfold addV at h ⊢
 cases hh:hasE l e with
 | true=>rw [hh,if_pos rfl] at h;exact absurd h (show ¬ ((0:Int)=1) by decide)
 | false =>
  rw [hh,if_neg (show ¬ (false=true) by decide)] at h
  rw [if_neg (show ¬ (false=true) by decide)]
  by_cases h1:e.f1=cntE l e.f0+1
  ·rw [if_pos h1] at h ⊢
   by_cases h2:(l.length:Int)≥40
   ·rw [if_pos h2] at h;exact absurd h (show ¬ ((-1:Int)=1) by decide)
   ·rw [if_neg h2];exact ⟨rfl,rfl,h1,by omega⟩
  ·rw [if_neg h1] at h;exact absurd h (show ¬ ((-1:Int)=1) by decide)
theorem addV_len (l:List S44) (e:S44):(addV l e).1.length≤l.length+1:=by
 unfold addV
 split
 ·exact Nat.le_succ _
 ·split
  ·split
   ·exact Nat.le_succ _
   ·simp
  ·exact Nat.le_succ _
theorem goB_snoc:∀ (l pre:List S44) (e:S44),goB pre l=true→entB e=true→cntE (pre++l) e.f0+1=e.f1→goB pre (l++[e])=true
 | [],pre,e,h,he,hc=>by
  rw [List.append_nil] at hc
  rw [List.nil_append,goB,goB,he,dt_ hc];rfl
 | x::l,pre,e,h,he,hc=>by
  rw [goB,Bool.and_eq_true] at h
  rw [List.cons_append,goB,h.1,Bool.true_and]
  exact goB_snoc l _ e h.2 he (by rw [List.append_assoc];exact hc)
theorem logB_snoc {l:List S44} {e:S44} (hb:logB l=true) (he:entB e=true) (hc:e.f1=cntE l e.f0+1) (hl:l.length < 40):logB (l++[e])=true:=by
 unfold logB at hb ⊢
 rw [Bool.and_eq_true] at hb ⊢
 exact ⟨dt_ (by rw [List.length_append];simp;omega),goB_snoc l [] e hb.2 he (by rw [List.nil_append];omega)⟩
def conv (e:S36):S44:=⟨e.f0,e.f1,⟨e.f2.f0,e.f2.f1,e.f2.f2,e.f2.f3,e.f2.f4⟩⟩
theorem slogAdd_f (l:List S44) (e:S44) (hw:wfL l) (he:wfE e) (hl:l.length≤1099511627776):Ev (fun k=>spec_LogAdd.f k l e.f0 e.f1 e.f2.f0 e.f2.f1 e.f2.f2 e.f2.f3 e.f2.f4) (logAddV l e):=by
 have hn:=addV_len l e
 unfold spec_LogAdd.f logAddV
 refine Ev.bind (slog_f l hw (by omega)) ?_
 cases hb:logB l with
 | false=>exact ev_neg (by decide) (evnow _)
 | true =>
  have h40:=logB_len hb
  refine ev_pos rfl (Ev.bind (sent_f e he) ?_)
  rw [if_pos rfl]
  cases hE:entB e with
  | false=>exact ev_neg (by decide) (evnow _)
  | true =>
   refine ev_pos rfl (Ev.bind (add_f l e hl) ?_)
   rw [if_pos rfl]
   simp only [Option.bind_some,List.nil_append,List.length_nil]
   exact ev_pos (by omega) (evnow _)
end Go.Proofs.YtdpklbomhdpimaaDoor.PL
namespace Go.Proofs.YtdpklbomhdpimaaDoor.FP
open Go.Proofs.YtdpklbomhdpimaaDoor.P
def dep (x:Nat) (d:Nat):Fo→Nat
 | .nil=>d
 | .nd j _ k n=>if j=x then d else if x∈k.ids then dep x (d+1) k else dep x d n
theorem setF_id (x:Nat) (t:ByteArray):∀ {F:Fo},x∉F.ids→setF x t F=F
 | .nil,_=>rfl
 | .nd j u k n,h=>by
  simp only [Fo.ids,List.mem_cons,List.mem_append,not_or] at h
  rw [setF,if_neg (fun e=>h.1 e.symm),setF_id x t h.2.1,setF_id x t h.2.2]
theorem fl_ids:∀ (F:Fo) (d:Nat) {r:S69},r∈F.fl d→∃ i∈F.ids,r.f0=(i:Int)
 | .nil,d,r,h=>by simp [Fo.fl] at h
 | .nd j t k n,d,r,h=>by
  simp only [Fo.fl,List.mem_cons,List.mem_append] at h
  rcases h with rfl|h|h
  ·exact ⟨j,by simp [Fo.ids],rfl⟩
  ·obtain ⟨i,hi,e⟩:=fl_ids k (d+1) h;exact ⟨i,by simp [Fo.ids,hi],e⟩
  ·obtain ⟨i,hi,e⟩:=fl_ids n d h;exact ⟨i,by simp [Fo.ids,hi],e⟩
theorem fl_map:∀ (F:Fo) (d:Nat),(F.fl d).map (·.f0)=F.ids.map Int.ofNat
 | .nil,d=>rfl
 | .nd j t k n,d=>by simp [Fo.fl,Fo.ids,fl_map k,fl_map n]
theorem fl_len (F:Fo) (d:Nat):(F.fl d).length=F.ids.length:=by
 have:=congrArg List.length (fl_map F d)
 simpa using this
structure Spot (x d:Nat) (G:Fo) (pre post:List S69):Prop where
 all:G.fl d=pre++(⟨(x:Int),(dep x d G:Int),txtF x G⟩::((sub x G).fl (dep x d G+1)++post))
 out:∀ r∈pre,r.f0≠(x:Int)
 high:post=[]∨∃ r rest,post=r::rest∧r.f1≤(dep x d G:Int)
 ge:d≤dep x d G
 del:(del x G).fl d=pre++post
 first:∀ i t s,(insFirst x i t s G).fl d=pre++(⟨(x:Int),(dep x d G:Int),txtF x G⟩::(⟨(i:Int),((dep x d G+1:Nat):Int),t⟩::(s.fl (dep x d G+2)++((sub x G).fl (dep x d G+1)++post))))
 after:∀ i t s,(insAfter x i t s G).fl d=pre++(⟨(x:Int),(dep x d G:Int),txtF x G⟩::((sub x G).fl (dep x d G+1)++(⟨(i:Int),(dep x d G:Int),t⟩::(s.fl (dep x d G+1)++post))))
 text:∀ t',(setF x t' G).fl d=pre++(⟨(x:Int),(dep x d G:Int),t'⟩::((sub x G).fl (dep x d G+1)++post))
theorem spot (x:Nat):∀ (G:Fo) (d:Nat),G.ids.Nodup→x∈G.ids→∃ pre post,Spot x d G pre post
 | .nil,d,_,hx=>by simp [Fo.ids] at hx
 | .nd j u k n,d,hn,hx=>by
  obtain ⟨n1,n2,n3,n4,n5⟩:=nodup_nd hn
  simp only [Fo.ids,List.mem_cons,List.mem_append] at hx
  by_cases e:j=x
  ·subst e
   refine ⟨[],n.fl d,?_,by simp,?_,?_,?_,fun i t s=>?_,fun i t s=>?_,fun t'=>?_⟩
   ·simp [Fo.fl,dep,txtF,sub]
   ·rcases fl_head n d with h|⟨r,rest,h,h2⟩
    ·exact Or.inl h
    ·refine Or.inr ⟨r,rest,h,?_⟩;simp [dep,h2]
   ·simp [dep]
   ·simp [FP.del]
   ·simp [insFirst,Fo.fl,dep,txtF,sub]
   ·simp [insAfter,Fo.fl,dep,txtF,sub]
   ·simp [setF,Fo.fl,dep,sub,setF_id j t' n1,setF_id j t' n2]
  ·have e':x≠j:=fun g=>e g.symm
   by_cases hk:x∈k.ids
   ·have hxn:x∉n.ids:=n5 x hk
    obtain ⟨pre,post,s⟩:=spot x k (d+1) n3 hk
    have hd:dep x d (.nd j u k n)=dep x (d+1) k:=by rw [dep,if_neg e,if_pos hk]
    have ht:txtF x (.nd j u k n)=txtF x k:=by rw [txtF,if_neg e,if_pos hk]
    have hs:sub x (.nd j u k n)=sub x k:=by rw [sub,if_neg e,if_pos hk]
    refine ⟨⟨(j:Int),(d:Int),u⟩::pre,post++n.fl d,?_,?_,?_,?_,?_,fun i t s'=>?_,fun i t s'=>?_,fun t'=>?_⟩
    ·rw [hd,ht,hs,Fo.fl,s.all];simp
    ·intro r hr
     rcases List.mem_cons.1 hr with rfl|hr
     ·show (j:Int)≠(x:Int);omega
     ·exact s.out r hr
    ·rw [hd]
     have hge:=s.ge
     rcases s.high with h|⟨r,rest,h,h2⟩
     ·rw [h,List.nil_append]
      rcases fl_head n d with h|⟨r,rest,h,h2⟩
      ·exact Or.inl h
      ·exact Or.inr ⟨r,rest,h,by omega⟩
     ·exact Or.inr ⟨r,rest++n.fl d,by rw [h];rfl,h2⟩
    ·rw [hd];have:=s.ge;omega
    ·rw [FP.del,if_neg e,Fo.fl,s.del,del_id x hxn];simp
    ·rw [hd,ht,hs,insFirst,if_neg e,Fo.fl,s.first,insFirst_id x i t s' hxn];simp
    ·rw [hd,ht,hs,insAfter,if_neg e,Fo.fl,s.after,insAfter_id x i t s' hxn];simp
    ·rw [hd,hs,setF,if_neg e,Fo.fl,s.text,setF_id x t' hxn];simp
   ·have hxn:x∈n.ids:=by rcases hx with g|g|g;exact absurd g e';exact absurd g hk;exact g
    obtain ⟨pre,post,s⟩:=spot x n d n4 hxn
    have hd:dep x d (.nd j u k n)=dep x d n:=by rw [dep,if_neg e,if_neg hk]
    have ht:txtF x (.nd j u k n)=txtF x n:=by rw [txtF,if_neg e,if_neg hk]
    have hs:sub x (.nd j u k n)=sub x n:=by rw [sub,if_neg e,if_neg hk]
    refine ⟨⟨(j:Int),(d:Int),u⟩::(k.fl (d+1)++pre),post,?_,?_,?_,?_,?_,fun i t s'=>?_,fun i t s'=>?_,fun t'=>?_⟩
    ·rw [hd,ht,hs,Fo.fl,s.all];simp
    ·intro r hr
     rcases List.mem_cons.1 hr with rfl|hr
     ·show (j:Int)≠(x:Int);omega
     ·rcases List.mem_append.1 hr with hr|hr
      ·obtain ⟨i,hi,e2⟩:=fl_ids k (d+1) hr
       rw [e2]
       intro e3
       exact hk ((show i=x by omega) ▸ hi)
      ·exact s.out r hr
    ·rw [hd];exact s.high
    ·rw [hd];exact s.ge
    ·rw [FP.del,if_neg e,Fo.fl,s.del,del_id x hk];simp
    ·rw [hd,ht,hs,insFirst,if_neg e,Fo.fl,s.first,insFirst_id x i t s' hk];simp
    ·rw [hd,ht,hs,insAfter,if_neg e,Fo.fl,s.after,insAfter_id x i t s' hk];simp
    ·rw [hd,hs,setF,if_neg e,Fo.fl,s.text,setF_id x t' hk];simp
theorem del_ids_sub (i:Nat):∀ {F:Fo} {y:Nat},y∈(del i F).ids→y∈F.ids
 | .nil,y,h=>h
 | .nd j t k n,y,h=>by
  rw [FP.del] at h
  split at h
  ·simp [Fo.ids,h]
  ·simp only [Fo.ids,List.mem_cons,List.mem_append] at h ⊢
   exact h.imp id (Or.imp (del_ids_sub i) (del_ids_sub i))
theorem par_del (i a:Nat):∀ (G:Fo) (up:Nat),G.ids.Nodup→a∈(del i G).ids→par a up (del i G)=par a up G
 | .nil,up,_,h=>rfl
 | .nd j u k n,up,hn,h=>by
  obtain ⟨n1,n2,n3,n4,n5⟩:=nodup_nd hn
  rw [FP.del] at h ⊢
  by_cases e:j=i
  ·rw [if_pos e] at h ⊢
   rw [par,if_neg (fun (g:j=a)=>n2 (by rw [g];exact h)),if_neg (fun g=>n5 a g h)]
  ·rw [if_neg e] at h ⊢
   simp only [Fo.ids,List.mem_cons,List.mem_append] at h
   rw [par,par]
   by_cases e2:j=a
   ·rw [if_pos e2,if_pos e2]
   ·rw [if_neg e2,if_neg e2]
    by_cases hk:a∈(FP.del i k).ids
    ·rw [if_pos hk,if_pos (del_ids_sub i hk)];exact par_del i a k j n3 hk
    ·have hn':a∈(FP.del i n).ids:=by rcases h with g|g|g;exact absurd g.symm e2;exact absurd g hk;exact g
     rw [if_neg hk,if_neg (fun g=>n5 a g (del_ids_sub i hn'))];exact par_del i a n up n4 hn'
theorem rep_ex:∀ (G:Fo) (up:Nat),G.ids.Nodup→(∀ x∈G.ids,x≠0)→∃ h,Rep h up G
 | .nil,up,_,_=>⟨fun _=>⟨ByteArray.empty,0,0,0⟩,trivial⟩
 | .nd j u k n,up,hn,h0=>by
  obtain ⟨n1,n2,n3,n4,n5⟩:=nodup_nd hn
  obtain ⟨hk,rk⟩:=rep_ex k j n3 fun x hx=>h0 x (by simp [Fo.ids,hx])
  obtain ⟨hm,rm⟩:=rep_ex n up n4 fun x hx=>h0 x (by simp [Fo.ids,hx])
  refine ⟨fun x=>if x=j then ⟨u,up,k.hd,n.hd⟩ else if x∈k.ids then hk x else hm x,h0 j (by simp [Fo.ids]),if_pos rfl,rk.ext fun x hx=>?_,rm.ext fun x hx=>?_⟩
  ·rw [if_neg (fun (e:x=j)=>n1 (e ▸ hx)),if_pos hx]
  ·rw [if_neg (fun (e:x=j)=>n2 (e ▸ hx)),if_neg (fun g=>n5 x g hx)]
theorem reptop_ex:∀ (G:Fo),G.ids.Nodup→(∀ x∈G.ids,x≠0)→∃ h,RepTop h G
 | .nil,_,_=>⟨fun _=>⟨ByteArray.empty,0,0,0⟩,trivial⟩
 | .nd j u k n,hn,h0=>by
  obtain ⟨n1,n2,n3,n4,n5⟩:=nodup_nd hn
  obtain ⟨hk,rk⟩:=rep_ex k j n3 fun x hx=>h0 x (by simp [Fo.ids,hx])
  obtain ⟨hm,rm⟩:=reptop_ex n n4 fun x hx=>h0 x (by simp [Fo.ids,hx])
  refine ⟨fun x=>if x=j then ⟨u,0,k.hd,0⟩ else if x∈k.ids then hk x else hm x,h0 j (by simp [Fo.ids]),if_pos rfl,rk.ext fun x hx=>?_,rm.ext fun x hx=>?_⟩
  ·rw [if_neg (fun (e:x=j)=>n1 (e ▸ hx)),if_pos hx]
  ·rw [if_neg (fun (e:x=j)=>n2 (e ▸ hx)),if_neg (fun g=>n5 x g hx)]
theorem mem_insFirst (p i:Nat) (t:ByteArray) (s:Fo) (y:Nat):∀ (F:Fo),y∈(insFirst p i t s F).ids↔y∈F.ids∨(p∈F.ids∧(y=i∨y∈s.ids))
 | .nil=>by simp [insFirst,Fo.ids]
 | .nd j u k n=>by
  rw [insFirst]
  have h1:=mem_insFirst p i t s y k
  have h2:=mem_insFirst p i t s y n
  by_cases e:j=p
  ·rw [if_pos e]
   simp only [Fo.ids,List.mem_cons,List.mem_append,e]
   grind
  ·rw [if_neg e]
   simp only [Fo.ids,List.mem_cons,List.mem_append,h1,h2]
   grind
theorem mem_insAfter (a i:Nat) (t:ByteArray) (s:Fo) (y:Nat):∀ (F:Fo),y∈(insAfter a i t s F).ids↔y∈F.ids∨(a∈F.ids∧(y=i∨y∈s.ids))
 | .nil=>by simp [insAfter,Fo.ids]
 | .nd j u k n=>by
  rw [insAfter]
  have h1:=mem_insAfter a i t s y k
  have h2:=mem_insAfter a i t s y n
  by_cases e:j=a
  ·rw [if_pos e]
   simp only [Fo.ids,List.mem_cons,List.mem_append,e]
   grind
  ·rw [if_neg e]
   simp only [Fo.ids,List.mem_cons,List.mem_append,h1,h2]
   grind
theorem del_insFirst (p i:Nat) (t:ByteArray) (s:Fo):∀ {F:Fo},i∉F.ids→del i (insFirst p i t s F)=F
 | .nil,_=>rfl
 | .nd j u k n,h=>by
  simp only [Fo.ids,List.mem_cons,List.mem_append,not_or] at h
  have hj:¬ j=i:=fun e=>h.1 e.symm
  rw [insFirst]
  by_cases e:j=p
  ·rw [if_pos e,del,if_neg hj,del,if_pos rfl,del_id i h.2.2]
  ·rw [if_neg e,del,if_neg hj,del_insFirst p i t s h.2.1,del_insFirst p i t s h.2.2]
theorem del_insAfter (a i:Nat) (t:ByteArray) (s:Fo):∀ {F:Fo},i∉F.ids→del i (insAfter a i t s F)=F
 | .nil,_=>rfl
 | .nd j u k n,h=>by
  simp only [Fo.ids,List.mem_cons,List.mem_append,not_or] at h
  have hj:¬ j=i:=fun e=>h.1 e.symm
  rw [insAfter]
  by_cases e:j=a
  ·rw [if_pos e,del,if_neg hj,del,if_pos rfl,del_id i h.2.1]
  ·rw [if_neg e,del,if_neg hj,del_insAfter a i t s h.2.1,del_insAfter a i t s h.2.2]
theorem sub_insFirst_new (p i:Nat) (t:ByteArray) (s:Fo):∀ {F:Fo},i∉F.ids→p∈F.ids→sub i (insFirst p i t s F)=s
 | .nil,_,h=>by simp [Fo.ids] at h
 | .nd j u k n,h,hp=>by
  simp only [Fo.ids,List.mem_cons,List.mem_append,not_or] at h hp
  have hj:¬ j=i:=fun e=>h.1 e.symm
  rw [insFirst]
  by_cases e:j=p
  ·rw [if_pos e,sub,if_neg hj,if_pos (by simp [Fo.ids]),sub,if_pos rfl]
  ·rw [if_neg e,sub,if_neg hj]
   by_cases hk:p∈k.ids
   ·rw [if_pos ((mem_insFirst p i t s i k).2 (Or.inr ⟨hk,Or.inl rfl⟩)),sub_insFirst_new p i t s h.2.1 hk]
   ·rw [if_neg (by rw [mem_insFirst];grind),sub_insFirst_new p i t s h.2.2 (by grind)]
theorem sub_insAfter_new (a i:Nat) (t:ByteArray) (s:Fo):∀ {F:Fo},i∉F.ids→a∈F.ids→sub i (insAfter a i t s F)=s
 | .nil,_,h=>by simp [Fo.ids] at h
 | .nd j u k n,h,hp=>by
  simp only [Fo.ids,List.mem_cons,List.mem_append,not_or] at h hp
  have hj:¬ j=i:=fun e=>h.1 e.symm
  rw [insAfter]
  by_cases e:j=a
  ·rw [if_pos e,sub,if_neg hj,if_neg h.2.1,sub,if_pos rfl]
  ·rw [if_neg e,sub,if_neg hj]
   by_cases hk:a∈k.ids
   ·rw [if_pos ((mem_insAfter a i t s i k).2 (Or.inr ⟨hk,Or.inl rfl⟩)),sub_insAfter_new a i t s h.2.1 hk]
   ·rw [if_neg (by rw [mem_insAfter];grind),sub_insAfter_new a i t s h.2.2 (by grind)]
theorem txt_insFirst_new (p i:Nat) (t:ByteArray) (s:Fo):∀ {F:Fo},i∉F.ids→p∈F.ids→txtF i (insFirst p i t s F)=t
 | .nil,_,h=>by simp [Fo.ids] at h
 | .nd j u k n,h,hp=>by
  simp only [Fo.ids,List.mem_cons,List.mem_append,not_or] at h hp
  have hj:¬ j=i:=fun e=>h.1 e.symm
  rw [insFirst]
  by_cases e:j=p
  ·rw [if_pos e,txtF,if_neg hj,if_pos (by simp [Fo.ids]),txtF,if_pos rfl]
  ·rw [if_neg e,txtF,if_neg hj]
   by_cases hk:p∈k.ids
   ·rw [if_pos ((mem_insFirst p i t s i k).2 (Or.inr ⟨hk,Or.inl rfl⟩)),txt_insFirst_new p i t s h.2.1 hk]
   ·rw [if_neg (by rw [mem_insFirst];grind),txt_insFirst_new p i t s h.2.2 (by grind)]
theorem txt_insAfter_new (a i:Nat) (t:ByteArray) (s:Fo):∀ {F:Fo},i∉F.ids→a∈F.ids→txtF i (insAfter a i t s F)=t
 | .nil,_,h=>by simp [Fo.ids] at h
 | .nd j u k n,h,hp=>by
  simp only [Fo.ids,List.mem_cons,List.mem_append,not_or] at h hp
  have hj:¬ j=i:=fun e=>h.1 e.symm
  rw [insAfter]
  by_cases e:j=a
  ·rw [if_pos e,txtF,if_neg hj,if_neg h.2.1,txtF,if_pos rfl]
  ·rw [if_neg e,txtF,if_neg hj]
   by_cases hk:a∈k.ids
   ·rw [if_pos ((mem_insAfter a i t s i k).2 (Or.inr ⟨hk,Or.inl rfl⟩)),txt_insAfter_new a i t s h.2.1 hk]
   ·rw [if_neg (by rw [mem_insAfter];grind),txt_insAfter_new a i t s h.2.2 (by grind)]
theorem par_insFirst_new (p i:Nat) (t:ByteArray) (s:Fo):∀ {F:Fo} (up:Nat),i∉F.ids→p∈F.ids→par i up (insFirst p i t s F)=p
 | .nil,_,_,h=>by simp [Fo.ids] at h
 | .nd j u k n,up,h,hp=>by
  simp only [Fo.ids,List.mem_cons,List.mem_append,not_or] at h hp
  have hj:¬ j=i:=fun e=>h.1 e.symm
  rw [insFirst]
  by_cases e:j=p
  ·rw [if_pos e,par,if_neg hj,if_pos (by simp [Fo.ids]),par,if_pos rfl,e]
  ·rw [if_neg e,par,if_neg hj]
   by_cases hk:p∈k.ids
   ·rw [if_pos ((mem_insFirst p i t s i k).2 (Or.inr ⟨hk,Or.inl rfl⟩)),par_insFirst_new p i t s j h.2.1 hk]
   ·rw [if_neg (by rw [mem_insFirst];grind),par_insFirst_new p i t s up h.2.2 (by grind)]
theorem par_insAfter_new (a i:Nat) (t:ByteArray) (s:Fo):∀ {F:Fo} (up:Nat),i∉F.ids→a∈F.ids→par i up (insAfter a i t s F)=par a up F
 | .nil,_,_,h=>by simp [Fo.ids] at h
 | .nd j u k n,up,h,hp=>by
  simp only [Fo.ids,List.mem_cons,List.mem_append,not_or] at h hp
  have hj:¬ j=i:=fun e=>h.1 e.symm
  rw [insAfter]
  by_cases e:j=a
  ·rw [if_pos e,par,if_neg hj,if_neg h.2.1,par,if_pos rfl,par,if_pos e]
  ·rw [if_neg e,par,if_neg hj,par,if_neg e]
   by_cases hk:a∈k.ids
   ·rw [if_pos ((mem_insAfter a i t s i k).2 (Or.inr ⟨hk,Or.inl rfl⟩)),if_pos hk,par_insAfter_new a i t s j h.2.1 hk]
   ·rw [if_neg (by rw [mem_insAfter];grind),if_neg hk,par_insAfter_new a i t s up h.2.2 (by grind)]
theorem par_insFirst_in (p i:Nat) (t:ByteArray) (s:Fo) {x:Nat} (hx:x∈s.ids) (hxi:x≠i):∀ {F:Fo} (up:Nat),x∉F.ids→p∈F.ids→par x up (insFirst p i t s F)=par x i s
 | .nil,_,_,h=>by simp [Fo.ids] at h
 | .nd j u k n,up,h,hp=>by
  simp only [Fo.ids,List.mem_cons,List.mem_append,not_or] at h hp
  have hj:¬ j=x:=fun e=>h.1 e.symm
  rw [insFirst]
  by_cases e:j=p
  ·rw [if_pos e,par,if_neg hj,if_pos (by simp [Fo.ids,hx]),par,if_neg (fun e=>hxi e.symm),if_pos hx]
  ·rw [if_neg e,par,if_neg hj]
   by_cases hk:p∈k.ids
   ·rw [if_pos ((mem_insFirst p i t s x k).2 (Or.inr ⟨hk,Or.inr hx⟩)),par_insFirst_in p i t s hx hxi j h.2.1 hk]
   ·rw [if_neg (by rw [mem_insFirst];grind),par_insFirst_in p i t s hx hxi up h.2.2 (by grind)]
theorem par_insAfter_in (a i:Nat) (t:ByteArray) (s:Fo) {x:Nat} (hx:x∈s.ids) (hxi:x≠i):∀ {F:Fo} (up:Nat),x∉F.ids→a∈F.ids→par x up (insAfter a i t s F)=par x i s
 | .nil,_,_,h=>by simp [Fo.ids] at h
 | .nd j u k n,up,h,hp=>by
  simp only [Fo.ids,List.mem_cons,List.mem_append,not_or] at h hp
  have hj:¬ j=x:=fun e=>h.1 e.symm
  rw [insAfter]
  by_cases e:j=a
  ·rw [if_pos e,par,if_neg hj,if_neg h.2.1,par,if_neg (fun e=>hxi e.symm),if_pos hx]
  ·rw [if_neg e,par,if_neg hj]
   by_cases hk:a∈k.ids
   ·rw [if_pos ((mem_insAfter a i t s x k).2 (Or.inr ⟨hk,Or.inr hx⟩)),par_insAfter_in a i t s hx hxi j h.2.1 hk]
   ·rw [if_neg (by rw [mem_insAfter];grind),par_insAfter_in a i t s hx hxi up h.2.2 (by grind)]
theorem txt_insFirst_in (p i:Nat) (t:ByteArray) (s:Fo) {x:Nat} (hx:x∈s.ids) (hxi:x≠i):∀ {F:Fo},x∉F.ids→p∈F.ids→txtF x (insFirst p i t s F)=txtF x s
 | .nil,_,h=>by simp [Fo.ids] at h
 | .nd j u k n,h,hp=>by
  simp only [Fo.ids,List.mem_cons,List.mem_append,not_or] at h hp
  have hj:¬ j=x:=fun e=>h.1 e.symm
  rw [insFirst]
  by_cases e:j=p
  ·rw [if_pos e,txtF,if_neg hj,if_pos (by simp [Fo.ids,hx]),txtF,if_neg (fun e=>hxi e.symm),if_pos hx]
  ·rw [if_neg e,txtF,if_neg hj]
   by_cases hk:p∈k.ids
   ·rw [if_pos ((mem_insFirst p i t s x k).2 (Or.inr ⟨hk,Or.inr hx⟩)),txt_insFirst_in p i t s hx hxi h.2.1 hk]
   ·rw [if_neg (by rw [mem_insFirst];grind),txt_insFirst_in p i t s hx hxi h.2.2 (by grind)]
theorem txt_insAfter_in (a i:Nat) (t:ByteArray) (s:Fo) {x:Nat} (hx:x∈s.ids) (hxi:x≠i):∀ {F:Fo},x∉F.ids→a∈F.ids→txtF x (insAfter a i t s F)=txtF x s
 | .nil,_,h=>by simp [Fo.ids] at h
 | .nd j u k n,h,hp=>by
  simp only [Fo.ids,List.mem_cons,List.mem_append,not_or] at h hp
  have hj:¬ j=x:=fun e=>h.1 e.symm
  rw [insAfter]
  by_cases e:j=a
  ·rw [if_pos e,txtF,if_neg hj,if_neg h.2.1,txtF,if_neg (fun e=>hxi e.symm),if_pos hx]
  ·rw [if_neg e,txtF,if_neg hj]
   by_cases hk:a∈k.ids
   ·rw [if_pos ((mem_insAfter a i t s x k).2 (Or.inr ⟨hk,Or.inr hx⟩)),txt_insAfter_in a i t s hx hxi h.2.1 hk]
   ·rw [if_neg (by rw [mem_insAfter];grind),txt_insAfter_in a i t s hx hxi h.2.2 (by grind)]
theorem par_insFirst_old (p i:Nat) (t:ByteArray) (s:Fo) {x:Nat} (hx:x∉s.ids) (hxi:x≠i):∀ (F:Fo) (up:Nat),par x up (insFirst p i t s F)=par x up F
 | .nil,_=>rfl
 | .nd j u k n,up=>by
  have m1:x∈(insFirst p i t s k).ids↔x∈k.ids:=by rw [mem_insFirst];grind
  have m2:x∈(Fo.nd i t s k).ids↔x∈k.ids:=by simp only [Fo.ids,List.mem_cons,List.mem_append];grind
  rw [insFirst]
  by_cases e:j=p
  ·rw [if_pos e]
   simp only [par,m2,if_neg (fun e:i=x=>hxi e.symm),if_neg hx]
  ·rw [if_neg e]
   simp only [par,m1,par_insFirst_old p i t s hx hxi k,par_insFirst_old p i t s hx hxi n]
theorem par_insAfter_old (a i:Nat) (t:ByteArray) (s:Fo) {x:Nat} (hx:x∉s.ids) (hxi:x≠i):∀ (F:Fo) (up:Nat),par x up (insAfter a i t s F)=par x up F
 | .nil,_=>rfl
 | .nd j u k n,up=>by
  have m1:x∈(insAfter a i t s k).ids↔x∈k.ids:=by rw [mem_insAfter];grind
  rw [insAfter]
  by_cases e:j=a
  ·rw [if_pos e]
   simp only [par,if_neg (fun e:i=x=>hxi e.symm),if_neg hx]
  ·rw [if_neg e]
   simp only [par,m1,par_insAfter_old a i t s hx hxi k,par_insAfter_old a i t s hx hxi n]
theorem txt_insFirst_old (p i:Nat) (t:ByteArray) (s:Fo) {x:Nat} (hx:x∉s.ids) (hxi:x≠i):∀ (F:Fo),txtF x (insFirst p i t s F)=txtF x F
 | .nil=>rfl
 | .nd j u k n=>by
  have m1:x∈(insFirst p i t s k).ids↔x∈k.ids:=by rw [mem_insFirst];grind
  have m2:x∈(Fo.nd i t s k).ids↔x∈k.ids:=by simp only [Fo.ids,List.mem_cons,List.mem_append];grind
  rw [insFirst]
  by_cases e:j=p
  ·rw [if_pos e]
   simp only [txtF,m2,if_neg (fun e:i=x=>hxi e.symm),if_neg hx]
  ·rw [if_neg e]
   simp only [txtF,m1,txt_insFirst_old p i t s hx hxi k,txt_insFirst_old p i t s hx hxi n]
theorem txt_insAfter_old (a i:Nat) (t:ByteArray) (s:Fo) {x:Nat} (hx:x∉s.ids) (hxi:x≠i):∀ (F:Fo),txtF x (insAfter a i t s F)=txtF x F
 | .nil=>rfl
 | .nd j u k n=>by
  have m1:x∈(insAfter a i t s k).ids↔x∈k.ids:=by rw [mem_insAfter];grind
  rw [insAfter]
  by_cases e:j=a
  ·rw [if_pos e]
   simp only [txtF,if_neg (fun e:i=x=>hxi e.symm),if_neg hx]
  ·rw [if_neg e]
   simp only [txtF,m1,txt_insAfter_old a i t s hx hxi k,txt_insAfter_old a i t s hx hxi n]
theorem txt_del (i a:Nat):∀ (G:Fo),G.ids.Nodup→a∈(del i G).ids→txtF a (del i G)=txtF a G
 | .nil,_,h=>rfl
 | .nd j u k n,hn,h=>by
  obtain ⟨n1,n2,n3,n4,n5⟩:=nodup_nd hn
  rw [FP.del] at h ⊢
  by_cases e:j=i
  ·rw [if_pos e] at h ⊢
   rw [txtF,if_neg (fun (g:j=a)=>n2 (by rw [g];exact h)),if_neg (fun g=>n5 a g h)]
  ·rw [if_neg e] at h ⊢
   simp only [Fo.ids,List.mem_cons,List.mem_append] at h
   rw [txtF,txtF]
   by_cases e2:j=a
   ·rw [if_pos e2,if_pos e2]
   ·rw [if_neg e2,if_neg e2]
    by_cases hk:a∈(FP.del i k).ids
    ·rw [if_pos hk,if_pos (del_ids_sub i hk)];exact txt_del i a k n3 hk
    ·have hn':a∈(FP.del i n).ids:=by rcases h with g|g|g;exact absurd g.symm e2;exact absurd g hk;exact g
     rw [if_neg hk,if_neg (fun g=>n5 a g (del_ids_sub i hn'))];exact txt_del i a n n4 hn'
theorem par_sub (i a:Nat):∀ (G:Fo) (up:Nat),G.ids.Nodup→a∈(sub i G).ids→par a up G=par a i (sub i G)
 | .nil,up,_,h=>by simp [sub,Fo.ids] at h
 | .nd j u k n,up,hn,h=>by
  obtain ⟨n1,n2,n3,n4,n5⟩:=nodup_nd hn
  rw [sub] at h ⊢
  by_cases e:j=i
  ·rw [if_pos e] at h ⊢
   rw [par,if_neg (fun (g:j=a)=>n1 (by rw [g];exact h)),if_pos h,e]
  ·rw [if_neg e] at h ⊢
   by_cases hk:i∈k.ids
   ·rw [if_pos hk] at h ⊢
    have ha:=sub_ids i h
    rw [par,if_neg (fun (g:j=a)=>n1 (by rw [g];exact ha)),if_pos ha]
    exact par_sub i a k j n3 h
   ·rw [if_neg hk] at h ⊢
    have ha:=sub_ids i h
    rw [par,if_neg (fun (g:j=a)=>n2 (by rw [g];exact ha)),if_neg (fun g=>n5 a g ha)]
    exact par_sub i a n up n4 h
theorem txt_sub (i a:Nat):∀ (G:Fo),G.ids.Nodup→a∈(sub i G).ids→txtF a G=txtF a (sub i G)
 | .nil,_,h=>by simp [sub,Fo.ids] at h
 | .nd j u k n,hn,h=>by
  obtain ⟨n1,n2,n3,n4,n5⟩:=nodup_nd hn
  rw [sub] at h ⊢
  by_cases e:j=i
  ·rw [if_pos e] at h ⊢
   rw [txtF,if_neg (fun (g:j=a)=>n1 (by rw [g];exact h)),if_pos h]
  ·rw [if_neg e] at h ⊢
   by_cases hk:i∈k.ids
   ·rw [if_pos hk] at h ⊢
    have ha:=sub_ids i h
    rw [txtF,if_neg (fun (g:j=a)=>n1 (by rw [g];exact ha)),if_pos ha]
    exact txt_sub i a k n3 h
   ·rw [if_neg hk] at h ⊢
    have ha:=sub_ids i h
    rw [txtF,if_neg (fun (g:j=a)=>n2 (by rw [g];exact ha)),if_neg (fun g=>n5 a g ha)]
    exact txt_sub i a n n4 h
theorem set_txt_ne (x:Nat) (t':ByteArray) {i:Nat} (h:i≠x):∀ (F:Fo),txtF i (setF x t' F)=txtF i F
 | .nil=>rfl
 | .nd j u k n=>by
  rw [setF,txtF,txtF,setF_ids,set_txt_ne x t' h k,set_txt_ne x t' h n]
  by_cases e:j=i
  ·rw [if_pos e,if_pos e,if_neg (fun g=>h (e ▸ g))]
  ·rw [if_neg e,if_neg e]
theorem set_txt_eq (x:Nat) (t':ByteArray):∀ {F:Fo},x∈F.ids→txtF x (setF x t' F)=t'
 | .nil,h=>by simp [Fo.ids] at h
 | .nd j u k n,h=>by
  simp only [Fo.ids,List.mem_cons,List.mem_append] at h
  rw [setF,txtF,setF_ids]
  by_cases e:j=x
  ·rw [if_pos e,if_pos e]
  ·rw [if_neg e]
   by_cases hk:x∈k.ids
   ·rw [if_pos hk];exact set_txt_eq x t' hk
   ·rw [if_neg hk];exact set_txt_eq x t' (by grind)
structure PutOk (H:Fo) (q:Nat×Nat) (i:Nat) (s:Fo):Prop where
 nd:H.ids.Nodup
 snd:s.ids.Nodup
 iH:i∉H.ids
 is:i∉s.ids
 dis:∀ x∈s.ids,x∉H.ids
 up:q.1∈H.ids
 at_:q.2=0∨(q.2∈H.ids∧par q.2 0 H=q.1)
section
variable {H:Fo} {q:Nat×Nat} {i:Nat} {s:Fo} {t:ByteArray}
theorem PutOk.del (o:PutOk H q i s):del i (putF H q i t s)=H:=by
 unfold putF
 split
 ·exact del_insFirst _ _ _ _ o.iH
 ·exact del_insAfter _ _ _ _ o.iH
theorem PutOk.sub (o:PutOk H q i s):sub i (putF H q i t s)=s:=by
 unfold putF
 split
 ·exact sub_insFirst_new _ _ _ _ o.iH o.up
 ·rename_i h;exact sub_insAfter_new _ _ _ _ o.iH (o.at_.resolve_left h).1
theorem PutOk.txt (o:PutOk H q i s):txtF i (putF H q i t s)=t:=by
 unfold putF
 split
 ·exact txt_insFirst_new _ _ _ _ o.iH o.up
 ·rename_i h;exact txt_insAfter_new _ _ _ _ o.iH (o.at_.resolve_left h).1
theorem PutOk.par (o:PutOk H q i s):par i 0 (putF H q i t s)=q.1:=by
 unfold putF
 split
 ·exact par_insFirst_new _ _ _ _ _ o.iH o.up
 ·rename_i h
  rw [par_insAfter_new _ _ _ _ _ o.iH (o.at_.resolve_left h).1];exact (o.at_.resolve_left h).2
theorem PutOk.mem (o:PutOk H q i s) (y:Nat):y∈(putF H q i t s).ids↔y=i∨y∈s.ids∨y∈H.ids:=by
 unfold putF
 split
 ·rw [mem_insFirst];have:=o.up;grind
 ·rename_i h;rw [mem_insAfter];have:=(o.at_.resolve_left h).1;grind
theorem PutOk.perm (o:PutOk H q i s):(putF H q i t s).ids.Perm (i::(s.ids++H.ids)):=putF_ids o.nd o.up (o.at_.imp id And.left)
theorem PutOk.nodup (o:PutOk H q i s):(putF H q i t s).ids.Nodup:=by
 refine o.perm.nodup_iff.2 (List.nodup_cons.2 ⟨?_,List.nodup_append.2 ⟨o.snd,o.nd,fun a ha b hb e=>o.dis a ha (e ▸ hb)⟩⟩)
 rw [List.mem_append]
 exact fun h=>h.elim o.is o.iH
theorem PutOk.ne {x:Nat} (o:PutOk H q i s) (hx:x∈H.ids):x≠i∧x∉s.ids:=⟨fun e=>o.iH (e ▸ hx),fun g=>o.dis x g hx⟩
theorem PutOk.par_old (o:PutOk H q i s) {x:Nat} (hx:x∈H.ids):FP.par x 0 (putF H q i t s)=FP.par x 0 H:=by
 obtain ⟨h1,h2⟩:=o.ne hx
 unfold putF
 split
 ·exact par_insFirst_old _ _ _ _ h2 h1 _ _
 ·exact par_insAfter_old _ _ _ _ h2 h1 _ _
theorem PutOk.txt_old (o:PutOk H q i s) {x:Nat} (hx:x∈H.ids):txtF x (putF H q i t s)=txtF x H:=by
 obtain ⟨h1,h2⟩:=o.ne hx
 unfold putF
 split
 ·exact txt_insFirst_old _ _ _ _ h2 h1 _
 ·exact txt_insAfter_old _ _ _ _ h2 h1 _
theorem PutOk.par_in (o:PutOk H q i s) {x:Nat} (hx:x∈s.ids):FP.par x 0 (putF H q i t s)=FP.par x i s:=by
 have h1:x≠i:=fun e=>o.is (e ▸ hx)
 unfold putF
 split
 ·exact par_insFirst_in _ _ _ _ hx h1 _ (o.dis x hx) o.up
 ·rename_i h;exact par_insAfter_in _ _ _ _ hx h1 _ (o.dis x hx) (o.at_.resolve_left h).1
theorem PutOk.txt_in (o:PutOk H q i s) {x:Nat} (hx:x∈s.ids):txtF x (putF H q i t s)=txtF x s:=by
 have h1:x≠i:=fun e=>o.is (e ▸ hx)
 unfold putF
 split
 ·exact txt_insFirst_in _ _ _ _ hx h1 (o.dis x hx) o.up
 ·rename_i h;exact txt_insAfter_in _ _ _ _ hx h1 (o.dis x hx) (o.at_.resolve_left h).1
end
theorem fnd_congr {G G':Fo} (h:∀ y,y∈G'.ids↔y∈G.ids) (x:Int):fndF G' x=fndF G x:=by
 unfold fndF;simp only [h]
theorem mem_del {i y:Nat} {G:Fo} (hn:G.ids.Nodup) (hi:i∈G.ids):y∈(del i G).ids↔y∈G.ids∧y≠i∧y∉(sub i G).ids:=by
 have hp:=ids_del i G hn hi
 obtain ⟨m1,m2⟩:=List.nodup_cons.1 (hp.nodup_iff.1 hn)
 have m3:=(List.nodup_append.1 m2).2.2
 have m4:=hp.mem_iff (a:=y)
 simp only [List.mem_cons,List.mem_append] at m4 m1
 constructor
 ·intro h
  exact ⟨m4.2 (Or.inr (Or.inr h)),fun e=>m1 (Or.inr (e ▸ h)),fun g=>m3 y g y h rfl⟩
 ·rintro ⟨h1,h2,h3⟩
  rcases m4.1 h1 with g|g|g
  ·exact absurd g h2
  ·exact absurd g h3
  ·exact g
structure MvOk (G:Fo) (i:Nat) (q:Nat×Nat):Prop where
 nd:G.ids.Nodup
 mem:i∈G.ids
 put:PutOk (del i G) q i (sub i G)
def mvF (G:Fo) (q:Nat×Nat) (i:Nat):Fo:=putF (del i G) q i (txtF i G) (sub i G)
section
variable {G:Fo} {i:Nat} {q:Nat×Nat}
theorem MvOk.ids (o:MvOk G i q) (y:Nat):y∈(mvF G q i).ids↔y∈G.ids:=by
 unfold mvF
 rw [o.put.mem,mem_del o.nd o.mem]
 have:=o.mem
 have h2:y∈(sub i G).ids→y∈G.ids:=sub_ids i
 grind
theorem MvOk.perm (o:MvOk G i q):(mvF G q i).ids.Perm G.ids:=by
 unfold mvF
 exact o.put.perm.trans (ids_del i G o.nd o.mem).symm
theorem MvOk.nodup (o:MvOk G i q):(mvF G q i).ids.Nodup:=o.put.nodup
theorem MvOk.par_ne (o:MvOk G i q) {x:Nat} (hx:x∈G.ids) (hne:x≠i):par x 0 (mvF G q i)=par x 0 G:=by
 unfold mvF
 by_cases hs:x∈(sub i G).ids
 ·rw [o.put.par_in hs,par_sub i x G 0 o.nd hs]
 ·have hd:=(mem_del o.nd o.mem).2 ⟨hx,hne,hs⟩
  rw [o.put.par_old hd,par_del i x G 0 o.nd hd]
theorem MvOk.txt (o:MvOk G i q) {x:Nat} (hx:x∈G.ids):txtF x (mvF G q i)=txtF x G:=by
 unfold mvF
 by_cases hne:x=i
 ·subst hne;exact o.put.txt
 ·by_cases hs:x∈(sub i G).ids
  ·rw [o.put.txt_in hs,txt_sub i x G o.nd hs]
  ·have hd:=(mem_del o.nd o.mem).2 ⟨hx,hne,hs⟩
   rw [o.put.txt_old hd,txt_del i x G o.nd hd]
theorem MvOk.sub_self (o:MvOk G i q):sub i (mvF G q i)=sub i G:=o.put.sub
theorem MvOk.del (o:MvOk G i q):del i (mvF G q i)=del i G:=o.put.del
theorem MvOk.under (o:MvOk G i q) (x:Nat):under i x (mvF G q i)↔under i x G:=by
 unfold FP.under
 rw [o.sub_self,o.ids]
theorem MvOk.fnd (o:MvOk G i q) (x:Int):fndF (mvF G q i) x=fndF G x:=fnd_congr o.ids x
theorem MvOk.near (o:MvOk G i q) (up at_:Int):nearF (mvF G q i) (i:Int) up at_=nearF G (i:Int) up at_:=by
 unfold nearF
 rw [o.fnd,o.fnd]
 by_cases h1:fndF G up=0
 ·rw [if_pos h1,if_pos h1]
 ·rw [if_neg h1,if_neg h1]
  by_cases h2:fndF G at_=0
  ·rw [if_pos h2,if_pos h2]
  ·rw [if_neg h2,if_neg h2]
   by_cases h3:at_=(i:Int)
   ·simp only [h3,if_true,ite_self]
   ·obtain ⟨m1,m2⟩:=fndF_mem h2
    rw [o.par_ne m1 (fun e=>h3 (by rw [←m2,e]))]
end
theorem move_ok {G:Fo} (hn:G.ids.Nodup) (h0:∀ x∈G.ids,x≠0) (h3:3∈G.tops) {i:Nat} (hi:i∈G.ids) (hit:i∉G.tops) {up at_:Int} (hw:¬ under i (fndF G up) G):MvOk G i (nearF G (i:Int) up at_):=by
 obtain ⟨h,hr⟩:=reptop_ex G hn h0
 have hp:=near_del hr hn h3 hi hit (id:=(i:Int)) (up:=up) (at_:=at_) rfl hw
 have hperm:=ids_del i G hn hi
 obtain ⟨m1,m2⟩:=List.nodup_cons.1 (hperm.nodup_iff.1 hn)
 obtain ⟨m3,m4,m5⟩:=List.nodup_append.1 m2
 rw [List.mem_append,not_or] at m1
 refine ⟨hn,hi,⟨m4,m3,m1.2,m1.1,fun x hx g=>m5 x hx x g rfl,hp.1,hp.2.imp id fun ⟨a1,a2,_⟩=>⟨a1,?_⟩⟩⟩
 rw [par_del i _ G 0 hn a1,←reptop_par hr hn (del_ids_sub i a1)];exact a2
theorem make_ok {G:Fo} (hn:G.ids.Nodup) (h3:3∈G.tops) {i:Nat} (hi:i∉G.ids) {up at_:Int}:PutOk G (nearF G (i:Int) up at_) i .nil:=by
 have hp:=near_ok (G:=G) (tops_ids h3) (i:Int) up at_
 exact ⟨hn,by simp [Fo.ids],hi,by simp [Fo.ids],by simp [Fo.ids],hp.up,hp.at_.imp id fun ⟨a1,a2,_⟩=>⟨a1,a2⟩⟩
inductive Does (G:Fo) (kd:Int) (i:Nat) (up at_:Int) (s:ByteArray):Fo→Prop
 | text (h:kd=2) (hi:i∈G.ids):Does G kd i up at_ s (setF i s G)
 | make (h:kd=1) (hi:i∉G.ids) (o:PutOk G (nearF G (i:Int) up at_) i .nil):Does G kd i up at_ s (putF G (nearF G (i:Int) up at_) i s .nil)
 | move (h:kd=3) (hi:i∈G.ids) (hw:¬ under i (fndF G up) G) (o:MvOk G i (nearF G (i:Int) up at_)):Does G kd i up at_ s (mvF G (nearF G (i:Int) up at_) i)
 | none (h:(kd=2∧i∉G.ids)∨(kd=1∧i∈G.ids)∨(kd=3∧i∉G.ids)∨(kd=3∧i∈G.ids∧under i (fndF G up) G)):Does G kd i up at_ s G
theorem fnd_nat {G:Fo} {y:Nat} (hy:y∈G.ids):fndF G (y:Int)=y:=by unfold fndF;rw [if_pos ⟨by omega,by simpa using hy⟩];rfl
theorem fnd_not {G:Fo} {y:Nat} (hy:y∉G.ids):fndF G (y:Int)=0:=by unfold fndF;rw [if_neg (by simpa using hy)]
theorem does {G:Fo} (hn:G.ids.Nodup) (h0:∀ x∈G.ids,x≠0) (h3:3∈G.tops) (kd:Int) (i:Nat) (hit:i∉G.tops) (up at_:Int) (s:ByteArray) (hk:kd=1∨kd=2∨kd=3):Does G kd i up at_ s (doF G kd (i:Int) up at_ s):=by
 unfold doF
 by_cases hi:i∈G.ids
 ·have hi0:=h0 i hi
  rw [fnd_nat hi,if_neg hi0,if_neg hi0,if_neg hi0]
  rcases hk with rfl|rfl|rfl
  ·rw [if_neg (by decide),if_pos rfl];exact .none (Or.inr (Or.inl ⟨rfl,hi⟩))
  ·rw [if_pos rfl];exact .text rfl hi
  ·rw [if_neg (by decide),if_neg (by decide)]
   by_cases hu:under i (fndF G up) G
   ·rw [if_pos hu];exact .none (Or.inr (Or.inr (Or.inr ⟨rfl,hi,hu⟩)))
   ·rw [if_neg hu];exact .move rfl hi hu (move_ok hn h0 h3 hi hit hu)
 ·rw [fnd_not hi,if_pos rfl,if_pos rfl,if_pos rfl]
  rcases hk with rfl|rfl|rfl
  ·rw [if_neg (by decide),if_pos rfl];exact .make rfl hi (make_ok hn h3 hi)
  ·rw [if_pos rfl];exact .none (Or.inl ⟨rfl,hi⟩)
  ·rw [if_neg (by decide),if_neg (by decide)];exact .none (Or.inr (Or.inr (Or.inl ⟨rfl,hi⟩)))
section
variable {G:Fo} (hn:G.ids.Nodup) (h0:∀ x∈G.ids,x≠0) (h3:3∈G.tops) {kd:Int} {i:Nat} (hi0:i≠0) (hit:i∉G.tops) {up at_:Int} {s:ByteArray} (hk:kd=1∨kd=2∨kd=3)
end
theorem par_top0 {G:Fo} {x:Nat}:∀ {F:Fo},F.ids.Nodup→x∈F.tops→par x 0 F=0
 | .nil,_,h=>by simp [Fo.tops] at h
 | .nd j u k n,hn,h=>by
  obtain ⟨n1,n2,n3,n4,n5⟩:=nodup_nd hn
  simp only [Fo.tops,List.mem_cons] at h
  rw [par]
  by_cases e:j=x
  ·rw [if_pos e]
  ·have hx:x∈n.tops:=by grind
   rw [if_neg e,if_neg (fun g=>n5 x g (tops_ids hx)),par_top0 (G:=G) n4 hx]
theorem near_at_top {G:Fo} (hn:G.ids.Nodup) (h0:∀ x∈G.ids,x≠0) {H:Fo} {q:Nat×Nat} {i:Nat} {s:Fo} (o:PutOk H q i s) (hH:∀ x∈H.ids,x≠0):q.2=0∨q.2∉H.tops:=by
 refine o.at_.imp id fun ⟨h1,h2⟩ ht=>?_
 have:=par_top0 (G:=G) o.nd ht
 rw [h2] at this
 exact hH _ o.up this
theorem do_tops {G:Fo} (hn:G.ids.Nodup) (h0:∀ x∈G.ids,x≠0) {kd:Int} {i:Nat} (hi0:i≠0) (hit:i∉G.tops) {up at_:Int} {s:ByteArray} {G':Fo} (hd:Does G kd i up at_ s G'):G'.tops=G.tops∧G'.ids.Nodup∧(∀ x,x∈G'.ids↔x∈G.ids∨(kd=1∧x=i)):=by
 cases hd with
 | text h hi=>exact ⟨setF_tops _ _ _,by rw [setF_ids];exact hn,fun x=>by rw [setF_ids,h];simp⟩
 | make h hi o =>
  refine ⟨putF_tops (near_at_top hn h0 o h0),o.nodup,fun x=>?_⟩
  rw [o.mem];simp [Fo.ids,h,or_comm]
 | move h hi hw o =>
  refine ⟨?_,o.nodup,fun x=>by rw [o.ids,h];simp⟩
  unfold mvF
  rw [putF_tops (near_at_top hn h0 o.put fun x hx=>h0 x (del_ids_sub i hx)),tops_del i G hit]
 | none h=>exact ⟨rfl,hn,fun x=>⟨Or.inl,fun g=>g.elim id fun ⟨g1,g2⟩=>by rcases h with h|h|h|h <;> first|omega|exact g2 ▸ h.2⟩⟩
end Go.Proofs.YtdpklbomhdpimaaDoor.FP
namespace Go.Proofs.YtdpklbomhdpimaaDoor.PL
open Go.RowKit Go.Proofs.YtdpklbomhdpimaaDoor.P Go.Proofs.YtdpklbomhdpimaaDoorW.PrintWords Go.Proofs.YtdpklbomhdpimaaDoorW.PrintLast Go.Proofs.YtdpklbomhdpimaaDoor.FP
structure Good (G:Fo):Prop where
 nd:G.ids.Nodup
 ne0:∀ x∈G.ids,x≠0
 tops:G.tops=[1,2,3]
 len:G.ids.length≤1000
theorem Good.three {G:Fo} (g:Good G):3∈G.tops:=by rw [g.tops];simp
theorem fl_le:∀ (F:Fo) (d:Nat) {r:S69},r∈F.fl d→r.f1 < (d:Int)+F.ids.length
 | .nil,d,r,h=>by simp [Fo.fl] at h
 | .nd j t k n,d,r,h=>by
  simp only [Fo.fl,List.mem_cons,List.mem_append] at h
  simp only [Fo.ids,List.length_cons,List.length_append]
  rcases h with rfl|h|h
  ·show (d:Int) < _;omega
  ·have:=fl_le k (d+1) h;omega
  ·have:=fl_le n d h;omega
theorem good_fold:∀ (l:List S69) (G:Fo) (seen:List Int) (roots:Nat),treeGo seen (roots:Int) ((dpth G:Int) - 1) l=true→G.ids.Nodup→(∀ x∈G.ids,x≠0∧x < 37∧(x:Int)∈seen)→G.tops=List.range' 1 roots →
  (l.foldl (fun G x=>snoc x.f0.toNat x.f2 x.f1.toNat G) G).ids.Nodup∧(∀ x∈(l.foldl (fun G x=>snoc x.f0.toNat x.f2 x.f1.toNat G) G).ids,x≠0∧x < 37)∧(l.foldl (fun G x=>snoc x.f0.toNat x.f2 x.f1.toNat G) G).tops=[1,2,3]
 | [],G,seen,roots,h,hn,hs,ht=>by
  unfold treeGo at h
  have h3:=of_decide_eq_true h
  refine ⟨hn,fun x hx=>⟨(hs x hx).1,(hs x hx).2.1⟩,?_⟩
  show G.tops=_
  rw [ht,show roots=3 by omega];rfl
 | x::l,G,seen,roots,h,hn,hs,ht=>by
  unfold treeGo at h
  simp only [Bool.and_eq_true,decide_eq_true_eq] at h
  obtain ⟨hrow,hns,hdep,hrest⟩:=h
  obtain ⟨b0,b37,d0,d18⟩:=rowB_id hrow
  have he:x.f1.toNat≤dpth G:=by omega
  have hd:((dpth (snoc x.f0.toNat x.f2 x.f1.toNat G):Int) - 1)=x.f1:=by rw [snoc_dpth _ _ G _ he];omega
  have hx0:x.f0.toNat≠0:=by
   intro e
   have e2:x.f0=0:=by omega
   unfold rowB at hrow
   rw [e2] at hrow
   have r0:rootB (0:Int)=false:=by decide
   have m0:madeB (0:Int)=false:=by decide
   simp [r0,m0] at hrow
  have hi:x.f0.toNat∉G.ids:=fun hc=>hns (by have:=(hs _ hc).2.2;rwa [show ((x.f0.toNat:Nat):Int)=x.f0 by omega] at this)
  have hn2:(snoc x.f0.toNat x.f2 x.f1.toNat G).ids.Nodup:=by
   rw [snoc_ids]
   exact List.nodup_append.2 ⟨hn,by simp,fun a ha b hb e=>by rw [List.mem_singleton.1 hb] at e;exact hi (e ▸ ha)⟩
  have hs2:∀ y∈(snoc x.f0.toNat x.f2 x.f1.toNat G).ids,y≠0∧y < 37∧(y:Int)∈x.f0::seen:=fun y hy=>by
   rw [snoc_ids] at hy
   rcases List.mem_append.1 hy with hy|hy
   ·obtain ⟨q1,q2,q3⟩:=hs y hy;exact ⟨q1,q2,List.mem_cons_of_mem _ q3⟩
   ·rw [List.mem_singleton.1 hy]
    exact ⟨hx0,by omega,by rw [show ((x.f0.toNat:Nat):Int)=x.f0 by omega];exact List.mem_cons_self⟩
  rw [List.foldl_cons]
  by_cases hroot:rootB x.f0=true
  ·rw [if_pos hroot,Bool.and_eq_true,decide_eq_true_eq] at hrest
   have hd0:x.f1=0:=by
    unfold rowB at hrow
    rw [if_pos hroot] at hrow
    simp only [Bool.and_eq_true,decide_eq_true_eq] at hrow
    exact hrow.1
   refine good_fold l _ (x.f0::seen) (roots+1) ?_ hn2 hs2 ?_
   ·rw [hd];exact hrest.2
   ·rw [snoc_tops _ _ G _ he,if_pos (by omega),ht,List.range'_concat]
    rw [show x.f0.toNat=1+1 * roots by omega]
  ·rw [if_neg hroot] at hrest
   have hd1:1≤x.f1:=by
    unfold rowB at hrow
    rw [if_neg hroot] at hrow
    simp only [Bool.and_eq_true,decide_eq_true_eq] at hrow
    exact hrow.2.1
   refine good_fold l _ (x.f0::seen) roots ?_ hn2 hs2 ?_
   ·rw [hd];exact hrest
   ·rw [snoc_tops _ _ G _ he,if_neg (by omega),ht]
theorem good_of {l:List S69} (h:treeB l=true):Good (toFo l):=by
 obtain ⟨h1,h2,h3⟩:=good_fold l .nil [] 0 h (by simp [Fo.ids]) (by simp [Fo.ids]) rfl
 exact ⟨h1,fun x hx=>(h2 x hx).1,h3,by have:=nodup_len 37 _ h1 (fun x hx=>(h2 x hx).2);unfold toFo;omega⟩
theorem opB_kind {k i u a:Int} {s:ByteArray} (h:opB k i u a s=true):k=1∨k=2∨k=3:=by
 unfold opB at h
 by_cases h1:k=1
 ·exact Or.inl h1
 ·by_cases h2:k=2
  ·exact Or.inr (Or.inl h2)
  ·by_cases h3:k=3
   ·exact Or.inr (Or.inr h3)
   ·rw [if_neg h1,if_neg h2,if_neg h3] at h;simp at h
def opDoR (l:List S69) (k i u a:Int) (s:ByteArray):List S69:=if opB k i u a s=true then (if treeB l=true then (doF (toFo l) k i u a s).fl 0 else []) else []
theorem iopDo_f (l:List S69) (k i u a:Int) (s:ByteArray) (hs:s.size≤9223372036854775807):Ev (fun n=>impl_OpDo.f n l k i u a s) (opDoR l k i u a s):=by
 unfold impl_OpDo.f opDoR
 exact Ev.bind (opOk_f k i u a s hs) (evnow _)
def okT (x:Nat) (t:ByteArray):Bool:=if rootB (x:Int) then (t.toList==([]:List UInt8)) else madeB (x:Int)&&textB t
structure Val (G:Fo):Prop where
 nd:G.ids.Nodup
 tops:G.tops=[1,2,3]
 ok:∀ x∈G.ids,okT x (txtF x G)=true
theorem okT_ne {x:Nat} {t:ByteArray} (h:okT x t=true):1≤x∧x < 37:=by
 unfold okT at h
 by_cases hr:rootB (x:Int)=true
 ·unfold rootB at hr;simp only [Bool.and_eq_true,decide_eq_true_eq] at hr;omega
 ·rw [if_neg hr,Bool.and_eq_true] at h
  have:=made_small _ h.1
  obtain ⟨m,hm,h4,h37⟩:=made_num h.1
  omega
theorem Val.ne0 {G:Fo} (v:Val G):∀ x∈G.ids,x≠0:=fun x hx=>by have:=okT_ne (v.ok x hx);omega
theorem Val.three {G:Fo} (v:Val G):3∈G.tops:=by rw [v.tops];simp
theorem made_not_root {x:Int} (h:madeB x=true):rootB x=false:=by
 obtain ⟨m,rfl,h4,h37⟩:=made_num h
 unfold rootB;simp;omega
theorem Val.top {G:Fo} (v:Val G) {x:Nat} (hm:madeB (x:Int)=true):x∉G.tops:=by
 have:=made_not_root hm
 rw [v.tops]
 intro h
 simp only [List.mem_cons,List.not_mem_nil,or_false] at h
 rcases h with rfl|rfl|rfl <;> exact absurd this (by decide)
theorem sub_len:∀ (l m:List Nat),l.Nodup→(∀ x∈l,x∈m)→l.length≤m.length
 | [],m,_,_=>Nat.zero_le _
 | x::l,m,hn,h=>by
  obtain ⟨h1,h2⟩:=List.nodup_cons.1 hn
  have:=sub_len l (m.erase x) h2 fun y hy=>(List.mem_erase_of_ne (fun (e:y=x)=>h1 (e ▸ hy))).2 (h y (List.mem_cons_of_mem _ hy))
  rw [List.length_erase_of_mem (h x List.mem_cons_self)] at this
  have:=List.length_pos_of_mem (h x List.mem_cons_self)
  simp only [List.length_cons];omega
theorem made_list:∀ n:Nat,n < 37→madeB (n:Int)=true→n∈[11,12,13,14,15,16,21,22,23,24,25,26,31,32,33,34,35,36]:=by decide
theorem all_list:∀ n:Nat,n < 37→(rootB (n:Int) || madeB (n:Int))=true→n∈[1,2,3,11,12,13,14,15,16,21,22,23,24,25,26,31,32,33,34,35,36]:=by decide
theorem Val.len {G:Fo} (v:Val G):G.ids.length≤21:=sub_len _ [1,2,3,11,12,13,14,15,16,21,22,23,24,25,26,31,32,33,34,35,36] v.nd fun x hx=>by
 have h:=v.ok x hx
 have h2:=okT_ne h
 refine all_list x h2.2 ?_
 unfold okT at h
 by_cases hr:rootB (x:Int)=true
 ·rw [hr];rfl
 ·rw [if_neg hr,Bool.and_eq_true] at h
  rw [h.1,Bool.or_true]
theorem made_of_ok {x:Nat} {t:ByteArray} (h:okT x t=true) (h3:4≤x):madeB (x:Int)=true∧textB t=true:=by
 unfold okT at h
 have hr:¬ rootB (x:Int)=true:=by unfold rootB;simp;omega
 rwa [if_neg hr,Bool.and_eq_true] at h
theorem treeGo_rows:∀ (l:List S69) (seen:List Int) (roots d:Int),treeGo seen roots d l=true→∀ r∈l,rowB r=true
 | [],_,_,_,_,r,hr=>by cases hr
 | x::l,seen,roots,d,h,r,hr=>by
  unfold treeGo at h
  simp only [Bool.and_eq_true] at h
  obtain ⟨h1,_,_,h2⟩:=h
  rcases List.mem_cons.1 hr with rfl|hr
  ·exact h1
  ·split at h2
   ·simp only [Bool.and_eq_true] at h2;exact treeGo_rows l _ _ _ h2.2 r hr
   ·exact treeGo_rows l _ _ _ h2 r hr
theorem row_fl {G:Fo} (hn:G.ids.Nodup) {x d:Nat} (hx:x∈G.ids):(⟨(x:Int),(dep x d G:Int),txtF x G⟩:S69)∈G.fl d:=by
 obtain ⟨pre,post,s⟩:=spot x G d hn hx
 rw [s.all];simp
theorem val_of {l:List S69} (h:treeB l=true):Val (toFo l):=by
 have g:=good_of h
 refine ⟨g.nd,g.tops,fun x hx=>?_⟩
 have hr:=row_fl g.nd (d:=0) hx
 rw [toFo_fl h] at hr
 have:=treeGo_rows l _ _ _ h _ hr
 unfold rowB at this
 unfold okT
 simp only at this
 split
 ·rename_i e;rw [if_pos e,Bool.and_eq_true] at this;exact this.2
 ·rename_i e;rw [if_neg e] at this;simp only [Bool.and_eq_true] at this;rw [this.1,this.2.2.2];rfl
theorem go_in:∀ (F:Fo) (d:Nat) (seen:List Int) (roots prev:Int) (rest:List S69),1≤d→(d:Int)≤prev+1→F.ids.Nodup→(∀ x∈F.ids,(x:Int)∉seen)→(∀ r∈F.fl d,rowB r=true∧rootB r.f0=false) →
  (∀ (seen':List Int) (prev':Int),(d:Int)≤prev'+1→(∀ y,y∈seen'↔y∈seen∨∃ x∈F.ids,y=(x:Int))→treeGo seen' roots prev' rest=true)→treeGo seen roots prev (F.fl d++rest)=true
 | .nil,d,seen,roots,prev,rest,h1,hd,hn,hs,hr,k=>k seen prev hd fun y=>by simp [Fo.ids]
 | .nd j t k n,d,seen,roots,prev,rest,h1,hd,hn,hs,hr,kk=>by
  obtain ⟨n1,n2,n3,n4,n5⟩:=nodup_nd hn
  obtain ⟨q1,q2⟩:=hr ⟨(j:Int),(d:Int),t⟩ (by simp [Fo.fl])
  simp only at q2
  rw [Fo.fl,List.cons_append,List.append_assoc]
  unfold treeGo
  simp only [q1,q2,Bool.true_and,Bool.false_eq_true,if_false]
  rw [dt_ (hs j (by simp [Fo.ids])),dt_ hd,Bool.true_and,Bool.true_and]
  refine go_in k (d+1) _ roots d _ (by omega) (by omega) n3 (fun x hx=>?_) (fun r hr'=>hr r (by simp [Fo.fl,hr'])) fun seen1 prev1 hp1 hs1=>?_
  ·rw [List.mem_cons,not_or]
   exact ⟨fun e=>n1 (by rw [show j=x by omega];exact hx),hs x (by simp [Fo.ids,hx])⟩
  ·refine go_in n d seen1 roots prev1 rest h1 (by omega) n4 (fun x hx=>?_) (fun r hr'=>hr r (by simp [Fo.fl,hr'])) fun seen2 prev2 hp2 hs2=>?_
   ·rw [hs1,List.mem_cons]
    rintro ((e|e)|⟨z,hz,e⟩)
    ·exact n2 (by rw [show j=x by omega];exact hx)
    ·exact hs x (by simp [Fo.ids,hx]) e
    ·exact n5 z hz (by rw [show z=x by omega];exact hx)
   ·refine kk seen2 prev2 hp2 fun y=>?_
    rw [hs2,hs1]
    simp only [Fo.ids,List.mem_cons,List.mem_append]
    constructor
    ·rintro (((e|e)|⟨x,hx,e⟩)|⟨x,hx,e⟩)
     ·exact Or.inr ⟨j,Or.inl rfl,e⟩
     ·exact Or.inl e
     ·exact Or.inr ⟨x,Or.inr (Or.inl hx),e⟩
     ·exact Or.inr ⟨x,Or.inr (Or.inr hx),e⟩
    ·rintro (e|⟨x,rfl|hx|hx,e⟩)
     ·exact Or.inl (Or.inl (Or.inr e))
     ·exact Or.inl (Or.inl (Or.inl e))
     ·exact Or.inl (Or.inr ⟨x,hx,e⟩)
     ·exact Or.inr ⟨x,hx,e⟩
theorem fl_get {F:Fo} {d:Nat} {r:S69} (hn:F.ids.Nodup) (h:r∈F.fl d):∃ x∈F.ids,r=⟨(x:Int),(dep x d F:Int),txtF x F⟩:=by
 obtain ⟨x,hx,e⟩:=fl_ids F d h
 obtain ⟨pre,post,s⟩:=spot x F d hn hx
 refine ⟨x,hx,?_⟩
 have hm:=fl_map F d
 have hnd:((F.fl d).map (·.f0)).Nodup:=by
  rw [hm]
  exact (List.pairwise_map.2 (List.Pairwise.imp (fun {a b} (hne:a≠b)=>(by intro e2;exact hne (Int.ofNat.inj e2):Int.ofNat a≠Int.ofNat b)) hn))
 rw [s.all] at h hnd
 rw [List.map_append,List.map_cons,List.nodup_append] at hnd
 obtain ⟨_,h2,h3⟩:=hnd
 rcases List.mem_append.1 h with h|h
 ·exact absurd e (s.out r h)
 ·rcases List.mem_cons.1 h with h|h
  ·exact h
  ·exfalso
   refine (List.nodup_cons.1 h2).1 ?_
   rw [←e]
   exact List.mem_map.2 ⟨r,h,rfl⟩
theorem three_shape {G:Fo} (h:G.tops=[1,2,3]):∃ t1 k1 t2 k2 t3 k3,G=.nd 1 t1 k1 (.nd 2 t2 k2 (.nd 3 t3 k3 .nil)):=by
 match G,h with
 | .nd a t1 k1 (.nd b t2 k2 (.nd c t3 k3 .nil)),h =>
  simp only [Fo.tops,List.cons.injEq,and_true] at h
  obtain ⟨rfl,rfl,rfl⟩:=h
  exact ⟨t1,k1,t2,k2,t3,k3,rfl⟩
theorem treeB_fl {G:Fo} (v:Val G):treeB (G.fl 0)=true:=by
 have hok:=v.ok
 have hnd:=v.nd
 obtain ⟨t1,k1,t2,k2,t3,k3,rfl⟩:=three_shape v.tops
 obtain ⟨a1,a2,a3,a4,a5⟩:=nodup_nd hnd
 obtain ⟨b1,b2,b3,b4,b5⟩:=nodup_nd a4
 obtain ⟨c1,c2,c3,c4,c5⟩:=nodup_nd b4
 simp only [Fo.ids,List.mem_cons,List.mem_append,not_or,List.not_mem_nil,or_false,not_false_eq_true,and_true] at a2 a5 b2 b5
 replace a5:∀ x∈k1.ids,(x=2∨x∈k2.ids∨x=3∨x∈k3.ids)→False:=fun x hx g=>by have:=a5 x hx;grind
 replace b5:∀ x∈k2.ids,(x=3∨x∈k3.ids)→False:=fun x hx g=>by have:=b5 x hx;grind
 have big:∀ k:Fo,k.ids.Nodup→(∀ x∈k.ids,x≠1∧x≠2∧x≠3)→(∀ x∈k.ids,okT x (txtF x k)=true)→∀ r∈k.fl 1,rowB r=true∧rootB r.f0=false:=by
  intro k hn hne hk r hr
  obtain ⟨x,hx,rfl⟩:=fl_get hn hr
  have h4:=hne x hx
  have h5:=okT_ne (hk x hx)
  obtain ⟨m1,m2⟩:=made_of_ok (hk x hx) (by omega)
  have mr:=made_not_root m1
  have hd:=fl_deep k 1 hr
  have hl:=fl_le k 1 hr
  have hlen:k.ids.length≤18:=sub_len _ [11,12,13,14,15,16,21,22,23,24,25,26,31,32,33,34,35,36] hn fun y hy=>by
   have g4:=hne y hy
   have g5:=okT_ne (hk y hy)
   exact made_list y g5.2 (made_of_ok (hk y hy) (by omega)).1
  simp only at hd hl
  refine ⟨?_,mr⟩
  unfold rowB
  simp only [mr,Bool.false_eq_true,if_false,m1,m2,Bool.true_and,Bool.and_true]
  rw [dt_ (by omega),dt_ (by omega)];rfl
 have root:∀ (x:Nat) (t:ByteArray),rootB (x:Int)=true→okT x t=true→rowB ⟨(x:Int),0,t⟩=true:=by
  intro x t hr h
  unfold okT at h
  rw [if_pos hr] at h
  unfold rowB
  simp only [hr,if_true,h];rfl
 have o1:okT 1 t1=true:=by have:=hok 1 (by simp [Fo.ids]);rwa [txtF,if_pos rfl] at this
 have o2:okT 2 t2=true:=by have:=hok 2 (by simp [Fo.ids]);rwa [txtF,if_neg (by decide),if_neg (fun g=>a5 2 g (Or.inl rfl)),txtF,if_pos rfl] at this
 have o3:okT 3 t3=true:=by have:=hok 3 (by simp [Fo.ids]);rwa [txtF,if_neg (by decide),if_neg (fun g=>a5 3 g (Or.inr (Or.inr (Or.inl rfl)))),txtF,if_neg (by decide),if_neg (fun g=>b5 3 g (Or.inl rfl)),txtF,if_pos rfl] at this
 have i1:∀ x∈k1.ids,okT x (txtF x k1)=true:=fun x hx=>by
  have:=hok x (by simp [Fo.ids,hx])
  rwa [txtF,if_neg (fun e=>a1 (by rw [e];exact hx)),if_pos hx] at this
 have i2:∀ x∈k2.ids,okT x (txtF x k2)=true:=fun x hx=>by
  have:=hok x (by simp [Fo.ids,hx])
  rwa [txtF,if_neg (fun e=>a2.2.1 (by rw [e];exact hx)),if_neg (fun g=>a5 x g (by grind)),txtF,if_neg (fun e=>b1 (by rw [e];exact hx)),if_pos hx] at this
 have i3:∀ x∈k3.ids,okT x (txtF x k3)=true:=fun x hx=>by
  have:=hok x (by simp [Fo.ids,hx])
  rwa [txtF,if_neg (fun e=>a2.2.2.2 (by rw [e];exact hx)),if_neg (fun g=>a5 x g (by grind)),txtF,if_neg (fun e=>b2.2 (by rw [e];exact hx)),if_neg (fun g=>b5 x g (by grind)),txtF,if_neg (fun e=>c1 (by rw [e];exact hx)),if_pos hx] at this
 have e1:=big k1 a3 (fun x hx=>⟨fun e=>a1 (e ▸ hx),fun e=>a5 x hx (Or.inl e),fun e=>a5 x hx (Or.inr (Or.inr (Or.inl e)))⟩) i1
 have e2:=big k2 b3 (fun x hx=>⟨fun e=>a2.2.1 (e ▸ hx),fun e=>b1 (e ▸ hx),fun e=>b5 x hx (Or.inl e)⟩) i2
 have e3:=big k3 c3 (fun x hx=>⟨fun e=>a2.2.2.2 (e ▸ hx),fun e=>b2.2 (e ▸ hx),fun e=>c1 (e ▸ hx)⟩) i3
 have r1:=root 1 t1 (by decide) o1
 have r2:=root 2 t2 (by decide) o2
 have r3:=root 3 t3 (by decide) o3
 simp only [Fo.fl,Nat.zero_add,List.append_nil]
 unfold treeB
 have q1:rootB ((1:Nat):Int)=true:=by decide
 have q2:rootB ((2:Nat):Int)=true:=by decide
 have q3:rootB ((3:Nat):Int)=true:=by decide
 unfold treeGo
 simp only [Int.natCast_zero] at r1 r2 r3 ⊢
 rw [r1,Bool.true_and,dt_ (by simp),Bool.true_and,dt_ (by omega),Bool.true_and,if_pos q1,dt_ (by omega),Bool.true_and]
 refine go_in k1 1 _ _ _ _ (by omega) (by omega) a3 (fun x hx=>?_) e1 fun s1 p1 hp1 hs1=>?_
 ·simp only [List.mem_cons,List.not_mem_nil,or_false]
  intro e;exact a1 (by rw [show 1=x by omega];exact hx)
 unfold treeGo
 have z2:((2:Nat):Int)∉s1:=by
  rw [hs1];simp only [List.mem_cons,List.not_mem_nil,or_false]
  rintro (e|⟨x,hx,e⟩)
  ·omega
  ·exact a5 x hx (Or.inl (by omega))
 simp only
 rw [r2,Bool.true_and,dt_ z2,Bool.true_and,dt_ (by omega),Bool.true_and,if_pos q2,dt_ (by omega),Bool.true_and]
 refine go_in k2 1 _ _ _ _ (by omega) (by omega) b3 (fun x hx=>?_) e2 fun s2 p2 hp2 hs2=>?_
 ·rw [List.mem_cons,hs1];simp only [List.mem_cons,List.not_mem_nil,or_false]
  rintro (e|e|⟨y,hy,e⟩)
  ·exact b1 (by rw [show 2=x by omega];exact hx)
  ·exact a2.2.1 (by rw [show 1=x by omega];exact hx)
  ·exact a5 y hy (by rw [show y=x by omega];exact Or.inr (Or.inl hx))
 unfold treeGo
 have z3:((3:Nat):Int)∉s2:=by
  rw [hs2,List.mem_cons,hs1];simp only [List.mem_cons,List.not_mem_nil,or_false]
  rintro ((e|e|⟨x,hx,e⟩)|⟨x,hx,e⟩)
  ·omega
  ·omega
  ·exact a5 x hx (Or.inr (Or.inr (Or.inl (by omega))))
  ·exact b5 x hx (Or.inl (by omega))
 simp only
 rw [r3,Bool.true_and,dt_ z3,Bool.true_and,dt_ (by omega),Bool.true_and,if_pos q3,dt_ (by omega),Bool.true_and]
 rw [←List.append_nil (k3.fl 1)]
 refine go_in k3 1 _ _ _ _ (by omega) (by omega) c3 (fun x hx=>?_) e3 fun s3 p3 hp3 hs3=>?_
 ·rw [List.mem_cons,hs2,List.mem_cons,hs1];simp only [List.mem_cons,List.not_mem_nil,or_false]
  rintro (e|(e|e|⟨y,hy,e⟩)|⟨y,hy,e⟩)
  ·exact c1 (by rw [show 3=x by omega];exact hx)
  ·exact b2.2 (by rw [show 2=x by omega];exact hx)
  ·exact a2.2.2.2 (by rw [show 1=x by omega];exact hx)
  ·exact a5 y hy (by rw [show y=x by omega];exact Or.inr (Or.inr (Or.inr hx)))
  ·exact b5 y hy (by rw [show y=x by omega];exact Or.inr hx)
 unfold treeGo
 exact dt_ (by omega)
theorem made_nat {k i u a:Int} {s:ByteArray} (h:opB k i u a s=true):∃ m:Nat,i=(m:Int)∧4≤m∧m < 37∧madeB (m:Int)=true:=by
 obtain ⟨m,rfl,h4,h37⟩:=made_num (opB_made k i u a s h)
 exact ⟨m,rfl,h4,h37,opB_made k _ u a s h⟩
theorem Val.does {G:Fo} (v:Val G) {k u a:Int} {i:Nat} {s:ByteArray} (h:opB k (i:Int) u a s=true):Does G k i u a s (doF G k i u a s) :=
 FP.does v.nd v.ne0 v.three k i (v.top (opB_made _ _ _ _ _ h)) u a s (opB_kind h)
theorem opB_text {k i u a:Int} {s:ByteArray} (h:opB k i u a s=true) (hk:k=1∨k=2):textB s=true:=by
 unfold opB at h
 simp only [Bool.and_eq_true] at h
 rcases hk with rfl|rfl
 ·rw [if_pos rfl,Bool.and_eq_true] at h;exact h.2.2
 ·rw [if_neg (by decide),if_pos rfl] at h;simp only [Bool.and_eq_true] at h;exact h.2.2
theorem okT_made {x:Nat} {t:ByteArray} (h:madeB (x:Int)=true) (ht:textB t=true):okT x t=true:=by
 unfold okT;rw [made_not_root h,h,ht];rfl
theorem Val.done {G:Fo} (v:Val G) {k u a:Int} {i:Nat} {s:ByteArray} (h:opB k (i:Int) u a s=true) {G':Fo} (hd:Does G k i u a s G'):Val G':=by
 have hm:=opB_made _ _ _ _ _ h
 have hi0:i≠0:=by rintro rfl;exact absurd hm (by decide)
 obtain ⟨h1,h2,h3⟩:=do_tops v.nd v.ne0 hi0 (v.top hm) hd
 refine ⟨h2,h1.trans v.tops,fun x hx=>?_⟩
 cases hd with
 | text hk hi =>
  rw [setF_ids] at hx
  by_cases e:x=i
  ·subst e;rw [set_txt_eq _ _ hi];exact okT_made hm (opB_text h (Or.inr hk))
  ·rw [set_txt_ne _ _ e];exact v.ok x hx
 | make hk hi o =>
  rcases (o.mem x).1 hx with rfl|g|g
  ·rw [o.txt];exact okT_made hm (opB_text h (Or.inl hk))
  ·simp [Fo.ids] at g
  ·rw [o.txt_old g];exact v.ok x g
 | move hk hi hw o=>rw [o.txt ((o.ids x).1 hx)];exact v.ok x ((o.ids x).1 hx)
 | none hk=>exact v.ok x hx
theorem Val.doF {G:Fo} (v:Val G) {k u a:Int} {i:Nat} {s:ByteArray} (h:opB k (i:Int) u a s=true):Val (doF G k i u a s):=v.done h (v.does h)
theorem opDo_val {l:List S69} {k u a:Int} {i:Nat} {s:ByteArray} (ho:opB k (i:Int) u a s=true) (ht:treeB l=true) :
  opDoR l k i u a s=(FP.doF (toFo l) k i u a s).fl 0∧treeB (opDoR l k i u a s)=true∧toFo (opDoR l k i u a s)=FP.doF (toFo l) k i u a s∧Val (FP.doF (toFo l) k i u a s):=by
 have e:opDoR l k i u a s=(FP.doF (toFo l) k i u a s).fl 0:=by unfold opDoR;rw [if_pos ho,if_pos ht]
 have v:=(val_of ht).doF ho
 have ht2:treeB (opDoR l k i u a s)=true:=by rw [e];exact treeB_fl v
 exact ⟨e,ht2,toFo_of ht2 e.symm,v⟩
def new3:List S69:=[⟨1,0,⟨#[]⟩⟩,⟨2,0,⟨#[]⟩⟩,⟨3,0,⟨#[]⟩⟩]
def stepT (t:List S69) (e:S44):List S69:=opDoR t e.f2.f0 e.f2.f1 e.f2.f2 e.f2.f3 e.f2.f4
def foldT (t:List S69) (l:List S44):List S69:=l.foldl stepT t
def logT (l:List S44):List S69:=if logB l=true then foldT new3 l else []
def opE (e:S44):Bool:=opB e.f2.f0 e.f2.f1 e.f2.f2 e.f2.f3 e.f2.f4
theorem new3_val:treeB new3=true:=by decide +kernel
theorem treeB_len {t:List S69} (ht:treeB t=true):t.length≤21:=by
 have h1:=(val_of ht).len
 have h2:=fl_len (toFo t) 0
 rw [toFo_fl ht] at h2
 omega
theorem entB_op {e:S44} (h:entB e=true):opE e=true:=by
 unfold entB at h
 simp only [Bool.and_eq_true] at h
 exact h.1.2
theorem goB_ent:∀ (l pre:List S44),goB pre l=true→∀ e∈l,entB e=true
 | [],_,_,e,he=>by cases he
 | x::l,pre,h,e,he=>by
  unfold goB at h
  simp only [Bool.and_eq_true] at h
  rcases List.mem_cons.1 he with rfl|he
  ·exact h.1.1
  ·exact goB_ent l _ h.2 e he
theorem logB_ent {l:List S44} (h:logB l=true):∀ e∈l,entB e=true:=by
 unfold logB at h
 rw [Bool.and_eq_true] at h
 exact goB_ent l [] h.2
theorem logB_op {l:List S44} (h:logB l=true):∀ e∈l,opE e=true:=fun e he=>entB_op (logB_ent h e he)
theorem ilogT_l0 (l:List S44) (hw:wfL l) (hl:l.length≤1099511627776):∀ (n i:Nat) (t:List S69),i+n=l.length→Ev (fun k=>impl_LogTree.l0 k t l (l.length:Int) i) (foldT t (l.drop i))
 | 0,i,t,h=>by
  rw [List.drop_eq_nil_of_le (by omega)]
  refine Ev.step (f:=fun _=>some t) (fun k=>?_) (evnow _)
  simp only [impl_LogTree.l0];rw [if_neg (by omega)]
 | n+1,i,t,h=>by
  have hi:i < l.length:=by omega
  have hs:=(hw _ (List.getElem_mem hi)).2.2.2.2.2.2
  rw [List.drop_eq_getElem_cons hi]
  refine Ev.step (f:=fun k=>(impl_OpDo.f k t l[i].f2.f0 l[i].f2.f1 l[i].f2.f2 l[i].f2.f3 l[i].f2.f4).bind fun t2=>impl_LogTree.l0 k t2 l (l.length:Int) ((i+1:Nat):Int)) (fun k=>?_) (Ev.bind (iopDo_f _ _ _ _ _ _ hs) (ilogT_l0 l hw hl n (i+1) _ (by omega)))
  simp only [impl_LogTree.l0]
  rw [if_pos (by omega),if_pos (by omega),if_pos (by omega),rdE_get l i hi,wrapS i (by omega) (by omega)]
  rfl
theorem ilogT_f (l:List S44) (hw:wfL l):Ev (fun k=>impl_LogTree.f k l) (logT l):=by
 unfold impl_LogTree.f logT
 refine Ev.bind (log_f l hw) ?_
 cases hb:logB l with
 | false=>simp only [Bool.false_eq_true,if_false];exact evnow _
 | true =>
  have h40:=logB_len hb
  simp only [if_true]
  unfold impl_TreeNew.f
  simp only [Option.bind_some]
  exact ilogT_l0 l hw (by omega) l.length 0 _ (by omega)
theorem step_ids {t:List S69} {e:S44} (ho:opE e=true) (ht:treeB t=true):treeB (stepT t e)=true∧∀ x:Nat,x∈(toFo (stepT t e)).ids↔x∈(toFo t).ids∨(e.f2.f0=1∧(x:Int)=e.f2.f1):=by
 have ho':opB e.f2.f0 e.f2.f1 e.f2.f2 e.f2.f3 e.f2.f4=true:=ho
 obtain ⟨m,hm,h4,h37,hM⟩:=made_nat ho'
 rw [hm] at ho'
 obtain ⟨e1,h2,h3,v'⟩:=opDo_val ho' ht
 have v:=val_of ht
 have hs:stepT t e=opDoR t e.f2.f0 (m:Int) e.f2.f2 e.f2.f3 e.f2.f4:=by unfold stepT;rw [hm]
 rw [hs,h3]
 refine ⟨h2,fun x=>?_⟩
 have q:=(do_tops v.nd v.ne0 (i:=m) (by omega) (v.top hM) (v.does ho')).2.2 x
 rw [q,hm]
 constructor
 ·rintro (h|⟨h,rfl⟩)
  ·exact Or.inl h
  ·exact Or.inr ⟨h,rfl⟩
 ·rintro (h|⟨h,h5⟩)
  ·exact Or.inl h
  ·exact Or.inr ⟨h,by omega⟩
theorem foldT_ids:∀ (l:List S44) (t:List S69),(∀ e∈l,opE e=true)→treeB t=true→treeB (foldT t l)=true∧(∀ x∈(toFo t).ids,x∈(toFo (foldT t l)).ids)∧∀ e∈l,e.f2.f0=1→∃ m:Nat,m∈(toFo (foldT t l)).ids∧(m:Int)=e.f2.f1
 | [],t,ho,ht=>⟨ht,fun x hx=>hx,fun e he=>by cases he⟩
 | y::l,t,ho,ht=>by
  obtain ⟨h1,h2⟩:=step_ids (ho y List.mem_cons_self) ht
  obtain ⟨g1,g2,g3⟩:=foldT_ids l (stepT t y) (fun e he=>ho e (List.mem_cons_of_mem _ he)) h1
  refine ⟨g1,fun x hx=>g2 x ((h2 x).2 (Or.inl hx)),fun e he hk=>?_⟩
  rcases List.mem_cons.1 he with rfl|he
  ·obtain ⟨m,hm,_,_,_⟩:=made_nat (show opB e.f2.f0 e.f2.f1 e.f2.f2 e.f2.f3 e.f2.f4=true from ho e List.mem_cons_self)
   exact ⟨m,g2 m ((h2 m).2 (Or.inr ⟨hk,hm.symm⟩)),hm.symm⟩
  ·exact g3 e he hk
theorem logT_len (l:List S44):(logT l).length≤21:=by
 unfold logT
 split
 ·rename_i h
  exact treeB_len (foldT_ids l new3 (logB_op h) new3_val).1
 ·simp
theorem logT_ok {l:List S44} (h:logB l=true):logT l=foldT new3 l∧treeB (logT l)=true:=by
 have e:logT l=foldT new3 l:=by unfold logT;rw [if_pos h]
 exact ⟨e,by rw [e];exact (foldT_ids l new3 (logB_op h) new3_val).1⟩
theorem lpR_l0 (l:List S69) (hl:l.length≤1099511627776):∀ (n i:Nat),i+n=l.length→Ev (fun k=>laws_lpRows.l0 k l l i) true
 | 0,i,h=>by
  refine Ev.step (f:=fun _=>some true) (fun k=>?_) (evnow _)
  simp only [laws_lpRows.l0];rw [if_neg (by omega)]
 | n+1,i,h=>by
  refine Ev.step (fun k=>?_) (lpR_l0 l hl n (i+1) (by omega))
  simp only [laws_lpRows.l0]
  rw [if_pos (by omega),if_pos (by omega),if_pos (by omega)]
  simp only [BEq.rfl,Bool.not_true,Bool.or_false,Bool.false_eq_true,if_false]
  rw [wrapS i (by omega) (by omega)]
  rfl
theorem lpR_f (l:List S69) (hl:l.length≤1099511627776):Ev (fun k=>laws_lpRows.f k l l) true:=by
 unfold laws_lpRows.f
 exact ev_pos rfl (lpR_l0 l hl l.length 0 (by omega))
theorem pure_of {f:Nat→Option Bool} (h:Ev f true):∃ k,f k=some true:=by
 obtain ⟨K,hK⟩:=h
 exact ⟨K,hK K (Nat.le_refl K)⟩
end Go.Proofs.YtdpklbomhdpimaaDoor.PL
namespace Go.Proofs.YtdpklbomhdpimaaDoor.PL
open Go.RowKit Go.Proofs.YtdpklbomhdpimaaDoor.P Go.Proofs.YtdpklbomhdpimaaDoorW.PrintWords Go.Proofs.YtdpklbomhdpimaaDoorW.PrintLast
theorem lp_l0 (l:List S44) (hl:l.length≤1099511627776):∀ (n i:Nat),i+n=l.length→Ev (fun k=>laws_lpLog.l0 k l l i) true
 | 0,i,h=>by
  refine Ev.step (f:=fun _=>some true) (fun k=>?_) (evnow _)
  simp only [laws_lpLog.l0];rw [if_neg (by omega)]
 | n+1,i,h=>by
  refine Ev.step (fun k=>?_) (lp_l0 l hl n (i+1) (by omega))
  simp only [laws_lpLog.l0]
  rw [if_pos (by omega),if_pos (by omega),if_pos (by omega)]
  simp only [BEq.rfl,Bool.not_true,Bool.or_false,Bool.false_eq_true,if_false]
  rw [wrapS i (by omega) (by omega)]
  rfl
theorem lp_f (l:List S44) (hl:l.length≤1099511627776):Ev (fun k=>laws_lpLog.f k l l) true:=by
 unfold laws_lpLog.f
 exact ev_pos rfl (lp_l0 l hl l.length 0 (by omega))
end Go.Proofs.YtdpklbomhdpimaaDoor.PL
namespace Go.Proofs.YtdpklbomhdpimaaDoor.PL
open Go.RowKit Go.Proofs.YtdpklbomhdpimaaDoor.P Go.Proofs.YtdpklbomhdpimaaDoorW.PrintWords Go.Proofs.YtdpklbomhdpimaaDoorW.PrintLast Go.Proofs.YtdpklbomhdpimaaDoor.FP
theorem logAddV_len (l:List S44) (e:S44):(logAddV l e).1.length≤l.length+1:=by
 have:=addV_len l e
 unfold logAddV
 split
 ·split
  ·exact this
  ·simp
 ·simp
theorem FnTreeMore:laws_FnTreeMore.Pure:=by
 intro l0 _ _ h0
 refine pure_of ?_
 unfold laws_FnTreeMore.f
 by_cases h:(l0.length:Int) > 1048576
 ·exact ev_pos h (evnow _)
 ·obtain ⟨l,e,hd,hw,he,hl⟩:=drawAdd_f l0 h0
  have hn:=logAddV_len l e
  have hlp:=lp_f (logAddV l e).1 (by omega)
  refine ev_neg h (Ev.bind hd (Ev.bind (slogAdd_f l e hw he (by omega)) (Ev.bind (ilogAdd_f l e hw he) (ev_pos rfl (Ev.bind hlp (ev_pos rfl ?_))))))
  refine Ev.step (fun n=>by simp only [laws_FnTreeMore.j0];rfl) ?_
  by_cases h1:(logAddV l e).2=1
  ·refine ev_neg (by simp [h1]) ?_
   have hlb:logB l=true:=by
    cases hb:logB l with
    | true=>rfl
    | false=>unfold logAddV at h1;rw [hb,if_neg (show ¬ (false=true) by decide)] at h1;exact absurd h1 (show ¬ ((-1:Int)=1) by decide)
   have heb:entB e=true:=by
    cases hb:entB e with
    | true=>rfl
    | false=>unfold logAddV at h1;rw [hlb,if_pos rfl,hb,if_neg (show ¬ (false=true) by decide)] at h1;exact absurd h1 (show ¬ ((-1:Int)=1) by decide)
   have hA:logAddV l e=addV l e:=by unfold logAddV;rw [if_pos hlb,if_pos heb]
   rw [hA] at h1 ⊢
   obtain ⟨a1,a2,a3,a4⟩:=addV_one h1
   rw [a1]
   have hw2:wfL (l++[e]):=wfL_snoc hw he
   have hlb2:=logB_snoc hlb heb a3 a4
   obtain ⟨e1,t1⟩:=logT_ok hlb
   obtain ⟨e2,t2⟩:=logT_ok hlb2
   have e3:logT (l++[e])=opDoR (logT l) e.f2.f0 e.f2.f1 e.f2.f2 e.f2.f3 e.f2.f4:=by
    rw [e2,e1]
    unfold foldT
    rw [List.foldl_append]
    rfl
   refine Ev.bind (ilogT_f _ hw2) (Ev.bind (ilogT_f l hw) (Ev.bind (iopDo_f _ _ _ _ _ _ he.2.2.2.2.2.2) ?_))
   rw [←e3]
   have:=logT_len (l++[e])
   exact Ev.bind (lpR_f _ (by omega)) (evnow _)
  ·exact ev_pos (by simp [h1]) (ev_pos (by simp) (Ev.bind hlp (evnow _)))
end Go.Proofs.YtdpklbomhdpimaaDoor.PL
namespace Go.Proofs.YtdpklbomhdpimaaDoor.P
open Go.ChangeShapes Go.WideShapes Go.ChangeAt Go.RowKit
theorem tOwners:(Tryd.prog.globals[0]?).map (·.type)=some 126:=by kernel_rfl
theorem cOwners:Tryd.prog.cellsOf 126=37:=by kernel_rfl
theorem cInt:Tryd.prog.cellsOf 3=1:=by kernel_rfl
abbrev ownCells:Array Value:=(owners.map fun z=>Value.int .i64 z).toArray
theorem glob_of_laid {W:World} (h:laidMet Tryd.prog [("loop.example/plashet/impl.rowOwners",Rows.laid_loop_example_plashet_impl_rowOwners)] W):Glob W :=
 Lib.tabIs_of_head gOwners tOwners Tryd.underlying126 Tryd.underlying3 cInt cOwners h
theorem door_met (os:Os) (args:Array Value):laidMet Tryd.prog [("loop.example/plashet/impl.rowOwners",Rows.laid_loop_example_plashet_impl_rowOwners)] ((World.doorLaid Tryd.prog 400 os).forCall (fun _ _=>0) ⟨#[],args,[]⟩).memory :=
 laidMet_of_run' 8 (by kernel_rfl) (by kernel_rfl)
abbrev tableH {H:Type}:DataW H:=.agg (owners.map fun z=>.lit (.int .i64 z))
theorem reads_table {H:Type} (enc:TypeId×Value→H) (W:World) (sp:Nat→Bool):DataW.trod enc Tryd.prog W 0 sp true 3 126 ownCells.toList=some (tableH,[]):=by kernel_rfl
theorem tab_vars {H:Type} (enc:TypeId×Value→H) {W:World} (h:Glob W) {sp:Nat→Bool}:DataW.TrodVars enc Tryd.prog W sp ["loop.example/plashet/impl.rowOwners"] [tableH] (MemPlace.row ⟨0,0,none⟩ ownCells.size++[]++[]) :=
 ⟨0,126,ownCells,3,[],[],gOwners,tOwners,h,reads_table enc W sp,rfl,rfl⟩
end Go.Proofs.YtdpklbomhdpimaaDoor.P
namespace Go.Proofs.YtdpklbomhdpimaaDoor.fnTreeMore
open Go.ChangeMaps (open_string shut_string)
open Go.ChangeShapes Go.WideShapes Go.ChangeAt Go.RowKit
theorem own:ownKnob Tryd.prog.godebug=none:=by kernel_rfl
theorem laidOut:laidOutB Tryd.prog=true:=by kernel_rfl
def IsRow (k:IntKind) (w:World) (a:Option Addr) (len cap:Nat) (zs:List Int):Prop :=
 (a=none∧len=0∧cap=0∧zs=[]) ∨
 ∃ x,a=some x∧len≤cap∧cap≤maxLen∧zs.length=cap∧(∀ i,i < zs.length→w.cell? (x.add i)=some (.int k (zs.getD i 0)))∧∀ n∈zs,(Lit.int k n).wf=true
theorem lifted (os:Os) (started:os.Started) (H:Type) (enc:TypeId×Value→H) :
  ReturnsInHanded {} Tryd.checked os 8 .any (fun w args=>(Rows.fnTreeMoreSpec.pre enc Tryd.prog Tryd.f8 [] false w args∧laidMet Tryd.prog [("loop.example/plashet/impl.rowOwners",Rows.laid_loop_example_plashet_impl_rowOwners)] w)∧sizedMet enc Tryd.prog Tryd.f8 (OpenSpec.ofChange Rows.fnTreeMoreSpec) false w args) (Rows.fnTreeMoreSpec.post enc Tryd.prog Tryd.f8 false true false false):=by
 refine returnsInHanded_of_change_and (C:=Tryd.checked) (X:=fun w _=>laidMet Tryd.prog [("loop.example/plashet/impl.rowOwners",Rows.laid_loop_example_plashet_impl_rowOwners)] w) (fun _ _ _ hh h=>h.of_heap hh) own started (by kernel_rfl) Tryd.func8
  (ChangeSpec.witness_shaped (enc:=enc) (C:=Tryd.checked) (os:=os) (X:=fun w _=>laidMet Tryd.prog [("loop.example/plashet/impl.rowOwners",Rows.laid_loop_example_plashet_impl_rowOwners)] w) false (World.doorLaid Tryd.prog 400 os) #[.slice none 0 0] 8 rfl (World.shaped_of_RefB (by kernel_rfl) (by kernel_rfl)) (by kernel_rfl) (by kernel_rfl) (by kernel_rfl) (P.door_met os _)) ?_
 intro W base args ds gs before hval0 hW _ hsz0 hL _
 have hsz:(DataW.weightsEach Tryd.prog (Tryd.f8.params.toList++Rows.fnTreeMoreSpec.plain.varTypes Tryd.prog) (ds++gs)).all (·≤reachBytes)=true:=hsz0
 have hval:∀ (j:Nat) t v,Tryd.f8.params[j]?=some t→args[j]?=some v→Value.okWide Tryd.prog W .any base t v:=hval0
 have hW':=hW
 obtain ⟨p,q,hA0,hV,rfl,hfz,hnd⟩:=hW
 have hA:DataW.TrodAll enc Tryd.prog W 0 (fun _=>true) true Tryd.f8.params.toList args.toList ds p:=hA0
 rw [Tryd.params8] at hA hval hsz
 obtain ⟨v0,vs0,d0,ds0,p0,q0,hargs,rfl,rfl,h0,r0⟩:=trodAll_cons hA
 obtain ⟨rfl,rfl,rfl⟩:=trodAll_nil r0
 obtain rfl:args=#[v0]:=by cases args;simp_all
 have hG:P.Glob W:=P.glob_of_laid hL
 obtain ⟨gv,tv,csv,fuelv,dv,pv,rfl,hgv,htv,hvarv,hdv,rfl⟩:=trodVars_one hV
 obtain rfl:csv=P.ownCells:=Option.some.inj (hvarv.symm.trans hG)
 obtain rfl:=Option.some.inj (P.tOwners.symm.trans (by rw [Option.some.inj (P.gOwners.symm.trans hgv)];exact htv))
 obtain ⟨rfl,rfl⟩:=DataW.Trod.unique (v:=.agg P.ownCells) ⟨fuelv,hdv⟩ ⟨3,P.reads_table enc W _⟩
 obtain ⟨a0,len0,cap0,rfl⟩:=okWide_slice Tryd.underlying22 (hval 0 22 v0 rfl rfl)
 have k0:=h0
 have lt0:∀ x∈p0,x.block < W.heap.size:=by obtain ⟨m,hm⟩:=k0;exact DataW.trod_lt m _ _ _ hm
 obtain ⟨z0,w0⟩:∃ zs,IsRow .u8 W a0 len0 cap0 zs:=by
  obtain ⟨fuel,hf⟩:=h0
  rcases open_ints Tryd.underlying22 Tryd.underlying5 (by kernel_rfl) hf with ⟨hcs,_⟩|⟨x,l,c,zs,hcs,_,hl,hm,hz,_,hcell,hwz⟩
  ·simp [Value.cells] at hcs
   obtain ⟨rfl,rfl,rfl⟩:=hcs
   exact ⟨[],.inl ⟨rfl,rfl,rfl,rfl⟩⟩
  ·simp [Value.cells] at hcs
   obtain ⟨rfl,rfl,rfl⟩:=hcs
   exact ⟨zs,.inr ⟨_,rfl,hl,hm,by simpa using hz,hcell,hwz⟩⟩
 have y0:len0 * 1≤140737488351232:=Go.Proofs.YtdpklbomhdpimaaDoorW.PrintWords.sized_ints hsz (j:=0) (t:=22) rfl rfl Tryd.underlying22 Tryd.underlying5 (by kernel_rfl) (by kernel_rfl) h0
 clear hA0 hval0 hsz0 hsz
 refine (P.laws_FnTreeMore.walk PL.FnTreeMore a0 len0 cap0 z0 W w0 y0 hG).mono fun e W' ⟨he,bel⟩=>?_
 subst he
 exact ⟨_,rfl,_,_,_,_,_,_,hW',trodAll_mk1 (shut_bool Tryd.underlying4 _),(trodAll_cons_mk (Below.trod laidOut (by kernel_rfl) (of_decide_eq_true (by kernel_rfl)) k0 bel lt0) trodAll_mk0),P.tab_vars enc (hG.below bel),bel.frame _,fun h=>by cases h⟩
theorem over:Rows.fnTreeMoreRow.holds Tryd.pinned (OpenSpec.ofChange Rows.fnTreeMoreSpec) :=
 OpenClaim.holds_of_wide 8 Tryd.f8 rfl rfl rfl rfl rfl rfl rfl ⟨rfl,rfl,rfl,rfl,rfl⟩ rfl rfl rfl rfl rfl (by kernel_rfl) Tryd.func8 (by kernel_rfl)
  (of_decide_eq_true (by kernel_rfl)) (by unfold Func.isWrapper;first|(rw [if_pos (by decide +kernel)];kernel_rfl)|(rw [if_neg (by decide +kernel)];exact ⟨rfl,rfl⟩))
  (fun os started H enc _=>lifted os started H enc)
theorem proved:Rows.FnTreeMoreSaid:=over
#print axioms proved
end Go.Proofs.YtdpklbomhdpimaaDoor.fnTreeMore
namespace Go.Proofs.YtdpklbomhdpimaaDoor
theorem fnTreeMore_holds:Rows.FnTreeMoreSaid:=fnTreeMore.proved
end Go.Proofs.YtdpklbomhdpimaaDoor
namespace Go.Proofs.YtdpklbomhdpimaaDoor
open Go
theorem fnTreeMoreCard_holds:Rows.FnTreeMoreCardSaid :=
 Claim7.holds_tied_plain_at .later [] [.data] true (true, "7cf51d42195f9c9b62136c7a8c7100de8c719db44b2d768f6f24e257b781f613") true
  fnTreeMore_holds (fun _ h=>by cases h) (by kernel_rfl) (fun _ h=>by cases h) fnTreeMore_row_tie rfl ⟨rfl,rfl⟩ (by kernel_rfl) rfl
  (fun f fn hf hfn=>by
   obtain rfl:f=8:=Option.some.inj ((show Tryd.prog.funcNamed "loop.example/plashet/laws.FnTreeMore" = some 8 by kernel_rfl).symm.trans hf) |>.symm
   obtain rfl:fn=Tryd.f8:=(Option.some.inj (Tryd.func8.symm.trans hfn)).symm
   exact ⟨by kernel_rfl,fun j t ht=>by
    rw [Tryd.params8] at ht
    have hm:t∈[22]:=by have:=Array.mem_of_getElem? ht;simp at this;first|(subst this;simp;done)|(rcases this with h|h <;> simp [h];done)|(rcases this with h|h|h <;> simp [h];done)
    have hall:([22].all fun u=>!Tryd.prog.wantsStandIn u)=true:=by kernel_rfl
    exact (show Tryd.prog.wantsStandIn t=false by simpa using List.all_eq_true.1 hall t hm)⟩)
  (by kernel_rfl)
#print axioms fnTreeMoreCard_holds
end Go.Proofs.YtdpklbomhdpimaaDoor
