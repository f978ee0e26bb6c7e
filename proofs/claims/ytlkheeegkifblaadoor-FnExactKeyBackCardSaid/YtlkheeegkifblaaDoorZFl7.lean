/- Joined by a program (wip/shake.py): the declarations that 'YtlkheeegkifblaaDoorCardFnExactKeyBack' reaches. -/
import Derived.Test.YtlkheeegkifblaaDoorZFl6
set_option linter.unusedVariables false
set_option linter.unusedSimpArgs false
set_option linter.unusedSectionVars false
set_option maxHeartbeats 8000000
set_option maxRecDepth 100000
namespace Go.Proofs.YtlkheeegkifblaaDoor.P
open Go.RowKit Go.Proofs.YtlkheeegkifblaaDoorW.PrintWords Go.Proofs.YtlkheeegkifblaaDoorW.PrintLast
theorem laws_FnExactKeyBack.calls (k:Nat) (A0:Option Addr) (c0:Nat) (l0:List (S91)) (a1_0:Int) (a1_1:Int) (a1_2:Int) (a1_3:Int) (a1_4:ByteArray) (r:Bool) (w:World) (hr0:Kd.C k91 w A0 l0.length l0) (hc0:l0.length≤c0) (h:laws_FnExactKeyBack.f k l0 a1_0 a1_1 a1_2 a1_3 a1_4=some r) (hG:Glob w) :
  Calls Tryd.prog 10 #[.slice A0 l0.length c0,.agg #[.int .i64 a1_0,.int .i64 a1_1,.int .i64 a1_2,.int .i64 a1_3,.string a1_4]] w fun e w'=>e=.returned (.bool r)∧Below w.heap.size w w':=by
 have hu47:=Tryd.underlying47
 have hu27:=Tryd.underlying27
 have HR0:=Aside0.mk hr0
 have HC0:=Aside0.mk hc0
 clear hr0 hc0
 have HB:=Aside0.mk (Below.refl w.heap.size w)
 have HG:=Aside0.mk hG
 clear hG
 have H:((laws_szRowS.f k l0 1048576).bind fun t793=>(if t793 < 0 then (some true) else ((laws_szOp.f a1_0 a1_1 a1_2 a1_3 a1_4 t793).bind fun t794=>(if t794 < 0 then (some true) else ((laws_toRowS.f k l0).bind fun t795=>((laws_toOp.f a1_0 a1_1 a1_2 a1_3 a1_4).bind fun bt798=>((spec_KeyBack.f k t795 bt798.1 bt798.2.1 bt798.2.2.1 bt798.2.2.2.1 bt798.2.2.2.2).bind fun bt803=>((laws_toRowS.f k l0).bind fun t810=>((laws_toOp.f a1_0 a1_1 a1_2 a1_3 a1_4).bind fun bt813=>((impl_KeyBack.f k t810 bt813.1 bt813.2.1 bt813.2.2.1 bt813.2.2.2.1 bt813.2.2.2.2).bind fun bt818=>((laws_eqOp.f bt818.1 bt818.2.1 bt818.2.2.1 bt818.2.2.2.1 bt818.2.2.2.2.1 bt803.1 bt803.2.1 bt803.2.2.1 bt803.2.2.2.1 bt803.2.2.2.2.1).bind fun t825=>(if t825=true then (if (bt818.2.2.2.2.2 != bt803.2.2.2.2.2)=true then (none) else ((laws_toRowS.f k l0).bind fun t826=>((laws_eqRowS.f k t810 t826).bind fun t829=>(if t829=true then (some true) else (none))))) else (none)))))))))))))=some r:=h
 clear h
 replace H:=Option.bind_eq_some_iff.mp H
 obtain ⟨t793,A30,H⟩:=H
 replace H:(if t793 < 0 then (some true) else ((laws_szOp.f a1_0 a1_1 a1_2 a1_3 a1_4 t793).bind fun t794=>(if t794 < 0 then (some true) else ((laws_toRowS.f k l0).bind fun t795=>((laws_toOp.f a1_0 a1_1 a1_2 a1_3 a1_4).bind fun bt798=>((spec_KeyBack.f k t795 bt798.1 bt798.2.1 bt798.2.2.1 bt798.2.2.2.1 bt798.2.2.2.2).bind fun bt803=>((laws_toRowS.f k l0).bind fun t810=>((laws_toOp.f a1_0 a1_1 a1_2 a1_3 a1_4).bind fun bt813=>((impl_KeyBack.f k t810 bt813.1 bt813.2.1 bt813.2.2.1 bt813.2.2.2.1 bt813.2.2.2.2).bind fun bt818=>((laws_eqOp.f bt818.1 bt818.2.1 bt818.2.2.1 bt818.2.2.2.1 bt818.2.2.2.2.1 bt803.1 bt803.2.1 bt803.2.2.1 bt803.2.2.2.1 bt803.2.2.2.2.1).bind fun t825=>(if t825=true then (if (bt818.2.2.2.2.2 != bt803.2.2.2.2.2)=true then (none) else ((laws_toRowS.f k l0).bind fun t826=>((laws_eqRowS.f k t810 t826).bind fun t829=>(if t829=true then (some true) else (none))))) else (none))))))))))))=some r:=H
 have A3:=Aside0.mk A30
 clear A30
 by_cases c4:t793 < 0
 ·rw [if_pos c4] at H
  have c4b0:decide (t793 < 0)=true:=decide_eq_true c4
  clear c4
  obtain rfl:=Option.some.inj H
  go_enter Tryd.func10,Tryd.ntmps10
  go_wp2_with (first|((with_reducible refine gate_dst (N:=3) rfl ?_);refine box_event ?hg (N:=3) ?hd (cs:=#[.int .i64 a1_0,.int .i64 a1_1,.int .i64 a1_2,.int .i64 a1_3,.string a1_4]) (t:=47) ?hr ?_;(case hd=>rfl);(case hg=>rfl);(case hr=>first|(go_simp;done)|(go_simp;rfl));intro gb792 hg w5 hbox hb;have n0_:=Aside0.mk (below_step (by repeat (first|(with_reducible first|exact HB.out|apply below_alloc|apply pw_below_drewN|apply below_drew1)|exact HB.out)) hb);have n1_:=Aside0.mk (hbox);have n2_:=Aside0.mk ((by rw [hg];exact (below_size (by repeat (first|(with_reducible first|exact HB.out|apply below_alloc|apply pw_below_drewN|apply below_drew1)|exact HB.out))):w.heap.size≤gb792));have n3_:=Aside0.mk ((by rw [hg];exact (below_size (by repeat (first|(with_reducible first|exact HB.out|apply below_alloc|apply pw_below_drewN|apply below_drew1)|exact HB.out))):w.heap.size≤gb792));clear HB;have HB:=n0_;have BK792:=n1_;have GW792:=n2_;have GE792:=n3_;clear n0_ n1_ n2_ n3_;clear hb hbox hg)|((with_reducible refine gate_callee (f:=39) rfl ?_);refine goesL_ (some 13) rfl rfl Tryd.func39 (by kernel_rfl) rfl #[.slice A0 l0.length c0,.int .i64 1048576] rfl (by (try simp only [List.map_toArray,List.map_cons,List.map_nil]);first|done|rfl|(simp only [List.length_drop,List.length_take];rfl)) ?_;(with_reducible refine (laws_szRowS.calls k _ _ l0 1048576 t793 _ ?side1 ?side2 A3.out).mono ?_);(case side1=>repeat (first|exact (Kd.C_below HR0.out HB.out)|(with_reducible refine Kd.C_alloc ?_ _)|(with_reducible refine Kd.C_drewN ?_ _)|(with_reducible refine Kd.C_drew ?_)));(case side2=>exact HC0.out);rintro e w6 ⟨rfl,hb⟩;refine ⟨_,rfl,?_⟩;have n0_:=Aside0.mk (blk_below (g:=gb792) (o:=.cells #[.int .i64 a1_0,.int .i64 a1_1,.int .i64 a1_2,.int .i64 a1_3,.string a1_4] 47 (0,0)) (by (with_reducible repeat (first|refine blk_drewN ?_ _|refine blk_drew ?_|refine blk_alloc ?_ _));exact BK792.out) hb);have n1_:=Aside0.mk (below_step (by repeat (first|(with_reducible first|exact HB.out|apply below_alloc|apply pw_below_drewN|apply below_drew1|refine below_set ?_ GE792.out)|exact HB.out)) hb);clear BK792;clear HB;have BK792:=n0_;have HB:=n1_;clear n0_ n1_;(try clear hb);(try clear hb2);(try clear hk);(try clear hi)))
  go_ret
  exact ⟨by first|rfl|(simp [errW_none,errW_some] <;> rfl)|(simp [*,errW_none,errW_some] <;> rfl),by repeat (first|(with_reducible first|exact HB.out|apply below_alloc|apply pw_below_drewN|apply below_drew1|refine below_set ?_ GE792.out)|exact HB.out)⟩
 ·rw [if_neg c4] at H
  have c4b0:decide (t793 < 0)=false:=decide_eq_false c4
  clear c4
  replace H:=Option.bind_eq_some_iff.mp H
  obtain ⟨t794,A70,H⟩:=H
  replace H:(if t794 < 0 then (some true) else ((laws_toRowS.f k l0).bind fun t795=>((laws_toOp.f a1_0 a1_1 a1_2 a1_3 a1_4).bind fun bt798=>((spec_KeyBack.f k t795 bt798.1 bt798.2.1 bt798.2.2.1 bt798.2.2.2.1 bt798.2.2.2.2).bind fun bt803=>((laws_toRowS.f k l0).bind fun t810=>((laws_toOp.f a1_0 a1_1 a1_2 a1_3 a1_4).bind fun bt813=>((impl_KeyBack.f k t810 bt813.1 bt813.2.1 bt813.2.2.1 bt813.2.2.2.1 bt813.2.2.2.2).bind fun bt818=>((laws_eqOp.f bt818.1 bt818.2.1 bt818.2.2.1 bt818.2.2.2.1 bt818.2.2.2.2.1 bt803.1 bt803.2.1 bt803.2.2.1 bt803.2.2.2.1 bt803.2.2.2.2.1).bind fun t825=>(if t825=true then (if (bt818.2.2.2.2.2 != bt803.2.2.2.2.2)=true then (none) else ((laws_toRowS.f k l0).bind fun t826=>((laws_eqRowS.f k t810 t826).bind fun t829=>(if t829=true then (some true) else (none))))) else (none))))))))))=some r:=H
  have A7:=Aside0.mk A70
  clear A70
  by_cases c8:t794 < 0
  ·rw [if_pos c8] at H
   have c8b0:decide (t794 < 0)=true:=decide_eq_true c8
   clear c8
   obtain rfl:=Option.some.inj H
   go_enter Tryd.func10,Tryd.ntmps10
   go_wp2_with (first|((with_reducible refine gate_dst (N:=3) rfl ?_);refine box_event ?hg (N:=3) ?hd (cs:=#[.int .i64 a1_0,.int .i64 a1_1,.int .i64 a1_2,.int .i64 a1_3,.string a1_4]) (t:=47) ?hr ?_;(case hd=>rfl);(case hg=>rfl);(case hr=>first|(go_simp;done)|(go_simp;rfl));intro gb792 hg w9 hbox hb;have n0_:=Aside0.mk (below_step (by repeat (first|(with_reducible first|exact HB.out|apply below_alloc|apply pw_below_drewN|apply below_drew1)|exact HB.out)) hb);have n1_:=Aside0.mk (hbox);have n2_:=Aside0.mk ((by rw [hg];exact (below_size (by repeat (first|(with_reducible first|exact HB.out|apply below_alloc|apply pw_below_drewN|apply below_drew1)|exact HB.out))):w.heap.size≤gb792));have n3_:=Aside0.mk ((by rw [hg];exact (below_size (by repeat (first|(with_reducible first|exact HB.out|apply below_alloc|apply pw_below_drewN|apply below_drew1)|exact HB.out))):w.heap.size≤gb792));clear HB;have HB:=n0_;have BK792:=n1_;have GW792:=n2_;have GE792:=n3_;clear n0_ n1_ n2_ n3_;clear hb hbox hg)|((with_reducible refine gate_callee (f:=39) rfl ?_);refine goesL_ (some 13) rfl rfl Tryd.func39 (by kernel_rfl) rfl #[.slice A0 l0.length c0,.int .i64 1048576] rfl (by (try simp only [List.map_toArray,List.map_cons,List.map_nil]);first|done|rfl|(simp only [List.length_drop,List.length_take];rfl)) ?_;(with_reducible refine (laws_szRowS.calls k _ _ l0 1048576 t793 _ ?side1 ?side2 A3.out).mono ?_);(case side1=>repeat (first|exact (Kd.C_below HR0.out HB.out)|(with_reducible refine Kd.C_alloc ?_ _)|(with_reducible refine Kd.C_drewN ?_ _)|(with_reducible refine Kd.C_drew ?_)));(case side2=>exact HC0.out);rintro e w10 ⟨rfl,hb⟩;refine ⟨_,rfl,?_⟩;have n0_:=Aside0.mk (blk_below (g:=gb792) (o:=.cells #[.int .i64 a1_0,.int .i64 a1_1,.int .i64 a1_2,.int .i64 a1_3,.string a1_4] 47 (0,0)) (by (with_reducible repeat (first|refine blk_drewN ?_ _|refine blk_drew ?_|refine blk_alloc ?_ _));exact BK792.out) hb);have n1_:=Aside0.mk (below_step (by repeat (first|(with_reducible first|exact HB.out|apply below_alloc|apply pw_below_drewN|apply below_drew1|refine below_set ?_ GE792.out)|exact HB.out)) hb);clear BK792;clear HB;have BK792:=n0_;have HB:=n1_;clear n0_ n1_;(try clear hb);(try clear hb2);(try clear hk);(try clear hi);obtain ⟨Z11_0,Z11_1,Z11_2,Z11_3,Z11_4,Y11_0,Y11_1,Y11_2,Y11_3,Y11_4⟩:=op5_ BK792.out)|((with_reducible refine gate_callee (f:=40) rfl ?_);refine goesL_ (some 18) rfl rfl Tryd.func40 (by kernel_rfl) rfl #[.agg #[.int .i64 a1_0,.int .i64 a1_1,.int .i64 a1_2,.int .i64 a1_3,.string a1_4],.int .i64 t793] rfl (by (try simp only [List.map_toArray,List.map_cons,List.map_nil]);first|done|rfl|(simp only [List.length_drop,List.length_take];rfl)) ?_;(with_reducible refine (laws_szOp.calls a1_0 a1_1 a1_2 a1_3 a1_4 t793 t794 _ A7.out).mono ?_);rintro e w12 ⟨rfl,hb⟩;refine ⟨_,rfl,?_⟩;have n0_:=Aside0.mk (blk_below (g:=gb792) (o:=.cells #[.int .i64 a1_0,.int .i64 a1_1,.int .i64 a1_2,.int .i64 a1_3,.string a1_4] 47 (0,0)) (by (with_reducible repeat (first|refine blk_drewN ?_ _|refine blk_drew ?_|refine blk_alloc ?_ _));exact BK792.out) hb);have n1_:=Aside0.mk (below_step (by repeat (first|(with_reducible first|exact HB.out|apply below_alloc|apply pw_below_drewN|apply below_drew1|refine below_set ?_ GE792.out)|exact HB.out)) hb);clear BK792;clear HB;have BK792:=n0_;have HB:=n1_;clear n0_ n1_;(try clear hb);(try clear hb2);(try clear hk);(try clear hi)))
   go_ret
   exact ⟨by first|rfl|(simp [errW_none,errW_some] <;> rfl)|(simp [*,errW_none,errW_some] <;> rfl),by repeat (first|(with_reducible first|exact HB.out|apply below_alloc|apply pw_below_drewN|apply below_drew1|refine below_set ?_ GE792.out)|exact HB.out)⟩
  ·rw [if_neg c8] at H
   have c8b0:decide (t794 < 0)=false:=decide_eq_false c8
   clear c8
   replace H:=Option.bind_eq_some_iff.mp H
   obtain ⟨t795,A130,H⟩:=H
   replace H:((laws_toOp.f a1_0 a1_1 a1_2 a1_3 a1_4).bind fun bt798=>((spec_KeyBack.f k t795 bt798.1 bt798.2.1 bt798.2.2.1 bt798.2.2.2.1 bt798.2.2.2.2).bind fun bt803=>((laws_toRowS.f k l0).bind fun t810=>((laws_toOp.f a1_0 a1_1 a1_2 a1_3 a1_4).bind fun bt813=>((impl_KeyBack.f k t810 bt813.1 bt813.2.1 bt813.2.2.1 bt813.2.2.2.1 bt813.2.2.2.2).bind fun bt818=>((laws_eqOp.f bt818.1 bt818.2.1 bt818.2.2.1 bt818.2.2.2.1 bt818.2.2.2.2.1 bt803.1 bt803.2.1 bt803.2.2.1 bt803.2.2.2.1 bt803.2.2.2.2.1).bind fun t825=>(if t825=true then (if (bt818.2.2.2.2.2 != bt803.2.2.2.2.2)=true then (none) else ((laws_toRowS.f k l0).bind fun t826=>((laws_eqRowS.f k t810 t826).bind fun t829=>(if t829=true then (some true) else (none))))) else (none))))))))=some r:=H
   have A13:=Aside0.mk A130
   clear A130
   replace H:=Option.bind_eq_some_iff.mp H
   obtain ⟨⟨t798,t799,t800,t801,t802⟩,A140,H⟩:=H
   replace H:((spec_KeyBack.f k t795 t798 t799 t800 t801 t802).bind fun bt803=>((laws_toRowS.f k l0).bind fun t810=>((laws_toOp.f a1_0 a1_1 a1_2 a1_3 a1_4).bind fun bt813=>((impl_KeyBack.f k t810 bt813.1 bt813.2.1 bt813.2.2.1 bt813.2.2.2.1 bt813.2.2.2.2).bind fun bt818=>((laws_eqOp.f bt818.1 bt818.2.1 bt818.2.2.1 bt818.2.2.2.1 bt818.2.2.2.2.1 bt803.1 bt803.2.1 bt803.2.2.1 bt803.2.2.2.1 bt803.2.2.2.2.1).bind fun t825=>(if t825=true then (if (bt818.2.2.2.2.2 != bt803.2.2.2.2.2)=true then (none) else ((laws_toRowS.f k l0).bind fun t826=>((laws_eqRowS.f k t810 t826).bind fun t829=>(if t829=true then (some true) else (none))))) else (none)))))))=some r:=H
   have A14:=Aside0.mk A140
   clear A140
   replace H:=Option.bind_eq_some_iff.mp H
   obtain ⟨⟨t803,t804,t805,t806,t807,t808⟩,A150,H⟩:=H
   replace H:((laws_toRowS.f k l0).bind fun t810=>((laws_toOp.f a1_0 a1_1 a1_2 a1_3 a1_4).bind fun bt813=>((impl_KeyBack.f k t810 bt813.1 bt813.2.1 bt813.2.2.1 bt813.2.2.2.1 bt813.2.2.2.2).bind fun bt818=>((laws_eqOp.f bt818.1 bt818.2.1 bt818.2.2.1 bt818.2.2.2.1 bt818.2.2.2.2.1 t803 t804 t805 t806 t807).bind fun t825=>(if t825=true then (if (bt818.2.2.2.2.2 != t808)=true then (none) else ((laws_toRowS.f k l0).bind fun t826=>((laws_eqRowS.f k t810 t826).bind fun t829=>(if t829=true then (some true) else (none))))) else (none))))))=some r:=H
   have A15:=Aside0.mk A150
   clear A150
   replace H:=Option.bind_eq_some_iff.mp H
   obtain ⟨t810,A160,H⟩:=H
   replace H:((laws_toOp.f a1_0 a1_1 a1_2 a1_3 a1_4).bind fun bt813=>((impl_KeyBack.f k t810 bt813.1 bt813.2.1 bt813.2.2.1 bt813.2.2.2.1 bt813.2.2.2.2).bind fun bt818=>((laws_eqOp.f bt818.1 bt818.2.1 bt818.2.2.1 bt818.2.2.2.1 bt818.2.2.2.2.1 t803 t804 t805 t806 t807).bind fun t825=>(if t825=true then (if (bt818.2.2.2.2.2 != t808)=true then (none) else ((laws_toRowS.f k l0).bind fun t826=>((laws_eqRowS.f k t810 t826).bind fun t829=>(if t829=true then (some true) else (none))))) else (none)))))=some r:=H
   have A16:=Aside0.mk A160
   clear A160
   replace H:=Option.bind_eq_some_iff.mp H
   obtain ⟨⟨t813,t814,t815,t816,t817⟩,A170,H⟩:=H
   replace H:((impl_KeyBack.f k t810 t813 t814 t815 t816 t817).bind fun bt818=>((laws_eqOp.f bt818.1 bt818.2.1 bt818.2.2.1 bt818.2.2.2.1 bt818.2.2.2.2.1 t803 t804 t805 t806 t807).bind fun t825=>(if t825=true then (if (bt818.2.2.2.2.2 != t808)=true then (none) else ((laws_toRowS.f k l0).bind fun t826=>((laws_eqRowS.f k t810 t826).bind fun t829=>(if t829=true then (some true) else (none))))) else (none))))=some r:=H
   have A17:=Aside0.mk A170
   clear A170
   replace H:=Option.bind_eq_some_iff.mp H
   obtain ⟨⟨t818,t819,t820,t821,t822,t823⟩,A180,H⟩:=H
   replace H:((laws_eqOp.f t818 t819 t820 t821 t822 t803 t804 t805 t806 t807).bind fun t825=>(if t825=true then (if (t823 != t808)=true then (none) else ((laws_toRowS.f k l0).bind fun t826=>((laws_eqRowS.f k t810 t826).bind fun t829=>(if t829=true then (some true) else (none))))) else (none)))=some r:=H
   have A18:=Aside0.mk A180
   clear A180
   replace H:=Option.bind_eq_some_iff.mp H
   obtain ⟨t825,A190,H⟩:=H
   replace H:(if t825=true then (if (t823 != t808)=true then (none) else ((laws_toRowS.f k l0).bind fun t826=>((laws_eqRowS.f k t810 t826).bind fun t829=>(if t829=true then (some true) else (none))))) else (none))=some r:=H
   have A19:=Aside0.mk A190
   clear A190
   by_cases c20:t825=true
   ·subst c20
    have H1:(if (t823 != t808)=true then (none) else ((laws_toRowS.f k l0).bind fun t826=>((laws_eqRowS.f k t810 t826).bind fun t829=>(if t829=true then (some true) else (none)))))=some r:=by rw [if_pos rfl] at H;exact H
    clear H
    have H:=H1
    clear H1
    by_cases c21:(t823 != t808)=true
    ·rw [if_pos c21] at H
     exact absurd H (by simp)
    ·rw [if_neg c21] at H
     have c21b0:(t823 != t808)=false:=by simpa using c21
     (try (have c21b1:decide (t823=t808)=true:=by simpa using c21))
     (try (have c21b2:(t823==t808)=true:=by simpa using c21))
     clear c21
     replace H:=Option.bind_eq_some_iff.mp H
     obtain ⟨t826,A220,H⟩:=H
     replace H:((laws_eqRowS.f k t810 t826).bind fun t829=>(if t829=true then (some true) else (none)))=some r:=H
     have A22:=Aside0.mk A220
     clear A220
     replace H:=Option.bind_eq_some_iff.mp H
     obtain ⟨t829,A230,H⟩:=H
     replace H:(if t829=true then (some true) else (none))=some r:=H
     have A23:=Aside0.mk A230
     clear A230
     by_cases c24:t829=true
     ·subst c24
      have H1:(some true)=some r:=by rw [if_pos rfl] at H;exact H
      clear H
      have H:=H1
      clear H1
      obtain rfl:=Option.some.inj H
      go_enter Tryd.func10,Tryd.ntmps10
      try go_wp2_with (first|((with_reducible refine gate_dst (N:=3) rfl ?_);refine box_event ?hg (N:=3) ?hd (cs:=#[.int .i64 a1_0,.int .i64 a1_1,.int .i64 a1_2,.int .i64 a1_3,.string a1_4]) (t:=47) ?hr ?_;(case hd=>rfl);(case hg=>rfl);(case hr=>first|(go_simp;done)|(go_simp;rfl));intro gb792 hg w25 hbox hb;have n0_:=Aside0.mk (below_step (by repeat (first|(with_reducible first|exact HB.out|apply below_alloc|apply pw_below_drewN|apply below_drew1)|exact HB.out)) hb);have n1_:=Aside0.mk (hbox);have n2_:=Aside0.mk ((by rw [hg];exact (below_size (by repeat (first|(with_reducible first|exact HB.out|apply below_alloc|apply pw_below_drewN|apply below_drew1)|exact HB.out))):w.heap.size≤gb792));have n3_:=Aside0.mk ((by rw [hg];exact (below_size (by repeat (first|(with_reducible first|exact HB.out|apply below_alloc|apply pw_below_drewN|apply below_drew1)|exact HB.out))):w.heap.size≤gb792));clear HB;have HB:=n0_;have BK792:=n1_;have GW792:=n2_;have GE792:=n3_;clear n0_ n1_ n2_ n3_;clear hb hbox hg)|((with_reducible refine gate_callee (f:=39) rfl ?_);refine goesL_ (some 13) rfl rfl Tryd.func39 (by kernel_rfl) rfl #[.slice A0 l0.length c0,.int .i64 1048576] rfl (by (try simp only [List.map_toArray,List.map_cons,List.map_nil]);first|done|rfl|(simp only [List.length_drop,List.length_take];rfl)) ?_;(with_reducible refine (laws_szRowS.calls k _ _ l0 1048576 t793 _ ?side1 ?side2 A3.out).mono ?_);(case side1=>repeat (first|exact (Kd.C_below HR0.out HB.out)|(with_reducible refine Kd.C_alloc ?_ _)|(with_reducible refine Kd.C_drewN ?_ _)|(with_reducible refine Kd.C_drew ?_)));(case side2=>exact HC0.out);rintro e w26 ⟨rfl,hb⟩;refine ⟨_,rfl,?_⟩;have n0_:=Aside0.mk (blk_below (g:=gb792) (o:=.cells #[.int .i64 a1_0,.int .i64 a1_1,.int .i64 a1_2,.int .i64 a1_3,.string a1_4] 47 (0,0)) (by (with_reducible repeat (first|refine blk_drewN ?_ _|refine blk_drew ?_|refine blk_alloc ?_ _));exact BK792.out) hb);have n1_:=Aside0.mk (below_step (by repeat (first|(with_reducible first|exact HB.out|apply below_alloc|apply pw_below_drewN|apply below_drew1|refine below_set ?_ GE792.out)|exact HB.out)) hb);clear BK792;clear HB;have BK792:=n0_;have HB:=n1_;clear n0_ n1_;(try clear hb);(try clear hb2);(try clear hk);(try clear hi);obtain ⟨Z27_0,Z27_1,Z27_2,Z27_3,Z27_4,Y27_0,Y27_1,Y27_2,Y27_3,Y27_4⟩:=op5_ BK792.out)|((with_reducible refine gate_callee (f:=40) rfl ?_);refine goesL_ (some 18) rfl rfl Tryd.func40 (by kernel_rfl) rfl #[.agg #[.int .i64 a1_0,.int .i64 a1_1,.int .i64 a1_2,.int .i64 a1_3,.string a1_4],.int .i64 t793] rfl (by (try simp only [List.map_toArray,List.map_cons,List.map_nil]);first|done|rfl|(simp only [List.length_drop,List.length_take];rfl)) ?_;(with_reducible refine (laws_szOp.calls a1_0 a1_1 a1_2 a1_3 a1_4 t793 t794 _ A7.out).mono ?_);rintro e w28 ⟨rfl,hb⟩;refine ⟨_,rfl,?_⟩;have n0_:=Aside0.mk (blk_below (g:=gb792) (o:=.cells #[.int .i64 a1_0,.int .i64 a1_1,.int .i64 a1_2,.int .i64 a1_3,.string a1_4] 47 (0,0)) (by (with_reducible repeat (first|refine blk_drewN ?_ _|refine blk_drew ?_|refine blk_alloc ?_ _));exact BK792.out) hb);have n1_:=Aside0.mk (below_step (by repeat (first|(with_reducible first|exact HB.out|apply below_alloc|apply pw_below_drewN|apply below_drew1|refine below_set ?_ GE792.out)|exact HB.out)) hb);clear BK792;clear HB;have BK792:=n0_;have HB:=n1_;clear n0_ n1_;(try clear hb);(try clear hb2);(try clear hk);(try clear hi)))
      have n0_:=Aside0.mk (blk_drew BK792.out)
      have n1_:=Aside0.mk (below_drew1 HB.out)
      clear BK792
      clear HB
      have BK792:=n0_
      have HB:=n1_
      clear n0_ n1_
      refine start_ (n:=11) (S:=fun w'=>w'.cell? ⟨gb792,0,none⟩=some (.int .i64 a1_0)∧w'.cell? ⟨gb792,1,none⟩=some (.int .i64 a1_1)∧w'.cell? ⟨gb792,2,none⟩=some (.int .i64 a1_2)∧w'.cell? ⟨gb792,3,none⟩=some (.int .i64 a1_3)∧w'.cell? ⟨gb792,4,none⟩=some (.string a1_4)) (ds:=[]) #[false,false,false,false,false,false,false,false,false,false,false] (by kernel_rfl) rfl rfl ⟨(blk_cell BK792.out 0).trans rfl,(blk_cell BK792.out 1).trans rfl,(blk_cell BK792.out 2).trans rfl,(blk_cell BK792.out 3).trans rfl,(blk_cell BK792.out 4).trans rfl⟩ (fun hHeld=>?_);refine with_tabW laws_FnExactKeyBack.tab8 laws_FnExactKeyBack.bits8 (fun HT_ HW_=>?_)
      generalize w28.drew=w29 at BK792 HB hHeld ⊢
      refine pure_ (i:=0) (N:=some 22) (v:=?_) (a':=?_) #[true,false,false,false,false,false,false,false,false,false,false] rfl rfl (any_of HT_.out (by kernel_rfl)) (fun _ _ _ h=>h) (Or.inl ⟨by rfl,?_⟩) ?_ ?_
      rotate_left
      ·intro w'
       go_simp
       with_reducible rfl
      rotate_left
      ·simp only [Act.put,List.setIfInBounds_toArray,List.set_cons_zero,List.set_cons_succ,i64_w,i32_w]
       rfl
      refine take_ (i:=2) (N:=some 24) (v:=?_) (a':=?_) #[true,false,true,false,false,false,false,false,false,false,false] rfl rfl (take_ofW HT_.out HW_.out (by kernel_rfl)) (fun _ _ _ h=>h) (Or.inl ⟨by rfl,?_⟩) hHeld ?_ ?_
      rotate_left
      ·rintro w' ⟨s0,s1,s2,s3,s4⟩
       go_simp
       with_reducible rfl
      rotate_left
      ·simp only [Act.put,List.setIfInBounds_toArray,List.set_cons_zero,List.set_cons_succ,i64_w,i32_w]
       rfl
      refine join_ (σ:=Value×Nat) 2 #[true,true,true,true,true,true,true,true,true,false,false] (fun s_=>[(23,s_.1),(25,.agg #[.int .i64 t798,.int .i64 t799,.int .i64 t800,.int .i64 t801,.string t802]),(26,.tuple #[.agg #[.int .i64 t803,.int .i64 t804,.int .i64 t805,.int .i64 t806,.string t807],.bool t808]),(6,.pointer (some ⟨s_.2,0,none⟩)),(21,.tuple #[.agg #[.int .i64 t803,.int .i64 t804,.int .i64 t805,.int .i64 t806,.string t807],.bool t808]),(27,.agg #[.int .i64 t803,.int .i64 t804,.int .i64 t805,.int .i64 t806,.string t807]),(28,.bool t808)]) (fun s_ w'=>(w'.cell? ⟨gb792,0,none⟩=some (.int .i64 a1_0)∧w'.cell? ⟨gb792,1,none⟩=some (.int .i64 a1_1)∧w'.cell? ⟨gb792,2,none⟩=some (.int .i64 a1_2)∧w'.cell? ⟨gb792,3,none⟩=some (.int .i64 a1_3)∧w'.cell? ⟨gb792,4,none⟩=some (.string a1_4))∧(Kd.R k37 37 w' w.heap.size (fun _=>True) s_.1 t795)∧(w'.heap[gb792]?=some (.cells #[.int .i64 a1_0,.int .i64 a1_1,.int .i64 a1_2,.int .i64 a1_3,.string a1_4] 47 (0,0)))∧(w'.heap[s_.2]?=some (.cells #[.int .i64 0,.int .i64 0,.int .i64 0,.int .i64 0,.string (⟨#[]⟩:ByteArray)] 27 (0,0)))∧(w.heap.size≤s_.2)∧(w.heap.size≤s_.2)∧(gb792≠s_.2)∧(s_.2≠gb792)∧(Below w.heap.size w w')) ?_ ?_
      rotate_left
      ·intro hCont
       refine two_ (i:=1) (j:=8) (Ni:=some 23) (Nj:=some 6) #[true,true,true,false,false,false,false,false,false,false,false] #[true,false,true,false,false,false,false,false,true,false,false] rfl rfl rfl rfl (two_of HT_.out (by kernel_rfl)) (by decide) (by decide) (fun K hK=>?_) (fun K hK=>?_)
       ·skip
        refine goes_ Tryd.func42 (by kernel_rfl) rfl #[.slice A0 l0.length c0] (by rfl) rfl rfl (by (try simp only [List.map_toArray,List.map_cons,List.map_nil]);first|done|rfl|(simp only [List.length_drop,List.length_take];rfl)) ?_
        with_reducible refine (laws_toRowS.calls k _ _ l0 t795 _ ?side1 ?side2 A13.out).mono ?_
        (case side1=>repeat (first|exact (Kd.C_below HR0.out HB.out)|(with_reducible refine Kd.C_alloc ?_ _)|(with_reducible refine Kd.C_drewN ?_ _)|(with_reducible refine Kd.C_drew ?_)))
        (case side2=>exact HC0.out)
        rintro e w30 ⟨v796,rfl,ho0,hb⟩
        refine ⟨_,rfl,?_⟩
        have n0_:=Aside0.mk (Kd.R_lower ho0 (below_size (by repeat (first|(with_reducible first|exact HB.out|apply below_alloc|apply pw_below_drewN|apply below_drew1|refine below_set ?_ GE792.out)|exact HB.out))))
        have n1_:=Aside0.mk (blk_below (g:=gb792) (o:=.cells #[.int .i64 a1_0,.int .i64 a1_1,.int .i64 a1_2,.int .i64 a1_3,.string a1_4] 47 (0,0)) (by (with_reducible repeat (first|refine blk_drewN ?_ _|refine blk_drew ?_|refine blk_alloc ?_ _));exact BK792.out) hb)
        have n2_:=Aside0.mk (below_step (by repeat (first|(with_reducible first|exact HB.out|apply below_alloc|apply pw_below_drewN|apply below_drew1|refine below_set ?_ GE792.out)|exact HB.out)) hb)
        clear BK792
        clear HB
        have HO797:=n0_
        have BK792:=n1_
        have HB:=n2_
        clear n0_ n1_ n2_
        (try clear hb)
        (try clear hb2)
        (try clear hk)
        (try clear hi)
        (try clear ho0)
        refine hK.out _ _ ⟨(blk_cell BK792.out 0).trans rfl,(blk_cell BK792.out 1).trans rfl,(blk_cell BK792.out 2).trans rfl,(blk_cell BK792.out 3).trans rfl,(blk_cell BK792.out 4).trans rfl⟩ (fun hHeld=>?_)
        clear hK K
        refine norm_ (a':=?_) ?_ ?_
        rotate_left
        ·show Act.put _ (some 23) _=_
         simp only [Act.put,List.setIfInBounds_toArray,List.set_cons_zero,List.set_cons_succ,i64_w,i32_w]
         rfl
        refine two_ (i:=3) (j:=8) (Ni:=some 25) (Nj:=some 6) #[true,true,true,true,false,false,false,false,false,false,false] #[true,true,true,false,false,false,false,false,true,false,false] rfl rfl rfl rfl (two_of HT_.out (by kernel_rfl)) (by decide) (by decide) (fun K hK=>?_) (fun K hK=>?_)
        ·skip
         refine goes_ Tryd.func43 (by kernel_rfl) rfl #[.agg #[.int .i64 a1_0,.int .i64 a1_1,.int .i64 a1_2,.int .i64 a1_3,.string a1_4]] (by rfl) rfl rfl (by (try simp only [List.map_toArray,List.map_cons,List.map_nil]);first|done|rfl|(simp only [List.length_drop,List.length_take];rfl)) ?_
         with_reducible refine (laws_toOp.calls a1_0 a1_1 a1_2 a1_3 a1_4 t798 t799 t800 t801 t802 _ A14.out).mono ?_
         rintro e w31 ⟨rfl,hb⟩
         refine ⟨_,rfl,?_⟩
         have n0_:=Aside0.mk (Kd.R_below (by (with_reducible repeat (first|apply Kd.R_alloc|apply Kd.R_drewN|apply Kd.R_drew));exact HO797.out) hb)
         have n1_:=Aside0.mk (blk_below (g:=gb792) (o:=.cells #[.int .i64 a1_0,.int .i64 a1_1,.int .i64 a1_2,.int .i64 a1_3,.string a1_4] 47 (0,0)) (by (with_reducible repeat (first|refine blk_drewN ?_ _|refine blk_drew ?_|refine blk_alloc ?_ _));exact BK792.out) hb)
         have n2_:=Aside0.mk (below_step (by repeat (first|(with_reducible first|exact HB.out|apply below_alloc|apply pw_below_drewN|apply below_drew1|refine below_set ?_ GE792.out)|exact HB.out)) hb)
         clear HO797
         clear BK792
         clear HB
         have HO797:=n0_
         have BK792:=n1_
         have HB:=n2_
         clear n0_ n1_ n2_
         (try clear hb)
         (try clear hb2)
         (try clear hk)
         (try clear hi)
         obtain ⟨Ao32,co32,eo32⟩:=Kd.R_slice HO797.out
         (first|subst eo32|(injection eo32 with f1_ f2_ f3_;have f4_:=f1_.symm;have f5_:=f3_.symm;clear f1_ f2_ f3_;subst f4_;subst f5_))
         refine hK.out _ _ ⟨(blk_cell BK792.out 0).trans rfl,(blk_cell BK792.out 1).trans rfl,(blk_cell BK792.out 2).trans rfl,(blk_cell BK792.out 3).trans rfl,(blk_cell BK792.out 4).trans rfl⟩ (fun hHeld=>?_)
         clear hK K
         refine norm_ (a':=?_) ?_ ?_
         rotate_left
         ·show Act.put _ (some 25) _=_
          simp only [Act.put,List.setIfInBounds_toArray,List.set_cons_zero,List.set_cons_succ,i64_w,i32_w]
          rfl
         refine two_ (i:=4) (j:=8) (Ni:=some 26) (Nj:=some 6) #[true,true,true,true,true,false,false,false,false,false,false] #[true,true,true,true,false,false,false,false,true,false,false] rfl rfl rfl rfl (two_of HT_.out (by kernel_rfl)) (by decide) (by decide) (fun K hK=>?_) (fun K hK=>?_)
         ·skip
          refine goes_ Tryd.func41 (by kernel_rfl) rfl #[.slice Ao32 t795.length co32,.agg #[.int .i64 t798,.int .i64 t799,.int .i64 t800,.int .i64 t801,.string t802]] (by rfl) rfl rfl (by (try simp only [List.map_toArray,List.map_cons,List.map_nil]);first|done|rfl|(simp only [List.length_drop,List.length_take];rfl)) ?_
          with_reducible refine (spec_KeyBack.calls k _ _ t795 t798 t799 t800 t801 t802 t803 t804 t805 t806 t807 t808 _ ?side1 ?side2 A15.out).mono ?_
          (case side1=>repeat (first|exact (Kd.R_reads' HO797.out).2.2|(with_reducible refine Kd.C_alloc ?_ _)|(with_reducible refine Kd.C_drewN ?_ _)|(with_reducible refine Kd.C_drew ?_)))
          (case side2=>exact (Kd.R_reads' HO797.out).2.1)
          rintro e w33 ⟨rfl,hb⟩
          refine ⟨_,rfl,?_⟩
          have n0_:=Aside0.mk (Kd.R_below (by (with_reducible repeat (first|apply Kd.R_alloc|apply Kd.R_drewN|apply Kd.R_drew));exact HO797.out) hb)
          have n1_:=Aside0.mk (blk_below (g:=gb792) (o:=.cells #[.int .i64 a1_0,.int .i64 a1_1,.int .i64 a1_2,.int .i64 a1_3,.string a1_4] 47 (0,0)) (by (with_reducible repeat (first|refine blk_drewN ?_ _|refine blk_drew ?_|refine blk_alloc ?_ _));exact BK792.out) hb)
          have n2_:=Aside0.mk (below_step (by repeat (first|(with_reducible first|exact HB.out|apply below_alloc|apply pw_below_drewN|apply below_drew1|refine below_set ?_ GE792.out)|exact HB.out)) hb)
          clear HO797
          clear BK792
          clear HB
          have HO797:=n0_
          have BK792:=n1_
          have HB:=n2_
          clear n0_ n1_ n2_
          (try clear hb)
          (try clear hb2)
          (try clear hk)
          (try clear hi)
          refine hK.out _ _ ⟨(blk_cell BK792.out 0).trans rfl,(blk_cell BK792.out 1).trans rfl,(blk_cell BK792.out 2).trans rfl,(blk_cell BK792.out 3).trans rfl,(blk_cell BK792.out 4).trans rfl⟩ (fun hHeld=>?_)
          clear hK K
          refine norm_ (a':=?_) ?_ ?_
          rotate_left
          ·show Act.put _ (some 26) _=_
           simp only [Act.put,List.setIfInBounds_toArray,List.set_cons_zero,List.set_cons_succ,i64_w,i32_w]
           rfl
          refine pure_ (i:=5) (N:=some 21) (v:=?_) (a':=?_) #[true,true,true,true,true,true,false,false,false,false,false] rfl rfl (any_of HT_.out (by kernel_rfl)) (fun _ _ _ h=>h) (Or.inl ⟨by rfl,?_⟩) ?_ ?_
          rotate_left
          ·intro w'
           go_simp
           with_reducible rfl
          rotate_left
          ·simp only [Act.put,List.setIfInBounds_toArray,List.set_cons_zero,List.set_cons_succ,i64_w,i32_w]
           rfl
          refine pure_ (i:=6) (N:=some 27) (v:=?_) (a':=?_) #[true,true,true,true,true,true,true,false,false,false,false] rfl rfl (any_of HT_.out (by kernel_rfl)) (fun _ _ _ h=>h) (Or.inl ⟨by rfl,?_⟩) ?_ ?_
          rotate_left
          ·intro w'
           go_simp
           with_reducible rfl
          rotate_left
          ·simp only [Act.put,List.setIfInBounds_toArray,List.set_cons_zero,List.set_cons_succ,i64_w,i32_w]
           rfl
          refine pure_ (i:=7) (N:=some 28) (v:=?_) (a':=?_) #[true,true,true,true,true,true,true,true,false,false,false] rfl rfl (any_of HT_.out (by kernel_rfl)) (fun _ _ _ h=>h) (Or.inl ⟨by rfl,?_⟩) ?_ ?_
          rotate_left
          ·intro w'
           go_simp
           with_reducible rfl
          rotate_left
          ·simp only [Act.put,List.setIfInBounds_toArray,List.set_cons_zero,List.set_cons_succ,i64_w,i32_w]
           rfl
          refine one_ (i:=8) (N:=some 6) #[true,true,true,true,true,true,true,true,true,false,false] rfl rfl (one_of HT_.out (by kernel_rfl)) (by decide) (fun K hK=>?_)
          refine box_step ?hg (N:=6) ?hd (cs:=#[.int .i64 0,.int .i64 0,.int .i64 0,.int .i64 0,.string (⟨#[]⟩:ByteArray)]) (t:=27) ?hr ?_;(case hd=>rfl);(case hg=>rfl);(case hr=>first|(go_simp;done)|(go_simp;rfl))
          intro gb809 hg w34 hbox hb
          have n0_:=Aside0.mk (Kd.R_below (by (with_reducible repeat (first|apply Kd.R_alloc|apply Kd.R_drewN|apply Kd.R_drew));exact HO797.out) hb)
          have n1_:=Aside0.mk (blk_below (g:=gb792) (o:=.cells #[.int .i64 a1_0,.int .i64 a1_1,.int .i64 a1_2,.int .i64 a1_3,.string a1_4] 47 (0,0)) (by (with_reducible repeat (first|refine blk_drewN ?_ _|refine blk_drew ?_|refine blk_alloc ?_ _));exact BK792.out) hb)
          have n2_:=Aside0.mk (below_step (by repeat (first|(with_reducible first|exact HB.out|apply below_alloc|apply pw_below_drewN|apply below_drew1|refine below_set ?_ GE792.out)|exact HB.out)) hb)
          have n3_:=Aside0.mk (hbox)
          have n4_:=Aside0.mk ((by rw [hg];exact (below_size (by repeat (first|(with_reducible first|exact HB.out|apply below_alloc|apply pw_below_drewN|apply below_drew1|refine below_set ?_ GE792.out)|exact HB.out))):w.heap.size≤gb809))
          have n5_:=Aside0.mk ((by rw [hg];exact (below_size (by repeat (first|(with_reducible first|exact HB.out|apply below_alloc|apply pw_below_drewN|apply below_drew1|refine below_set ?_ GE792.out)|exact HB.out))):w.heap.size≤gb809))
          have n6_:=Aside0.mk ((by rw [hg];exact Nat.ne_of_lt (blk_lt (g:=gb792) (o:=.cells #[.int .i64 a1_0,.int .i64 a1_1,.int .i64 a1_2,.int .i64 a1_3,.string a1_4] 47 (0,0)) (by (with_reducible repeat (first|refine blk_drewN ?_ _|refine blk_drew ?_|refine blk_alloc ?_ _));exact BK792.out)):gb792≠gb809))
          have n7_:=Aside0.mk ((by rw [hg];exact Nat.ne_of_gt (blk_lt (g:=gb792) (o:=.cells #[.int .i64 a1_0,.int .i64 a1_1,.int .i64 a1_2,.int .i64 a1_3,.string a1_4] 47 (0,0)) (by (with_reducible repeat (first|refine blk_drewN ?_ _|refine blk_drew ?_|refine blk_alloc ?_ _));exact BK792.out)):gb809≠gb792))
          clear HO797
          clear BK792
          clear HB
          have HO797:=n0_
          have BK792:=n1_
          have HB:=n2_
          have BK809:=n3_
          have GW809:=n4_
          have GE809:=n5_
          have NB792_809:=n6_
          have NB809_792:=n7_
          clear n0_ n1_ n2_ n3_ n4_ n5_ n6_ n7_
          clear hb hbox hg
          refine hK.out _ _ ⟨(blk_cell BK792.out 0).trans rfl,(blk_cell BK792.out 1).trans rfl,(blk_cell BK792.out 2).trans rfl,(blk_cell BK792.out 3).trans rfl,(blk_cell BK792.out 4).trans rfl⟩ (fun hHeld=>?_)
          clear hK K
          refine norm_ (a':=?_) ?_ ?_
          rotate_left
          ·show Act.put _ (some 6) _=_
           simp only [Act.put,List.setIfInBounds_toArray,List.set_cons_zero,List.set_cons_succ,i64_w,i32_w]
           rfl
          exact norm_ (by simp only [putAll,Act.put,List.setIfInBounds_toArray,List.set_cons_zero,List.set_cons_succ]) (hCont (.slice Ao32 t795.length co32,gb809) _ ⟨hHeld,(by (with_reducible repeat (first|apply Kd.R_alloc|apply Kd.R_drewN|apply Kd.R_drew));exact HO797.out),(by (with_reducible repeat (first|refine blk_drewN ?_ _|refine blk_drew ?_|refine blk_alloc ?_ _));exact BK792.out),(by (with_reducible repeat (first|refine blk_drewN ?_ _|refine blk_drew ?_|refine blk_alloc ?_ _));exact BK809.out),GW809.out,GE809.out,NB792_809.out,NB809_792.out,(by repeat (first|(with_reducible first|exact HB.out|apply below_alloc|apply pw_below_drewN|apply below_drew1|refine below_set ?_ GE792.out|refine below_set ?_ GE809.out)|exact HB.out))⟩)
         ·skip
          refine box_step ?hg (N:=6) ?hd (cs:=#[.int .i64 0,.int .i64 0,.int .i64 0,.int .i64 0,.string (⟨#[]⟩:ByteArray)]) (t:=27) ?hr ?_;(case hd=>rfl);(case hg=>rfl);(case hr=>first|(go_simp;done)|(go_simp;rfl))
          intro gb809 hg w32 hbox hb
          have n0_:=Aside0.mk (Kd.R_below (by (with_reducible repeat (first|apply Kd.R_alloc|apply Kd.R_drewN|apply Kd.R_drew));exact HO797.out) hb)
          have n1_:=Aside0.mk (blk_below (g:=gb792) (o:=.cells #[.int .i64 a1_0,.int .i64 a1_1,.int .i64 a1_2,.int .i64 a1_3,.string a1_4] 47 (0,0)) (by (with_reducible repeat (first|refine blk_drewN ?_ _|refine blk_drew ?_|refine blk_alloc ?_ _));exact BK792.out) hb)
          have n2_:=Aside0.mk (below_step (by repeat (first|(with_reducible first|exact HB.out|apply below_alloc|apply pw_below_drewN|apply below_drew1|refine below_set ?_ GE792.out)|exact HB.out)) hb)
          have n3_:=Aside0.mk (hbox)
          have n4_:=Aside0.mk ((by rw [hg];exact (below_size (by repeat (first|(with_reducible first|exact HB.out|apply below_alloc|apply pw_below_drewN|apply below_drew1|refine below_set ?_ GE792.out)|exact HB.out))):w.heap.size≤gb809))
          have n5_:=Aside0.mk ((by rw [hg];exact (below_size (by repeat (first|(with_reducible first|exact HB.out|apply below_alloc|apply pw_below_drewN|apply below_drew1|refine below_set ?_ GE792.out)|exact HB.out))):w.heap.size≤gb809))
          have n6_:=Aside0.mk ((by rw [hg];exact Nat.ne_of_lt (blk_lt (g:=gb792) (o:=.cells #[.int .i64 a1_0,.int .i64 a1_1,.int .i64 a1_2,.int .i64 a1_3,.string a1_4] 47 (0,0)) (by (with_reducible repeat (first|refine blk_drewN ?_ _|refine blk_drew ?_|refine blk_alloc ?_ _));exact BK792.out)):gb792≠gb809))
          have n7_:=Aside0.mk ((by rw [hg];exact Nat.ne_of_gt (blk_lt (g:=gb792) (o:=.cells #[.int .i64 a1_0,.int .i64 a1_1,.int .i64 a1_2,.int .i64 a1_3,.string a1_4] 47 (0,0)) (by (with_reducible repeat (first|refine blk_drewN ?_ _|refine blk_drew ?_|refine blk_alloc ?_ _));exact BK792.out)):gb809≠gb792))
          clear HO797
          clear BK792
          clear HB
          have HO797:=n0_
          have BK792:=n1_
          have HB:=n2_
          have BK809:=n3_
          have GW809:=n4_
          have GE809:=n5_
          have NB792_809:=n6_
          have NB809_792:=n7_
          clear n0_ n1_ n2_ n3_ n4_ n5_ n6_ n7_
          clear hb hbox hg
          obtain ⟨Ao33,co33,eo33⟩:=Kd.R_slice HO797.out
          (first|subst eo33|(injection eo33 with f1_ f2_ f3_;have f4_:=f1_.symm;have f5_:=f3_.symm;clear f1_ f2_ f3_;subst f4_;subst f5_))
          refine hK.out _ _ ⟨(blk_cell BK792.out 0).trans rfl,(blk_cell BK792.out 1).trans rfl,(blk_cell BK792.out 2).trans rfl,(blk_cell BK792.out 3).trans rfl,(blk_cell BK792.out 4).trans rfl⟩ (fun hHeld=>?_)
          clear hK K
          refine norm_ (a':=?_) ?_ ?_
          rotate_left
          ·show Act.put _ (some 6) _=_
           simp only [Act.put,List.setIfInBounds_toArray,List.set_cons_zero,List.set_cons_succ,i64_w,i32_w]
           rfl
          refine one_ (i:=4) (N:=some 26) #[true,true,true,true,true,false,false,false,true,false,false] rfl rfl (one_of HT_.out (by kernel_rfl)) (by decide) (fun K hK=>?_)
          refine goes_ Tryd.func41 (by kernel_rfl) rfl #[.slice Ao33 t795.length co33,.agg #[.int .i64 t798,.int .i64 t799,.int .i64 t800,.int .i64 t801,.string t802]] (by rfl) rfl rfl (by (try simp only [List.map_toArray,List.map_cons,List.map_nil]);first|done|rfl|(simp only [List.length_drop,List.length_take];rfl)) ?_
          with_reducible refine (spec_KeyBack.calls k _ _ t795 t798 t799 t800 t801 t802 t803 t804 t805 t806 t807 t808 _ ?side1 ?side2 A15.out).mono ?_
          (case side1=>repeat (first|exact (Kd.R_reads' HO797.out).2.2|(with_reducible refine Kd.C_alloc ?_ _)|(with_reducible refine Kd.C_drewN ?_ _)|(with_reducible refine Kd.C_drew ?_)))
          (case side2=>exact (Kd.R_reads' HO797.out).2.1)
          rintro e w34 ⟨rfl,hb⟩
          refine ⟨_,rfl,?_⟩
          have n0_:=Aside0.mk (Kd.R_below (by (with_reducible repeat (first|apply Kd.R_alloc|apply Kd.R_drewN|apply Kd.R_drew));exact HO797.out) hb)
          have n1_:=Aside0.mk (blk_below (g:=gb792) (o:=.cells #[.int .i64 a1_0,.int .i64 a1_1,.int .i64 a1_2,.int .i64 a1_3,.string a1_4] 47 (0,0)) (by (with_reducible repeat (first|refine blk_drewN ?_ _|refine blk_drew ?_|refine blk_alloc ?_ _));exact BK792.out) hb)
          have n2_:=Aside0.mk (blk_below (g:=gb809) (o:=.cells #[.int .i64 0,.int .i64 0,.int .i64 0,.int .i64 0,.string (⟨#[]⟩:ByteArray)] 27 (0,0)) (by (with_reducible repeat (first|refine blk_drewN ?_ _|refine blk_drew ?_|refine blk_alloc ?_ _));exact BK809.out) hb)
          have n3_:=Aside0.mk (below_step (by repeat (first|(with_reducible first|exact HB.out|apply below_alloc|apply pw_below_drewN|apply below_drew1|refine below_set ?_ GE792.out|refine below_set ?_ GE809.out)|exact HB.out)) hb)
          clear HO797
          clear BK792
          clear BK809
          clear HB
          have HO797:=n0_
          have BK792:=n1_
          have BK809:=n2_
          have HB:=n3_
          clear n0_ n1_ n2_ n3_
          (try clear hb)
          (try clear hb2)
          (try clear hk)
          (try clear hi)
          refine hK.out _ _ ⟨(blk_cell BK792.out 0).trans rfl,(blk_cell BK792.out 1).trans rfl,(blk_cell BK792.out 2).trans rfl,(blk_cell BK792.out 3).trans rfl,(blk_cell BK792.out 4).trans rfl⟩ (fun hHeld=>?_)
          clear hK K
          refine norm_ (a':=?_) ?_ ?_
          rotate_left
          ·show Act.put _ (some 26) _=_
           simp only [Act.put,List.setIfInBounds_toArray,List.set_cons_zero,List.set_cons_succ,i64_w,i32_w]
           rfl
          refine pure_ (i:=5) (N:=some 21) (v:=?_) (a':=?_) #[true,true,true,true,true,true,false,false,true,false,false] rfl rfl (any_of HT_.out (by kernel_rfl)) (fun _ _ _ h=>h) (Or.inl ⟨by rfl,?_⟩) ?_ ?_
          rotate_left
          ·intro w'
           go_simp
           with_reducible rfl
          rotate_left
          ·simp only [Act.put,List.setIfInBounds_toArray,List.set_cons_zero,List.set_cons_succ,i64_w,i32_w]
           rfl
          refine pure_ (i:=6) (N:=some 27) (v:=?_) (a':=?_) #[true,true,true,true,true,true,true,false,true,false,false] rfl rfl (any_of HT_.out (by kernel_rfl)) (fun _ _ _ h=>h) (Or.inl ⟨by rfl,?_⟩) ?_ ?_
          rotate_left
          ·intro w'
           go_simp
           with_reducible rfl
          rotate_left
          ·simp only [Act.put,List.setIfInBounds_toArray,List.set_cons_zero,List.set_cons_succ,i64_w,i32_w]
           rfl
          refine pure_ (i:=7) (N:=some 28) (v:=?_) (a':=?_) #[true,true,true,true,true,true,true,true,true,false,false] rfl rfl (any_of HT_.out (by kernel_rfl)) (fun _ _ _ h=>h) (Or.inl ⟨by rfl,?_⟩) ?_ ?_
          rotate_left
          ·intro w'
           go_simp
           with_reducible rfl
          rotate_left
          ·simp only [Act.put,List.setIfInBounds_toArray,List.set_cons_zero,List.set_cons_succ,i64_w,i32_w]
           rfl
          exact norm_ (by simp only [putAll,Act.put,List.setIfInBounds_toArray,List.set_cons_zero,List.set_cons_succ]) (hCont (.slice Ao33 t795.length co33,gb809) _ ⟨hHeld,(by (with_reducible repeat (first|apply Kd.R_alloc|apply Kd.R_drewN|apply Kd.R_drew));exact HO797.out),(by (with_reducible repeat (first|refine blk_drewN ?_ _|refine blk_drew ?_|refine blk_alloc ?_ _));exact BK792.out),(by (with_reducible repeat (first|refine blk_drewN ?_ _|refine blk_drew ?_|refine blk_alloc ?_ _));exact BK809.out),GW809.out,GE809.out,NB792_809.out,NB809_792.out,(by repeat (first|(with_reducible first|exact HB.out|apply below_alloc|apply pw_below_drewN|apply below_drew1|refine below_set ?_ GE792.out|refine below_set ?_ GE809.out)|exact HB.out))⟩)
        ·skip
         refine box_step ?hg (N:=6) ?hd (cs:=#[.int .i64 0,.int .i64 0,.int .i64 0,.int .i64 0,.string (⟨#[]⟩:ByteArray)]) (t:=27) ?hr ?_;(case hd=>rfl);(case hg=>rfl);(case hr=>first|(go_simp;done)|(go_simp;rfl))
         intro gb809 hg w31 hbox hb
         have n0_:=Aside0.mk (Kd.R_below (by (with_reducible repeat (first|apply Kd.R_alloc|apply Kd.R_drewN|apply Kd.R_drew));exact HO797.out) hb)
         have n1_:=Aside0.mk (blk_below (g:=gb792) (o:=.cells #[.int .i64 a1_0,.int .i64 a1_1,.int .i64 a1_2,.int .i64 a1_3,.string a1_4] 47 (0,0)) (by (with_reducible repeat (first|refine blk_drewN ?_ _|refine blk_drew ?_|refine blk_alloc ?_ _));exact BK792.out) hb)
         have n2_:=Aside0.mk (below_step (by repeat (first|(with_reducible first|exact HB.out|apply below_alloc|apply pw_below_drewN|apply below_drew1|refine below_set ?_ GE792.out)|exact HB.out)) hb)
         have n3_:=Aside0.mk (hbox)
         have n4_:=Aside0.mk ((by rw [hg];exact (below_size (by repeat (first|(with_reducible first|exact HB.out|apply below_alloc|apply pw_below_drewN|apply below_drew1|refine below_set ?_ GE792.out)|exact HB.out))):w.heap.size≤gb809))
         have n5_:=Aside0.mk ((by rw [hg];exact (below_size (by repeat (first|(with_reducible first|exact HB.out|apply below_alloc|apply pw_below_drewN|apply below_drew1|refine below_set ?_ GE792.out)|exact HB.out))):w.heap.size≤gb809))
         have n6_:=Aside0.mk ((by rw [hg];exact Nat.ne_of_lt (blk_lt (g:=gb792) (o:=.cells #[.int .i64 a1_0,.int .i64 a1_1,.int .i64 a1_2,.int .i64 a1_3,.string a1_4] 47 (0,0)) (by (with_reducible repeat (first|refine blk_drewN ?_ _|refine blk_drew ?_|refine blk_alloc ?_ _));exact BK792.out)):gb792≠gb809))
         have n7_:=Aside0.mk ((by rw [hg];exact Nat.ne_of_gt (blk_lt (g:=gb792) (o:=.cells #[.int .i64 a1_0,.int .i64 a1_1,.int .i64 a1_2,.int .i64 a1_3,.string a1_4] 47 (0,0)) (by (with_reducible repeat (first|refine blk_drewN ?_ _|refine blk_drew ?_|refine blk_alloc ?_ _));exact BK792.out)):gb809≠gb792))
         clear HO797
         clear BK792
         clear HB
         have HO797:=n0_
         have BK792:=n1_
         have HB:=n2_
         have BK809:=n3_
         have GW809:=n4_
         have GE809:=n5_
         have NB792_809:=n6_
         have NB809_792:=n7_
         clear n0_ n1_ n2_ n3_ n4_ n5_ n6_ n7_
         clear hb hbox hg
         refine hK.out _ _ ⟨(blk_cell BK792.out 0).trans rfl,(blk_cell BK792.out 1).trans rfl,(blk_cell BK792.out 2).trans rfl,(blk_cell BK792.out 3).trans rfl,(blk_cell BK792.out 4).trans rfl⟩ (fun hHeld=>?_)
         clear hK K
         refine norm_ (a':=?_) ?_ ?_
         rotate_left
         ·show Act.put _ (some 6) _=_
          simp only [Act.put,List.setIfInBounds_toArray,List.set_cons_zero,List.set_cons_succ,i64_w,i32_w]
          rfl
         refine one_ (i:=3) (N:=some 25) #[true,true,true,true,false,false,false,false,true,false,false] rfl rfl (one_of HT_.out (by kernel_rfl)) (by decide) (fun K hK=>?_)
         refine goes_ Tryd.func43 (by kernel_rfl) rfl #[.agg #[.int .i64 a1_0,.int .i64 a1_1,.int .i64 a1_2,.int .i64 a1_3,.string a1_4]] (by rfl) rfl rfl (by (try simp only [List.map_toArray,List.map_cons,List.map_nil]);first|done|rfl|(simp only [List.length_drop,List.length_take];rfl)) ?_
         with_reducible refine (laws_toOp.calls a1_0 a1_1 a1_2 a1_3 a1_4 t798 t799 t800 t801 t802 _ A14.out).mono ?_
         rintro e w32 ⟨rfl,hb⟩
         refine ⟨_,rfl,?_⟩
         have n0_:=Aside0.mk (Kd.R_below (by (with_reducible repeat (first|apply Kd.R_alloc|apply Kd.R_drewN|apply Kd.R_drew));exact HO797.out) hb)
         have n1_:=Aside0.mk (blk_below (g:=gb792) (o:=.cells #[.int .i64 a1_0,.int .i64 a1_1,.int .i64 a1_2,.int .i64 a1_3,.string a1_4] 47 (0,0)) (by (with_reducible repeat (first|refine blk_drewN ?_ _|refine blk_drew ?_|refine blk_alloc ?_ _));exact BK792.out) hb)
         have n2_:=Aside0.mk (blk_below (g:=gb809) (o:=.cells #[.int .i64 0,.int .i64 0,.int .i64 0,.int .i64 0,.string (⟨#[]⟩:ByteArray)] 27 (0,0)) (by (with_reducible repeat (first|refine blk_drewN ?_ _|refine blk_drew ?_|refine blk_alloc ?_ _));exact BK809.out) hb)
         have n3_:=Aside0.mk (below_step (by repeat (first|(with_reducible first|exact HB.out|apply below_alloc|apply pw_below_drewN|apply below_drew1|refine below_set ?_ GE792.out|refine below_set ?_ GE809.out)|exact HB.out)) hb)
         clear HO797
         clear BK792
         clear BK809
         clear HB
         have HO797:=n0_
         have BK792:=n1_
         have BK809:=n2_
         have HB:=n3_
         clear n0_ n1_ n2_ n3_
         (try clear hb)
         (try clear hb2)
         (try clear hk)
         (try clear hi)
         obtain ⟨Ao33,co33,eo33⟩:=Kd.R_slice HO797.out
         (first|subst eo33|(injection eo33 with f1_ f2_ f3_;have f4_:=f1_.symm;have f5_:=f3_.symm;clear f1_ f2_ f3_;subst f4_;subst f5_))
         refine hK.out _ _ ⟨(blk_cell BK792.out 0).trans rfl,(blk_cell BK792.out 1).trans rfl,(blk_cell BK792.out 2).trans rfl,(blk_cell BK792.out 3).trans rfl,(blk_cell BK792.out 4).trans rfl⟩ (fun hHeld=>?_)
         clear hK K
         refine norm_ (a':=?_) ?_ ?_
         rotate_left
         ·show Act.put _ (some 25) _=_
          simp only [Act.put,List.setIfInBounds_toArray,List.set_cons_zero,List.set_cons_succ,i64_w,i32_w]
          rfl
         refine one_ (i:=4) (N:=some 26) #[true,true,true,true,true,false,false,false,true,false,false] rfl rfl (one_of HT_.out (by kernel_rfl)) (by decide) (fun K hK=>?_)
         refine goes_ Tryd.func41 (by kernel_rfl) rfl #[.slice Ao33 t795.length co33,.agg #[.int .i64 t798,.int .i64 t799,.int .i64 t800,.int .i64 t801,.string t802]] (by rfl) rfl rfl (by (try simp only [List.map_toArray,List.map_cons,List.map_nil]);first|done|rfl|(simp only [List.length_drop,List.length_take];rfl)) ?_
         with_reducible refine (spec_KeyBack.calls k _ _ t795 t798 t799 t800 t801 t802 t803 t804 t805 t806 t807 t808 _ ?side1 ?side2 A15.out).mono ?_
         (case side1=>repeat (first|exact (Kd.R_reads' HO797.out).2.2|(with_reducible refine Kd.C_alloc ?_ _)|(with_reducible refine Kd.C_drewN ?_ _)|(with_reducible refine Kd.C_drew ?_)))
         (case side2=>exact (Kd.R_reads' HO797.out).2.1)
         rintro e w34 ⟨rfl,hb⟩
         refine ⟨_,rfl,?_⟩
         have n0_:=Aside0.mk (Kd.R_below (by (with_reducible repeat (first|apply Kd.R_alloc|apply Kd.R_drewN|apply Kd.R_drew));exact HO797.out) hb)
         have n1_:=Aside0.mk (blk_below (g:=gb792) (o:=.cells #[.int .i64 a1_0,.int .i64 a1_1,.int .i64 a1_2,.int .i64 a1_3,.string a1_4] 47 (0,0)) (by (with_reducible repeat (first|refine blk_drewN ?_ _|refine blk_drew ?_|refine blk_alloc ?_ _));exact BK792.out) hb)
         have n2_:=Aside0.mk (blk_below (g:=gb809) (o:=.cells #[.int .i64 0,.int .i64 0,.int .i64 0,.int .i64 0,.string (⟨#[]⟩:ByteArray)] 27 (0,0)) (by (with_reducible repeat (first|refine blk_drewN ?_ _|refine blk_drew ?_|refine blk_alloc ?_ _));exact BK809.out) hb)
         have n3_:=Aside0.mk (below_step (by repeat (first|(with_reducible first|exact HB.out|apply below_alloc|apply pw_below_drewN|apply below_drew1|refine below_set ?_ GE792.out|refine below_set ?_ GE809.out)|exact HB.out)) hb)
         clear HO797
         clear BK792
         clear BK809
         clear HB
         have HO797:=n0_
         have BK792:=n1_
         have BK809:=n2_
         have HB:=n3_
         clear n0_ n1_ n2_ n3_
         (try clear hb)
         (try clear hb2)
         (try clear hk)
         (try clear hi)
         refine hK.out _ _ ⟨(blk_cell BK792.out 0).trans rfl,(blk_cell BK792.out 1).trans rfl,(blk_cell BK792.out 2).trans rfl,(blk_cell BK792.out 3).trans rfl,(blk_cell BK792.out 4).trans rfl⟩ (fun hHeld=>?_)
         clear hK K
         refine norm_ (a':=?_) ?_ ?_
         rotate_left
         ·show Act.put _ (some 26) _=_
          simp only [Act.put,List.setIfInBounds_toArray,List.set_cons_zero,List.set_cons_succ,i64_w,i32_w]
          rfl
         refine pure_ (i:=5) (N:=some 21) (v:=?_) (a':=?_) #[true,true,true,true,true,true,false,false,true,false,false] rfl rfl (any_of HT_.out (by kernel_rfl)) (fun _ _ _ h=>h) (Or.inl ⟨by rfl,?_⟩) ?_ ?_
         rotate_left
         ·intro w'
          go_simp
          with_reducible rfl
         rotate_left
         ·simp only [Act.put,List.setIfInBounds_toArray,List.set_cons_zero,List.set_cons_succ,i64_w,i32_w]
          rfl
         refine pure_ (i:=6) (N:=some 27) (v:=?_) (a':=?_) #[true,true,true,true,true,true,true,false,true,false,false] rfl rfl (any_of HT_.out (by kernel_rfl)) (fun _ _ _ h=>h) (Or.inl ⟨by rfl,?_⟩) ?_ ?_
         rotate_left
         ·intro w'
          go_simp
          with_reducible rfl
         rotate_left
         ·simp only [Act.put,List.setIfInBounds_toArray,List.set_cons_zero,List.set_cons_succ,i64_w,i32_w]
          rfl
         refine pure_ (i:=7) (N:=some 28) (v:=?_) (a':=?_) #[true,true,true,true,true,true,true,true,true,false,false] rfl rfl (any_of HT_.out (by kernel_rfl)) (fun _ _ _ h=>h) (Or.inl ⟨by rfl,?_⟩) ?_ ?_
         rotate_left
         ·intro w'
          go_simp
          with_reducible rfl
         rotate_left
         ·simp only [Act.put,List.setIfInBounds_toArray,List.set_cons_zero,List.set_cons_succ,i64_w,i32_w]
          rfl
         exact norm_ (by simp only [putAll,Act.put,List.setIfInBounds_toArray,List.set_cons_zero,List.set_cons_succ]) (hCont (.slice Ao33 t795.length co33,gb809) _ ⟨hHeld,(by (with_reducible repeat (first|apply Kd.R_alloc|apply Kd.R_drewN|apply Kd.R_drew));exact HO797.out),(by (with_reducible repeat (first|refine blk_drewN ?_ _|refine blk_drew ?_|refine blk_alloc ?_ _));exact BK792.out),(by (with_reducible repeat (first|refine blk_drewN ?_ _|refine blk_drew ?_|refine blk_alloc ?_ _));exact BK809.out),GW809.out,GE809.out,NB792_809.out,NB809_792.out,(by repeat (first|(with_reducible first|exact HB.out|apply below_alloc|apply pw_below_drewN|apply below_drew1|refine below_set ?_ GE792.out|refine below_set ?_ GE809.out)|exact HB.out))⟩)
       ·skip
        refine box_step ?hg (N:=6) ?hd (cs:=#[.int .i64 0,.int .i64 0,.int .i64 0,.int .i64 0,.string (⟨#[]⟩:ByteArray)]) (t:=27) ?hr ?_;(case hd=>rfl);(case hg=>rfl);(case hr=>first|(go_simp;done)|(go_simp;rfl))
        intro gb809 hg w30 hbox hb
        have n0_:=Aside0.mk (blk_below (g:=gb792) (o:=.cells #[.int .i64 a1_0,.int .i64 a1_1,.int .i64 a1_2,.int .i64 a1_3,.string a1_4] 47 (0,0)) (by (with_reducible repeat (first|refine blk_drewN ?_ _|refine blk_drew ?_|refine blk_alloc ?_ _));exact BK792.out) hb)
        have n1_:=Aside0.mk (below_step (by repeat (first|(with_reducible first|exact HB.out|apply below_alloc|apply pw_below_drewN|apply below_drew1|refine below_set ?_ GE792.out)|exact HB.out)) hb)
        have n2_:=Aside0.mk (hbox)
        have n3_:=Aside0.mk ((by rw [hg];exact (below_size (by repeat (first|(with_reducible first|exact HB.out|apply below_alloc|apply pw_below_drewN|apply below_drew1|refine below_set ?_ GE792.out)|exact HB.out))):w.heap.size≤gb809))
        have n4_:=Aside0.mk ((by rw [hg];exact (below_size (by repeat (first|(with_reducible first|exact HB.out|apply below_alloc|apply pw_below_drewN|apply below_drew1|refine below_set ?_ GE792.out)|exact HB.out))):w.heap.size≤gb809))
        have n5_:=Aside0.mk ((by rw [hg];exact Nat.ne_of_lt (blk_lt (g:=gb792) (o:=.cells #[.int .i64 a1_0,.int .i64 a1_1,.int .i64 a1_2,.int .i64 a1_3,.string a1_4] 47 (0,0)) (by (with_reducible repeat (first|refine blk_drewN ?_ _|refine blk_drew ?_|refine blk_alloc ?_ _));exact BK792.out)):gb792≠gb809))
        have n6_:=Aside0.mk ((by rw [hg];exact Nat.ne_of_gt (blk_lt (g:=gb792) (o:=.cells #[.int .i64 a1_0,.int .i64 a1_1,.int .i64 a1_2,.int .i64 a1_3,.string a1_4] 47 (0,0)) (by (with_reducible repeat (first|refine blk_drewN ?_ _|refine blk_drew ?_|refine blk_alloc ?_ _));exact BK792.out)):gb809≠gb792))
        clear BK792
        clear HB
        have BK792:=n0_
        have HB:=n1_
        have BK809:=n2_
        have GW809:=n3_
        have GE809:=n4_
        have NB792_809:=n5_
        have NB809_792:=n6_
        clear n0_ n1_ n2_ n3_ n4_ n5_ n6_
        clear hb hbox hg
        refine hK.out _ _ ⟨(blk_cell BK792.out 0).trans rfl,(blk_cell BK792.out 1).trans rfl,(blk_cell BK792.out 2).trans rfl,(blk_cell BK792.out 3).trans rfl,(blk_cell BK792.out 4).trans rfl⟩ (fun hHeld=>?_)
        clear hK K
        refine norm_ (a':=?_) ?_ ?_
        rotate_left
        ·show Act.put _ (some 6) _=_
         simp only [Act.put,List.setIfInBounds_toArray,List.set_cons_zero,List.set_cons_succ,i64_w,i32_w]
         rfl
        refine one_ (i:=1) (N:=some 23) #[true,true,true,false,false,false,false,false,true,false,false] rfl rfl (one_of HT_.out (by kernel_rfl)) (by decide) (fun K hK=>?_)
        refine goes_ Tryd.func42 (by kernel_rfl) rfl #[.slice A0 l0.length c0] (by rfl) rfl rfl (by (try simp only [List.map_toArray,List.map_cons,List.map_nil]);first|done|rfl|(simp only [List.length_drop,List.length_take];rfl)) ?_
        with_reducible refine (laws_toRowS.calls k _ _ l0 t795 _ ?side1 ?side2 A13.out).mono ?_
        (case side1=>repeat (first|exact (Kd.C_below HR0.out HB.out)|(with_reducible refine Kd.C_alloc ?_ _)|(with_reducible refine Kd.C_drewN ?_ _)|(with_reducible refine Kd.C_drew ?_)))
        (case side2=>exact HC0.out)
        rintro e w31 ⟨v796,rfl,ho0,hb⟩
        refine ⟨_,rfl,?_⟩
        have n0_:=Aside0.mk (Kd.R_lower ho0 (below_size (by repeat (first|(with_reducible first|exact HB.out|apply below_alloc|apply pw_below_drewN|apply below_drew1|refine below_set ?_ GE792.out|refine below_set ?_ GE809.out)|exact HB.out))))
        have n1_:=Aside0.mk (blk_below (g:=gb792) (o:=.cells #[.int .i64 a1_0,.int .i64 a1_1,.int .i64 a1_2,.int .i64 a1_3,.string a1_4] 47 (0,0)) (by (with_reducible repeat (first|refine blk_drewN ?_ _|refine blk_drew ?_|refine blk_alloc ?_ _));exact BK792.out) hb)
        have n2_:=Aside0.mk (blk_below (g:=gb809) (o:=.cells #[.int .i64 0,.int .i64 0,.int .i64 0,.int .i64 0,.string (⟨#[]⟩:ByteArray)] 27 (0,0)) (by (with_reducible repeat (first|refine blk_drewN ?_ _|refine blk_drew ?_|refine blk_alloc ?_ _));exact BK809.out) hb)
        have n3_:=Aside0.mk (below_step (by repeat (first|(with_reducible first|exact HB.out|apply below_alloc|apply pw_below_drewN|apply below_drew1|refine below_set ?_ GE792.out|refine below_set ?_ GE809.out)|exact HB.out)) hb)
        clear BK792
        clear BK809
        clear HB
        have HO797:=n0_
        have BK792:=n1_
        have BK809:=n2_
        have HB:=n3_
        clear n0_ n1_ n2_ n3_
        (try clear hb)
        (try clear hb2)
        (try clear hk)
        (try clear hi)
        (try clear ho0)
        refine hK.out _ _ ⟨(blk_cell BK792.out 0).trans rfl,(blk_cell BK792.out 1).trans rfl,(blk_cell BK792.out 2).trans rfl,(blk_cell BK792.out 3).trans rfl,(blk_cell BK792.out 4).trans rfl⟩ (fun hHeld=>?_)
        clear hK K
        refine norm_ (a':=?_) ?_ ?_
        rotate_left
        ·show Act.put _ (some 23) _=_
         simp only [Act.put,List.setIfInBounds_toArray,List.set_cons_zero,List.set_cons_succ,i64_w,i32_w]
         rfl
        refine one_ (i:=3) (N:=some 25) #[true,true,true,true,false,false,false,false,true,false,false] rfl rfl (one_of HT_.out (by kernel_rfl)) (by decide) (fun K hK=>?_)
        refine goes_ Tryd.func43 (by kernel_rfl) rfl #[.agg #[.int .i64 a1_0,.int .i64 a1_1,.int .i64 a1_2,.int .i64 a1_3,.string a1_4]] (by rfl) rfl rfl (by (try simp only [List.map_toArray,List.map_cons,List.map_nil]);first|done|rfl|(simp only [List.length_drop,List.length_take];rfl)) ?_
        with_reducible refine (laws_toOp.calls a1_0 a1_1 a1_2 a1_3 a1_4 t798 t799 t800 t801 t802 _ A14.out).mono ?_
        rintro e w32 ⟨rfl,hb⟩
        refine ⟨_,rfl,?_⟩
        have n0_:=Aside0.mk (Kd.R_below (by (with_reducible repeat (first|apply Kd.R_alloc|apply Kd.R_drewN|apply Kd.R_drew));exact HO797.out) hb)
        have n1_:=Aside0.mk (blk_below (g:=gb792) (o:=.cells #[.int .i64 a1_0,.int .i64 a1_1,.int .i64 a1_2,.int .i64 a1_3,.string a1_4] 47 (0,0)) (by (with_reducible repeat (first|refine blk_drewN ?_ _|refine blk_drew ?_|refine blk_alloc ?_ _));exact BK792.out) hb)
        have n2_:=Aside0.mk (blk_below (g:=gb809) (o:=.cells #[.int .i64 0,.int .i64 0,.int .i64 0,.int .i64 0,.string (⟨#[]⟩:ByteArray)] 27 (0,0)) (by (with_reducible repeat (first|refine blk_drewN ?_ _|refine blk_drew ?_|refine blk_alloc ?_ _));exact BK809.out) hb)
        have n3_:=Aside0.mk (below_step (by repeat (first|(with_reducible first|exact HB.out|apply below_alloc|apply pw_below_drewN|apply below_drew1|refine below_set ?_ GE792.out|refine below_set ?_ GE809.out)|exact HB.out)) hb)
        clear HO797
        clear BK792
        clear BK809
        clear HB
        have HO797:=n0_
        have BK792:=n1_
        have BK809:=n2_
        have HB:=n3_
        clear n0_ n1_ n2_ n3_
        (try clear hb)
        (try clear hb2)
        (try clear hk)
        (try clear hi)
        obtain ⟨Ao33,co33,eo33⟩:=Kd.R_slice HO797.out
        (first|subst eo33|(injection eo33 with f1_ f2_ f3_;have f4_:=f1_.symm;have f5_:=f3_.symm;clear f1_ f2_ f3_;subst f4_;subst f5_))
        refine hK.out _ _ ⟨(blk_cell BK792.out 0).trans rfl,(blk_cell BK792.out 1).trans rfl,(blk_cell BK792.out 2).trans rfl,(blk_cell BK792.out 3).trans rfl,(blk_cell BK792.out 4).trans rfl⟩ (fun hHeld=>?_)
        clear hK K
        refine norm_ (a':=?_) ?_ ?_
        rotate_left
        ·show Act.put _ (some 25) _=_
         simp only [Act.put,List.setIfInBounds_toArray,List.set_cons_zero,List.set_cons_succ,i64_w,i32_w]
         rfl
        refine one_ (i:=4) (N:=some 26) #[true,true,true,true,true,false,false,false,true,false,false] rfl rfl (one_of HT_.out (by kernel_rfl)) (by decide) (fun K hK=>?_)
        refine goes_ Tryd.func41 (by kernel_rfl) rfl #[.slice Ao33 t795.length co33,.agg #[.int .i64 t798,.int .i64 t799,.int .i64 t800,.int .i64 t801,.string t802]] (by rfl) rfl rfl (by (try simp only [List.map_toArray,List.map_cons,List.map_nil]);first|done|rfl|(simp only [List.length_drop,List.length_take];rfl)) ?_
        with_reducible refine (spec_KeyBack.calls k _ _ t795 t798 t799 t800 t801 t802 t803 t804 t805 t806 t807 t808 _ ?side1 ?side2 A15.out).mono ?_
        (case side1=>repeat (first|exact (Kd.R_reads' HO797.out).2.2|(with_reducible refine Kd.C_alloc ?_ _)|(with_reducible refine Kd.C_drewN ?_ _)|(with_reducible refine Kd.C_drew ?_)))
        (case side2=>exact (Kd.R_reads' HO797.out).2.1)
        rintro e w34 ⟨rfl,hb⟩
        refine ⟨_,rfl,?_⟩
        have n0_:=Aside0.mk (Kd.R_below (by (with_reducible repeat (first|apply Kd.R_alloc|apply Kd.R_drewN|apply Kd.R_drew));exact HO797.out) hb)
        have n1_:=Aside0.mk (blk_below (g:=gb792) (o:=.cells #[.int .i64 a1_0,.int .i64 a1_1,.int .i64 a1_2,.int .i64 a1_3,.string a1_4] 47 (0,0)) (by (with_reducible repeat (first|refine blk_drewN ?_ _|refine blk_drew ?_|refine blk_alloc ?_ _));exact BK792.out) hb)
        have n2_:=Aside0.mk (blk_below (g:=gb809) (o:=.cells #[.int .i64 0,.int .i64 0,.int .i64 0,.int .i64 0,.string (⟨#[]⟩:ByteArray)] 27 (0,0)) (by (with_reducible repeat (first|refine blk_drewN ?_ _|refine blk_drew ?_|refine blk_alloc ?_ _));exact BK809.out) hb)
        have n3_:=Aside0.mk (below_step (by repeat (first|(with_reducible first|exact HB.out|apply below_alloc|apply pw_below_drewN|apply below_drew1|refine below_set ?_ GE792.out|refine below_set ?_ GE809.out)|exact HB.out)) hb)
        clear HO797
        clear BK792
        clear BK809
        clear HB
        have HO797:=n0_
        have BK792:=n1_
        have BK809:=n2_
        have HB:=n3_
        clear n0_ n1_ n2_ n3_
        (try clear hb)
        (try clear hb2)
        (try clear hk)
        (try clear hi)
        refine hK.out _ _ ⟨(blk_cell BK792.out 0).trans rfl,(blk_cell BK792.out 1).trans rfl,(blk_cell BK792.out 2).trans rfl,(blk_cell BK792.out 3).trans rfl,(blk_cell BK792.out 4).trans rfl⟩ (fun hHeld=>?_)
        clear hK K
        refine norm_ (a':=?_) ?_ ?_
        rotate_left
        ·show Act.put _ (some 26) _=_
         simp only [Act.put,List.setIfInBounds_toArray,List.set_cons_zero,List.set_cons_succ,i64_w,i32_w]
         rfl
        refine pure_ (i:=5) (N:=some 21) (v:=?_) (a':=?_) #[true,true,true,true,true,true,false,false,true,false,false] rfl rfl (any_of HT_.out (by kernel_rfl)) (fun _ _ _ h=>h) (Or.inl ⟨by rfl,?_⟩) ?_ ?_
        rotate_left
        ·intro w'
         go_simp
         with_reducible rfl
        rotate_left
        ·simp only [Act.put,List.setIfInBounds_toArray,List.set_cons_zero,List.set_cons_succ,i64_w,i32_w]
         rfl
        refine pure_ (i:=6) (N:=some 27) (v:=?_) (a':=?_) #[true,true,true,true,true,true,true,false,true,false,false] rfl rfl (any_of HT_.out (by kernel_rfl)) (fun _ _ _ h=>h) (Or.inl ⟨by rfl,?_⟩) ?_ ?_
        rotate_left
        ·intro w'
         go_simp
         with_reducible rfl
        rotate_left
        ·simp only [Act.put,List.setIfInBounds_toArray,List.set_cons_zero,List.set_cons_succ,i64_w,i32_w]
         rfl
        refine pure_ (i:=7) (N:=some 28) (v:=?_) (a':=?_) #[true,true,true,true,true,true,true,true,true,false,false] rfl rfl (any_of HT_.out (by kernel_rfl)) (fun _ _ _ h=>h) (Or.inl ⟨by rfl,?_⟩) ?_ ?_
        rotate_left
        ·intro w'
         go_simp
         with_reducible rfl
        rotate_left
        ·simp only [Act.put,List.setIfInBounds_toArray,List.set_cons_zero,List.set_cons_succ,i64_w,i32_w]
         rfl
        exact norm_ (by simp only [putAll,Act.put,List.setIfInBounds_toArray,List.set_cons_zero,List.set_cons_succ]) (hCont (.slice Ao33 t795.length co33,gb809) _ ⟨hHeld,(by (with_reducible repeat (first|apply Kd.R_alloc|apply Kd.R_drewN|apply Kd.R_drew));exact HO797.out),(by (with_reducible repeat (first|refine blk_drewN ?_ _|refine blk_drew ?_|refine blk_alloc ?_ _));exact BK792.out),(by (with_reducible repeat (first|refine blk_drewN ?_ _|refine blk_drew ?_|refine blk_alloc ?_ _));exact BK809.out),GW809.out,GE809.out,NB792_809.out,NB809_792.out,(by repeat (first|(with_reducible first|exact HB.out|apply below_alloc|apply pw_below_drewN|apply below_drew1|refine below_set ?_ GE792.out|refine below_set ?_ GE809.out)|exact HB.out))⟩)
      rintro ⟨v796,gb809⟩ w35 ⟨hS_,h0_,h1_,h2_,h3_,h4_,h5_,h6_,h7_⟩
      have n0_:Aside0 (Kd.R k37 37 w35 w.heap.size (fun _=>True) v796 t795):=⟨h0_⟩
      have n1_:Aside0 (w35.heap[gb792]?=some (.cells #[.int .i64 a1_0,.int .i64 a1_1,.int .i64 a1_2,.int .i64 a1_3,.string a1_4] 47 (0,0))):=⟨h1_⟩
      have n2_:Aside0 (w35.heap[gb809]?=some (.cells #[.int .i64 0,.int .i64 0,.int .i64 0,.int .i64 0,.string (⟨#[]⟩:ByteArray)] 27 (0,0))):=⟨h2_⟩
      have n3_:Aside0 (w.heap.size≤gb809):=⟨h3_⟩
      have n4_:Aside0 (w.heap.size≤gb809):=⟨h4_⟩
      have n5_:Aside0 (gb792≠gb809):=⟨h5_⟩
      have n6_:Aside0 (gb809≠gb792):=⟨h6_⟩
      have n7_:Aside0 (Below w.heap.size w w35):=⟨h7_⟩
      clear BK792
      clear HB
      clear h0_ h1_ h2_ h3_ h4_ h5_ h6_ h7_
      have HO797:=n0_
      have BK792:=n1_
      have BK809:=n2_
      have GW809:=n3_
      have GE809:=n4_
      have NB792_809:=n5_
      have NB809_792:=n6_
      have HB:=n7_
      clear n0_ n1_ n2_ n3_ n4_ n5_ n6_ n7_
      have hHeld:w35.cell? ⟨gb792,0,none⟩=some (.int .i64 a1_0)∧w35.cell? ⟨gb792,1,none⟩=some (.int .i64 a1_1)∧w35.cell? ⟨gb792,2,none⟩=some (.int .i64 a1_2)∧w35.cell? ⟨gb792,3,none⟩=some (.int .i64 a1_3)∧w35.cell? ⟨gb792,4,none⟩=some (.string a1_4):=hS_
      refine norm_ (a':=?_) ?_ ?_
      rotate_left
      ·simp only [putAll,Act.put,List.setIfInBounds_toArray,List.set_cons_zero,List.set_cons_succ]
       rfl
      refine one_ (i:=9) (N:=none) #[true,true,true,true,true,true,true,true,true,true,false] rfl rfl (one_of HT_.out (by kernel_rfl)) (by decide) (fun K hK=>?_)
      have hs36:w35.cell? ⟨gb809,0,none⟩=some (.int .i64 0):=(blk_cell BK809.out 0).trans rfl
      have hfs36:=blk_frozen BK809.out 0
      have hns36_0:=NB792_809.out
      have hms36_0:=NB809_792.out
      have hs37:w35.cell? ⟨gb809,1,none⟩=some (.int .i64 0):=(blk_cell BK809.out 1).trans rfl
      have hfs37:=blk_frozen BK809.out 1
      have hns37_0:=NB792_809.out
      have hms37_0:=NB809_792.out
      have hs38:w35.cell? ⟨gb809,2,none⟩=some (.int .i64 0):=(blk_cell BK809.out 2).trans rfl
      have hfs38:=blk_frozen BK809.out 2
      have hns38_0:=NB792_809.out
      have hms38_0:=NB809_792.out
      have hs39:w35.cell? ⟨gb809,3,none⟩=some (.int .i64 0):=(blk_cell BK809.out 3).trans rfl
      have hfs39:=blk_frozen BK809.out 3
      have hns39_0:=NB792_809.out
      have hms39_0:=NB809_792.out
      have hs40:w35.cell? ⟨gb809,4,none⟩=some (.string (⟨#[]⟩:ByteArray)):=(blk_cell BK809.out 4).trans rfl
      have hfs40:=blk_frozen BK809.out 4
      have hns40_0:=NB792_809.out
      have hms40_0:=NB809_792.out
      refine skip_ (w1:=?_) (by rfl) rfl ?_ ?_
      rotate_left
      ·go_simp
       rfl
      refine hK.out _ _ ⟨((cell_far (p:=⟨gb809,_,none⟩) NB792_809.out _).trans (((cell_far (p:=⟨gb809,_,none⟩) NB792_809.out _).trans (((cell_far (p:=⟨gb809,_,none⟩) NB792_809.out _).trans (((cell_far (p:=⟨gb809,_,none⟩) NB792_809.out _).trans (((cell_far (p:=⟨gb809,_,none⟩) NB792_809.out _).trans (hHeld.1)))))))))),((cell_far (p:=⟨gb809,_,none⟩) NB792_809.out _).trans (((cell_far (p:=⟨gb809,_,none⟩) NB792_809.out _).trans (((cell_far (p:=⟨gb809,_,none⟩) NB792_809.out _).trans (((cell_far (p:=⟨gb809,_,none⟩) NB792_809.out _).trans (((cell_far (p:=⟨gb809,_,none⟩) NB792_809.out _).trans (hHeld.2.1)))))))))),((cell_far (p:=⟨gb809,_,none⟩) NB792_809.out _).trans (((cell_far (p:=⟨gb809,_,none⟩) NB792_809.out _).trans (((cell_far (p:=⟨gb809,_,none⟩) NB792_809.out _).trans (((cell_far (p:=⟨gb809,_,none⟩) NB792_809.out _).trans (((cell_far (p:=⟨gb809,_,none⟩) NB792_809.out _).trans (hHeld.2.2.1)))))))))),((cell_far (p:=⟨gb809,_,none⟩) NB792_809.out _).trans (((cell_far (p:=⟨gb809,_,none⟩) NB792_809.out _).trans (((cell_far (p:=⟨gb809,_,none⟩) NB792_809.out _).trans (((cell_far (p:=⟨gb809,_,none⟩) NB792_809.out _).trans (((cell_far (p:=⟨gb809,_,none⟩) NB792_809.out _).trans (hHeld.2.2.2.1)))))))))),((cell_far (p:=⟨gb809,_,none⟩) NB792_809.out _).trans (((cell_far (p:=⟨gb809,_,none⟩) NB792_809.out _).trans (((cell_far (p:=⟨gb809,_,none⟩) NB792_809.out _).trans (((cell_far (p:=⟨gb809,_,none⟩) NB792_809.out _).trans (((cell_far (p:=⟨gb809,_,none⟩) NB792_809.out _).trans (hHeld.2.2.2.2))))))))))⟩ (fun hHeld=>?_)
      clear hK K
      refine pure_ (i:=10) (N:=some 7) (v:=?_) (a':=?_) #[true,true,true,true,true,true,true,true,true,true,true] rfl rfl (any_of HT_.out (by kernel_rfl)) (fun _ _ _ h=>h) (Or.inl ⟨by rfl,?_⟩) ?_ ?_
      rotate_left
      ·intro w'
       go_simp
       with_reducible rfl
      rotate_left
      ·simp only [Act.put,List.setIfInBounds_toArray,List.set_cons_zero,List.set_cons_succ,i64_w,i32_w]
       rfl
      refine done_ (done_of HT_.out (by kernel_rfl)) ?_
      try go_wp2_with (first|((with_reducible refine gate_callee (f:=42) rfl ?_);refine goesL_ (some 30) rfl rfl Tryd.func42 (by kernel_rfl) rfl #[.slice A0 l0.length c0] rfl (by (try simp only [List.map_toArray,List.map_cons,List.map_nil]);first|done|rfl|(simp only [List.length_drop,List.length_take];rfl)) ?_;(with_reducible refine (laws_toRowS.calls k _ _ l0 t810 _ ?side1 ?side2 A16.out).mono ?_);(case side1=>exact Kd.C_below HR0.out (by repeat (first|(with_reducible first|exact HB.out|apply below_alloc|apply pw_below_drewN|apply below_drew1|refine below_set ?_ GE792.out|refine below_set ?_ GE809.out)|exact HB.out)));(case side2=>exact HC0.out);rintro e w41 ⟨v811,rfl,ho0,hb⟩;refine ⟨_,rfl,?_⟩;have n0_:=Aside0.mk (Kd.R_elder' (by (with_reducible repeat (first|apply Kd.R_alloc|apply Kd.R_drewN|apply Kd.R_drew));exact (Kd.R_mono (Kd.R_far (p:=⟨gb809,4,none⟩) (Kd.R_far (p:=⟨gb809,3,none⟩) (Kd.R_far (p:=⟨gb809,2,none⟩) (Kd.R_far (p:=⟨gb809,1,none⟩) (Kd.R_far (p:=⟨gb809,0,none⟩) (Kd.R_types HO797.out BK809.out (by decide)) (fun _ hk=>hk.2) (.int .i64 t803)) (fun _ hk=>hk.2) (.int .i64 t804)) (fun _ hk=>hk.2) (.int .i64 t805)) (fun _ hk=>hk.2) (.int .i64 t806)) (fun _ hk=>hk.2) (.string t807)) (fun _ h_=>h_.1))) (Kd.R_base ho0) hb);have n1_:=Aside0.mk (Kd.R_lower (Kd.R_new' ho0 (Kd.R_lt (by (with_reducible repeat (first|apply Kd.R_alloc|apply Kd.R_drewN|apply Kd.R_drew));exact (Kd.R_mono (Kd.R_far (p:=⟨gb809,4,none⟩) (Kd.R_far (p:=⟨gb809,3,none⟩) (Kd.R_far (p:=⟨gb809,2,none⟩) (Kd.R_far (p:=⟨gb809,1,none⟩) (Kd.R_far (p:=⟨gb809,0,none⟩) (Kd.R_types HO797.out BK809.out (by decide)) (fun _ hk=>hk.2) (.int .i64 t803)) (fun _ hk=>hk.2) (.int .i64 t804)) (fun _ hk=>hk.2) (.int .i64 t805)) (fun _ hk=>hk.2) (.int .i64 t806)) (fun _ hk=>hk.2) (.string t807)) (fun _ h_=>h_.1))))) (below_size (by repeat (first|(with_reducible first|exact HB.out|apply below_alloc|apply pw_below_drewN|apply below_drew1|refine below_set ?_ GE792.out|refine below_set ?_ GE809.out)|exact HB.out))));have n2_:=Aside0.mk (blk_below (g:=gb792) (o:=.cells #[.int .i64 a1_0,.int .i64 a1_1,.int .i64 a1_2,.int .i64 a1_3,.string a1_4] 47 (0,0)) (by (with_reducible repeat (first|refine blk_drewN ?_ _|refine blk_drew ?_|refine blk_alloc ?_ _));refine blk_far ?_ NB792_809.out _;(with_reducible repeat (first|refine blk_drewN ?_ _|refine blk_drew ?_|refine blk_alloc ?_ _));refine blk_far ?_ NB792_809.out _;(with_reducible repeat (first|refine blk_drewN ?_ _|refine blk_drew ?_|refine blk_alloc ?_ _));refine blk_far ?_ NB792_809.out _;(with_reducible repeat (first|refine blk_drewN ?_ _|refine blk_drew ?_|refine blk_alloc ?_ _));refine blk_far ?_ NB792_809.out _;(with_reducible repeat (first|refine blk_drewN ?_ _|refine blk_drew ?_|refine blk_alloc ?_ _));refine blk_far ?_ NB792_809.out _;(with_reducible repeat (first|refine blk_drewN ?_ _|refine blk_drew ?_|refine blk_alloc ?_ _));exact BK792.out) hb);have n3_:=Aside0.mk (blk_below (g:=gb809) (o:=.cells #[.int .i64 t803,.int .i64 t804,.int .i64 t805,.int .i64 t806,.string t807] 27 (0,0)) (by (with_reducible repeat (first|refine blk_drewN ?_ _|refine blk_drew ?_|refine blk_alloc ?_ _));exact bk5_ (bp_ BK809.out)) hb);have n4_:=Aside0.mk (below_step (by repeat (first|(with_reducible first|exact HB.out|apply below_alloc|apply pw_below_drewN|apply below_drew1|refine below_set ?_ GE792.out|refine below_set ?_ GE809.out)|exact HB.out)) hb);clear HO797;clear BK792;clear BK809;clear HB;have HO797:=n0_;have HO812:=n1_;have BK792:=n2_;have BK809:=n3_;have HB:=n4_;clear n0_ n1_ n2_ n3_ n4_;(try clear hb);(try clear hb2);(try clear hk);(try clear hi);(try clear ho0);have hnb42:=NB792_809.out;have hnc42:=NB809_792.out;obtain ⟨Z43_0,Z43_1,Z43_2,Z43_3,Z43_4,Y43_0,Y43_1,Y43_2,Y43_3,Y43_4⟩:=op5_ BK792.out)|((with_reducible refine gate_callee (f:=43) rfl ?_);refine goesL_ (some 34) rfl rfl Tryd.func43 (by kernel_rfl) rfl #[.agg #[.int .i64 a1_0,.int .i64 a1_1,.int .i64 a1_2,.int .i64 a1_3,.string a1_4]] rfl (by (try simp only [List.map_toArray,List.map_cons,List.map_nil]);first|done|rfl|(simp only [List.length_drop,List.length_take];rfl)) ?_;(with_reducible refine (laws_toOp.calls a1_0 a1_1 a1_2 a1_3 a1_4 t813 t814 t815 t816 t817 _ A17.out).mono ?_);rintro e w44 ⟨rfl,hb⟩;refine ⟨_,rfl,?_⟩;have n0_:=Aside0.mk (Kd.R_below (by (with_reducible repeat (first|apply Kd.R_alloc|apply Kd.R_drewN|apply Kd.R_drew));exact HO797.out) hb);have n1_:=Aside0.mk (Kd.R_below (by (with_reducible repeat (first|apply Kd.R_alloc|apply Kd.R_drewN|apply Kd.R_drew));exact HO812.out) hb);have n2_:=Aside0.mk (blk_below (g:=gb792) (o:=.cells #[.int .i64 a1_0,.int .i64 a1_1,.int .i64 a1_2,.int .i64 a1_3,.string a1_4] 47 (0,0)) (by (with_reducible repeat (first|refine blk_drewN ?_ _|refine blk_drew ?_|refine blk_alloc ?_ _));exact BK792.out) hb);have n3_:=Aside0.mk (blk_below (g:=gb809) (o:=.cells #[.int .i64 t803,.int .i64 t804,.int .i64 t805,.int .i64 t806,.string t807] 27 (0,0)) (by (with_reducible repeat (first|refine blk_drewN ?_ _|refine blk_drew ?_|refine blk_alloc ?_ _));exact BK809.out) hb);have n4_:=Aside0.mk (below_step (by repeat (first|(with_reducible first|exact HB.out|apply below_alloc|apply pw_below_drewN|apply below_drew1|refine below_set ?_ GE792.out|refine below_set ?_ GE809.out)|exact HB.out)) hb);clear HO797;clear HO812;clear BK792;clear BK809;clear HB;have HO797:=n0_;have HO812:=n1_;have BK792:=n2_;have BK809:=n3_;have HB:=n4_;clear n0_ n1_ n2_ n3_ n4_;(try clear hb);(try clear hb2);(try clear hk);(try clear hi);obtain ⟨Ao45,co45,eo45⟩:=Kd.R_slice HO812.out;subst eo45)|((with_reducible refine gate_callee (f:=31) rfl ?_);refine goesL_ (some 35) rfl rfl Tryd.func31 (by kernel_rfl) rfl #[.slice Ao45 t810.length co45,.agg #[.int .i64 t813,.int .i64 t814,.int .i64 t815,.int .i64 t816,.string t817]] rfl (by (try simp only [List.map_toArray,List.map_cons,List.map_nil]);first|done|rfl|(simp only [List.length_drop,List.length_take];rfl)) ?_;(with_reducible refine (impl_KeyBack.calls k _ _ t810 t813 t814 t815 t816 t817 t818 t819 t820 t821 t822 t823 _ ?side1 ?side2 A18.out ?side3).mono ?_);(case side1=>repeat (first|exact (Kd.R_reads' HO812.out).2.2|(with_reducible refine Kd.C_alloc ?_ _)|(with_reducible refine Kd.C_drewN ?_ _)|(with_reducible refine Kd.C_drew ?_)));(case side2=>exact (Kd.R_reads' HO812.out).2.1);(case side3=>exact Glob.below HG.out (by repeat (first|(with_reducible first|exact HB.out|apply below_alloc|apply pw_below_drewN|apply below_drew1|refine below_set ?_ GE792.out|refine below_set ?_ GE809.out)|exact HB.out)));rintro e w46 ⟨rfl,hb⟩;refine ⟨_,rfl,?_⟩;have n0_:=Aside0.mk (Kd.R_below (by (with_reducible repeat (first|apply Kd.R_alloc|apply Kd.R_drewN|apply Kd.R_drew));exact HO797.out) hb);have n1_:=Aside0.mk (Kd.R_below (by (with_reducible repeat (first|apply Kd.R_alloc|apply Kd.R_drewN|apply Kd.R_drew));exact HO812.out) hb);have n2_:=Aside0.mk (blk_below (g:=gb792) (o:=.cells #[.int .i64 a1_0,.int .i64 a1_1,.int .i64 a1_2,.int .i64 a1_3,.string a1_4] 47 (0,0)) (by (with_reducible repeat (first|refine blk_drewN ?_ _|refine blk_drew ?_|refine blk_alloc ?_ _));exact BK792.out) hb);have n3_:=Aside0.mk (blk_below (g:=gb809) (o:=.cells #[.int .i64 t803,.int .i64 t804,.int .i64 t805,.int .i64 t806,.string t807] 27 (0,0)) (by (with_reducible repeat (first|refine blk_drewN ?_ _|refine blk_drew ?_|refine blk_alloc ?_ _));exact BK809.out) hb);have n4_:=Aside0.mk (below_step (by repeat (first|(with_reducible first|exact HB.out|apply below_alloc|apply pw_below_drewN|apply below_drew1|refine below_set ?_ GE792.out|refine below_set ?_ GE809.out)|exact HB.out)) hb);clear HO797;clear HO812;clear BK792;clear BK809;clear HB;have HO797:=n0_;have HO812:=n1_;have BK792:=n2_;have BK809:=n3_;have HB:=n4_;clear n0_ n1_ n2_ n3_ n4_;(try clear hb);(try clear hb2);(try clear hk);(try clear hi))|((with_reducible refine gate_dst (N:=9) rfl ?_);refine box_event ?hg (N:=9) ?hd (cs:=#[.int .i64 0,.int .i64 0,.int .i64 0,.int .i64 0,.string (⟨#[]⟩:ByteArray)]) (t:=27) ?hr ?_;(case hd=>rfl);(case hg=>rfl);(case hr=>first|(go_simp;done)|(go_simp;rfl));intro gb824 hg w47 hbox hb;have n0_:=Aside0.mk (Kd.R_below (by (with_reducible repeat (first|apply Kd.R_alloc|apply Kd.R_drewN|apply Kd.R_drew));exact HO797.out) hb);have n1_:=Aside0.mk (Kd.R_below (by (with_reducible repeat (first|apply Kd.R_alloc|apply Kd.R_drewN|apply Kd.R_drew));exact HO812.out) hb);have n2_:=Aside0.mk (blk_below (g:=gb792) (o:=.cells #[.int .i64 a1_0,.int .i64 a1_1,.int .i64 a1_2,.int .i64 a1_3,.string a1_4] 47 (0,0)) (by (with_reducible repeat (first|refine blk_drewN ?_ _|refine blk_drew ?_|refine blk_alloc ?_ _));exact BK792.out) hb);have n3_:=Aside0.mk (blk_below (g:=gb809) (o:=.cells #[.int .i64 t803,.int .i64 t804,.int .i64 t805,.int .i64 t806,.string t807] 27 (0,0)) (by (with_reducible repeat (first|refine blk_drewN ?_ _|refine blk_drew ?_|refine blk_alloc ?_ _));exact BK809.out) hb);have n4_:=Aside0.mk (below_step (by repeat (first|(with_reducible first|exact HB.out|apply below_alloc|apply pw_below_drewN|apply below_drew1|refine below_set ?_ GE792.out|refine below_set ?_ GE809.out)|exact HB.out)) hb);have n5_:=Aside0.mk (hbox);have n6_:=Aside0.mk ((by rw [hg];exact (below_size (by repeat (first|(with_reducible first|exact HB.out|apply below_alloc|apply pw_below_drewN|apply below_drew1|refine below_set ?_ GE792.out|refine below_set ?_ GE809.out)|exact HB.out))):w.heap.size≤gb824));have n7_:=Aside0.mk ((by rw [hg];exact (below_size (by repeat (first|(with_reducible first|exact HB.out|apply below_alloc|apply pw_below_drewN|apply below_drew1|refine below_set ?_ GE792.out|refine below_set ?_ GE809.out)|exact HB.out))):w.heap.size≤gb824));have n8_:=Aside0.mk ((by rw [hg];exact Nat.ne_of_lt (blk_lt (g:=gb792) (o:=.cells #[.int .i64 a1_0,.int .i64 a1_1,.int .i64 a1_2,.int .i64 a1_3,.string a1_4] 47 (0,0)) (by (with_reducible repeat (first|refine blk_drewN ?_ _|refine blk_drew ?_|refine blk_alloc ?_ _));exact BK792.out)):gb792≠gb824));have n9_:=Aside0.mk ((by rw [hg];exact Nat.ne_of_gt (blk_lt (g:=gb792) (o:=.cells #[.int .i64 a1_0,.int .i64 a1_1,.int .i64 a1_2,.int .i64 a1_3,.string a1_4] 47 (0,0)) (by (with_reducible repeat (first|refine blk_drewN ?_ _|refine blk_drew ?_|refine blk_alloc ?_ _));exact BK792.out)):gb824≠gb792));have n10_:=Aside0.mk ((by rw [hg];exact Nat.ne_of_lt (blk_lt (g:=gb809) (o:=.cells #[.int .i64 t803,.int .i64 t804,.int .i64 t805,.int .i64 t806,.string t807] 27 (0,0)) (by (with_reducible repeat (first|refine blk_drewN ?_ _|refine blk_drew ?_|refine blk_alloc ?_ _));exact BK809.out)):gb809≠gb824));have n11_:=Aside0.mk ((by rw [hg];exact Nat.ne_of_gt (blk_lt (g:=gb809) (o:=.cells #[.int .i64 t803,.int .i64 t804,.int .i64 t805,.int .i64 t806,.string t807] 27 (0,0)) (by (with_reducible repeat (first|refine blk_drewN ?_ _|refine blk_drew ?_|refine blk_alloc ?_ _));exact BK809.out)):gb824≠gb809));clear HO797;clear HO812;clear BK792;clear BK809;clear HB;have HO797:=n0_;have HO812:=n1_;have BK792:=n2_;have BK809:=n3_;have HB:=n4_;have BK824:=n5_;have GW824:=n6_;have GE824:=n7_;have NB792_824:=n8_;have NB824_792:=n9_;have NB809_824:=n10_;have NB824_809:=n11_;clear n0_ n1_ n2_ n3_ n4_ n5_ n6_ n7_ n8_ n9_ n10_ n11_;clear hb hbox hg;have hnb48:=NB824_792.out;have hnc48:=NB792_824.out;have hnb49:=NB824_809.out;have hnc49:=NB809_824.out;obtain ⟨Z50_0,Z50_1,Z50_2,Z50_3,Z50_4,Y50_0,Y50_1,Y50_2,Y50_3,Y50_4⟩:=op5_ BK824.out;obtain ⟨Z51_0,Z51_1,Z51_2,Z51_3,Z51_4,Y51_0,Y51_1,Y51_2,Y51_3,Y51_4⟩:=op5_ BK809.out)|((with_reducible refine gate_callee (f:=44) rfl ?_);refine goesL_ (some 40) rfl rfl Tryd.func44 (by kernel_rfl) rfl #[.agg #[.int .i64 t818,.int .i64 t819,.int .i64 t820,.int .i64 t821,.string t822],.agg #[.int .i64 t803,.int .i64 t804,.int .i64 t805,.int .i64 t806,.string t807]] rfl (by (try simp only [List.map_toArray,List.map_cons,List.map_nil]);first|done|rfl|(simp only [List.length_drop,List.length_take];rfl)) ?_;(with_reducible refine (laws_eqOp.calls t818 t819 t820 t821 t822 t803 t804 t805 t806 t807 true _ A19.out).mono ?_);rintro e w52 ⟨rfl,hb⟩;refine ⟨_,rfl,?_⟩;have n0_:=Aside0.mk (Kd.R_below (by (with_reducible repeat (first|apply Kd.R_alloc|apply Kd.R_drewN|apply Kd.R_drew));exact (Kd.R_mono (Kd.R_far (p:=⟨gb824,4,none⟩) (Kd.R_far (p:=⟨gb824,3,none⟩) (Kd.R_far (p:=⟨gb824,2,none⟩) (Kd.R_far (p:=⟨gb824,1,none⟩) (Kd.R_far (p:=⟨gb824,0,none⟩) (Kd.R_types HO797.out BK824.out (by decide)) (fun _ hk=>hk.2) (.int .i64 t818)) (fun _ hk=>hk.2) (.int .i64 t819)) (fun _ hk=>hk.2) (.int .i64 t820)) (fun _ hk=>hk.2) (.int .i64 t821)) (fun _ hk=>hk.2) (.string t822)) (fun _ h_=>h_.1))) hb);have n1_:=Aside0.mk (Kd.R_below (by (with_reducible repeat (first|apply Kd.R_alloc|apply Kd.R_drewN|apply Kd.R_drew));exact (Kd.R_mono (Kd.R_far (p:=⟨gb824,4,none⟩) (Kd.R_far (p:=⟨gb824,3,none⟩) (Kd.R_far (p:=⟨gb824,2,none⟩) (Kd.R_far (p:=⟨gb824,1,none⟩) (Kd.R_far (p:=⟨gb824,0,none⟩) (Kd.R_types HO812.out BK824.out (by decide)) (fun _ hk=>hk.2) (.int .i64 t818)) (fun _ hk=>hk.2) (.int .i64 t819)) (fun _ hk=>hk.2) (.int .i64 t820)) (fun _ hk=>hk.2) (.int .i64 t821)) (fun _ hk=>hk.2) (.string t822)) (fun _ h_=>h_.1))) hb);have n2_:=Aside0.mk (blk_below (g:=gb792) (o:=.cells #[.int .i64 a1_0,.int .i64 a1_1,.int .i64 a1_2,.int .i64 a1_3,.string a1_4] 47 (0,0)) (by (with_reducible repeat (first|refine blk_drewN ?_ _|refine blk_drew ?_|refine blk_alloc ?_ _));refine blk_far ?_ NB792_824.out _;(with_reducible repeat (first|refine blk_drewN ?_ _|refine blk_drew ?_|refine blk_alloc ?_ _));refine blk_far ?_ NB792_824.out _;(with_reducible repeat (first|refine blk_drewN ?_ _|refine blk_drew ?_|refine blk_alloc ?_ _));refine blk_far ?_ NB792_824.out _;(with_reducible repeat (first|refine blk_drewN ?_ _|refine blk_drew ?_|refine blk_alloc ?_ _));refine blk_far ?_ NB792_824.out _;(with_reducible repeat (first|refine blk_drewN ?_ _|refine blk_drew ?_|refine blk_alloc ?_ _));refine blk_far ?_ NB792_824.out _;(with_reducible repeat (first|refine blk_drewN ?_ _|refine blk_drew ?_|refine blk_alloc ?_ _));exact BK792.out) hb);have n3_:=Aside0.mk (blk_below (g:=gb809) (o:=.cells #[.int .i64 t803,.int .i64 t804,.int .i64 t805,.int .i64 t806,.string t807] 27 (0,0)) (by (with_reducible repeat (first|refine blk_drewN ?_ _|refine blk_drew ?_|refine blk_alloc ?_ _));refine blk_far ?_ NB809_824.out _;(with_reducible repeat (first|refine blk_drewN ?_ _|refine blk_drew ?_|refine blk_alloc ?_ _));refine blk_far ?_ NB809_824.out _;(with_reducible repeat (first|refine blk_drewN ?_ _|refine blk_drew ?_|refine blk_alloc ?_ _));refine blk_far ?_ NB809_824.out _;(with_reducible repeat (first|refine blk_drewN ?_ _|refine blk_drew ?_|refine blk_alloc ?_ _));refine blk_far ?_ NB809_824.out _;(with_reducible repeat (first|refine blk_drewN ?_ _|refine blk_drew ?_|refine blk_alloc ?_ _));refine blk_far ?_ NB809_824.out _;(with_reducible repeat (first|refine blk_drewN ?_ _|refine blk_drew ?_|refine blk_alloc ?_ _));exact BK809.out) hb);have n4_:=Aside0.mk (blk_below (g:=gb824) (o:=.cells #[.int .i64 t818,.int .i64 t819,.int .i64 t820,.int .i64 t821,.string t822] 27 (0,0)) (by (with_reducible repeat (first|refine blk_drewN ?_ _|refine blk_drew ?_|refine blk_alloc ?_ _));exact bk5_ (bp_ BK824.out)) hb);have n5_:=Aside0.mk (below_step (by repeat (first|(with_reducible first|exact HB.out|apply below_alloc|apply pw_below_drewN|apply below_drew1|refine below_set ?_ GE792.out|refine below_set ?_ GE809.out|refine below_set ?_ GE824.out)|exact HB.out)) hb);clear HO797;clear HO812;clear BK792;clear BK809;clear BK824;clear HB;have HO797:=n0_;have HO812:=n1_;have BK792:=n2_;have BK809:=n3_;have BK824:=n4_;have HB:=n5_;clear n0_ n1_ n2_ n3_ n4_ n5_;(try clear hb);(try clear hb2);(try clear hk);(try clear hi))|((with_reducible refine gate_callee (f:=42) rfl ?_);refine goesL_ (some 49) rfl rfl Tryd.func42 (by kernel_rfl) rfl #[.slice A0 l0.length c0] rfl (by (try simp only [List.map_toArray,List.map_cons,List.map_nil]);first|done|rfl|(simp only [List.length_drop,List.length_take];rfl)) ?_;(with_reducible refine (laws_toRowS.calls k _ _ l0 t826 _ ?side1 ?side2 A22.out).mono ?_);(case side1=>repeat (first|exact (Kd.C_below HR0.out HB.out)|(with_reducible refine Kd.C_alloc ?_ _)|(with_reducible refine Kd.C_drewN ?_ _)|(with_reducible refine Kd.C_drew ?_)));(case side2=>exact HC0.out);rintro e w53 ⟨v827,rfl,ho0,hb⟩;refine ⟨_,rfl,?_⟩;have n0_:=Aside0.mk (Kd.R_elder' (by (with_reducible repeat (first|apply Kd.R_alloc|apply Kd.R_drewN|apply Kd.R_drew));exact HO797.out) (Kd.R_base ho0) hb);have n1_:=Aside0.mk (Kd.R_elder' (by (with_reducible repeat (first|apply Kd.R_alloc|apply Kd.R_drewN|apply Kd.R_drew));exact HO812.out) (Kd.R_base ho0) hb);have n2_:=Aside0.mk (Kd.R_lower (Kd.R_new' (Kd.R_new' ho0 (Kd.R_lt (by (with_reducible repeat (first|apply Kd.R_alloc|apply Kd.R_drewN|apply Kd.R_drew));exact HO797.out))) (Kd.R_lt (by (with_reducible repeat (first|apply Kd.R_alloc|apply Kd.R_drewN|apply Kd.R_drew));exact HO812.out))) (below_size (by repeat (first|(with_reducible first|exact HB.out|apply below_alloc|apply pw_below_drewN|apply below_drew1|refine below_set ?_ GE792.out|refine below_set ?_ GE809.out|refine below_set ?_ GE824.out)|exact HB.out))));have n3_:=Aside0.mk (blk_below (g:=gb792) (o:=.cells #[.int .i64 a1_0,.int .i64 a1_1,.int .i64 a1_2,.int .i64 a1_3,.string a1_4] 47 (0,0)) (by (with_reducible repeat (first|refine blk_drewN ?_ _|refine blk_drew ?_|refine blk_alloc ?_ _));exact BK792.out) hb);have n4_:=Aside0.mk (blk_below (g:=gb809) (o:=.cells #[.int .i64 t803,.int .i64 t804,.int .i64 t805,.int .i64 t806,.string t807] 27 (0,0)) (by (with_reducible repeat (first|refine blk_drewN ?_ _|refine blk_drew ?_|refine blk_alloc ?_ _));exact BK809.out) hb);have n5_:=Aside0.mk (blk_below (g:=gb824) (o:=.cells #[.int .i64 t818,.int .i64 t819,.int .i64 t820,.int .i64 t821,.string t822] 27 (0,0)) (by (with_reducible repeat (first|refine blk_drewN ?_ _|refine blk_drew ?_|refine blk_alloc ?_ _));exact BK824.out) hb);have n6_:=Aside0.mk (below_step (by repeat (first|(with_reducible first|exact HB.out|apply below_alloc|apply pw_below_drewN|apply below_drew1|refine below_set ?_ GE792.out|refine below_set ?_ GE809.out|refine below_set ?_ GE824.out)|exact HB.out)) hb);clear HO797;clear HO812;clear BK792;clear BK809;clear BK824;clear HB;have HO797:=n0_;have HO812:=n1_;have HO828:=n2_;have BK792:=n3_;have BK809:=n4_;have BK824:=n5_;have HB:=n6_;clear n0_ n1_ n2_ n3_ n4_ n5_ n6_;(try clear hb);(try clear hb2);(try clear hk);(try clear hi);(try clear ho0);obtain ⟨Ao54,co54,eo54⟩:=Kd.R_slice HO828.out;subst eo54)|((with_reducible refine gate_callee (f:=45) rfl ?_);refine goesL_ (some 50) rfl rfl Tryd.func45 (by kernel_rfl) rfl #[.slice Ao45 t810.length co45,.slice Ao54 t826.length co54] rfl (by (try simp only [List.map_toArray,List.map_cons,List.map_nil]);first|done|rfl|(simp only [List.length_drop,List.length_take];rfl)) ?_;(with_reducible refine (laws_eqRowS.calls k _ _ t810 _ _ t826 true _ ?side1 ?side2 ?side3 ?side4 A23.out).mono ?_);(case side1=>repeat (first|exact (Kd.R_reads' HO812.out).2.2|(with_reducible refine Kd.C_alloc ?_ _)|(with_reducible refine Kd.C_drewN ?_ _)|(with_reducible refine Kd.C_drew ?_)));(case side2=>exact (Kd.R_reads' HO812.out).2.1);(case side3=>repeat (first|exact (Kd.R_reads' HO828.out).2.2|(with_reducible refine Kd.C_alloc ?_ _)|(with_reducible refine Kd.C_drewN ?_ _)|(with_reducible refine Kd.C_drew ?_)));(case side4=>exact (Kd.R_reads' HO828.out).2.1);rintro e w55 ⟨rfl,hb⟩;refine ⟨_,rfl,?_⟩;have n0_:=Aside0.mk (Kd.R_below (by (with_reducible repeat (first|apply Kd.R_alloc|apply Kd.R_drewN|apply Kd.R_drew));exact HO797.out) hb);have n1_:=Aside0.mk (Kd.R_below (by (with_reducible repeat (first|apply Kd.R_alloc|apply Kd.R_drewN|apply Kd.R_drew));exact HO812.out) hb);have n2_:=Aside0.mk (Kd.R_below (by (with_reducible repeat (first|apply Kd.R_alloc|apply Kd.R_drewN|apply Kd.R_drew));exact HO828.out) hb);have n3_:=Aside0.mk (blk_below (g:=gb792) (o:=.cells #[.int .i64 a1_0,.int .i64 a1_1,.int .i64 a1_2,.int .i64 a1_3,.string a1_4] 47 (0,0)) (by (with_reducible repeat (first|refine blk_drewN ?_ _|refine blk_drew ?_|refine blk_alloc ?_ _));exact BK792.out) hb);have n4_:=Aside0.mk (blk_below (g:=gb809) (o:=.cells #[.int .i64 t803,.int .i64 t804,.int .i64 t805,.int .i64 t806,.string t807] 27 (0,0)) (by (with_reducible repeat (first|refine blk_drewN ?_ _|refine blk_drew ?_|refine blk_alloc ?_ _));exact BK809.out) hb);have n5_:=Aside0.mk (blk_below (g:=gb824) (o:=.cells #[.int .i64 t818,.int .i64 t819,.int .i64 t820,.int .i64 t821,.string t822] 27 (0,0)) (by (with_reducible repeat (first|refine blk_drewN ?_ _|refine blk_drew ?_|refine blk_alloc ?_ _));exact BK824.out) hb);have n6_:=Aside0.mk (below_step (by repeat (first|(with_reducible first|exact HB.out|apply below_alloc|apply pw_below_drewN|apply below_drew1|refine below_set ?_ GE792.out|refine below_set ?_ GE809.out|refine below_set ?_ GE824.out)|exact HB.out)) hb);clear HO797;clear HO812;clear HO828;clear BK792;clear BK809;clear BK824;clear HB;have HO797:=n0_;have HO812:=n1_;have HO828:=n2_;have BK792:=n3_;have BK809:=n4_;have BK824:=n5_;have HB:=n6_;clear n0_ n1_ n2_ n3_ n4_ n5_ n6_;(try clear hb);(try clear hb2);(try clear hk);(try clear hi)))
      go_ret
      exact ⟨by first|rfl|(simp [errW_none,errW_some] <;> rfl)|(simp [*,errW_none,errW_some] <;> rfl),by repeat (first|(with_reducible first|exact HB.out|apply below_alloc|apply pw_below_drewN|apply below_drew1|refine below_set ?_ GE792.out|refine below_set ?_ GE809.out|refine below_set ?_ GE824.out)|exact HB.out)⟩
     ·replace c24:=Bool.eq_false_iff.mpr c24
      subst c24
      have H1:(none)=some r:=by rw [if_neg (show ¬ (false=true) by decide)] at H;exact H
      clear H
      have H:=H1
      clear H1
      exact absurd H (by simp)
   ·replace c20:=Bool.eq_false_iff.mpr c20
    subst c20
    have H1:(none)=some r:=by rw [if_neg (show ¬ (false=true) by decide)] at H;exact H
    clear H
    have H:=H1
    clear H1
    exact absurd H (by simp)

end Go.Proofs.YtlkheeegkifblaaDoor.P
namespace Go.Proofs.YtlkheeegkifblaaDoor.PL
open Go.RowKit Go.Proofs.YtlkheeegkifblaaDoor.P Go.Proofs.YtlkheeegkifblaaDoorW.PrintWords Go.Proofs.YtlkheeegkifblaaDoorW.PrintLast Go.Proofs.YtlkheeegkifblaaDoor.FP
theorem take_set_nx {α:Type} (x:List α) (i:Int) (v:α) (h0:0≤i) (h:i < x.length):(x.set i.toNat v).take (i+1).toNat=x.take i.toNat++[v]:=by
 have e:(i+1).toNat=i.toNat+1:=by omega
 have hl:i.toNat < (x.set i.toNat v).length:=by rw [List.length_set];omega
 rw [e,List.take_succ_eq_append_getElem hl,List.getElem_set_self]
 congr 1
 rw [List.take_set_of_le (Nat.le_refl _)]
theorem eqRow_refl (a b:Int) (e:ByteArray):laws_eqRow.f a b e a b e=some true:=by simp [laws_eqRow.f]
theorem eqR_ev (d:Nat):∀ (x:List S37) (i:Int),0≤i→(x.length:Int) - i=d→x.length≤1099511627776→Ev (fun k=>laws_eqRowS.l0 k x x i) true:=by
 induction d with
 | zero =>
  intro x i h0 hd hl
  refine Ev.step (f:=fun _=>some true) (fun k=>?_) (evnow _)
  simp only [laws_eqRowS.l0];rw [if_neg (by omega)]
 | succ d ih =>
  intro x i h0 hd hl
  have hi:i < (x.length:Int):=by omega
  refine Ev.step (fun k=>?_) (ih x (i+1) (by omega) (by omega) hl)
  simp only [laws_eqRowS.l0,if_pos hi,if_pos h0,eqRow_refl,Option.bind_some,if_true,wrapS i h0 (by omega)]
theorem eqR (x:List S37) (hl:x.length≤1099511627776):Ev (fun k=>laws_eqRowS.f k x x) true :=
 Ev.congr (fun k=>by simp only [laws_eqRowS.f,if_true]) (eqR_ev x.length x 0 (by omega) (by omega) hl)
def convR (e:S91):S37:=⟨e.f0,e.f1,e.f2⟩
def wfXR (e:S91):Prop:=I64 e.f0∧I64 e.f1∧e.f2.size≤9223372036854775807
theorem rdXR_get (l:List S91) (i:Nat) (h:i < l.length):rd_T91 l i=l[i]:=by
 unfold rd_T91
 rw [List.getD_eq_getElem?_getD,show ((i:Int)).toNat=i from rfl,List.getElem?_eq_getElem h]
 rfl
theorem wf_convR {l:List S91} (h:∀ e∈l,wfXR e):∀ r∈l.map convR,wfR r:=by
 intro e he
 obtain ⟨x,hx,rfl⟩:=List.mem_map.1 he
 exact ⟨(h x hx).1,(h x hx).2.2⟩
theorem szR_l0 (l:List S91) (hw:∀ e∈l,wfXR e) (hl:l.length≤1099511627776):∀ (n:Nat) (i:Nat) (b:Int),i+n=l.length→0≤b→b≤1048576→∃ r:Int,Ev (fun k=>laws_szRowS.l0 k l b i) r∧r≤1048576
 | 0,i,b,h,h0,h1=>⟨b,Ev.step (f:=fun _=>some b) (fun k=>by simp only [laws_szRowS.l0];rw [if_neg (by omega)]) (evnow _),h1⟩
 | n+1,i,b,h,h0,h1=>by
  have hi:i < l.length:=by omega
  obtain ⟨_,_,hs⟩:=hw _ (List.getElem_mem hi)
  have hww:wrap64 (b - (l[i].f2.size:Int))=b - l[i].f2.size:=by unfold wrap64;omega
  by_cases hb:b - (l[i].f2.size:Int) < 0
  ·refine ⟨-1,Ev.step (f:=fun _=>some (-1)) (fun k=>?_) (evnow _),by omega⟩
   simp only [laws_szRowS.l0]
   rw [if_pos (by omega),if_pos (by omega),rdXR_get l i hi]
   simp only [laws_szRow.f,hww]
   rw [if_pos hb]
   rfl
  ·obtain ⟨r,hr,hr1⟩:=szR_l0 l hw hl n (i+1) (b - l[i].f2.size) (by omega) (by omega) (by omega)
   refine ⟨r,Ev.step (fun k=>?_) hr,hr1⟩
   simp only [laws_szRowS.l0]
   rw [if_pos (by omega),if_pos (by omega),rdXR_get l i hi]
   simp only [laws_szRow.f,hww]
   rw [if_neg hb]
   simp only [Option.bind_some]
   rw [if_neg hb,wrapS i (by omega) (by omega)]
   rfl
theorem szR_f (l:List S91) (hw:∀ e∈l,wfXR e) (hl:l.length≤9223372036854775807):∃ r:Int,Ev (fun k=>laws_szRowS.f k l 1048576) r∧r≤1048576∧(¬ r < 0→l.length≤1048576):=by
 unfold laws_szRowS.f
 have hww:wrap64 (1048576 - (l.length:Int))=1048576 - l.length:=by unfold wrap64;omega
 rw [hww]
 by_cases hb:1048576 - (l.length:Int) < 0
 ·exact ⟨-1,ev_pos hb (evnow _),by omega,fun h=>absurd (by decide) h⟩
 ·obtain ⟨r,hr,hr1⟩:=szR_l0 l hw (by omega) l.length 0 (1048576 - l.length) (by omega) (by omega) (by omega)
  exact ⟨r,ev_neg hb hr,hr1,fun _=>by omega⟩
theorem toR_l0 (l:List S91) (hl:l.length≤1099511627776):∀ (n:Nat) (i:Nat) (x:List S37),i+n=l.length→x.length=l.length→x.take i=(l.take i).map convR→Ev (fun k=>laws_toRowS.l0 k l x i) (l.map convR)
 | 0,i,x,h,hx,ht=>by
  refine Ev.step (f:=fun _=>some x) (fun k=>?_) ?_
  ·simp only [laws_toRowS.l0];rw [if_neg (by omega)]
  ·rw [List.take_of_length_le (by omega),List.take_of_length_le (by omega)] at ht
   rw [ht];exact evnow _
 | n+1,i,x,h,hx,ht=>by
  have hi:i < l.length:=by omega
  refine Ev.step (fun k=>?_) (toR_l0 l hl n (i+1) (x.set i (convR l[i])) (by omega) (by rw [List.length_set];exact hx) ?_)
  ·simp only [laws_toRowS.l0]
   rw [if_pos (by omega),if_pos (by omega),rdXR_get l i hi]
   simp only [laws_toRow.f,Option.bind_some]
   rw [if_pos (by omega),wrapS i (by omega) (by omega)]
   rfl
  ·have:=take_set_nx x (i:Int) (convR l[i]) (by omega) (by omega)
   simp only [Int.toNat_natCast] at this
   rw [show ((i:Int)+1).toNat=i+1 by omega] at this
   rw [this,ht,List.take_succ_eq_append_getElem hi,List.map_append]
   rfl
theorem toR_f (l:List S91) (hl:l.length≤1048576):Ev (fun k=>laws_toRowS.f k l) (l.map convR):=by
 unfold laws_toRowS.f
 refine ev_pos (by omega) (ev_pos (by omega) ?_)
 exact toR_l0 l (by omega) l.length 0 _ (by omega) (by simp) (by simp)
end Go.Proofs.YtlkheeegkifblaaDoor.PL
namespace Go.Proofs.YtlkheeegkifblaaDoor.P
open Go.RowKit Go.Proofs.YtlkheeegkifblaaDoorW.PrintWords Go.Proofs.YtlkheeegkifblaaDoorW.PrintLast
attribute [local go_sem high] eqA37
end Go.Proofs.YtlkheeegkifblaaDoor.P
namespace Go.Proofs.YtlkheeegkifblaaDoor.PL
open Go.RowKit Go.Proofs.YtlkheeegkifblaaDoor.P Go.Proofs.YtlkheeegkifblaaDoorW.PrintWords Go.Proofs.YtlkheeegkifblaaDoorW.PrintLast Go.Proofs.YtlkheeegkifblaaDoor.FP
theorem pure_of {f:Nat→Option Bool} (h:Ev f true):∃ k,f k=some true:=by
 obtain ⟨K,hK⟩:=h
 exact ⟨K,hK K (Nat.le_refl K)⟩
theorem where3_f {G:Fo} (g:Good G) (k:Int) (i:Nat) (hi0:i≠0) (u a:Int) (s:ByteArray) (hk:k=1∨k=2∨k=3):Ev (fun n=>spec_l3Where.f n (G.fl 0) k (i:Int) u a s) (if whB G k i u=true then (((whP G k i u a).1:Int),((whP G k i u a).2:Int),true) else (0,0,false)):=by
 rcases hk with rfl|rfl|rfl
 ·have:=where_x g 1 i hi0 u a s (Or.inl rfl)
  refine Eq.mp (congrArg (Ev _) ?_) this
  unfold whP
  rw [whB_make]
  rcases fndF_cases g i with ⟨h1,h2⟩|⟨h1,h2⟩
  ·rw [h2];simp [h1,hi0]
  ·rw [h2];simp [h1]
 ·rw [whB_text,if_neg (by decide)]
  unfold spec_l3Where.f
  have hll:=fl_len G 0
  have hg:=g.len
  refine Ev.bind (at_f (G.fl 0) i (by omega)) (ev_pos rfl ?_)
  refine Ev.step (f:=fun _=>some (0,0,false)) (fun n=>by simp only [spec_l3Where.j0,if_true]) (evnow _)
 ·have:=where_x g 3 i hi0 u a s (Or.inr rfl)
  refine Eq.mp (congrArg (Ev _) ?_) this
  unfold whP
  rw [whB_move]
  rcases fndF_cases g i with ⟨h1,h2⟩|⟨h1,h2⟩
  ·rw [h2];by_cases hu:under i (fndF G u) G <;> simp [h1,hi0,hu]
  ·rw [h2];simp [h1]
theorem wrapM (i:Int) (h0:0≤i) (h:i≤4611686018427387904):wrap64 (i - 1)=i - 1:=by unfold wrap64;omega
theorem take_rev (t:List S37) (i:Nat) (hi:i < t.length):(t.take (i+1)).reverse=t[i]::(t.take i).reverse:=by
 rw [List.take_succ_eq_append_getElem hi,List.reverse_append];rfl
theorem up_l0 (t:List S37) (a:Nat) (ha:a < t.length) (hl:t.length≤2000000):∀ i,i≤t.length→Ev (fun k=>spec_l2Up.l0 k t a ((i:Int) - 1)) ((upO t[a].f1 (t.take i).reverse).getD 0)
 | 0,_=>by
  refine Ev.step (f:=fun _=>some 0) (fun k=>?_) (evnow _)
  simp only [spec_l2Up.l0];rw [if_neg (by omega)]
 | i+1,h=>by
  have hi:i < t.length:=by omega
  rw [take_rev t i hi]
  unfold upO
  rw [show ((i+1:Nat):Int) - 1=i by omega]
  by_cases hq:t[i].f1 < t[a].f1
  ·rw [if_pos hq]
   refine Ev.step (f:=fun _=>some t[i].f0) (fun k=>?_) (evnow _)
   simp only [spec_l2Up.l0]
   rw [if_pos (by omega),if_pos (by omega),if_pos (by omega),if_pos (by omega),if_pos (by omega),rdR_get t i hi,rdR_get t a ha,if_pos hq]
  ·rw [if_neg hq]
   refine Ev.step (fun k=>?_) (up_l0 t a ha hl i (by omega))
   simp only [spec_l2Up.l0]
   rw [if_pos (by omega),if_pos (by omega),if_pos (by omega),if_pos (by omega),if_pos (by omega),rdR_get t i hi,rdR_get t a ha,if_neg hq,wrapM i (by omega) (by omega)]
theorem ahead_l0 (t:List S37) (a:Nat) (ha:a < t.length) (hl:t.length≤2000000):∀ i,i≤t.length→Ev (fun k=>spec_l2Ahead.l0 k t a ((i:Int) - 1)) ((aheadO t[a].f1 (t.take i).reverse).getD 0)
 | 0,_=>by
  refine Ev.step (f:=fun k=>spec_l2Ahead.j1 k t a (((0:Nat):Int) - 1) false) (fun k=>?_) ?_
  ·simp only [spec_l2Ahead.l0];rw [if_neg (by omega)]
  ·refine Ev.step (f:=fun _=>some 0) (fun k=>?_) (evnow _)
   simp only [spec_l2Ahead.j1];rfl
 | i+1,h=>by
  have hi:i < t.length:=by omega
  rw [take_rev t i hi]
  unfold aheadO
  rw [show ((i+1:Nat):Int) - 1=i by omega]
  refine Ev.step (f:=fun k=>spec_l2Ahead.j1 k t a i (decide (t[i].f1≥t[a].f1))) (fun k=>?_) ?_
  ·simp only [spec_l2Ahead.l0]
   rw [if_pos (by omega),if_pos (by omega),if_pos (by omega),if_pos (by omega),if_pos (by omega),rdR_get t i hi,rdR_get t a ha]
  ·by_cases hq:t[i].f1 < t[a].f1
   ·rw [if_pos hq,decide_eq_false (by omega)]
    refine Ev.step (f:=fun _=>some 0) (fun k=>?_) (evnow _)
    simp only [spec_l2Ahead.j1];rfl
   ·rw [if_neg hq,decide_eq_true (by omega)]
    by_cases he:t[i].f1=t[a].f1
    ·rw [if_pos he]
     refine Ev.step (f:=fun _=>some t[i].f0) (fun k=>?_) (evnow _)
     simp only [spec_l2Ahead.j1]
     rw [if_pos True.intro,if_pos (by omega),if_pos (by omega),if_pos (by omega),if_pos (by omega),rdR_get t i hi,rdR_get t a ha,if_pos he]
    ·rw [if_neg he]
     refine Ev.step (fun k=>?_) (ahead_l0 t a ha hl i (by omega))
     simp only [spec_l2Ahead.j1]
     rw [if_pos True.intro,if_pos (by omega),if_pos (by omega),if_pos (by omega),if_pos (by omega),rdR_get t i hi,rdR_get t a ha,if_neg he,wrapM i (by omega) (by omega)]
theorem spot_take {x d:Nat} {G:Fo} {pre post:List S37} (s:Spot x d G pre post):(G.fl d).take pre.length=pre:=by rw [s.all];exact List.take_left
theorem up_x {G:Fo} (g:Good G) {x:Nat} (hx:x∈G.ids) {pre post:List S37} (s:Spot x 0 G pre post):Ev (fun k=>spec_l2Up.f k (G.fl 0) (pre.length:Int)) (par x 0 G:Int):=by
 have hl:=spot_len s
 have ha:pre.length < (G.fl 0).length:=by omega
 have hn:(G.fl 0).length≤1000:=by rw [fl_len];exact g.len
 have:=up_l0 (G.fl 0) pre.length ha (by omega) pre.length (by omega)
 rw [spot_get s ha,spot_take s] at this
 have hp:=spot_pre g.nd hx s
 have hu:=up_pre x G 0 0 g.nd hx
 rw [←hp] at hu
 simp only at this
 rw [hu] at this
 unfold spec_l2Up.f
 rw [wrapM _ (by omega) (by omega)]
 refine Eq.mp (congrArg (Ev _) ?_) this
 by_cases ht:x∈G.tops
 ·rw [if_pos ht,par_top0 (G:=G) g.nd ht];rfl
 ·rw [if_neg ht];rfl
theorem ahead_x {G:Fo} (g:Good G) {x:Nat} (hx:x∈G.ids) (ht:x∉G.tops) {pre post:List S37} (s:Spot x 0 G pre post):Ev (fun k=>spec_l2Ahead.f k (G.fl 0) (pre.length:Int)) (sibT x G:Int):=by
 have hl:=spot_len s
 have ha:pre.length < (G.fl 0).length:=by omega
 have hn:(G.fl 0).length≤1000:=by rw [fl_len];exact g.len
 have:=ahead_l0 (G.fl 0) pre.length ha (by omega) pre.length (by omega)
 rw [spot_get s ha,spot_take s] at this
 have hp:=spot_pre g.nd hx s
 have hu:=ahead_top (g.ne0 x hx) G 0 g.nd hx ht
 rw [←hp] at hu
 simp only at this
 rw [hu] at this
 unfold spec_l2Ahead.f
 rw [wrapM _ (by omega) (by omega)]
 exact this
theorem found {l:List S37} (ht:treeB l=true) {id:Int} (h:fndF (toFo l) id≠0):∃ m:Nat,id=(m:Int)∧fndF (toFo l) id=m∧m∈(toFo l).ids∧∃ pre post,Spot m 0 (toFo l) pre post∧atI l id=(pre.length:Int):=by
 obtain ⟨h1,h2⟩:=fndF_mem h
 obtain ⟨pre,post,s⟩:=spot (fndF (toFo l) id) (toFo l) 0 (val_of ht).nd h1
 refine ⟨fndF (toFo l) id,h2.symm,rfl,h1,pre,post,s,?_⟩
 have:=spot_at s
 rw [toFo_fl ht,h2] at this
 exact this
theorem lost {l:List S37} (ht:treeB l=true) {id:Int} (h:fndF (toFo l) id=0):atI l id=-1:=by
 have:=at_fnd0 h (val_of ht).ne0
 rwa [toFo_fl ht] at this
end Go.Proofs.YtlkheeegkifblaaDoor.PL
namespace Go.Proofs.YtlkheeegkifblaaDoor.PL
open Go.Proofs.YtlkheeegkifblaaDoor.P
def decL (n:Nat):List UInt8:=if n < 10 then [UInt8.ofNat (48+n)] else [UInt8.ofNat (48+n / 10),UInt8.ofNat (48+n % 10)]
def bodyL (r:S37):List UInt8:=List.replicate r.f1.toNat 46++(decL r.f0.toNat++(if r.f2.data.toList=[] then [] else 32::r.f2.data.toList))
def textL (l:List S37):List UInt8:=(l.map fun r=>bodyL r++[10]).flatten
structure Line (r:S37):Prop where
 id0:0≤r.f0
 id1:r.f0 < 100
 deep:0≤r.f1
 txt:∀ x∈r.f2.data.toList,97≤x.toNat∧x.toNat≤100
theorem split_at {c:UInt8}:∀ {a b r r':List UInt8},c∉a→c∉b→a++c::r=b++c::r'→a=b∧r=r'
 | [],[],_,_,_,_,h=>⟨rfl,(List.cons.inj h).2⟩
 | [],y::b,_,_,_,hb,h=>absurd ((List.cons.inj h).1 ▸ List.mem_cons_self) hb
 | x::a,[],_,_,ha,_,h=>absurd ((List.cons.inj h).1.symm ▸ List.mem_cons_self) ha
 | x::a,y::b,r,r',ha,hb,h=>by
  obtain ⟨h1,h2⟩:=List.cons.inj h
  obtain ⟨h3,h4⟩:=split_at (fun g=>ha (List.mem_cons_of_mem _ g)) (fun g=>hb (List.mem_cons_of_mem _ g)) h2
  exact ⟨by rw [h1,h3],h4⟩
theorem dots {c:UInt8}:∀ {a b:Nat} {x y:List UInt8},(∀ z,x.head?=some z→z≠c)→(∀ z,y.head?=some z→z≠c)→List.replicate a c++x=List.replicate b c++y→a=b∧x=y
 | 0,0,_,_,_,_,h=>⟨rfl,h⟩
 | 0,b+1,x,y,hx,_,h=>absurd rfl (hx c (by rw [show x=_ from h];rfl))
 | a+1,0,x,y,_,hy,h=>absurd rfl (hy c (by rw [←show _=y from h];rfl))
 | a+1,b+1,x,y,hx,hy,h=>by
  obtain ⟨h1,h2⟩:=dots hx hy (List.cons.inj h).2
  exact ⟨by omega,h2⟩
theorem dec_mem {n:Nat} (h:n < 100) {x:UInt8} (hx:x∈decL n):48≤x.toNat∧x.toNat≤57:=by
 have e:∀ d,d < 10→(UInt8.ofNat (48+d)).toNat=48+d:=fun d hd=>by rw [UInt8.toNat_ofNat'];omega
 unfold decL at hx
 split at hx
 ·rw [List.mem_singleton] at hx;rw [hx,e _ (by omega)];omega
 ·simp only [List.mem_cons,List.not_mem_nil,or_false] at hx
  rcases hx with rfl|rfl
  ·rw [e _ (by omega)];omega
  ·rw [e _ (by omega)];omega
theorem dec_inj {n m:Nat} (hn:n < 100) (hm:m < 100) {x y:List UInt8} (hx:∀ z,x.head?=some z→z.toNat=32) (hy:∀ z,y.head?=some z→z.toNat=32) (h:decL n++x=decL m++y):n=m∧x=y:=by
 have e:∀ d,d < 10→(UInt8.ofNat (48+d)).toNat=48+d:=fun d hd=>by rw [UInt8.toNat_ofNat'];omega
 have inj:∀ {a b:Nat},a < 10→b < 10→UInt8.ofNat (48+a)=UInt8.ofNat (48+b)→a=b:=fun ha hb h=>by
  have:=congrArg UInt8.toNat h
  rw [e _ ha,e _ hb] at this
  omega
 unfold decL at h
 by_cases h1:n < 10
 ·by_cases h2:m < 10
  ·rw [if_pos h1,if_pos h2] at h
   obtain ⟨g1,g2⟩:=List.cons.inj h
   exact ⟨inj h1 h2 g1,g2⟩
  ·rw [if_pos h1,if_neg h2] at h
   obtain ⟨_,g2⟩:=List.cons.inj h
   have:=hx (UInt8.ofNat (48+m % 10)) (by rw [show x=_ from g2];rfl)
   rw [e _ (by omega)] at this
   omega
 ·by_cases h2:m < 10
  ·rw [if_neg h1,if_pos h2] at h
   obtain ⟨_,g2⟩:=List.cons.inj h
   have:=hy (UInt8.ofNat (48+n % 10)) (by rw [←show _=y from g2];rfl)
   rw [e _ (by omega)] at this
   omega
  ·rw [if_neg h1,if_neg h2] at h
   obtain ⟨g1,g2⟩:=List.cons.inj h
   obtain ⟨g3,g4⟩:=List.cons.inj g2
   have a1:=inj (by omega) (by omega) g1
   have a2:=inj (by omega) (by omega) g3
   exact ⟨by omega,g4⟩
theorem body_out {r:S37} (o:Line r):(10:UInt8)∉bodyL r:=fun h=>by
 unfold bodyL at h
 rcases List.mem_append.1 h with g|g
 ·have:=(List.mem_replicate.1 g).2;cases this
 ·rcases List.mem_append.1 g with g|g
  ·have:=(dec_mem (n:=r.f0.toNat) (by have:=o.id1;have:=o.id0;omega) g).1
   exact absurd this (by decide)
  ·split at g
   ·cases g
   ·rcases List.mem_cons.1 g with g|g
    ·cases g
    ·exact absurd (o.txt _ g).1 (by decide)
theorem body_inj {r q:S37} (o:Line r) (o':Line q) (h:bodyL r=bodyL q):r=q:=by
 unfold bodyL at h
 have hd:∀ {n:Nat} (y:List UInt8),n < 100→∀ z,(decL n++y).head?=some z→z≠46:=fun {n} y hn z hz e=>by
  have:z∈decL n:=by
   unfold decL at hz ⊢
   split at hz
   ·rename_i g;rw [if_pos g];simp only [List.cons_append,List.nil_append,List.head?_cons,Option.some.injEq] at hz;rw [hz];exact List.mem_cons_self
   ·rename_i g;rw [if_neg g];simp only [List.cons_append,List.nil_append,List.head?_cons,Option.some.injEq] at hz;rw [hz];exact List.mem_cons_self
  have:=(dec_mem hn this).1
  rw [e] at this
  exact absurd this (by decide)
 have h1:r.f0.toNat < 100:=by have:=o.id1;have:=o.id0;omega
 have h2:q.f0.toNat < 100:=by have:=o'.id1;have:=o'.id0;omega
 obtain ⟨e1,g⟩:=dots (hd _ h1) (hd _ h2) h
 have ht:∀ (t:ByteArray),∀ z,(if t.data.toList=[] then [] else 32::t.data.toList:List UInt8).head?=some z→z.toNat=32:=fun t z hz=>by
  split at hz
  ·cases hz
  ·rw [←Option.some.inj hz];rfl
 obtain ⟨e2,g⟩:=dec_inj h1 h2 (ht _) (ht _) g
 have e3:r.f2.data.toList=q.f2.data.toList:=by
  by_cases a:r.f2.data.toList=[]
  ·by_cases b:q.f2.data.toList=[]
   ·rw [a,b]
   ·rw [if_pos a,if_neg b] at g;cases g
  ·by_cases b:q.f2.data.toList=[]
   ·rw [if_neg a,if_pos b] at g;cases g
   ·rw [if_neg a,if_neg b] at g;exact (List.cons.inj g).2
 have e4:r.f2=q.f2:=ByteArray.ext (Array.toList_inj.1 e3)
 have e5:r.f0=q.f0:=by have:=o.id0;have:=o'.id0;omega
 have e6:r.f1=q.f1:=by have:=o.deep;have:=o'.deep;omega
 obtain ⟨a,b,c⟩:=r
 obtain ⟨a',b',c'⟩:=q
 simp only at e4 e5 e6
 rw [e4,e5,e6]
theorem text_inj:∀ {l m:List S37},(∀ r∈l,Line r)→(∀ r∈m,Line r)→textL l=textL m→l=m
 | [],[],_,_,_=>rfl
 | [],q::m,_,_,h=>by
  simp only [textL,List.map_nil,List.flatten_nil,List.map_cons,List.flatten_cons] at h
  have:=congrArg List.length h
  simp at this
 | r::l,[],_,_,h=>by
  simp only [textL,List.map_nil,List.flatten_nil,List.map_cons,List.flatten_cons] at h
  have:=congrArg List.length h
  simp at this
 | r::l,q::m,hl,hm,h=>by
  simp only [textL,List.map_cons,List.flatten_cons,List.append_assoc,List.cons_append,List.nil_append] at h
  obtain ⟨h1,h2⟩:=split_at (body_out (hl r List.mem_cons_self)) (body_out (hm q List.mem_cons_self)) h
  rw [body_inj (hl r List.mem_cons_self) (hm q List.mem_cons_self) h1,text_inj (fun x hx=>hl x (List.mem_cons_of_mem _ hx)) (fun x hx=>hm x (List.mem_cons_of_mem _ hx)) h2]
end Go.Proofs.YtlkheeegkifblaaDoor.PL
namespace Go.Proofs.YtlkheeegkifblaaDoor.PL
open Go.RowKit Go.Proofs.YtlkheeegkifblaaDoor.P Go.Proofs.YtlkheeegkifblaaDoorW.PrintWords Go.Proofs.YtlkheeegkifblaaDoorW.PrintLast
theorem many_f:∀ (n:Nat) (x out:ByteArray),n≤1000000→x.size * n≤1000000→out.size+x.size * n≤2000000→∃ r,Ev (fun k=>spec_l6Many.l0 k x (n:Int) out) r∧r.data.toList=out.data.toList++(List.replicate n x.data.toList).flatten:=by
 intro n
 induction n using Nat.strongRecOn with
 | ind n ih =>
  intro x out hbig h1 h2
  by_cases h0:n=0
  ·subst h0
   refine ⟨out,Ev.step (f:=fun _=>some out) (fun k=>?_) (evnow _),by simp⟩
   simp only [spec_l6Many.l0];rw [if_neg (by omega)]
  ·have hx:x.size≤1000000:=Nat.le_trans (by have:=Nat.le_mul_of_pos_right x.size (show 0 < n by omega);exact this) h1
   have hd:Int.tdiv (n:Int) 2=((n / 2:Nat):Int):=by rw [Int.tdiv_eq_ediv_of_nonneg (by omega)];omega
   have hm:Int.tmod (n:Int) 2=((n % 2:Nat):Int):=by rw [Int.tmod_eq_emod_of_nonneg (by omega)];omega
   have hs2:(x++x).size * (n / 2)≤x.size * n:=by
    rw [ByteArray.size_append,show x.size+x.size=x.size * 2 by omega,Nat.mul_assoc]
    exact Nat.mul_le_mul_left _ (by omega)
   have hw:wrap64 (Int.tdiv (n:Int) 2)=((n / 2:Nat):Int):=by rw [hd];exact wrap_id _ (by omega) (by omega)
   have hrep:(List.replicate n x.data.toList).flatten=(if n % 2=1 then x.data.toList else [])++(List.replicate (n / 2) (x++x).data.toList).flatten:=by
    have key:∀ j,(List.replicate (2 * j) x.data.toList).flatten=(List.replicate j (x++x).data.toList).flatten:=by
     intro j
     induction j with
     | zero=>rfl
     | succ j ih=>rw [show 2 * (j+1)=2 * j+1+1 by omega,List.replicate_succ,List.replicate_succ,List.replicate_succ,List.flatten_cons,List.flatten_cons,List.flatten_cons,ih,ByteArray.toList_data_append,List.append_assoc]
    by_cases hp:n % 2=1
    ·rw [if_pos hp,←key,show n=2 * (n / 2)+1 by omega,List.replicate_succ,List.flatten_cons]
     rw [show (2 * (n / 2)+1) / 2=n / 2 by omega]
    ·rw [if_neg hp,←key,show 2 * (n / 2)=n by omega];rfl
   by_cases hp:n % 2=1
   ·obtain ⟨r,hr,e⟩:=ih (n / 2) (by omega) (x++x) (out++x) (by omega) (by omega) (by
     rw [ByteArray.size_append,ByteArray.size_append,show x.size+x.size=x.size * 2 by omega,Nat.mul_assoc]
     have:x.size+x.size * (2 * (n / 2))=x.size * n:=by rw [show x.size+x.size * (2 * (n / 2))=x.size * (1+2 * (n / 2)) by rw [Nat.mul_add,Nat.mul_one],show 1+2 * (n / 2)=n by omega]
     omega)
    refine ⟨r,?_,by rw [e,hrep,if_pos hp,ByteArray.toList_data_append,List.append_assoc]⟩
    refine Ev.step (fun k=>by simp only [spec_l6Many.l0];rfl) ?_
    refine ev_pos (by omega) (ev_pos (by rw [hm];omega) (ev_pos (by have:=h2;have:x.size≤x.size * n:=Nat.le_mul_of_pos_right _ (by omega);omega) (ev_pos (by omega) ?_)))
    rw [hw]
    exact hr
   ·obtain ⟨r,hr,e⟩:=ih (n / 2) (by omega) (x++x) out (by omega) (by omega) (by omega)
    refine ⟨r,?_,by rw [e,hrep,if_neg hp];rfl⟩
    refine Ev.step (fun k=>by simp only [spec_l6Many.l0];rfl) ?_
    refine ev_pos (by omega) (ev_neg (by rw [hm];omega) (ev_pos (by omega) ?_))
    rw [hw]
    exact hr
theorem dots_f (d:Nat) (hd:d≤1000):∃ r,Ev (fun k=>spec_l6Many.f k ⟨#[46]⟩ (d:Int)) r∧r.data.toList=List.replicate d 46:=by
 obtain ⟨r,h,e⟩:=many_f d ⟨#[46]⟩ ⟨#[]⟩ (by omega) (by show 1 * d≤_;omega) (by show 0+1 * d≤_;omega)
 refine ⟨r,h,?_⟩
 rw [e]
 show []++(List.replicate d [46]).flatten=_
 rw [List.nil_append]
 clear h e hd r
 induction d with
 | zero=>rfl
 | succ d ih=>rw [List.replicate_succ,List.flatten_cons,ih];rfl
theorem dec_f (n:Nat) (hn:n < 100):∃ r,Ev (fun k=>spec_l6Dec.f k (n:Int)) r∧r.data.toList=decL n:=by
 have hb:∀ d:Nat,d < 10→strOfNums [(wrap64 (48+(d:Int))) % 256]=⟨#[UInt8.ofNat (48+d)]⟩:=fun d hd=>by
  rw [wrap_id _ (by omega) (by omega)]
  unfold strOfNums
  have:((48+(d:Int)) % 256).toNat=48+d:=by omega
  simp [this]
 by_cases h:n < 10
 ·refine ⟨_,Ev.step (f:=fun _=>some (strOfNums [(wrap64 (48+(n:Int))) % 256])) (fun k=>?_) (evnow _),?_⟩
  ·simp only [spec_l6Dec.f];rw [if_neg (by omega),if_neg (by omega),if_pos (by omega)]
  ·rw [hb n h];unfold decL;rw [if_pos h]
 ·have hd:Int.tdiv (n:Int) 10=((n / 10:Nat):Int):=by rw [Int.tdiv_eq_ediv_of_nonneg (by omega)];omega
  have hm:Int.tmod (n:Int) 10=((n % 10:Nat):Int):=by rw [Int.tmod_eq_emod_of_nonneg (by omega)];omega
  have h1:Ev (fun k=>spec_l6Dec.f k (wrap64 (Int.tdiv (n:Int) 10))) (⟨#[UInt8.ofNat (48+n / 10)]⟩:ByteArray):=by
   rw [hd,wrap_id _ (by omega) (by omega),←hb (n / 10) (by omega)]
   refine Ev.step (f:=fun _=>some (strOfNums [(wrap64 (48+((n / 10:Nat):Int))) % 256])) (fun k=>?_) (evnow _)
   simp only [spec_l6Dec.f];rw [if_neg (by omega),if_neg (by omega),if_pos (by omega)]
  refine ⟨(⟨#[UInt8.ofNat (48+n / 10)]⟩:ByteArray)++(⟨#[UInt8.ofNat (48+n % 10)]⟩:ByteArray),?_,?_⟩
  ·refine Ev.step (fun k=>by simp only [spec_l6Dec.f];rfl) ?_
   refine ev_neg (by omega) (ev_neg (by omega) (ev_neg (by omega) (Ev.bind h1 ?_)))
   rw [hm]
   simp only [Option.bind_some]
   rw [hb (n % 10) (by omega)]
   exact ev_pos (by show 1+1≤_;omega) (evnow _)
  ·unfold decL;rw [if_neg h];rfl
theorem lines_l0 (t:List S37) (hl:t.length≤1000) (ht:∀ r∈t,Line r∧r.f1≤100∧r.f2.size≤100):∀ (n i:Nat) (out:ByteArray),i+n=t.length→out.size≤1000 * i→∃ r,Ev (fun k=>spec_l2Text.l0 k t out (i:Int)) r∧r.data.toList=out.data.toList++textL (t.drop i)
 | 0,i,out,h,ho=>by
  refine ⟨out,Ev.step (f:=fun _=>some out) (fun k=>?_) (evnow _),?_⟩
  ·simp only [spec_l2Text.l0];rw [if_neg (by omega)]
  ·rw [List.drop_eq_nil_of_le (by omega)];simp [textL]
 | n+1,i,out,h,ho=>by
  have hi:i < t.length:=by omega
  obtain ⟨o,h1,h2⟩:=ht _ (List.getElem_mem hi)
  obtain ⟨d,hd⟩:∃ d:Nat,t[i].f1=(d:Int):=⟨t[i].f1.toNat,by have:=o.deep;omega⟩
  obtain ⟨m,hm⟩:∃ m:Nat,t[i].f0=(m:Int):=⟨t[i].f0.toNat,by have:=o.id0;omega⟩
  have hm1:m < 100:=by have:=o.id1;omega
  obtain ⟨r1,e1,q1⟩:=dots_f d (by omega)
  obtain ⟨r2,e2,q2⟩:=dec_f m hm1
  have z1:r1.size=d:=by show r1.data.size=d;rw [←Array.length_toList,q1,List.length_replicate]
  have z2:r2.size≤2:=by
   show r2.data.size≤2
   rw [←Array.length_toList,q2]
   unfold decL
   split <;> simp
  have hempty:t[i].f2.toList=([]:List UInt8)↔t[i].f2.data.toList=[]:=by rw [Go.ByteArray.toList_eq]
  have hdrop:=List.drop_eq_getElem_cons hi
  have hb:bodyL t[i]=List.replicate d 46++(decL m++(if t[i].f2.data.toList=[] then [] else 32::t[i].f2.data.toList)):=by unfold bodyL;rw [hd,hm];rfl
  by_cases he:t[i].f2.toList=([]:List UInt8)
  ·obtain ⟨r,er,qr⟩:=lines_l0 t hl ht n (i+1) (((out++r1)++r2)++(⟨#[10]⟩:ByteArray)) (by omega) (by simp only [ByteArray.size_append];show out.size+r1.size+r2.size+1≤_;omega)
   refine ⟨r,?_,?_⟩
   ·refine Ev.step (fun k=>by simp only [spec_l2Text.l0];rfl) ?_
    refine ev_pos (by omega) (ev_pos (by omega) ?_)
    simp only [rdR_get t i hi,hd,hm]
    refine Ev.bind e1 (ev_pos (by omega) (Ev.bind e2 (ev_pos (by rw [ByteArray.size_append];omega) (ev_pos he (ev_pos (by simp only [ByteArray.size_append];omega) ?_)))))
    rw [wrapS i (by omega) (by omega)]
    exact er
   ·rw [qr,hdrop]
    simp only [ByteArray.toList_data_append,q1,q2,textL,List.map_cons,List.flatten_cons,hb,if_pos (hempty.1 he),List.append_nil,List.append_assoc]
    try rfl
  ·obtain ⟨r,er,qr⟩:=lines_l0 t hl ht n (i+1) ((((((out++r1)++r2)++(⟨#[32]⟩:ByteArray))++t[i].f2))++(⟨#[10]⟩:ByteArray)) (by omega) (by simp only [ByteArray.size_append];show out.size+r1.size+r2.size+1+t[i].f2.size+1≤_;omega)
   refine ⟨r,?_,?_⟩
   ·refine Ev.step (fun k=>by simp only [spec_l2Text.l0];rfl) ?_
    refine ev_pos (by omega) (ev_pos (by omega) ?_)
    simp only [rdR_get t i hi,hd,hm]
    refine Ev.bind e1 (ev_pos (by omega) (Ev.bind e2 (ev_pos (by rw [ByteArray.size_append];omega) (ev_neg he (ev_pos (by simp only [ByteArray.size_append];omega) (ev_pos (by simp only [ByteArray.size_append];show out.size+r1.size+r2.size+1+t[i].f2.size≤_;omega) (ev_pos (by simp only [ByteArray.size_append];show out.size+r1.size+r2.size+1+t[i].f2.size+1≤_;omega) ?_)))))))
    rw [wrapS i (by omega) (by omega)]
    exact er
   ·rw [qr,hdrop]
    simp only [ByteArray.toList_data_append,q1,q2,textL,List.map_cons,List.flatten_cons,hb,if_neg (fun e=>he (hempty.2 e)),List.append_assoc]
    try rfl
theorem lines_f (t:List S37) (hl:t.length≤1000) (ht:∀ r∈t,Line r∧r.f1≤100∧r.f2.size≤100):∃ r,Ev (fun k=>spec_l2Text.f k t) r∧r.data.toList=textL t:=by
 obtain ⟨r,h,e⟩:=lines_l0 t hl ht t.length 0 ⟨#[]⟩ (by omega) (by show 0≤_;omega)
 exact ⟨r,h,by rw [e];rfl⟩
end Go.Proofs.YtlkheeegkifblaaDoor.PL
namespace Go.Proofs.YtlkheeegkifblaaDoor.PL
open Go.RowKit Go.Proofs.YtlkheeegkifblaaDoor.P Go.Proofs.YtlkheeegkifblaaDoorW.PrintWords Go.Proofs.YtlkheeegkifblaaDoorW.PrintLast Go.Proofs.YtlkheeegkifblaaDoor.FP
theorem ikeyBack_f (l:List S37) (k i u a:Int) (s:ByteArray) (hs:s.size≤9223372036854775807):Ev (fun n=>impl_KeyBack.f n l k i u a s) (keyBackR (opB k i u a s) l k i u a s):=by
 unfold impl_KeyBack.f
 exact Ev.bind (opOk_f k i u a s hs) (evnow _)
theorem textFrom_all (s:ByteArray):∀ (n i:Nat),textFrom s i n=true→∀ j,i≤j→j < i+n→97≤bt s j∧bt s j≤100
 | 0,i,_,j,h1,h2=>absurd h2 (by omega)
 | n+1,i,h,j,h1,h2=>by
  simp only [textFrom,Bool.and_eq_true,decide_eq_true_eq] at h
  by_cases e:j=i
  ·subst e;exact h.1
  ·exact textFrom_all s n (i+1) h.2 j (by omega) (by omega)
theorem textB_bytes {s:ByteArray} (h:textB s=true):s.size≤4∧∀ x∈s.data.toList,97≤x.toNat∧x.toNat≤100:=by
 unfold textB at h
 rw [Bool.and_eq_true,decide_eq_true_eq] at h
 refine ⟨h.2,fun x hx=>?_⟩
 obtain ⟨j,hj,e⟩:=List.mem_iff_getElem.1 hx
 have hj2:j < s.size:=by show j < s.data.size;simpa using hj
 have:=textFrom_all s s.size 0 h.1 j (by omega) (by omega)
 unfold bt at this
 rw [Int.toNat_natCast,dif_pos hj2] at this
 have e2:s[j]'hj2=x:=by rw [←e];simp;rfl
 rw [e2] at this
 omega
theorem line_of {r:S37} (h:rowB r=true):Line r∧r.f1≤100∧r.f2.size≤100:=by
 unfold rowB at h
 split at h
 ·rename_i hr
  rw [Bool.and_eq_true,decide_eq_true_eq] at h
  unfold rootB at hr
  rw [Bool.and_eq_true,decide_eq_true_eq,decide_eq_true_eq] at hr
  have e:r.f2.toList=[]:=by simpa using h.2
  have e2:r.f2.data.toList=[]:=by rw [←Go.ByteArray.toList_eq];exact e
  have e3:r.f2.size=0:=by show r.f2.data.size=0;rw [←Array.length_toList,e2];rfl
  exact ⟨⟨by omega,by omega,by omega,fun x hx=>by rw [e2] at hx;cases hx⟩,by omega,by omega⟩
 ·simp only [Bool.and_eq_true,decide_eq_true_eq] at h
  obtain ⟨h1,h2,h3,h4⟩:=h
  obtain ⟨h5,h6⟩:=made_small _ h1
  obtain ⟨h7,h8⟩:=textB_bytes h4
  exact ⟨⟨h5,by omega,by omega,h8⟩,by omega,by omega⟩
theorem lines_of {l:List S37} (h:treeB l=true):∀ r∈l,Line r∧r.f1≤100∧r.f2.size≤100:=fun r hr=>line_of (treeGo_rows l _ _ _ h r hr)
theorem few_of {l:List S37} (h:treeB l=true):l.length≤1000:=by
 have h1:=(val_of h).len
 have h2:=fl_len (toFo l) 0
 rw [toFo_fl h] at h2
 omega
theorem lines_eq {l m:List S37} (hl:treeB l=true) (hm:treeB m=true) {r q:ByteArray} (er:r.data.toList=textL l) (eq_:q.data.toList=textL m):(r.toList==q.toList)=decide (l=m):=by
 rw [Go.ByteArray.toList_eq,Go.ByteArray.toList_eq,er,eq_]
 by_cases h:l=m
 ·subst h;rw [decide_eq_true rfl];exact beq_self_eq_true _
 ·rw [decide_eq_false h]
  exact beq_eq_false_iff_ne.2 fun e=>h (text_inj (fun r hr=>(lines_of hl r hr).1) (fun r hr=>(lines_of hm r hr).1) e)
theorem whB_not {G:Fo} (g:Good G) {k u a:Int} {m:Nat} {s:ByteArray} (hm0:m≠0) (hk:k=1∨k=3) (h:whB G k (m:Int) u=false):FP.doF G k (m:Int) u a s=G:=by
 rcases hk with rfl|rfl
 ·rw [whB_make] at h
  rcases fndF_cases g m with ⟨h1,h2⟩|⟨h1,h2⟩
  ·exact doF_make_not h1 hm0 u a s
  ·rw [h2] at h;simp at h
 ·rw [whB_move] at h
  refine doF_loop u a s fun hm=>?_
  rw [fnd_nat hm] at h
  simpa [hm0] using h
theorem skeyBack_f (l:List S37) (k i u a:Int) (s:ByteArray) (hl:l.length≤2000000) (hw:∀ r∈l,wfR r) (hi:I64 i) (hu:I64 u) (ha:I64 a) (hs:s.size≤9223372036854775807):Ev (fun n=>spec_KeyBack.f n l k i u a s) (keyBackR (opB k i u a s) l k i u a s):=by
 have no:Ev (fun n=>spec_KeyBack.j0 n l true k i u a s) kNo:=by
  refine Ev.step (f:=fun _=>some kNo) (fun n=>?_) (evnow _)
  simp only [spec_KeyBack.j0];rfl
 unfold spec_KeyBack.f keyBackR
 refine Ev.bind (stree_f l (by omega) hw) ?_
 cases ht:treeB l with
 | false=>rw [if_neg (by decide)];exact ev_neg (by decide) no
 | true =>
  rw [if_pos rfl]
  refine ev_pos rfl (Ev.bind (sop_f k i u a s hi hu ha hs) ?_)
  cases ho:opB k i u a s with
  | false=>rw [if_neg (by decide)];exact no
  | true =>
   rw [if_pos rfl]
   obtain ⟨m,rfl,h4,h37,hmd⟩:=made_nat ho
   have v:=val_of ht
   have g:=v.good
   have hfl:=toFo_fl ht
   have hm0:m≠0:=by omega
   refine Ev.step (fun n=>by simp only [spec_KeyBack.j0];rfl) ?_
   refine ev_neg (by decide) (Ev.bind (at_f l m (by omega)) ?_)
   by_cases h2:k=2
   ·subst h2
    refine ev_pos rfl ?_
    by_cases hm:m∈(toFo l).ids
    ·obtain ⟨m',e0,_,_,pre,post,sp,hat⟩:=found ht (id:=(m:Int)) (by rw [fnd_nat hm];exact hm0)
     obtain rfl:m=m':=by omega
     have hlt:pre.length < l.length:=by
      have:=spot_len sp
      rw [hfl] at this
      omega
     have hget:l[pre.length]=⟨(m:Int),(dep m 0 (toFo l):Int),txtF m (toFo l)⟩:=by
      have:=spot_get sp (by rw [hfl];exact hlt)
      simpa only [hfl] using this
     rw [hat]
     refine ev_neg (by omega) (ev_pos (by omega) (ev_pos (by omega) ?_))
     rw [rdR_get l pre.length hlt,hget]
     rw [doF_text hm hm0]
     by_cases he:txtF m (toFo l)=s
     ·subst he
      refine ev_pos rfl ?_
      rw [set_same m (toFo l) v.nd,hfl,if_pos rfl]
      exact evnow _
     ·refine ev_neg (fun e=>he (bytes_inj e)) ?_
      rw [if_neg (fun e=>he (by
       have e1:=fl_inj _ _ 0 (e.trans hfl.symm)
       have e2:=set_txt_eq m s hm
       rw [e1] at e2
       exact e2))]
      unfold backF
      rw [if_neg (by decide),if_pos rfl,Int.toNat_natCast]
      exact evnow _
    ·rw [doF_text_not hm,hfl,if_pos rfl]
     rw [lost ht (id:=(m:Int)) (fnd_not hm)]
     exact ev_pos (by omega) (evnow _)
   ·have hk13:k=1∨k=3:=by rcases opB_kind ho with h|h|h;exact Or.inl h;exact absurd h h2;exact Or.inr h
    refine ev_neg h2 ?_
    have hwh:=where3_f g k m hm0 u a s (opB_kind ho)
    rw [hfl] at hwh
    refine Ev.bind hwh ?_
    cases hb:whB (toFo l) k m u with
    | false =>
     rw [if_neg (by decide),whB_not g hm0 hk13 hb,hfl,if_pos rfl]
     refine ev_neg (by decide) ?_
     refine Ev.step (f:=fun _=>some kNo) (fun n=>?_) (evnow _)
     simp only [spec_KeyBack.j1];rfl
    | true =>
     rw [if_pos rfl]
     refine ev_pos rfl ?_
     have hdo:=do_x g k m hm0 (by rw [g.tops];simp;omega) u a s (opB_kind ho)
     rw [hfl] at hdo
     have v':=v.doF ho
     have ht':=treeB_fl v'
     obtain ⟨r1,e1,q1⟩:=lines_f _ (few_of ht') (lines_of ht')
     obtain ⟨r2,e2,q2⟩:=lines_f l (few_of ht) (lines_of ht)
     refine Ev.bind hdo (Ev.bind e1 (Ev.bind e2 ?_))
     rw [lines_eq ht' ht q1 q2]
     by_cases he:(FP.doF (toFo l) k m u a s).fl 0=l
     ·rw [decide_eq_true he,if_pos he]
      refine Ev.step (f:=fun _=>some kNo) (fun n=>?_) (evnow _)
      simp only [spec_KeyBack.j1];rfl
     ·rw [decide_eq_false he,if_neg he,Int.toNat_natCast]
      unfold backF
      refine Ev.step (fun n=>by simp only [spec_KeyBack.j1];rfl) ?_
      refine ev_neg (by decide) ?_
      by_cases h1:k=1
      ·rw [if_pos h1]
       exact ev_pos h1 (evnow _)
      ·rw [if_neg h1,if_neg h2]
       refine ev_neg h1 ?_
       obtain rfl:k=3:=hk13.resolve_left h1
       have hm:m∈(toFo l).ids:=by
        rw [whB_move] at hb
        rcases fndF_cases g m with ⟨h5,h6⟩|⟨h5,h6⟩
        ·exact h5
        ·rw [h6] at hb;simp at hb
       obtain ⟨m',e0,_,_,pre,post,sp,hat⟩:=found ht (id:=(m:Int)) (by rw [fnd_nat hm];exact hm0)
       obtain rfl:m=m':=by omega
       rw [hat]
       have hu1:=up_x g hm sp
       have ha1:=ahead_x g hm (v.top hmd) sp
       rw [hfl] at hu1 ha1
       exact Ev.bind hu1 (Ev.bind ha1 (evnow _))
theorem eqO (k i u a:Int) (s:ByteArray):laws_eqOp.f k i u a s k i u a s=some true:=by simp [laws_eqOp.f]
theorem FnExactKeyBack (l:List S91) (kd i u a:Int) (s:ByteArray) (hw:∀ e∈l,wfXR e) (hl:l.length≤9223372036854775807) (hi:I64 i) (hu:I64 u) (ha:I64 a) (hs:s.size≤9223372036854775807):∃ k,laws_FnExactKeyBack.f k l kd i u a s=some true:=by
 refine pure_of ?_
 obtain ⟨r,hr,hr1,hb⟩:=szR_f l hw hl
 unfold laws_FnExactKeyBack.f
 refine Ev.bind hr ?_
 by_cases h0:r < 0
 ·refine ev_pos h0 (evnow _)
 ·refine ev_neg h0 ?_
  have hlen:=hb h0
  have hww:wrap64 (r - (s.size:Int))=r - s.size:=by unfold wrap64;omega
  by_cases h1:r - (s.size:Int) < 0
  ·refine Ev.bind (a:=(-1:Int)) ?_ (ev_pos (by decide) (evnow _))
   unfold laws_szOp.f
   rw [hww]
   exact ev_pos h1 (evnow _)
  ·refine Ev.bind (a:=r - (s.size:Int)) ?_ (ev_neg h1 ?_)
   ·unfold laws_szOp.f
    rw [hww]
    exact ev_neg h1 (evnow _)
   ·have hT:=toR_f l hlen
    have hO:Ev (fun _=>laws_toOp.f kd i u a s) (kd,i,u,a,s):=evnow _
    have hcl:(l.map convR).length≤1099511627776:=by rw [List.length_map];omega
    have hI:=ikeyBack_f (l.map convR) kd i u a s hs
    have hsz:(l.map convR).length≤1048576:=by rw [List.length_map];exact hlen
    have hS:=skeyBack_f (l.map convR) kd i u a s (by omega) (wf_convR hw) hi hu ha hs
    refine Ev.bind hT (Ev.bind hO (Ev.bind hS (Ev.bind hT (Ev.bind hO (Ev.bind hI ?_)))))
    refine Ev.bind (Ev.congr (fun _=>eqO ..) (evnow true)) (ev_pos rfl (ev_neg (by simp) ?_))
    exact Ev.bind hT (Ev.bind (eqR _ hcl) (ev_pos rfl (evnow _)))
end Go.Proofs.YtlkheeegkifblaaDoor.PL
namespace Go.Proofs.YtlkheeegkifblaaDoor.P
open Go.ChangeShapes Go.WideShapes Go.ChangeAt Go.RowKit
theorem tOwners:(Tryd.prog.globals[0]?).map (·.type)=some 66:=by kernel_rfl
theorem cOwners:Tryd.prog.cellsOf 66=37:=by kernel_rfl
theorem cInt:Tryd.prog.cellsOf 3=1:=by kernel_rfl
abbrev ownCells:Array Value:=(owners.map fun z=>Value.int .i64 z).toArray
theorem glob_of_laid {W:World} (h:laidMet Tryd.prog [("loop.example/plashet/impl.rowOwners",Rows.laid_loop_example_plashet_impl_rowOwners)] W):Glob W :=
 Lib.tabIs_of_head gOwners tOwners Tryd.underlying66 Tryd.underlying3 cInt cOwners h
theorem door_met (os:Os) (args:Array Value):laidMet Tryd.prog [("loop.example/plashet/impl.rowOwners",Rows.laid_loop_example_plashet_impl_rowOwners)] ((World.doorLaid Tryd.prog 400 os).forCall (fun _ _=>0) ⟨#[],args,[]⟩).memory :=
 laidMet_of_run' 8 (by kernel_rfl) (by kernel_rfl)
abbrev tableH {H:Type}:DataW H:=.agg (owners.map fun z=>.lit (.int .i64 z))
theorem reads_table {H:Type} (enc:TypeId×Value→H) (W:World) (sp:Nat→Bool):DataW.trod enc Tryd.prog W 0 sp true 3 66 ownCells.toList=some (tableH,[]):=by kernel_rfl
theorem tab_vars {H:Type} (enc:TypeId×Value→H) {W:World} (h:Glob W) {sp:Nat→Bool}:DataW.TrodVars enc Tryd.prog W sp ["loop.example/plashet/impl.rowOwners"] [tableH] (MemPlace.row ⟨0,0,none⟩ ownCells.size++[]++[]) :=
 ⟨0,66,ownCells,3,[],[],gOwners,tOwners,h,reads_table enc W sp,rfl,rfl⟩
end Go.Proofs.YtlkheeegkifblaaDoor.P
namespace Go.Proofs.YtlkheeegkifblaaDoor.PL
set_option maxRecDepth 100000
open Go.ChangeShapes Go.WideShapes Go.ChangeAt Go.RowKit Go.Deep Go.Joins Go.Proofs.YtlkheeegkifblaaDoor.P Go.Proofs.YtlkheeegkifblaaDoorW.PrintWords Go.Proofs.YtlkheeegkifblaaDoorW.PrintLast
section
variable {H:Type} {enc:TypeId×Value→H} {w:World} {base:Nat} {sp:Nat→Bool} {held:Bool}
theorem cO:Tryd.prog.cellsOf 47=5:=by kernel_rfl
theorem cR:Tryd.prog.cellsOf 91=3:=by kernel_rfl
theorem cS:Tryd.prog.cellsOf 9=1:=by kernel_rfl
theorem i64_of {n:Int} (h:(Lit.int .i64 n).wf=true):I64 n:=by
 simp only [Lit.wf,Bool.and_eq_true,decide_eq_true_eq] at h
 obtain ⟨h1,h2⟩:=h
 exact ⟨h1,h2⟩
theorem fld_int {n o:Nat} {cs:List Value} {y:DataW H×List MemPlace} (h:DataW.trod enc Tryd.prog w base sp held n 3 ((cs.drop o).take (Tryd.prog.cellsOf 3))=some y):∃ a:Int,cs[o]?=some (.int .i64 a)∧I64 a:=by
 obtain ⟨a,e,_,hw⟩:=DataW.trod_int Tryd.underlying3 h
 refine ⟨a,?_,i64_of hw⟩
 rw [cInt] at e
 have:=congrArg (·[0]?) e
 simpa [List.getElem?_take,List.getElem?_drop] using this
theorem fld_str {n o:Nat} {cs:List Value} {y:DataW H×List MemPlace} (h:DataW.trod enc Tryd.prog w base sp held n 9 ((cs.drop o).take (Tryd.prog.cellsOf 9))=some y):∃ s:ByteArray,cs[o]?=some (.string s)∧s.size≤9223372036854775807:=by
 obtain ⟨s,e,_,hw⟩:=DataW.trod_string Tryd.underlying9 h
 refine ⟨s,?_,hw⟩
 rw [cS] at e
 have:=congrArg (·[0]?) e
 simpa [List.getElem?_take,List.getElem?_drop] using this
theorem open_op {fuel:Nat} {cs:List Value} {y:DataW H×List MemPlace} (h:DataW.trod enc Tryd.prog w base sp held fuel 47 cs=some y) :
  ∃ (a b c d:Int) (s:ByteArray),cs=[.int .i64 a,.int .i64 b,.int .i64 c,.int .i64 d,.string s]∧I64 a∧I64 b∧I64 c∧I64 d∧s.size≤9223372036854775807:=by
 obtain ⟨xs,n,_,_,hl,hlen,hf⟩:=DataW.trod_struct Tryd.underlying47 h
 rw [cO] at hl
 match xs,hlen,hf with
 | [y0,y1,y2,y3,y4],_,hf =>
  obtain ⟨a,e0,w0⟩:=fld_int (o:=0) (hf 0 _ rfl)
  obtain ⟨b,e1,w1⟩:=fld_int (o:=1) (hf 1 _ rfl)
  obtain ⟨c,e2,w2⟩:=fld_int (o:=2) (hf 2 _ rfl)
  obtain ⟨d,e3,w3⟩:=fld_int (o:=3) (hf 3 _ rfl)
  obtain ⟨s,e4,w4⟩:=fld_str (o:=4) (hf 4 _ rfl)
  match cs,hl,e0,e1,e2,e3,e4 with
  | [c0,c1,c2,c3,c4],_,e0,e1,e2,e3,e4 =>
   simp only [List.getElem?_cons_zero,List.getElem?_cons_succ,Option.some.injEq] at e0 e1 e2 e3 e4
   subst e0 e1 e2 e3 e4
   exact ⟨a,b,c,d,s,rfl,w0,w1,w2,w3,w4⟩
theorem open_row {fuel:Nat} {cs:List Value} {y:DataW H×List MemPlace} (h:DataW.trod enc Tryd.prog w base sp held fuel 91 cs=some y) :
  ∃ e:S91,cs=[.int .i64 e.f0,.int .i64 e.f1,.string e.f2]∧wfXR e:=by
 obtain ⟨xs,n,_,_,hl,hlen,hf⟩:=DataW.trod_struct Tryd.underlying91 h
 rw [cR] at hl
 match xs,hlen,hf with
 | [y0,y1,y2],_,hf =>
  obtain ⟨a,e0,w0⟩:=fld_int (o:=0) (hf 0 _ rfl)
  obtain ⟨b,e1,w1⟩:=fld_int (o:=1) (hf 1 _ rfl)
  obtain ⟨s,e2,w2⟩:=fld_str (o:=2) (hf 2 _ rfl)
  match cs,hl,e0,e1,e2 with
  | [c0,c1,c2],_,e0,e1,e2 =>
   simp only [List.getElem?_cons_zero,List.getElem?_cons_succ,Option.some.injEq] at e0 e1 e2
   subst e0 e1 e2
   exact ⟨⟨a,b,s⟩,rfl,w0,w1,w2⟩
theorem list_of_all {α:Type} (P:Nat→α→Prop):∀ n:Nat,(∀ i,i < n→∃ e,P i e)→∃ l:List α,l.length=n∧∀ i e,l[i]?=some e→P i e
 | 0,_=>⟨[],rfl,fun i e h=>by simp at h⟩
 | n+1,h=>by
  obtain ⟨l,hl,hp⟩:=list_of_all P n (fun i hi=>h i (by omega))
  obtain ⟨e,he⟩:=h n (by omega)
  refine ⟨l++[e],by simp [hl],fun i x hx=>?_⟩
  rcases Nat.lt_or_ge i l.length with hi|hi
  ·rw [List.getElem?_append_left hi] at hx
   exact hp i x hx
  ·rw [List.getElem?_append_right hi] at hx
   have h0:i - l.length=0:=by
    rcases Nat.eq_zero_or_pos (i - l.length) with h0|h0
    ·exact h0
    ·rw [List.getElem?_eq_none (by simp;omega)] at hx
     cases hx
   rw [h0] at hx
   simp only [List.getElem?_cons_zero,Option.some.injEq] at hx
   subst hx
   rw [show i=n by omega]
   exact he
theorem open_rowsL {fuel:Nat} {cs:List Value} {y:DataW H×List MemPlace} (h:DataW.trod enc Tryd.prog w base sp held fuel 46 cs=some y) :
  ∃ (A:Option Addr) (cap:Nat) (l:List S91),cs=[.slice A l.length cap]∧Kd.C k91 w A l.length l∧l.length≤cap∧l.length≤9223372036854775807∧∀ e∈l,wfXR e:=by
 rcases open_slice Tryd.underlying46 h with ⟨rfl,_⟩|⟨a,len,cap,m,n,D,Pl,rfl,_,hl,hm,hmm,_,hel⟩
 ·exact ⟨none,0,[],rfl,Kd.C_nil _ _,by simp,by simp,fun e he=>by cases he⟩
 ·have hlm:len≤m:=by rw [hmm];split <;> omega
  obtain ⟨l,hlen,hp⟩:=list_of_all (fun i (e:S91)=>wfXR e∧w.cells? base (a.add (i * 3)) 3=some [.int .i64 e.f0,.int .i64 e.f1,.string e.f2]) len (fun i hi=>by
   obtain ⟨cs',hc,hd⟩:=hel i (by omega)
   obtain ⟨e,rfl,hw⟩:=open_row hd
   rw [cR] at hc
   exact ⟨e,hw,hc⟩)
  have hmx:cap≤9223372036854775807:=hm
  refine ⟨some a,cap,l,by rw [hlen],⟨rfl,by omega,fun _=>⟨a,rfl,fun j p hj=>?_⟩⟩,by omega,by omega,fun e he=>?_⟩
  ·obtain ⟨_,hc⟩:=hp j p hj
   refine ⟨_,rfl,k91_mk w p,fun i u hu=>?_⟩
   obtain ⟨_,hlc,hc2⟩:=World.cells?_some hc
   have hi:i < 3:=by
    rcases Nat.lt_or_ge i 3 with hi|hi
    ·exact hi
    ·rw [List.getElem?_eq_none (by rw [hlc];exact hi)] at hu
     cases hu
   have:=hc2 i hi
   rw [hu] at this
   show w.cell? (a.add (j * 3+i))=some u
   rw [←this]
   congr 1
   generalize j * 3=x
   unfold Addr.add
   by_cases h1:x=0 <;> by_cases h2:i=0 <;> simp [h1,h2,Nat.add_assoc]
  ·obtain ⟨i,hi,rfl⟩:=List.getElem_of_mem he
   exact (hp i _ (List.getElem?_eq_getElem hi)).1
theorem open_rowsV {v:Value} {d:DataW H} {p:List MemPlace} (hv:Value.okWide Tryd.prog w .any base 46 v) (h:DataW.Trod enc Tryd.prog w 0 sp held 46 v d p) :
  ∃ (A:Option Addr) (cap:Nat) (l:List S91),v=.slice A l.length cap∧Kd.C k91 w A l.length l∧l.length≤cap∧l.length≤9223372036854775807∧∀ e∈l,wfXR e:=by
 obtain ⟨a,len,cap,rfl⟩:=okWide_slice Tryd.underlying46 hv
 obtain ⟨fuel,hf⟩:=h
 obtain ⟨A,c,l,e,hC,hc,hl,hw⟩:=open_rowsL hf
 have e':[Value.slice a len cap]=[.slice A l.length c]:=e
 exact ⟨A,c,l,(List.cons.inj e').1,hC,hc,hl,hw⟩
theorem open_opV {v:Value} {d:DataW H} {p:List MemPlace} (hv:Value.okWide Tryd.prog w .any base 47 v) (h:DataW.Trod enc Tryd.prog w 0 sp held 47 v d p) :
  ∃ (a b c e:Int) (s:ByteArray),v=.agg #[.int .i64 a,.int .i64 b,.int .i64 c,.int .i64 e,.string s]∧I64 a∧I64 b∧I64 c∧I64 e∧s.size≤9223372036854775807:=by
 obtain ⟨cs,rfl,hsz⟩:=okWide_struct Tryd.underlying47 hv
 obtain ⟨fuel,hf⟩:=h
 obtain ⟨a,b,c,e,s,he,h0,h1,h2,h3,h4⟩:=open_op hf
 refine ⟨a,b,c,e,s,?_,h0,h1,h2,h3,h4⟩
 have he':cs.toList=[.int .i64 a,.int .i64 b,.int .i64 c,.int .i64 e,.string s]:=he
 rw [show cs=cs.toList.toArray by simp,he']
end
end Go.Proofs.YtlkheeegkifblaaDoor.PL
namespace Go.Proofs.YtlkheeegkifblaaDoor.fnExactKeyBack
open Go.ChangeMaps (open_string shut_string)
open Go.ChangeShapes Go.WideShapes Go.ChangeAt Go.RowKit
theorem own:ownKnob Tryd.prog.godebug=none:=by kernel_rfl
theorem laidOut:laidOutB Tryd.prog=true:=by kernel_rfl
theorem lifted (os:Os) (started:os.Started) (H:Type) (enc:TypeId×Value→H) :
  ReturnsInHanded {} Tryd.checked os 10 .any (fun w args=>(Rows.fnExactKeyBackSpec.pre enc Tryd.prog Tryd.f10 [] false w args∧laidMet Tryd.prog [("loop.example/plashet/impl.rowOwners",Rows.laid_loop_example_plashet_impl_rowOwners)] w)∧sizedMet enc Tryd.prog Tryd.f10 (OpenSpec.ofChange Rows.fnExactKeyBackSpec) false w args) (Rows.fnExactKeyBackSpec.post enc Tryd.prog Tryd.f10 false true false false):=by
 refine returnsInHanded_of_change_and (C:=Tryd.checked) (X:=fun w _=>laidMet Tryd.prog [("loop.example/plashet/impl.rowOwners",Rows.laid_loop_example_plashet_impl_rowOwners)] w) (fun _ _ _ hh h=>h.of_heap hh) own started (by kernel_rfl) Tryd.func10
  (ChangeSpec.witness_shaped (enc:=enc) (C:=Tryd.checked) (os:=os) (X:=fun w _=>laidMet Tryd.prog [("loop.example/plashet/impl.rowOwners",Rows.laid_loop_example_plashet_impl_rowOwners)] w) false (World.doorLaid Tryd.prog 400 os) #[.slice none 0 0,.agg #[.int .i64 0,.int .i64 0,.int .i64 0,.int .i64 0,.string ⟨#[]⟩]] 8 rfl (World.shaped_of_RefB (by kernel_rfl) (by kernel_rfl)) (by kernel_rfl) (by kernel_rfl) (by kernel_rfl) (P.door_met os _)) ?_
 intro W base args ds gs before hval0 hW _ _ hL _
 have hval:∀ (j:Nat) t v,Tryd.f10.params[j]?=some t→args[j]?=some v→Value.okWide Tryd.prog W .any base t v:=hval0
 have hW':=hW
 obtain ⟨p,q,hA0,hV,rfl,hfz,hnd⟩:=hW
 have hA:DataW.TrodAll enc Tryd.prog W 0 (fun _=>true) true Tryd.f10.params.toList args.toList ds p:=hA0
 rw [Tryd.params10] at hA hval
 obtain ⟨v0,vs0,d0,ds0,p0,q0,hargs,rfl,rfl,h0,r0⟩:=trodAll_cons hA
 obtain ⟨v1,vs1,d1,ds1,p1,q1,rfl,rfl,rfl,h1,r1⟩:=trodAll_cons r0
 obtain ⟨rfl,rfl,rfl⟩:=trodAll_nil r1
 obtain rfl:args=#[v0,v1]:=by cases args;simp_all
 have hG:P.Glob W:=P.glob_of_laid hL
 obtain ⟨gv,tv,csv,fuelv,dv,pv,rfl,hgv,htv,hvarv,hdv,rfl⟩:=trodVars_one hV
 obtain rfl:csv=P.ownCells:=Option.some.inj (hvarv.symm.trans hG)
 obtain rfl:=Option.some.inj (P.tOwners.symm.trans (by rw [Option.some.inj (P.gOwners.symm.trans hgv)];exact htv))
 obtain ⟨rfl,rfl⟩:=DataW.Trod.unique (v:=.agg P.ownCells) ⟨fuelv,hdv⟩ ⟨3,P.reads_table enc W _⟩
 have k0:=h0
 have lt0:∀ x∈p0,x.block < W.heap.size:=by obtain ⟨m,hm⟩:=k0;exact DataW.trod_lt m _ _ _ hm
 obtain ⟨A0,c0,l0,rfl,hC0,hc0,hL0,hw0⟩:=PL.open_rowsV (hval 0 46 v0 rfl rfl) h0
 have k1:=h1
 have lt1:∀ x∈p1,x.block < W.heap.size:=by obtain ⟨m,hm⟩:=k1;exact DataW.trod_lt m _ _ _ hm
 obtain ⟨a1,b1,m1,n1,s1,rfl,wa1,wb1,wm1,wn1,ws1⟩:=PL.open_opV (hval 1 47 v1 rfl rfl) h1
 clear hA0 hval0
 obtain ⟨k,hk⟩:=PL.FnExactKeyBack l0 a1 b1 m1 n1 s1 hw0 hL0 wb1 wm1 wn1 ws1
 refine (P.laws_FnExactKeyBack.calls k _ _ l0 a1 b1 m1 n1 s1 true W hC0 hc0 hk hG).mono fun e W' ⟨he,bel⟩=>?_
 subst he
 exact ⟨_,rfl,_,_,_,_,_,_,hW',trodAll_mk1 (shut_bool Tryd.underlying4 _),(trodAll_cons_mk (Below.trod laidOut (by kernel_rfl) (of_decide_eq_true (by kernel_rfl)) k0 bel lt0) (trodAll_cons_mk (Below.trod laidOut (by kernel_rfl) (of_decide_eq_true (by kernel_rfl)) k1 bel lt1) trodAll_mk0)),P.tab_vars enc (hG.below bel),bel.frame _,fun h=>by cases h⟩
theorem proved:Rows.FnExactKeyBackSaid :=
 OpenClaim.holds_of_wide 10 Tryd.f10 rfl rfl rfl rfl rfl rfl rfl ⟨rfl,rfl,rfl,rfl,rfl⟩ rfl rfl rfl rfl rfl (by kernel_rfl) Tryd.func10 (by kernel_rfl)
  (of_decide_eq_true (by kernel_rfl)) (by unfold Func.isWrapper;first|(rw [if_pos (by decide +kernel)];kernel_rfl)|(rw [if_neg (by decide +kernel)];exact ⟨rfl,rfl⟩))
  (fun os started H enc _=>lifted os started H enc)
end Go.Proofs.YtlkheeegkifblaaDoor.fnExactKeyBack
namespace Go.Proofs.YtlkheeegkifblaaDoor
theorem fnExactKeyBack_holds:Rows.FnExactKeyBackSaid:=fnExactKeyBack.proved
end Go.Proofs.YtlkheeegkifblaaDoor
namespace Go.Proofs.YtlkheeegkifblaaDoor
open Go
theorem fnExactKeyBackCard_holds:Rows.FnExactKeyBackCardSaid :=
 Claim7.holds_tied_plain_at .later [] [.data] true (true, "eaacb49e37206468e585e4739738b6d4558eee5b1031375a36bb2efdb5ba73e0") true
  fnExactKeyBack_holds (fun _ h=>by cases h) (by kernel_rfl) (fun _ h=>by cases h) fnExactKeyBack_row_tie rfl ⟨rfl,rfl⟩ (by kernel_rfl) rfl
  (fun f fn hf hfn=>by
   obtain rfl:f=10:=Option.some.inj ((show Tryd.prog.funcNamed "loop.example/plashet/laws.FnExactKeyBack" = some 10 by kernel_rfl).symm.trans hf) |>.symm
   obtain rfl:fn=Tryd.f10:=(Option.some.inj (Tryd.func10.symm.trans hfn)).symm
   exact ⟨by kernel_rfl,fun j t ht=>by
    rw [Tryd.params10] at ht
    have hm:t∈[46,47]:=by have:=Array.mem_of_getElem? ht;simp at this;first|(subst this;simp;done)|(rcases this with h|h <;> simp [h];done)|(rcases this with h|h|h <;> simp [h];done)
    have hall:([46,47].all fun u=>!Tryd.prog.wantsStandIn u)=true:=by kernel_rfl
    exact (show Tryd.prog.wantsStandIn t=false by simpa using List.all_eq_true.1 hall t hm)⟩)
  (by kernel_rfl)
#print axioms fnExactKeyBackCard_holds
end Go.Proofs.YtlkheeegkifblaaDoor
