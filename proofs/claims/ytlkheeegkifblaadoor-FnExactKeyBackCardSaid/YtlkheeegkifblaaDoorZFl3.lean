/- Joined by a program (wip/shake.py): the declarations that 'YtlkheeegkifblaaDoorCardFnExactKeyBack' reaches. -/
import Derived.Test.YtlkheeegkifblaaDoorZFl2
set_option linter.unusedVariables false
set_option linter.unusedSimpArgs false
set_option linter.unusedSectionVars false
set_option maxHeartbeats 8000000
set_option maxRecDepth 100000
namespace Go.Proofs.YtlkheeegkifblaaDoor.P
open Go.RowKit Go.Proofs.YtlkheeegkifblaaDoorW.PrintWords Go.Proofs.YtlkheeegkifblaaDoorW.PrintLast
theorem spec_KeyBack.calls (k:Nat) (A0:Option Addr) (c0:Nat) (l0:List (S37)) (a1_0:Int) (a1_1:Int) (a1_2:Int) (a1_3:Int) (a1_4:ByteArray) (r1:Int) (r2:Int) (r3:Int) (r4:Int) (r5:ByteArray) (r6:Bool) (w:World) (hr0:Kd.C k37 w A0 l0.length l0) (hc0:l0.length≤c0) (h:spec_KeyBack.f k l0 a1_0 a1_1 a1_2 a1_3 a1_4=some (r1,r2,r3,r4,r5,r6)) :
  Calls Tryd.prog 41 #[.slice A0 l0.length c0,.agg #[.int .i64 a1_0,.int .i64 a1_1,.int .i64 a1_2,.int .i64 a1_3,.string a1_4]] w fun e w'=>e=.returned (.tuple #[.agg #[.int .i64 r1,.int .i64 r2,.int .i64 r3,.int .i64 r4,.string r5],.bool r6])∧Below w.heap.size w w':=by
 have hu27:=Tryd.underlying27
 have HR0:=Aside0.mk hr0
 have HC0:=Aside0.mk hc0
 clear hr0 hc0
 have HB:=Aside0.mk (Below.refl w.heap.size w)
 unfold spec_KeyBack.f at h
 have H:=h
 clear h
 have HC3:=Aside0.mk H
 clear H
 go_enter Tryd.func41,Tryd.ntmps41
 go_upto_region 1 with (first|((with_reducible refine gate_dst (N:=3) rfl ?_);refine bx_ 3 (#[.int .i64 a1_0,.int .i64 a1_1,.int .i64 a1_2,.int .i64 a1_3,.string a1_4]) 27 ?_;intro gb744 hg w4 hbox hb;have n0_:=Aside0.mk (below_step (bel_) hb);have n1_:=Aside0.mk (hbox);have n2_:=Aside0.mk ((by rw [hg];exact (below_size (bel_)):w.heap.size≤gb744));have n3_:=Aside0.mk ((by rw [hg];exact (below_size (bel_)):w.heap.size≤gb744));clear HB;have HB:=n0_;have BK744:=n1_;have GW744:=n2_;have GE744:=n3_;clear n0_ n1_ n2_ n3_;clear hb hbox hg)|((with_reducible refine gate_dst (N:=4) rfl ?_);refine bx_ 4 (#[.int .i64 0,.int .i64 0,.int .i64 0,.int .i64 0,.string (⟨#[]⟩:ByteArray)]) 27 ?_;intro gb745 hg w5 hbox hb;have n0_:=Aside0.mk (bb_ BK744.out hb);have n1_:=Aside0.mk (below_step (bel_) hb);have n2_:=Aside0.mk (hbox);have n3_:=Aside0.mk ((by rw [hg];exact (below_size (bel_)):w.heap.size≤gb745));have n4_:=Aside0.mk ((by rw [hg];exact (below_size (bel_)):w.heap.size≤gb745));have n5_:=Aside0.mk ((by rw [hg];exact Nat.ne_of_lt (blk_lt (g:=gb744) (o:=.cells #[.int .i64 a1_0,.int .i64 a1_1,.int .i64 a1_2,.int .i64 a1_3,.string a1_4] 27 (0,0)) (bp_ BK744.out)):gb744≠gb745));have n6_:=Aside0.mk ((by rw [hg];exact Nat.ne_of_gt (blk_lt (g:=gb744) (o:=.cells #[.int .i64 a1_0,.int .i64 a1_1,.int .i64 a1_2,.int .i64 a1_3,.string a1_4] 27 (0,0)) (bp_ BK744.out)):gb745≠gb744));clear BK744;clear HB;have BK744:=n0_;have HB:=n1_;have BK745:=n2_;have GW745:=n3_;have GE745:=n4_;have NB744_745:=n5_;have NB745_744:=n6_;clear n0_ n1_ n2_ n3_ n4_ n5_ n6_;clear hb hbox hg))
 (try simp only [Act.put,List.setIfInBounds_toArray,List.set_cons_zero,List.set_cons_succ])
 go_cut [17] (fun v17 wc=>∃ (kq:Nat) (x17_2:Bool),v17=.bool x17_2∧Aside0 (spec_KeyBack.j0 kq l0 x17_2 a1_0 a1_1 a1_2 a1_3 a1_4=some (r1,r2,r3,r4,r5,r6))∧Aside0 (kq≤k)∧Aside0 (wc.heap[gb744]?=some (.cells #[.int .i64 a1_0,.int .i64 a1_1,.int .i64 a1_2,.int .i64 a1_3,.string a1_4] 27 (0,0)))∧Aside0 (wc.heap[gb745]?=some (.cells #[.int .i64 0,.int .i64 0,.int .i64 0,.int .i64 0,.string (⟨#[]⟩:ByteArray)] 27 (0,0)))∧Aside0 (Below w.heap.size w wc))
 case first =>
  have H:=HC3.out
  clear HC3
  replace H:=Option.bind_eq_some_iff.mp H
  obtain ⟨t746,A60,H⟩:=H
  try dsimp only at H
  have A6:=Aside0.mk A60
  clear A60
  by_cases c7:t746=true
  ·subst c7
   have H1:((spec_OpOk.f k a1_0 a1_1 a1_2 a1_3 a1_4).bind fun t747=>(spec_KeyBack.j0 k l0 (!t747) a1_0 a1_1 a1_2 a1_3 a1_4))=some (r1,r2,r3,r4,r5,r6):=by rw [if_pos rfl] at H;exact H
   clear H
   have H:=H1
   clear H1
   replace H:=Option.bind_eq_some_iff.mp H
   obtain ⟨t747,A80,H⟩:=H
   try dsimp only at H
   have A8:=Aside0.mk A80
   clear A80
   have H':=Aside0.mk H
   clear H
   go_wp2_with (first|((with_reducible refine gate_callee (f:=19) rfl ?_);refine gl_ 11 Tryd.func19 #[.slice A0 l0.length c0] ?_;(with_reducible refine (spec_TreeOk.calls k _ _ l0 true _ ?side1 ?side2 A6.out).mono ?_);(case side1=>exact cp_ HR0.out);(case side2=>exact HC0.out);rintro e w9 ⟨rfl,hb⟩;refine ⟨_,rfl,?_⟩;replace HB:=Aside0.mk (below_step (bel_) hb);replace BK744:=Aside0.mk (bb_ BK744.out hb);replace BK745:=Aside0.mk (bb_ BK745.out hb);(try clear hb);have hnb10:=NB744_745.out;have hnc10:=NB745_744.out;obtain ⟨Z11_0,Z11_1,Z11_2,Z11_3,Z11_4,Y11_0,Y11_1,Y11_2,Y11_3,Y11_4⟩:=op5_ BK744.out)|(go_at_call 47;(with_reducible refine (spec_OpOk.calls k a1_0 a1_1 a1_2 a1_3 a1_4 t747 _ A8.out).mono ?_);rintro e w12 ⟨rfl,hb⟩;replace HB:=Aside0.mk (below_step (bel_) hb);replace BK744:=Aside0.mk (bb_ BK744.out hb);replace BK745:=Aside0.mk (bb_ BK745.out hb);(try clear hb)))
   go_meet
   case rel=>exact ⟨_,(!t747),(si_),H',⟨by first|omega|exact Nat.le_refl _⟩,⟨by (with_reducible repeat (first|refine blk_drewN ?_ _|refine blk_drew ?_|refine blk_alloc ?_ _));exact BK744.out⟩,⟨by (with_reducible repeat (first|refine blk_drewN ?_ _|refine blk_drew ?_|refine blk_alloc ?_ _));exact BK745.out⟩,⟨bel_⟩⟩
  ·replace c7:=Bool.eq_false_iff.mpr c7
   subst c7
   have H1:(spec_KeyBack.j0 k l0 true a1_0 a1_1 a1_2 a1_3 a1_4)=some (r1,r2,r3,r4,r5,r6):=by rw [if_neg (show ¬ (false=true) by decide)] at H;exact H
   clear H
   have H:=H1
   clear H1
   have H':=Aside0.mk H
   clear H
   go_wp2_with (first|((with_reducible refine gate_callee (f:=19) rfl ?_);refine gl_ 11 Tryd.func19 #[.slice A0 l0.length c0] ?_;(with_reducible refine (spec_TreeOk.calls k _ _ l0 false _ ?side1 ?side2 A6.out).mono ?_);(case side1=>exact cp_ HR0.out);(case side2=>exact HC0.out);rintro e w13 ⟨rfl,hb⟩;refine ⟨_,rfl,?_⟩;replace HB:=Aside0.mk (below_step (bel_) hb);replace BK744:=Aside0.mk (bb_ BK744.out hb);replace BK745:=Aside0.mk (bb_ BK745.out hb);(try clear hb)))
   go_meet
   case rel=>exact ⟨_,(true),(si_),H',⟨by first|omega|exact Nat.le_refl _⟩,⟨by (with_reducible repeat (first|refine blk_drewN ?_ _|refine blk_drew ?_|refine blk_alloc ?_ _));exact BK744.out⟩,⟨by (with_reducible repeat (first|refine blk_drewN ?_ _|refine blk_drew ?_|refine blk_alloc ?_ _));exact BK745.out⟩,⟨bel_⟩⟩
 case rest =>
  clear HC3
  try clear c1
  try clear p2
  try clear c4
  try clear c7
  try clear c10
  try clear Z11_0 Z11_1 Z11_2 Z11_3 Z11_4 Y11_0 Y11_1 Y11_2 Y11_3 Y11_4
  obtain ⟨kq,x17_2,rfl,HA,HJ2,BK744,BK745,HB⟩:=hcut
  cases kq with
  | zero=>exact absurd HA.out (by simp [spec_KeyBack.j0])
  | succ kj2 =>
   have H:=HA.out
   clear HA
   simp only [spec_KeyBack.j0] at H
   by_cases c14:x17_2=true
   ·subst c14
    have H1:(some (0,0,0,0,(⟨#[]⟩:ByteArray),false))=some (r1,r2,r3,r4,r5,r6):=by rw [if_pos rfl] at H;exact H
    clear H
    have H:=H1
    clear H1
    simp only [Option.some.injEq,Prod.mk.injEq] at H
    obtain ⟨rfl,rfl,rfl,rfl,rfl,rfl⟩:=H
    have hnb15:=NB745_744.out
    have hnc15:=NB744_745.out
    obtain ⟨Z16_0,Z16_1,Z16_2,Z16_3,Z16_4,Y16_0,Y16_1,Y16_2,Y16_3,Y16_4⟩:=op5_ BK745.out
    go_wp2
    refine bodyPost_ret (results_ct rfl _ _ gb745 27 #[.int .i64 0,.int .i64 0,.int .i64 0,.int .i64 0,.string (⟨#[]⟩:ByteArray)] (0,0) _ rfl (by (with_reducible repeat (first|refine blk_drewN ?_ _|refine blk_drew ?_|refine blk_alloc ?_ _));exact bk5_ (bp_ BK745.out)) Tryd.underlying27 rfl (by kernel_rfl)) rfl ?_
    exact ⟨fi_,bel_⟩
   ·replace c14:=Bool.eq_false_iff.mpr c14
    subst c14
    have H1:((spec_l2At.f kj2 l0 a1_1).bind fun t748=>(if a1_0=2 then (if t748 < 0 then (some (0,0,0,0,(⟨#[]⟩:ByteArray),false)) else (if 0≤t748 then (if t748 < (l0.length:Int) then (if ((rd_T37 l0 t748).f2).toList=a1_4.toList then (some (0,0,0,0,(⟨#[]⟩:ByteArray),false)) else (some (2,a1_1,0,0,(rd_T37 l0 t748).f2,true))) else (none)) else (none))) else ((spec_l3Where.f kj2 l0 a1_0 a1_1 a1_2 a1_3 a1_4).bind fun bt751=>(if bt751.2.2=true then ((spec_l3Do.f kj2 l0 a1_0 a1_1 a1_2 a1_3 a1_4).bind fun t754=>((spec_l2Text.f kj2 t754).bind fun t757=>((spec_l2Text.f kj2 l0).bind fun t758=>(spec_KeyBack.j1 kj2 l0 t748 (t757.toList==t758.toList) a1_0 a1_1 a1_2 a1_3 a1_4)))) else (spec_KeyBack.j1 kj2 l0 t748 true a1_0 a1_1 a1_2 a1_3 a1_4)))))=some (r1,r2,r3,r4,r5,r6):=by rw [if_neg (show ¬ (false=true) by decide)] at H;exact H
    clear H
    have H:=H1
    clear H1
    replace H:=Option.bind_eq_some_iff.mp H
    obtain ⟨t748,A170,H⟩:=H
    try dsimp only at H
    have A17:=Aside0.mk A170
    clear A170
    by_cases c18:a1_0=2
    ·rw [if_pos c18] at H
     have c18b0:(a1_0==2)=true:=beq_iff_eq.mpr c18
     have c18b1:(a1_0 != 2)=false:=bne_eq_false_iff_eq.mpr c18
     clear c18
     by_cases c19:t748 < 0
     ·rw [if_pos c19] at H
      have c19b0:decide (t748 < 0)=true:=decide_eq_true c19
      clear c19
      simp only [Option.some.injEq,Prod.mk.injEq] at H
      obtain ⟨rfl,rfl,rfl,rfl,rfl,rfl⟩:=H
      have hnb20:=NB744_745.out
      have hnc20:=NB745_744.out
      obtain ⟨Z21_0,Z21_1,Z21_2,Z21_3,Z21_4,Y21_0,Y21_1,Y21_2,Y21_3,Y21_4⟩:=op5_ BK744.out
      try go_wp2_with (first|((with_reducible refine gate_callee (f:=54) rfl ?_);refine gl_ 22 Tryd.func54 #[.slice A0 l0.length c0,.int .i64 a1_1] ?_;(with_reducible refine (spec_l2At.calls kj2 _ _ l0 a1_1 t748 _ ?side1 ?side2 A17.out).mono ?_);(case side1=>exact cp_ HR0.out);(case side2=>exact HC0.out);rintro e w' ⟨rfl,⟨nd,rfl⟩⟩;refine ⟨_,rfl,?_⟩;(try (rw [drewN_self wc];generalize hq_:World.drewN wc _=wc;have n0_:Aside0 (wc.heap[gb744]?=some (.cells #[.int .i64 a1_0,.int .i64 a1_1,.int .i64 a1_2,.int .i64 a1_3,.string a1_4] 27 (0,0))):=⟨by rw [←hq_];exact (bp_ BK744.out)⟩;have n1_:Aside0 (wc.heap[gb745]?=some (.cells #[.int .i64 0,.int .i64 0,.int .i64 0,.int .i64 0,.string (⟨#[]⟩:ByteArray)] 27 (0,0))):=⟨by rw [←hq_];exact (bp_ BK745.out)⟩;have n2_:Aside0 (Below w.heap.size w wc):=⟨by rw [←hq_];exact (bel_)⟩;clear BK744 BK745 HB hq_;have BK744:=n0_;have BK745:=n1_;have HB:=n2_;clear n0_ n1_ n2_;obtain ⟨Zy744_0,Zy744_1,Zy744_2,Zy744_3,Zy744_4,Yy744_0,Yy744_1,Yy744_2,Yy744_3,Yy744_4⟩:=op5_ BK744.out;obtain ⟨Zy745_0,Zy745_1,Zy745_2,Zy745_3,Zy745_4,Yy745_0,Yy745_1,Yy745_2,Yy745_3,Yy745_4⟩:=op5_ BK745.out))))
      have n0_:=Aside0.mk (blk_drew BK744.out)
      have n1_:=Aside0.mk (blk_drew BK745.out)
      have n2_:=Aside0.mk (below_drew1 HB.out)
      clear BK744
      clear BK745
      clear HB
      have BK744:=n0_
      have BK745:=n1_
      have HB:=n2_
      clear n0_ n1_ n2_
      refine start_ (n:=12) (S:=fun w'=>True) (ds:=[]) #[false,false,false,false,false,false,false,false,false,false,false,false] (by kernel_rfl) rfl rfl trivial (fun hHeld=>?_);refine with_tabW spec_KeyBack.tab5 spec_KeyBack.bits5 (fun HT_ HW_=>?_)
      generalize wc.drew=w22 at BK744 BK745 HB hHeld ⊢
      refine pa_ 0 26 ?_
      refine pa_ 1 27 ?_
      refine pa_ 2 28 ?_
      refine po_ 3 29 ?_
      refine po_ 4 30 ?_
      refine po_ 5 31 ?_
      refine po_ 6 32 ?_
      refine po_ 7 33 ?_
      refine po_ 8 34 ?_
      refine po_ 9 35 ?_
      refine po_ 10 36 ?_
      refine pa_ 11 37 ?_
      refine done_ (done_of HT_.out (by kernel_rfl)) ?_
      obtain ⟨Z23_0,Z23_1,Z23_2,Z23_3,Z23_4,Y23_0,Y23_1,Y23_2,Y23_3,Y23_4⟩:=op5_ BK745.out
      try go_wp2
      refine bodyPost_ret (results_ct rfl _ _ gb745 27 #[.int .i64 0,.int .i64 0,.int .i64 0,.int .i64 0,.string (⟨#[]⟩:ByteArray)] (0,0) _ rfl (by (with_reducible repeat (first|refine blk_drewN ?_ _|refine blk_drew ?_|refine blk_alloc ?_ _));exact bk5_ (bp_ BK745.out)) Tryd.underlying27 rfl (by kernel_rfl)) rfl ?_
      exact ⟨fi_,bel_⟩
     ·rw [if_neg c19] at H
      have c19b0:decide (t748 < 0)=false:=decide_eq_false c19
      clear c19
      by_cases c24:0≤t748
      ·rw [if_pos c24] at H
       have c24b0:decide (0≤t748)=true:=decide_eq_true c24
       clear c24
       by_cases c25:t748 < (l0.length:Int)
       ·rw [if_pos c25] at H
        have c25b0:decide (t748 < (l0.length:Int))=true:=decide_eq_true c25
        clear c25
        by_cases c26:((rd_T37 l0 t748).f2).toList=a1_4.toList
        ·rw [if_pos c26] at H
         have c26b0:(((rd_T37 l0 t748).f2).toList==a1_4.toList)=true:=beq_iff_eq.mpr c26
         have c26b1:(((rd_T37 l0 t748).f2).toList != a1_4.toList)=false:=bne_eq_false_iff_eq.mpr c26
         clear c26
         simp only [Option.some.injEq,Prod.mk.injEq] at H
         obtain ⟨rfl,rfl,rfl,rfl,rfl,rfl⟩:=H
         have hnb27:=NB744_745.out
         have hnc27:=NB745_744.out
         obtain ⟨Z28_0,Z28_1,Z28_2,Z28_3,Z28_4,Y28_0,Y28_1,Y28_2,Y28_3,Y28_4⟩:=op5_ BK744.out
         try go_wp2_with (first|((with_reducible refine gate_callee (f:=54) rfl ?_);refine gl_ 22 Tryd.func54 #[.slice A0 l0.length c0,.int .i64 a1_1] ?_;(with_reducible refine (spec_l2At.calls kj2 _ _ l0 a1_1 t748 _ ?side1 ?side2 A17.out).mono ?_);(case side1=>exact cp_ HR0.out);(case side2=>exact HC0.out);rintro e w' ⟨rfl,⟨nd,rfl⟩⟩;refine ⟨_,rfl,?_⟩;(try (rw [drewN_self wc];generalize hq_:World.drewN wc _=wc;have n0_:Aside0 (wc.heap[gb744]?=some (.cells #[.int .i64 a1_0,.int .i64 a1_1,.int .i64 a1_2,.int .i64 a1_3,.string a1_4] 27 (0,0))):=⟨by rw [←hq_];exact (bp_ BK744.out)⟩;have n1_:Aside0 (wc.heap[gb745]?=some (.cells #[.int .i64 0,.int .i64 0,.int .i64 0,.int .i64 0,.string (⟨#[]⟩:ByteArray)] 27 (0,0))):=⟨by rw [←hq_];exact (bp_ BK745.out)⟩;have n2_:Aside0 (Below w.heap.size w wc):=⟨by rw [←hq_];exact (bel_)⟩;clear BK744 BK745 HB hq_;have BK744:=n0_;have BK745:=n1_;have HB:=n2_;clear n0_ n1_ n2_;obtain ⟨Zy744_0,Zy744_1,Zy744_2,Zy744_3,Zy744_4,Yy744_0,Yy744_1,Yy744_2,Yy744_3,Yy744_4⟩:=op5_ BK744.out;obtain ⟨Zy745_0,Zy745_1,Zy745_2,Zy745_3,Zy745_4,Yy745_0,Yy745_1,Yy745_2,Yy745_3,Yy745_4⟩:=op5_ BK745.out))))
         have n0_:=Aside0.mk (blk_drew BK744.out)
         have n1_:=Aside0.mk (blk_drew BK745.out)
         have n2_:=Aside0.mk (below_drew1 HB.out)
         clear BK744
         clear BK745
         clear HB
         have BK744:=n0_
         have BK745:=n1_
         have HB:=n2_
         clear n0_ n1_ n2_
         have p749:0≤(t748:Int):=od_
         have q749:t748 < (l0.length:Int):=od_
         obtain ⟨ad749,e749,hx749_0,hx749_1,hx749_2⟩:=at_T37 HR0.out t748 p749 q749
         have hw749_2:=hx749_2
         have hw749_1:=hx749_1
         have hw749_0:=hx749_0
         cases e749
         replace hx749_0:=(cb_ HB.out hx749_0 :)
         replace hx749_1:=(cb_ HB.out hx749_1 :)
         replace hx749_2:=(cb_ HB.out hx749_2 :)
         replace p749:=eq_true p749
         replace q749:=eq_true q749
         refine start_ (n:=12) (S:=fun w'=>w'.cell? ⟨gb744,0,none⟩=some (.int .i64 a1_0)∧w'.cell? ⟨gb744,1,none⟩=some (.int .i64 a1_1)∧w'.cell? ⟨gb744,2,none⟩=some (.int .i64 a1_2)∧w'.cell? ⟨gb744,3,none⟩=some (.int .i64 a1_3)∧w'.cell? ⟨gb744,4,none⟩=some (.string a1_4)∧w'.cell? (ad749.add ((t748).toNat * 3))=some (.int .i64 ((rd_T37 l0 t748).f0))∧w'.cell? ⟨(ad749.add ((t748).toNat * 3)).block,(ad749.add ((t748).toNat * 3)).off+1,none⟩=some (.int .i64 ((rd_T37 l0 t748).f1))∧w'.cell? ⟨(ad749.add ((t748).toNat * 3)).block,(ad749.add ((t748).toNat * 3)).off+2,none⟩=some (.string ((rd_T37 l0 t748).f2))) (ds:=[]) #[false,false,false,false,false,false,false,false,false,false,false,false] (by kernel_rfl) rfl rfl ⟨(blk_cell BK744.out 0).trans rfl,(blk_cell BK744.out 1).trans rfl,(blk_cell BK744.out 2).trans rfl,(blk_cell BK744.out 3).trans rfl,(blk_cell BK744.out 4).trans rfl,((cb_ HB.out hw749_0 :)),((cb_ HB.out hw749_1 :)),((cb_ HB.out hw749_2 :))⟩ (fun hHeld=>?_);refine with_tabW spec_KeyBack.tab5 spec_KeyBack.bits5 (fun HT_ HW_=>?_)
         generalize wc.drew=w29 at BK744 BK745 HB hx749_0 hx749_1 hx749_2 hHeld ⊢
         refine pa_ 0 26 ?_
         refine pa_ 1 27 ?_
         refine pa_ 2 28 ?_
         refine pa_ 3 29 ?_
         refine pa_ 4 30 ?_
         refine pa_ 5 31 ?_
         refine pa_ 6 32 ?_
         refine pa_ 8 34 ?_
         refine ta8_ 7 33 hHeld ?_
         refine ta8_ 9 35 hHeld ?_
         refine pa_ 10 36 ?_
         refine pa_ 11 37 ?_
         refine done_ (done_of HT_.out (by kernel_rfl)) ?_
         obtain ⟨Z30_0,Z30_1,Z30_2,Z30_3,Z30_4,Y30_0,Y30_1,Y30_2,Y30_3,Y30_4⟩:=op5_ BK745.out
         try go_wp2
         refine bodyPost_ret (results_ct rfl _ _ gb745 27 #[.int .i64 0,.int .i64 0,.int .i64 0,.int .i64 0,.string (⟨#[]⟩:ByteArray)] (0,0) _ rfl (by (with_reducible repeat (first|refine blk_drewN ?_ _|refine blk_drew ?_|refine blk_alloc ?_ _));exact bk5_ (bp_ BK745.out)) Tryd.underlying27 rfl (by kernel_rfl)) rfl ?_
         exact ⟨fi_,bel_⟩
        ·rw [if_neg c26] at H
         have c26b0:(((rd_T37 l0 t748).f2).toList==a1_4.toList)=false:=beq_eq_false_iff_ne.mpr c26
         have c26b1:(((rd_T37 l0 t748).f2).toList != a1_4.toList)=true:=bne_iff_ne.mpr c26
         simp only [Option.some.injEq,Prod.mk.injEq] at H
         obtain ⟨rfl,rfl,rfl,rfl,rfl,rfl⟩:=H
         have hnb31:=NB744_745.out
         have hnc31:=NB745_744.out
         obtain ⟨Z32_0,Z32_1,Z32_2,Z32_3,Z32_4,Y32_0,Y32_1,Y32_2,Y32_3,Y32_4⟩:=op5_ BK744.out
         try go_wp2_with (first|((with_reducible refine gate_callee (f:=54) rfl ?_);refine gl_ 22 Tryd.func54 #[.slice A0 l0.length c0,.int .i64 a1_1] ?_;(with_reducible refine (spec_l2At.calls kj2 _ _ l0 a1_1 t748 _ ?side1 ?side2 A17.out).mono ?_);(case side1=>exact cp_ HR0.out);(case side2=>exact HC0.out);rintro e w' ⟨rfl,⟨nd,rfl⟩⟩;refine ⟨_,rfl,?_⟩;(try (rw [drewN_self wc];generalize hq_:World.drewN wc _=wc;have n0_:Aside0 (wc.heap[gb744]?=some (.cells #[.int .i64 a1_0,.int .i64 a1_1,.int .i64 a1_2,.int .i64 a1_3,.string a1_4] 27 (0,0))):=⟨by rw [←hq_];exact (bp_ BK744.out)⟩;have n1_:Aside0 (wc.heap[gb745]?=some (.cells #[.int .i64 0,.int .i64 0,.int .i64 0,.int .i64 0,.string (⟨#[]⟩:ByteArray)] 27 (0,0))):=⟨by rw [←hq_];exact (bp_ BK745.out)⟩;have n2_:Aside0 (Below w.heap.size w wc):=⟨by rw [←hq_];exact (bel_)⟩;clear BK744 BK745 HB hq_;have BK744:=n0_;have BK745:=n1_;have HB:=n2_;clear n0_ n1_ n2_;obtain ⟨Zy744_0,Zy744_1,Zy744_2,Zy744_3,Zy744_4,Yy744_0,Yy744_1,Yy744_2,Yy744_3,Yy744_4⟩:=op5_ BK744.out;obtain ⟨Zy745_0,Zy745_1,Zy745_2,Zy745_3,Zy745_4,Yy745_0,Yy745_1,Yy745_2,Yy745_3,Yy745_4⟩:=op5_ BK745.out))))
         have n0_:=Aside0.mk (blk_drew BK744.out)
         have n1_:=Aside0.mk (blk_drew BK745.out)
         have n2_:=Aside0.mk (below_drew1 HB.out)
         clear BK744
         clear BK745
         clear HB
         have BK744:=n0_
         have BK745:=n1_
         have HB:=n2_
         clear n0_ n1_ n2_
         have p749:0≤(t748:Int):=od_
         have q749:t748 < (l0.length:Int):=od_
         obtain ⟨ad749,e749,hx749_0,hx749_1,hx749_2⟩:=at_T37 HR0.out t748 p749 q749
         have hw749_2:=hx749_2
         have hw749_1:=hx749_1
         have hw749_0:=hx749_0
         cases e749
         replace hx749_0:=(cb_ HB.out hx749_0 :)
         replace hx749_1:=(cb_ HB.out hx749_1 :)
         replace hx749_2:=(cb_ HB.out hx749_2 :)
         replace p749:=eq_true p749
         replace q749:=eq_true q749
         refine start_ (n:=12) (S:=fun w'=>w'.cell? ⟨gb744,0,none⟩=some (.int .i64 a1_0)∧w'.cell? ⟨gb744,1,none⟩=some (.int .i64 a1_1)∧w'.cell? ⟨gb744,2,none⟩=some (.int .i64 a1_2)∧w'.cell? ⟨gb744,3,none⟩=some (.int .i64 a1_3)∧w'.cell? ⟨gb744,4,none⟩=some (.string a1_4)∧w'.cell? (ad749.add ((t748).toNat * 3))=some (.int .i64 ((rd_T37 l0 t748).f0))∧w'.cell? ⟨(ad749.add ((t748).toNat * 3)).block,(ad749.add ((t748).toNat * 3)).off+1,none⟩=some (.int .i64 ((rd_T37 l0 t748).f1))∧w'.cell? ⟨(ad749.add ((t748).toNat * 3)).block,(ad749.add ((t748).toNat * 3)).off+2,none⟩=some (.string ((rd_T37 l0 t748).f2))) (ds:=[]) #[false,false,false,false,false,false,false,false,false,false,false,false] (by kernel_rfl) rfl rfl ⟨(blk_cell BK744.out 0).trans rfl,(blk_cell BK744.out 1).trans rfl,(blk_cell BK744.out 2).trans rfl,(blk_cell BK744.out 3).trans rfl,(blk_cell BK744.out 4).trans rfl,((cb_ HB.out hw749_0 :)),((cb_ HB.out hw749_1 :)),((cb_ HB.out hw749_2 :))⟩ (fun hHeld=>?_);refine with_tabW spec_KeyBack.tab5 spec_KeyBack.bits5 (fun HT_ HW_=>?_)
         generalize wc.drew=w33 at BK744 BK745 HB hx749_0 hx749_1 hx749_2 hHeld ⊢
         refine pa_ 0 26 ?_
         refine pa_ 1 27 ?_
         refine pa_ 2 28 ?_
         refine pa_ 3 29 ?_
         refine pa_ 4 30 ?_
         refine pa_ 5 31 ?_
         refine pa_ 6 32 ?_
         refine pa_ 8 34 ?_
         refine ta8_ 7 33 hHeld ?_
         refine ta8_ 9 35 hHeld ?_
         refine pa_ 10 36 ?_
         refine pa_ 11 37 ?_
         refine done_ (done_of HT_.out (by kernel_rfl)) ?_
         try go_wp2
         have n0_:=Aside0.mk (blk_drew BK744.out)
         have n1_:=Aside0.mk (blk_drew BK745.out)
         have n2_:=Aside0.mk (below_drew1 HB.out)
         clear BK744
         clear BK745
         clear HB
         have BK744:=n0_
         have BK745:=n1_
         have HB:=n2_
         clear n0_ n1_ n2_
         have p750:0≤(t748:Int):=od_
         have q750:t748 < (l0.length:Int):=od_
         obtain ⟨ad750,e750,hx750_0,hx750_1,hx750_2⟩:=at_T37 HR0.out t748 p750 q750
         have hw750_2:=hx750_2
         have hw750_1:=hx750_1
         have hw750_0:=hx750_0
         obtain rfl:ad749=ad750:=(by injection e750)
         replace hx750_0:=(cb_ HB.out hx750_0 :)
         replace hx750_1:=(cb_ HB.out hx750_1 :)
         replace hx750_2:=(cb_ HB.out hx750_2 :)
         replace p750:=eq_true p750
         replace q750:=eq_true q750
         refine start_ (n:=10) (S:=fun w'=>w'.cell? ⟨gb744,0,none⟩=some (.int .i64 a1_0)∧w'.cell? ⟨gb744,1,none⟩=some (.int .i64 a1_1)∧w'.cell? ⟨gb744,2,none⟩=some (.int .i64 a1_2)∧w'.cell? ⟨gb744,3,none⟩=some (.int .i64 a1_3)∧w'.cell? ⟨gb744,4,none⟩=some (.string a1_4)∧w'.cell? (ad749.add ((t748).toNat * 3))=some (.int .i64 ((rd_T37 l0 t748).f0))∧w'.cell? ⟨(ad749.add ((t748).toNat * 3)).block,(ad749.add ((t748).toNat * 3)).off+1,none⟩=some (.int .i64 ((rd_T37 l0 t748).f1))∧w'.cell? ⟨(ad749.add ((t748).toNat * 3)).block,(ad749.add ((t748).toNat * 3)).off+2,none⟩=some (.string ((rd_T37 l0 t748).f2))) (ds:=[]) #[false,false,false,false,false,false,false,false,false,false] (by kernel_rfl) rfl rfl ⟨(blk_cell BK744.out 0).trans rfl,(blk_cell BK744.out 1).trans rfl,(blk_cell BK744.out 2).trans rfl,(blk_cell BK744.out 3).trans rfl,(blk_cell BK744.out 4).trans rfl,((cb_ HB.out hw750_0 :)),((cb_ HB.out hw750_1 :)),((cb_ HB.out hw750_2 :))⟩ (fun hHeld=>?_);refine with_tabW spec_KeyBack.tab7 spec_KeyBack.bits7 (fun HT_ HW_=>?_)
         generalize w33.drew=w34 at BK744 BK745 HB hx750_0 hx750_1 hx750_2 hHeld ⊢
         refine pa_ 0 39 ?_
         refine pa_ 2 41 ?_
         refine pa_ 3 42 ?_
         refine pa_ 4 43 ?_
         refine pa_ 5 44 ?_
         refine ta8_ 1 40 hHeld ?_
         refine ta8_ 6 45 hHeld ?_
         refine pa_ 7 46 ?_
         refine one_ (i:=8) (N:=none) #[true,true,true,true,true,true,true,true,true,false] rfl rfl (one_of HT_.out (by kernel_rfl)) (by decide) (fun K hK=>?_)
         have hs35:w34.cell? ⟨gb745,0,none⟩=some (.int .i64 0):=(blk_cell BK745.out 0).trans rfl
         have hfs35:=blk_frozen BK745.out 0
         have hns35_0:=NB744_745.out
         have hms35_0:=NB745_744.out
         have hs36:w34.cell? ⟨gb745,1,none⟩=some (.int .i64 0):=(blk_cell BK745.out 1).trans rfl
         have hfs36:=blk_frozen BK745.out 1
         have hns36_0:=NB744_745.out
         have hms36_0:=NB745_744.out
         have hs37:w34.cell? ⟨gb745,2,none⟩=some (.int .i64 0):=(blk_cell BK745.out 2).trans rfl
         have hfs37:=blk_frozen BK745.out 2
         have hns37_0:=NB744_745.out
         have hms37_0:=NB745_744.out
         have hs38:w34.cell? ⟨gb745,3,none⟩=some (.int .i64 0):=(blk_cell BK745.out 3).trans rfl
         have hfs38:=blk_frozen BK745.out 3
         have hns38_0:=NB744_745.out
         have hms38_0:=NB745_744.out
         have hs39:w34.cell? ⟨gb745,4,none⟩=some (.string (⟨#[]⟩:ByteArray)):=(blk_cell BK745.out 4).trans rfl
         have hfs39:=blk_frozen BK745.out 4
         have hns39_0:=NB744_745.out
         have hms39_0:=NB745_744.out
         refine skip_ (w1:=?_) (by rfl) rfl ?_ ?_
         rotate_left
         ·go_simp
          rfl
         refine hK.out _ _ ⟨((cell_far (p:=⟨gb745,_,none⟩) NB744_745.out _).trans (((cell_far (p:=⟨gb745,_,none⟩) NB744_745.out _).trans (((cell_far (p:=⟨gb745,_,none⟩) NB744_745.out _).trans (((cell_far (p:=⟨gb745,_,none⟩) NB744_745.out _).trans (((cell_far (p:=⟨gb745,_,none⟩) NB744_745.out _).trans (hHeld.1)))))))))),((cell_far (p:=⟨gb745,_,none⟩) NB744_745.out _).trans (((cell_far (p:=⟨gb745,_,none⟩) NB744_745.out _).trans (((cell_far (p:=⟨gb745,_,none⟩) NB744_745.out _).trans (((cell_far (p:=⟨gb745,_,none⟩) NB744_745.out _).trans (((cell_far (p:=⟨gb745,_,none⟩) NB744_745.out _).trans (hHeld.2.1)))))))))),((cell_far (p:=⟨gb745,_,none⟩) NB744_745.out _).trans (((cell_far (p:=⟨gb745,_,none⟩) NB744_745.out _).trans (((cell_far (p:=⟨gb745,_,none⟩) NB744_745.out _).trans (((cell_far (p:=⟨gb745,_,none⟩) NB744_745.out _).trans (((cell_far (p:=⟨gb745,_,none⟩) NB744_745.out _).trans (hHeld.2.2.1)))))))))),((cell_far (p:=⟨gb745,_,none⟩) NB744_745.out _).trans (((cell_far (p:=⟨gb745,_,none⟩) NB744_745.out _).trans (((cell_far (p:=⟨gb745,_,none⟩) NB744_745.out _).trans (((cell_far (p:=⟨gb745,_,none⟩) NB744_745.out _).trans (((cell_far (p:=⟨gb745,_,none⟩) NB744_745.out _).trans (hHeld.2.2.2.1)))))))))),((cell_far (p:=⟨gb745,_,none⟩) NB744_745.out _).trans (((cell_far (p:=⟨gb745,_,none⟩) NB744_745.out _).trans (((cell_far (p:=⟨gb745,_,none⟩) NB744_745.out _).trans (((cell_far (p:=⟨gb745,_,none⟩) NB744_745.out _).trans (((cell_far (p:=⟨gb745,_,none⟩) NB744_745.out _).trans (hHeld.2.2.2.2.1)))))))))),((cell_far (p:=⟨gb745,_,none⟩) (by first|exact Nat.ne_of_lt (Nat.lt_of_lt_of_le (by have:=World.block_lt_of_cell? _ _ hw750_0;first|rwa [add_block] at this|exact this) GW745.out)|(rw [add_block];exact Nat.ne_of_lt (Nat.lt_of_lt_of_le (by have:=World.block_lt_of_cell? _ _ hw750_0;first|rwa [add_block] at this|exact this) GW745.out))|(show (Addr.add _ _).block≠_;rw [add_block];exact Nat.ne_of_lt (Nat.lt_of_lt_of_le (by have:=World.block_lt_of_cell? _ _ hw750_0;first|rwa [add_block] at this|exact this) GW745.out))|(dsimp only;exact Nat.ne_of_lt (Nat.lt_of_lt_of_le (by have:=World.block_lt_of_cell? _ _ hw750_0;first|rwa [add_block] at this|exact this) GW745.out))) _).trans (((cell_far (p:=⟨gb745,_,none⟩) (by first|exact Nat.ne_of_lt (Nat.lt_of_lt_of_le (by have:=World.block_lt_of_cell? _ _ hw750_0;first|rwa [add_block] at this|exact this) GW745.out)|(rw [add_block];exact Nat.ne_of_lt (Nat.lt_of_lt_of_le (by have:=World.block_lt_of_cell? _ _ hw750_0;first|rwa [add_block] at this|exact this) GW745.out))|(show (Addr.add _ _).block≠_;rw [add_block];exact Nat.ne_of_lt (Nat.lt_of_lt_of_le (by have:=World.block_lt_of_cell? _ _ hw750_0;first|rwa [add_block] at this|exact this) GW745.out))|(dsimp only;exact Nat.ne_of_lt (Nat.lt_of_lt_of_le (by have:=World.block_lt_of_cell? _ _ hw750_0;first|rwa [add_block] at this|exact this) GW745.out))) _).trans (((cell_far (p:=⟨gb745,_,none⟩) (by first|exact Nat.ne_of_lt (Nat.lt_of_lt_of_le (by have:=World.block_lt_of_cell? _ _ hw750_0;first|rwa [add_block] at this|exact this) GW745.out)|(rw [add_block];exact Nat.ne_of_lt (Nat.lt_of_lt_of_le (by have:=World.block_lt_of_cell? _ _ hw750_0;first|rwa [add_block] at this|exact this) GW745.out))|(show (Addr.add _ _).block≠_;rw [add_block];exact Nat.ne_of_lt (Nat.lt_of_lt_of_le (by have:=World.block_lt_of_cell? _ _ hw750_0;first|rwa [add_block] at this|exact this) GW745.out))|(dsimp only;exact Nat.ne_of_lt (Nat.lt_of_lt_of_le (by have:=World.block_lt_of_cell? _ _ hw750_0;first|rwa [add_block] at this|exact this) GW745.out))) _).trans (((cell_far (p:=⟨gb745,_,none⟩) (by first|exact Nat.ne_of_lt (Nat.lt_of_lt_of_le (by have:=World.block_lt_of_cell? _ _ hw750_0;first|rwa [add_block] at this|exact this) GW745.out)|(rw [add_block];exact Nat.ne_of_lt (Nat.lt_of_lt_of_le (by have:=World.block_lt_of_cell? _ _ hw750_0;first|rwa [add_block] at this|exact this) GW745.out))|(show (Addr.add _ _).block≠_;rw [add_block];exact Nat.ne_of_lt (Nat.lt_of_lt_of_le (by have:=World.block_lt_of_cell? _ _ hw750_0;first|rwa [add_block] at this|exact this) GW745.out))|(dsimp only;exact Nat.ne_of_lt (Nat.lt_of_lt_of_le (by have:=World.block_lt_of_cell? _ _ hw750_0;first|rwa [add_block] at this|exact this) GW745.out))) _).trans (((cell_far (p:=⟨gb745,_,none⟩) (by first|exact Nat.ne_of_lt (Nat.lt_of_lt_of_le (by have:=World.block_lt_of_cell? _ _ hw750_0;first|rwa [add_block] at this|exact this) GW745.out)|(rw [add_block];exact Nat.ne_of_lt (Nat.lt_of_lt_of_le (by have:=World.block_lt_of_cell? _ _ hw750_0;first|rwa [add_block] at this|exact this) GW745.out))|(show (Addr.add _ _).block≠_;rw [add_block];exact Nat.ne_of_lt (Nat.lt_of_lt_of_le (by have:=World.block_lt_of_cell? _ _ hw750_0;first|rwa [add_block] at this|exact this) GW745.out))|(dsimp only;exact Nat.ne_of_lt (Nat.lt_of_lt_of_le (by have:=World.block_lt_of_cell? _ _ hw750_0;first|rwa [add_block] at this|exact this) GW745.out))) _).trans (hHeld.2.2.2.2.2.1)))))))))),((cell_far (p:=⟨gb745,_,none⟩) (by first|exact Nat.ne_of_lt (Nat.lt_of_lt_of_le (by have:=World.block_lt_of_cell? _ _ hw750_1;first|rwa [add_block] at this|exact this) GW745.out)|(rw [add_block];exact Nat.ne_of_lt (Nat.lt_of_lt_of_le (by have:=World.block_lt_of_cell? _ _ hw750_1;first|rwa [add_block] at this|exact this) GW745.out))|(show (Addr.add _ _).block≠_;rw [add_block];exact Nat.ne_of_lt (Nat.lt_of_lt_of_le (by have:=World.block_lt_of_cell? _ _ hw750_1;first|rwa [add_block] at this|exact this) GW745.out))|(dsimp only;exact Nat.ne_of_lt (Nat.lt_of_lt_of_le (by have:=World.block_lt_of_cell? _ _ hw750_1;first|rwa [add_block] at this|exact this) GW745.out))) _).trans (((cell_far (p:=⟨gb745,_,none⟩) (by first|exact Nat.ne_of_lt (Nat.lt_of_lt_of_le (by have:=World.block_lt_of_cell? _ _ hw750_1;first|rwa [add_block] at this|exact this) GW745.out)|(rw [add_block];exact Nat.ne_of_lt (Nat.lt_of_lt_of_le (by have:=World.block_lt_of_cell? _ _ hw750_1;first|rwa [add_block] at this|exact this) GW745.out))|(show (Addr.add _ _).block≠_;rw [add_block];exact Nat.ne_of_lt (Nat.lt_of_lt_of_le (by have:=World.block_lt_of_cell? _ _ hw750_1;first|rwa [add_block] at this|exact this) GW745.out))|(dsimp only;exact Nat.ne_of_lt (Nat.lt_of_lt_of_le (by have:=World.block_lt_of_cell? _ _ hw750_1;first|rwa [add_block] at this|exact this) GW745.out))) _).trans (((cell_far (p:=⟨gb745,_,none⟩) (by first|exact Nat.ne_of_lt (Nat.lt_of_lt_of_le (by have:=World.block_lt_of_cell? _ _ hw750_1;first|rwa [add_block] at this|exact this) GW745.out)|(rw [add_block];exact Nat.ne_of_lt (Nat.lt_of_lt_of_le (by have:=World.block_lt_of_cell? _ _ hw750_1;first|rwa [add_block] at this|exact this) GW745.out))|(show (Addr.add _ _).block≠_;rw [add_block];exact Nat.ne_of_lt (Nat.lt_of_lt_of_le (by have:=World.block_lt_of_cell? _ _ hw750_1;first|rwa [add_block] at this|exact this) GW745.out))|(dsimp only;exact Nat.ne_of_lt (Nat.lt_of_lt_of_le (by have:=World.block_lt_of_cell? _ _ hw750_1;first|rwa [add_block] at this|exact this) GW745.out))) _).trans (((cell_far (p:=⟨gb745,_,none⟩) (by first|exact Nat.ne_of_lt (Nat.lt_of_lt_of_le (by have:=World.block_lt_of_cell? _ _ hw750_1;first|rwa [add_block] at this|exact this) GW745.out)|(rw [add_block];exact Nat.ne_of_lt (Nat.lt_of_lt_of_le (by have:=World.block_lt_of_cell? _ _ hw750_1;first|rwa [add_block] at this|exact this) GW745.out))|(show (Addr.add _ _).block≠_;rw [add_block];exact Nat.ne_of_lt (Nat.lt_of_lt_of_le (by have:=World.block_lt_of_cell? _ _ hw750_1;first|rwa [add_block] at this|exact this) GW745.out))|(dsimp only;exact Nat.ne_of_lt (Nat.lt_of_lt_of_le (by have:=World.block_lt_of_cell? _ _ hw750_1;first|rwa [add_block] at this|exact this) GW745.out))) _).trans (((cell_far (p:=⟨gb745,_,none⟩) (by first|exact Nat.ne_of_lt (Nat.lt_of_lt_of_le (by have:=World.block_lt_of_cell? _ _ hw750_1;first|rwa [add_block] at this|exact this) GW745.out)|(rw [add_block];exact Nat.ne_of_lt (Nat.lt_of_lt_of_le (by have:=World.block_lt_of_cell? _ _ hw750_1;first|rwa [add_block] at this|exact this) GW745.out))|(show (Addr.add _ _).block≠_;rw [add_block];exact Nat.ne_of_lt (Nat.lt_of_lt_of_le (by have:=World.block_lt_of_cell? _ _ hw750_1;first|rwa [add_block] at this|exact this) GW745.out))|(dsimp only;exact Nat.ne_of_lt (Nat.lt_of_lt_of_le (by have:=World.block_lt_of_cell? _ _ hw750_1;first|rwa [add_block] at this|exact this) GW745.out))) _).trans (hHeld.2.2.2.2.2.2.1)))))))))),((cell_far (p:=⟨gb745,_,none⟩) (by first|exact Nat.ne_of_lt (Nat.lt_of_lt_of_le (by have:=World.block_lt_of_cell? _ _ hw750_2;first|rwa [add_block] at this|exact this) GW745.out)|(rw [add_block];exact Nat.ne_of_lt (Nat.lt_of_lt_of_le (by have:=World.block_lt_of_cell? _ _ hw750_2;first|rwa [add_block] at this|exact this) GW745.out))|(show (Addr.add _ _).block≠_;rw [add_block];exact Nat.ne_of_lt (Nat.lt_of_lt_of_le (by have:=World.block_lt_of_cell? _ _ hw750_2;first|rwa [add_block] at this|exact this) GW745.out))|(dsimp only;exact Nat.ne_of_lt (Nat.lt_of_lt_of_le (by have:=World.block_lt_of_cell? _ _ hw750_2;first|rwa [add_block] at this|exact this) GW745.out))) _).trans (((cell_far (p:=⟨gb745,_,none⟩) (by first|exact Nat.ne_of_lt (Nat.lt_of_lt_of_le (by have:=World.block_lt_of_cell? _ _ hw750_2;first|rwa [add_block] at this|exact this) GW745.out)|(rw [add_block];exact Nat.ne_of_lt (Nat.lt_of_lt_of_le (by have:=World.block_lt_of_cell? _ _ hw750_2;first|rwa [add_block] at this|exact this) GW745.out))|(show (Addr.add _ _).block≠_;rw [add_block];exact Nat.ne_of_lt (Nat.lt_of_lt_of_le (by have:=World.block_lt_of_cell? _ _ hw750_2;first|rwa [add_block] at this|exact this) GW745.out))|(dsimp only;exact Nat.ne_of_lt (Nat.lt_of_lt_of_le (by have:=World.block_lt_of_cell? _ _ hw750_2;first|rwa [add_block] at this|exact this) GW745.out))) _).trans (((cell_far (p:=⟨gb745,_,none⟩) (by first|exact Nat.ne_of_lt (Nat.lt_of_lt_of_le (by have:=World.block_lt_of_cell? _ _ hw750_2;first|rwa [add_block] at this|exact this) GW745.out)|(rw [add_block];exact Nat.ne_of_lt (Nat.lt_of_lt_of_le (by have:=World.block_lt_of_cell? _ _ hw750_2;first|rwa [add_block] at this|exact this) GW745.out))|(show (Addr.add _ _).block≠_;rw [add_block];exact Nat.ne_of_lt (Nat.lt_of_lt_of_le (by have:=World.block_lt_of_cell? _ _ hw750_2;first|rwa [add_block] at this|exact this) GW745.out))|(dsimp only;exact Nat.ne_of_lt (Nat.lt_of_lt_of_le (by have:=World.block_lt_of_cell? _ _ hw750_2;first|rwa [add_block] at this|exact this) GW745.out))) _).trans (((cell_far (p:=⟨gb745,_,none⟩) (by first|exact Nat.ne_of_lt (Nat.lt_of_lt_of_le (by have:=World.block_lt_of_cell? _ _ hw750_2;first|rwa [add_block] at this|exact this) GW745.out)|(rw [add_block];exact Nat.ne_of_lt (Nat.lt_of_lt_of_le (by have:=World.block_lt_of_cell? _ _ hw750_2;first|rwa [add_block] at this|exact this) GW745.out))|(show (Addr.add _ _).block≠_;rw [add_block];exact Nat.ne_of_lt (Nat.lt_of_lt_of_le (by have:=World.block_lt_of_cell? _ _ hw750_2;first|rwa [add_block] at this|exact this) GW745.out))|(dsimp only;exact Nat.ne_of_lt (Nat.lt_of_lt_of_le (by have:=World.block_lt_of_cell? _ _ hw750_2;first|rwa [add_block] at this|exact this) GW745.out))) _).trans (((cell_far (p:=⟨gb745,_,none⟩) (by first|exact Nat.ne_of_lt (Nat.lt_of_lt_of_le (by have:=World.block_lt_of_cell? _ _ hw750_2;first|rwa [add_block] at this|exact this) GW745.out)|(rw [add_block];exact Nat.ne_of_lt (Nat.lt_of_lt_of_le (by have:=World.block_lt_of_cell? _ _ hw750_2;first|rwa [add_block] at this|exact this) GW745.out))|(show (Addr.add _ _).block≠_;rw [add_block];exact Nat.ne_of_lt (Nat.lt_of_lt_of_le (by have:=World.block_lt_of_cell? _ _ hw750_2;first|rwa [add_block] at this|exact this) GW745.out))|(dsimp only;exact Nat.ne_of_lt (Nat.lt_of_lt_of_le (by have:=World.block_lt_of_cell? _ _ hw750_2;first|rwa [add_block] at this|exact this) GW745.out))) _).trans (hHeld.2.2.2.2.2.2.2))))))))))⟩ (fun hHeld=>?_)
         clear hK K
         refine pa_ 9 5 ?_
         refine done_ (done_of HT_.out (by kernel_rfl)) ?_
         try go_wp2
         refine bodyPost_ret (results_ct rfl _ _ gb745 27 #[.int .i64 2,.int .i64 a1_1,.int .i64 0,.int .i64 0,.string ((rd_T37 l0 t748).f2)] (0,0) _ rfl (by (with_reducible repeat (first|refine blk_drewN ?_ _|refine blk_drew ?_|refine blk_alloc ?_ _));exact bk5_ (bp_ BK745.out)) Tryd.underlying27 rfl (by kernel_rfl)) rfl ?_
         exact ⟨fi_,bel_⟩
       ·rw [if_neg c25] at H
        exact absurd H (by simp)
      ·rw [if_neg c24] at H
       exact absurd H (by simp)
    ·rw [if_neg c18] at H
     have c18b0:(a1_0==2)=false:=beq_eq_false_iff_ne.mpr c18
     have c18b1:(a1_0 != 2)=true:=bne_iff_ne.mpr c18
     replace H:=Option.bind_eq_some_iff.mp H
     obtain ⟨⟨t751,t752,t753⟩,A400,H⟩:=H
     try dsimp only at H
     have A40:=Aside0.mk A400
     clear A400
     have HC41:=Aside0.mk H
     clear H
     have hnb42:=NB744_745.out
     have hnc42:=NB745_744.out
     obtain ⟨Z43_0,Z43_1,Z43_2,Z43_3,Z43_4,Y43_0,Y43_1,Y43_2,Y43_3,Y43_4⟩:=op5_ BK744.out
     go_upto_region 9 with (first|((with_reducible refine gate_callee (f:=54) rfl ?_);refine gl_ 22 Tryd.func54 #[.slice A0 l0.length c0,.int .i64 a1_1] ?_;(with_reducible refine (spec_l2At.calls kj2 _ _ l0 a1_1 t748 _ ?side1 ?side2 A17.out).mono ?_);(case side1=>exact cp_ HR0.out);(case side2=>exact HC0.out);rintro e w' ⟨rfl,⟨nd,rfl⟩⟩;refine ⟨_,rfl,?_⟩)|((with_reducible refine gate_callee (f:=79) rfl ?_);refine gl_ 50 Tryd.func79 #[.slice A0 l0.length c0,.agg #[.int .i64 a1_0,.int .i64 a1_1,.int .i64 a1_2,.int .i64 a1_3,.string a1_4]] ?_;(with_reducible refine (spec_l3Where.calls kj2 _ _ l0 a1_0 a1_1 a1_2 a1_3 a1_4 t751 t752 t753 _ ?side1 ?side2 A40.out).mono ?_);(case side1=>repeat (first|exact (Kd.C_below HR0.out (bel_))|(with_reducible refine Kd.C_alloc ?_ _)|(with_reducible refine Kd.C_drewN ?_ _)|(with_reducible refine Kd.C_drew ?_)));(case side2=>exact HC0.out);rintro e w44 ⟨rfl,hb⟩;refine ⟨_,rfl,?_⟩;replace HB:=Aside0.mk (below_step (bel_) hb);replace BK744:=Aside0.mk (bb_ BK744.out hb);replace BK745:=Aside0.mk (bb_ BK745.out hb);(try clear hb)))
     (try simp only [Act.put,List.setIfInBounds_toArray,List.set_cons_zero,List.set_cons_succ])
     go_cut [64] (fun v64 wc=>∃ (kq:Nat) (x64_40:Bool),v64=.bool x64_40∧Aside0 (spec_KeyBack.j1 kq l0 t748 x64_40 a1_0 a1_1 a1_2 a1_3 a1_4=some (r1,r2,r3,r4,r5,r6))∧Aside0 (kq≤kj2)∧Aside0 (wc.heap[gb744]?=some (.cells #[.int .i64 a1_0,.int .i64 a1_1,.int .i64 a1_2,.int .i64 a1_3,.string a1_4] 27 (0,0)))∧Aside0 (wc.heap[gb745]?=some (.cells #[.int .i64 0,.int .i64 0,.int .i64 0,.int .i64 0,.string (⟨#[]⟩:ByteArray)] 27 (0,0)))∧Aside0 (Below w.heap.size w wc))
     case first =>
      have H:=HC41.out
      clear HC41
      by_cases c45:t753=true
      ·subst c45
       have H1:((spec_l3Do.f kj2 l0 a1_0 a1_1 a1_2 a1_3 a1_4).bind fun t754=>((spec_l2Text.f kj2 t754).bind fun t757=>((spec_l2Text.f kj2 l0).bind fun t758=>(spec_KeyBack.j1 kj2 l0 t748 (t757.toList==t758.toList) a1_0 a1_1 a1_2 a1_3 a1_4))))=some (r1,r2,r3,r4,r5,r6):=by rw [if_pos rfl] at H;exact H
       clear H
       have H:=H1
       clear H1
       replace H:=Option.bind_eq_some_iff.mp H
       obtain ⟨t754,A460,H⟩:=H
       try dsimp only at H
       have A46:=Aside0.mk A460
       clear A460
       replace H:=Option.bind_eq_some_iff.mp H
       obtain ⟨t757,A470,H⟩:=H
       try dsimp only at H
       have A47:=Aside0.mk A470
       clear A470
       replace H:=Option.bind_eq_some_iff.mp H
       obtain ⟨t758,A480,H⟩:=H
       try dsimp only at H
       have A48:=Aside0.mk A480
       clear A480
       have H':=Aside0.mk H
       clear H
       have hnb49:=NB744_745.out
       have hnc49:=NB745_744.out
       obtain ⟨Z50_0,Z50_1,Z50_2,Z50_3,Z50_4,Y50_0,Y50_1,Y50_2,Y50_3,Y50_4⟩:=op5_ BK744.out
       go_wp2_with (first|(go_at_call 81;(with_reducible refine (spec_l3Do.calls kj2 _ _ l0 a1_0 a1_1 a1_2 a1_3 a1_4 t754 _ ?side1 ?side2 A46.out).mono ?_);(case side1=>exact cp_ HR0.out);(case side2=>exact HC0.out);rintro e w51 ⟨v755,rfl,ho0,hb⟩;have HO756:=Aside0.mk (Kd.R_lower ho0 (below_size (bel_)));replace HB:=Aside0.mk (below_step (bel_) hb);replace BK744:=Aside0.mk (bb_ BK744.out hb);replace BK745:=Aside0.mk (bb_ BK745.out hb);(try clear hb ho0);obtain ⟨Ao52,co52,eo52⟩:=Kd.R_slice HO756.out;subst eo52)|(go_at_call 80;(with_reducible refine (spec_l2Text.calls kj2 _ _ t754 t757 _ ?side1 ?side2 A47.out).mono ?_);(case side1=>exact cx_ (Kd.R_reads' HO756.out).2.2);(case side2=>exact (Kd.R_reads' HO756.out).2.1);rintro e w53 ⟨rfl,hb⟩;replace HO756:=Aside0.mk (Kd.R_below (rp_ HO756.out) hb);replace HB:=Aside0.mk (below_step (bel_) hb);replace BK744:=Aside0.mk (bb_ BK744.out hb);replace BK745:=Aside0.mk (bb_ BK745.out hb);(try clear hb))|(go_at_call 80;(with_reducible refine (spec_l2Text.calls kj2 _ _ l0 t758 _ ?side1 ?side2 A48.out).mono ?_);(case side1=>exact cp_ HR0.out);(case side2=>exact HC0.out);rintro e w54 ⟨rfl,hb⟩;replace HO756:=Aside0.mk (Kd.R_below (rp_ HO756.out) hb);replace HB:=Aside0.mk (below_step (bel_) hb);replace BK744:=Aside0.mk (bb_ BK744.out hb);replace BK745:=Aside0.mk (bb_ BK745.out hb);(try clear hb)))
       go_meet
       case rel=>exact ⟨_,((t757.toList==t758.toList)),(si_),H',⟨by have:=HJ2.out;first|omega|exact Nat.le_refl _⟩,⟨by (with_reducible repeat (first|refine blk_drewN ?_ _|refine blk_drew ?_|refine blk_alloc ?_ _));exact BK744.out⟩,⟨by (with_reducible repeat (first|refine blk_drewN ?_ _|refine blk_drew ?_|refine blk_alloc ?_ _));exact BK745.out⟩,⟨bel_⟩⟩
      ·replace c45:=Bool.eq_false_iff.mpr c45
       subst c45
       have H1:(spec_KeyBack.j1 kj2 l0 t748 true a1_0 a1_1 a1_2 a1_3 a1_4)=some (r1,r2,r3,r4,r5,r6):=by rw [if_neg (show ¬ (false=true) by decide)] at H;exact H
       clear H
       have H:=H1
       clear H1
       have H':=Aside0.mk H
       clear H
       go_wp2
       go_meet
       case rel=>exact ⟨_,(true),(si_),H',⟨by have:=HJ2.out;first|omega|exact Nat.le_refl _⟩,⟨by (with_reducible repeat (first|refine blk_drewN ?_ _|refine blk_drew ?_|refine blk_alloc ?_ _));exact BK744.out⟩,⟨by (with_reducible repeat (first|refine blk_drewN ?_ _|refine blk_drew ?_|refine blk_alloc ?_ _));exact BK745.out⟩,⟨bel_⟩⟩
     case rest =>
      clear HC41
      try clear c1
      try clear c2
      try clear p2
      try clear c3
      try clear c4
      try clear c5
      try clear c7
      try clear p7
      try clear q7
      try clear hx7
      try clear c18
      try clear c18b0
      try clear c18b1
      try clear c19
      try clear c19b0
      try clear c24
      try clear c24b0
      try clear c25
      try clear c25b0
      try clear c26
      try clear c26b0
      try clear c26b1
      try clear c27
      try clear c31
      try clear c42
      try clear c45
      try clear c49
      try clear c54
      try clear hx749_0
      try clear hx749_1
      try clear hx749_2
      try clear hx750_0
      try clear hx750_1
      try clear hx750_2
      try clear p749
      try clear p750
      try clear q749
      try clear q750
      try clear Z23_0 Z23_1 Z23_2 Z23_3 Z23_4 Y23_0 Y23_1 Y23_2 Y23_3 Y23_4
      try clear Z28_0 Z28_1 Z28_2 Z28_3 Z28_4 Y28_0 Y28_1 Y28_2 Y28_3 Y28_4
      try clear Z30_0 Z30_1 Z30_2 Z30_3 Z30_4 Y30_0 Y30_1 Y30_2 Y30_3 Y30_4
      try clear Z32_0 Z32_1 Z32_2 Z32_3 Z32_4 Y32_0 Y32_1 Y32_2 Y32_3 Y32_4
      try clear Z43_0 Z43_1 Z43_2 Z43_3 Z43_4 Y43_0 Y43_1 Y43_2 Y43_3 Y43_4
      try clear Z50_0 Z50_1 Z50_2 Z50_3 Z50_4 Y50_0 Y50_1 Y50_2 Y50_3 Y50_4
      obtain ⟨kq,x64_40,rfl,HA,HJ40,BK744,BK745,HB⟩:=hcut
      cases kq with
      | zero=>exact absurd HA.out (by simp [spec_KeyBack.j1])
      | succ kj40 =>
       have H:=HA.out
       clear HA
       simp only [spec_KeyBack.j1] at H
       by_cases c55:x64_40=true
       ·subst c55
        have H1:(some (0,0,0,0,(⟨#[]⟩:ByteArray),false))=some (r1,r2,r3,r4,r5,r6):=by rw [if_pos rfl] at H;exact H
        clear H
        have H:=H1
        clear H1
        simp only [Option.some.injEq,Prod.mk.injEq] at H
        obtain ⟨rfl,rfl,rfl,rfl,rfl,rfl⟩:=H
        have hnb56:=NB745_744.out
        have hnc56:=NB744_745.out
        obtain ⟨Z57_0,Z57_1,Z57_2,Z57_3,Z57_4,Y57_0,Y57_1,Y57_2,Y57_3,Y57_4⟩:=op5_ BK745.out
        go_wp2
        refine bodyPost_ret (results_ct rfl _ _ gb745 27 #[.int .i64 0,.int .i64 0,.int .i64 0,.int .i64 0,.string (⟨#[]⟩:ByteArray)] (0,0) _ rfl (by (with_reducible repeat (first|refine blk_drewN ?_ _|refine blk_drew ?_|refine blk_alloc ?_ _));exact bk5_ (bp_ BK745.out)) Tryd.underlying27 rfl (by kernel_rfl)) rfl ?_
        exact ⟨fi_,bel_⟩
       ·replace c55:=Bool.eq_false_iff.mpr c55
        subst c55
        have H1:(if a1_0=1 then ((spec_l11Move.f a1_1 2 0).bind fun bt759=>(some (bt759.1,bt759.2.1,bt759.2.2.1,bt759.2.2.2.1,bt759.2.2.2.2,true))) else ((spec_l2Up.f kj40 l0 t748).bind fun t764=>((spec_l2Ahead.f kj40 l0 t748).bind fun t765=>((spec_l11Move.f a1_1 t764 t765).bind fun bt766=>(some (bt766.1,bt766.2.1,bt766.2.2.1,bt766.2.2.2.1,bt766.2.2.2.2,true))))))=some (r1,r2,r3,r4,r5,r6):=by rw [if_neg (show ¬ (false=true) by decide)] at H;exact H
        clear H
        have H:=H1
        clear H1
        by_cases c58:a1_0=1
        ·rw [if_pos c58] at H
         have c58b0:(a1_0==1)=true:=beq_iff_eq.mpr c58
         have c58b1:(a1_0 != 1)=false:=bne_eq_false_iff_eq.mpr c58
         clear c58
         replace H:=Option.bind_eq_some_iff.mp H
         obtain ⟨⟨t759,t760,t761,t762,t763⟩,A590,H⟩:=H
         try dsimp only at H
         have A59:=Aside0.mk A590
         clear A590
         simp only [Option.some.injEq,Prod.mk.injEq] at H
         obtain ⟨rfl,rfl,rfl,rfl,rfl,rfl⟩:=H
         have hnb60:=NB744_745.out
         have hnc60:=NB745_744.out
         obtain ⟨Z61_0,Z61_1,Z61_2,Z61_3,Z61_4,Y61_0,Y61_1,Y61_2,Y61_3,Y61_4⟩:=op5_ BK744.out
         go_wp2_with (first|((with_reducible refine gate_callee (f:=56) rfl ?_);refine gl_ 71 Tryd.func56 #[.int .i64 a1_1,.int .i64 2,.int .i64 0] ?_;(with_reducible refine (spec_l11Move.calls a1_1 2 0 t759 t760 t761 t762 t763 _ A59.out).mono ?_);rintro e w62 ⟨rfl,hb⟩;refine ⟨_,rfl,?_⟩;replace HB:=Aside0.mk (below_step (bel_) hb);replace BK744:=Aside0.mk (bb_ BK744.out hb);replace BK745:=Aside0.mk (bb_ BK745.out hb);(try clear hb);obtain ⟨Z63_0,Z63_1,Z63_2,Z63_3,Z63_4,Y63_0,Y63_1,Y63_2,Y63_3,Y63_4⟩:=op5_ BK745.out))
         refine bodyPost_ret (results_ct rfl _ _ gb745 27 #[.int .i64 t759,.int .i64 t760,.int .i64 t761,.int .i64 t762,.string t763] (0,0) _ rfl (by (with_reducible repeat (first|refine blk_drewN ?_ _|refine blk_drew ?_|refine blk_alloc ?_ _));exact bk5_ (bp_ BK745.out)) Tryd.underlying27 rfl (by kernel_rfl)) rfl ?_
         exact ⟨fi_,bel_⟩
        ·rw [if_neg c58] at H
         have c58b0:(a1_0==1)=false:=beq_eq_false_iff_ne.mpr c58
         have c58b1:(a1_0 != 1)=true:=bne_iff_ne.mpr c58
         replace H:=Option.bind_eq_some_iff.mp H
         obtain ⟨t764,A640,H⟩:=H
         try dsimp only at H
         have A64:=Aside0.mk A640
         clear A640
         replace H:=Option.bind_eq_some_iff.mp H
         obtain ⟨t765,A650,H⟩:=H
         try dsimp only at H
         have A65:=Aside0.mk A650
         clear A650
         replace H:=Option.bind_eq_some_iff.mp H
         obtain ⟨⟨t766,t767,t768,t769,t770⟩,A660,H⟩:=H
         try dsimp only at H
         have A66:=Aside0.mk A660
         clear A660
         simp only [Option.some.injEq,Prod.mk.injEq] at H
         obtain ⟨rfl,rfl,rfl,rfl,rfl,rfl⟩:=H
         have hnb67:=NB744_745.out
         have hnc67:=NB745_744.out
         obtain ⟨Z68_0,Z68_1,Z68_2,Z68_3,Z68_4,Y68_0,Y68_1,Y68_2,Y68_3,Y68_4⟩:=op5_ BK744.out
         try go_wp2
         have n0_:=Aside0.mk (blk_drew BK744.out)
         have n1_:=Aside0.mk (blk_drew BK745.out)
         have n2_:=Aside0.mk (below_drew1 HB.out)
         clear BK744
         clear BK745
         clear HB
         have BK744:=n0_
         have BK745:=n1_
         have HB:=n2_
         clear n0_ n1_ n2_
         refine start_ (n:=11) (S:=fun w'=>w'.cell? ⟨gb744,0,none⟩=some (.int .i64 a1_0)∧w'.cell? ⟨gb744,1,none⟩=some (.int .i64 a1_1)∧w'.cell? ⟨gb744,2,none⟩=some (.int .i64 a1_2)∧w'.cell? ⟨gb744,3,none⟩=some (.int .i64 a1_3)∧w'.cell? ⟨gb744,4,none⟩=some (.string a1_4)) (ds:=[]) #[false,false,false,false,false,false,false,false,false,false,false] (by kernel_rfl) rfl rfl ⟨(blk_cell BK744.out 0).trans rfl,(blk_cell BK744.out 1).trans rfl,(blk_cell BK744.out 2).trans rfl,(blk_cell BK744.out 3).trans rfl,(blk_cell BK744.out 4).trans rfl⟩ (fun hHeld=>?_);refine with_tabW spec_KeyBack.tab13 spec_KeyBack.bits13 (fun HT_ HW_=>?_)
         generalize wc.drew=w69 at BK744 BK745 HB hHeld ⊢
         refine pa_ 0 72 ?_
         refine pa_ 2 74 ?_
         refine pa_ 3 75 ?_
         refine pa_ 5 77 ?_
         refine pa_ 6 78 ?_
         refine ta5_ 1 73 hHeld ?_
         refine on_ 4 76 (fun K hK=>?_)
         refine goes_ Tryd.func82 (by kernel_rfl) rfl #[.slice A0 l0.length c0,.int .i64 t748] (by rfl) rfl rfl ar_ ?_
         with_reducible refine (spec_l2Up.calls kj40 _ _ l0 t748 t764 _ ?side1 ?side2 A64.out).mono ?_
         (case side1=>exact cp_ HR0.out)
         (case side2=>exact HC0.out)
         rintro e w' ⟨rfl,⟨nd,rfl⟩⟩
         refine ⟨_,rfl,?_⟩
         refine hK.out _ _ ⟨(blk_cell BK744.out 0).trans rfl,(blk_cell BK744.out 1).trans rfl,(blk_cell BK744.out 2).trans rfl,(blk_cell BK744.out 3).trans rfl,(blk_cell BK744.out 4).trans rfl⟩ (fun hHeld=>?_)
         clear hK K
         refine no_ 76 ?_
         refine on_ 7 79 (fun K hK=>?_)
         refine goes_ Tryd.func83 (by kernel_rfl) rfl #[.slice A0 l0.length c0,.int .i64 t748] (by rfl) rfl rfl ar_ ?_
         with_reducible refine (spec_l2Ahead.calls kj40 _ _ l0 t748 t765 _ ?side1 ?side2 A65.out).mono ?_
         (case side1=>repeat (first|exact (Kd.C_below HR0.out (bel_))|(with_reducible refine Kd.C_alloc ?_ _)|(with_reducible refine Kd.C_drewN ?_ _)|(with_reducible refine Kd.C_drew ?_)))
         (case side2=>exact HC0.out)
         rintro e w' ⟨rfl,⟨nd,rfl⟩⟩
         refine ⟨_,rfl,?_⟩
         refine hK.out _ _ ⟨(blk_cell BK744.out 0).trans rfl,(blk_cell BK744.out 1).trans rfl,(blk_cell BK744.out 2).trans rfl,(blk_cell BK744.out 3).trans rfl,(blk_cell BK744.out 4).trans rfl⟩ (fun hHeld=>?_)
         clear hK K
         refine no_ 79 ?_
         refine on_ 8 80 (fun K hK=>?_)
         refine goes_ Tryd.func56 (by kernel_rfl) rfl #[.int .i64 a1_1,.int .i64 t764,.int .i64 t765] (by rfl) rfl rfl ar_ ?_
         with_reducible refine (spec_l11Move.calls a1_1 t764 t765 t766 t767 t768 t769 t770 _ A66.out).mono ?_
         rintro e w70 ⟨rfl,hb⟩
         refine ⟨_,rfl,?_⟩
         have n0_:=Aside0.mk (bb_ BK744.out hb)
         have n1_:=Aside0.mk (bb_ BK745.out hb)
         have n2_:=Aside0.mk (below_step (bel_) hb)
         clear BK744
         clear BK745
         clear HB
         have BK744:=n0_
         have BK745:=n1_
         have HB:=n2_
         clear n0_ n1_ n2_
         (try clear hb)
         (try clear hb2)
         (try clear hk)
         (try clear hi)
         refine hK.out _ _ ⟨(blk_cell BK744.out 0).trans rfl,(blk_cell BK744.out 1).trans rfl,(blk_cell BK744.out 2).trans rfl,(blk_cell BK744.out 3).trans rfl,(blk_cell BK744.out 4).trans rfl⟩ (fun hHeld=>?_)
         clear hK K
         refine no_ 80 ?_
         refine one_ (i:=9) (N:=none) #[true,true,true,true,true,true,true,true,true,true,false] rfl rfl (one_of HT_.out (by kernel_rfl)) (by decide) (fun K hK=>?_)
         have hs71:w70.cell? ⟨gb745,0,none⟩=some (.int .i64 0):=(blk_cell BK745.out 0).trans rfl
         have hfs71:=blk_frozen BK745.out 0
         have hns71_0:=NB744_745.out
         have hms71_0:=NB745_744.out
         have hs72:w70.cell? ⟨gb745,1,none⟩=some (.int .i64 0):=(blk_cell BK745.out 1).trans rfl
         have hfs72:=blk_frozen BK745.out 1
         have hns72_0:=NB744_745.out
         have hms72_0:=NB745_744.out
         have hs73:w70.cell? ⟨gb745,2,none⟩=some (.int .i64 0):=(blk_cell BK745.out 2).trans rfl
         have hfs73:=blk_frozen BK745.out 2
         have hns73_0:=NB744_745.out
         have hms73_0:=NB745_744.out
         have hs74:w70.cell? ⟨gb745,3,none⟩=some (.int .i64 0):=(blk_cell BK745.out 3).trans rfl
         have hfs74:=blk_frozen BK745.out 3
         have hns74_0:=NB744_745.out
         have hms74_0:=NB745_744.out
         have hs75:w70.cell? ⟨gb745,4,none⟩=some (.string (⟨#[]⟩:ByteArray)):=(blk_cell BK745.out 4).trans rfl
         have hfs75:=blk_frozen BK745.out 4
         have hns75_0:=NB744_745.out
         have hms75_0:=NB745_744.out
         refine skip_ (w1:=?_) (by rfl) rfl ?_ ?_
         rotate_left
         ·go_simp
          rfl
         refine hK.out _ _ ⟨((cell_far (p:=⟨gb745,_,none⟩) NB744_745.out _).trans (((cell_far (p:=⟨gb745,_,none⟩) NB744_745.out _).trans (((cell_far (p:=⟨gb745,_,none⟩) NB744_745.out _).trans (((cell_far (p:=⟨gb745,_,none⟩) NB744_745.out _).trans (((cell_far (p:=⟨gb745,_,none⟩) NB744_745.out _).trans (hHeld.1)))))))))),((cell_far (p:=⟨gb745,_,none⟩) NB744_745.out _).trans (((cell_far (p:=⟨gb745,_,none⟩) NB744_745.out _).trans (((cell_far (p:=⟨gb745,_,none⟩) NB744_745.out _).trans (((cell_far (p:=⟨gb745,_,none⟩) NB744_745.out _).trans (((cell_far (p:=⟨gb745,_,none⟩) NB744_745.out _).trans (hHeld.2.1)))))))))),((cell_far (p:=⟨gb745,_,none⟩) NB744_745.out _).trans (((cell_far (p:=⟨gb745,_,none⟩) NB744_745.out _).trans (((cell_far (p:=⟨gb745,_,none⟩) NB744_745.out _).trans (((cell_far (p:=⟨gb745,_,none⟩) NB744_745.out _).trans (((cell_far (p:=⟨gb745,_,none⟩) NB744_745.out _).trans (hHeld.2.2.1)))))))))),((cell_far (p:=⟨gb745,_,none⟩) NB744_745.out _).trans (((cell_far (p:=⟨gb745,_,none⟩) NB744_745.out _).trans (((cell_far (p:=⟨gb745,_,none⟩) NB744_745.out _).trans (((cell_far (p:=⟨gb745,_,none⟩) NB744_745.out _).trans (((cell_far (p:=⟨gb745,_,none⟩) NB744_745.out _).trans (hHeld.2.2.2.1)))))))))),((cell_far (p:=⟨gb745,_,none⟩) NB744_745.out _).trans (((cell_far (p:=⟨gb745,_,none⟩) NB744_745.out _).trans (((cell_far (p:=⟨gb745,_,none⟩) NB744_745.out _).trans (((cell_far (p:=⟨gb745,_,none⟩) NB744_745.out _).trans (((cell_far (p:=⟨gb745,_,none⟩) NB744_745.out _).trans (hHeld.2.2.2.2))))))))))⟩ (fun hHeld=>?_)
         clear hK K
         refine pa_ 10 5 ?_
         refine done_ (done_of HT_.out (by kernel_rfl)) ?_
         try go_wp2
         refine bodyPost_ret (results_ct rfl _ _ gb745 27 #[.int .i64 t766,.int .i64 t767,.int .i64 t768,.int .i64 t769,.string t770] (0,0) _ rfl (by (with_reducible repeat (first|refine blk_drewN ?_ _|refine blk_drew ?_|refine blk_alloc ?_ _));exact bk5_ (bp_ BK745.out)) Tryd.underlying27 rfl (by kernel_rfl)) rfl ?_
         exact ⟨fi_,bel_⟩

def laws_toRow.f (a0_0:Int) (a0_1:Int) (a0_2:ByteArray):Option (Int×Int×ByteArray):=some (a0_0,a0_1,a0_2)
theorem laws_toRow.calls (a0_0:Int) (a0_1:Int) (a0_2:ByteArray) (r1:Int) (r2:Int) (r3:ByteArray) (w:World) (h:laws_toRow.f a0_0 a0_1 a0_2=some (r1,r2,r3)) :
  Calls Tryd.prog 84 #[.agg #[.int .i64 a0_0,.int .i64 a0_1,.string a0_2]] w fun e w'=>e=.returned (.agg #[.int .i64 r1,.int .i64 r2,.string r3])∧Below w.heap.size w w':=by
 have hu91:=Tryd.underlying91
 have hu37:=Tryd.underlying37
 have HB:=Aside0.mk (Below.refl w.heap.size w)
 unfold laws_toRow.f at h
 have H:=h
 clear h
 simp only [Option.some.injEq,Prod.mk.injEq] at H
 obtain ⟨rfl,rfl,rfl⟩:=H
 go_enter Tryd.func84,Tryd.ntmps84
 go_wp2_with (first|((with_reducible refine gate_dst (N:=1) rfl ?_);refine bx_ 1 (#[.int .i64 a0_0,.int .i64 a0_1,.string a0_2]) 91 ?_;intro gb771 hg w2 hbox hb;have n0_:=Aside0.mk (below_step (bel_) hb);have n1_:=Aside0.mk (hbox);have n2_:=Aside0.mk ((by rw [hg];exact (below_size (bel_)):w.heap.size≤gb771));have n3_:=Aside0.mk ((by rw [hg];exact (below_size (bel_)):w.heap.size≤gb771));clear HB;have HB:=n0_;have BK771:=n1_;have GW771:=n2_;have GE771:=n3_;clear n0_ n1_ n2_ n3_;clear hb hbox hg)|((with_reducible refine gate_dst (N:=2) rfl ?_);refine bx_ 2 (#[.int .i64 0,.int .i64 0,.string (⟨#[]⟩:ByteArray)]) 37 ?_;intro gb772 hg w3 hbox hb;have n0_:=Aside0.mk (bb_ BK771.out hb);have n1_:=Aside0.mk (below_step (bel_) hb);have n2_:=Aside0.mk (hbox);have n3_:=Aside0.mk ((by rw [hg];exact (below_size (bel_)):w.heap.size≤gb772));have n4_:=Aside0.mk ((by rw [hg];exact (below_size (bel_)):w.heap.size≤gb772));have n5_:=Aside0.mk ((by rw [hg];exact Nat.ne_of_lt (blk_lt (g:=gb771) (o:=.cells #[.int .i64 a0_0,.int .i64 a0_1,.string a0_2] 91 (0,0)) (bp_ BK771.out)):gb771≠gb772));have n6_:=Aside0.mk ((by rw [hg];exact Nat.ne_of_gt (blk_lt (g:=gb771) (o:=.cells #[.int .i64 a0_0,.int .i64 a0_1,.string a0_2] 91 (0,0)) (bp_ BK771.out)):gb772≠gb771));clear BK771;clear HB;have BK771:=n0_;have HB:=n1_;have BK772:=n2_;have GW772:=n3_;have GE772:=n4_;have NB771_772:=n5_;have NB772_771:=n6_;clear n0_ n1_ n2_ n3_ n4_ n5_ n6_;clear hb hbox hg)|((with_reducible refine gate_dst (N:=3) rfl ?_);refine bx_ 3 (#[.int .i64 0,.int .i64 0,.string (⟨#[]⟩:ByteArray)]) 37 ?_;intro gb773 hg w4 hbox hb;have n0_:=Aside0.mk (bb_ BK771.out hb);have n1_:=Aside0.mk (bb_ BK772.out hb);have n2_:=Aside0.mk (below_step (bel_) hb);have n3_:=Aside0.mk (hbox);have n4_:=Aside0.mk ((by rw [hg];exact (below_size (bel_)):w.heap.size≤gb773));have n5_:=Aside0.mk ((by rw [hg];exact (below_size (bel_)):w.heap.size≤gb773));have n6_:=Aside0.mk ((by rw [hg];exact Nat.ne_of_lt (blk_lt (g:=gb771) (o:=.cells #[.int .i64 a0_0,.int .i64 a0_1,.string a0_2] 91 (0,0)) (bp_ BK771.out)):gb771≠gb773));have n7_:=Aside0.mk ((by rw [hg];exact Nat.ne_of_gt (blk_lt (g:=gb771) (o:=.cells #[.int .i64 a0_0,.int .i64 a0_1,.string a0_2] 91 (0,0)) (bp_ BK771.out)):gb773≠gb771));have n8_:=Aside0.mk ((by rw [hg];exact Nat.ne_of_lt (blk_lt (g:=gb772) (o:=.cells #[.int .i64 0,.int .i64 0,.string (⟨#[]⟩:ByteArray)] 37 (0,0)) (bp_ BK772.out)):gb772≠gb773));have n9_:=Aside0.mk ((by rw [hg];exact Nat.ne_of_gt (blk_lt (g:=gb772) (o:=.cells #[.int .i64 0,.int .i64 0,.string (⟨#[]⟩:ByteArray)] 37 (0,0)) (bp_ BK772.out)):gb773≠gb772));clear BK771;clear BK772;clear HB;have BK771:=n0_;have BK772:=n1_;have HB:=n2_;have BK773:=n3_;have GW773:=n4_;have GE773:=n5_;have NB771_773:=n6_;have NB773_771:=n7_;have NB772_773:=n8_;have NB773_772:=n9_;clear n0_ n1_ n2_ n3_ n4_ n5_ n6_ n7_ n8_ n9_;clear hb hbox hg;have hnb5:=NB771_772.out;have hnc5:=NB772_771.out;have hnb6:=NB771_773.out;have hnc6:=NB773_771.out;obtain ⟨Z7_0,Z7_1,Z7_2,Y7_0,Y7_1,Y7_2⟩:=op3_ BK771.out;have hnb8:=NB773_772.out;have hnc8:=NB772_773.out;obtain ⟨Z9_0,Z9_1,Z9_2,Y9_0,Y9_1,Y9_2⟩:=op3_ BK773.out;obtain ⟨Z10_0,Z10_1,Z10_2,Y10_0,Y10_1,Y10_2⟩:=op3_ BK772.out))
 refine bodyPost_ret (results_cell_row rfl _ _ gb772 37 #[.int .i64 a0_0,.int .i64 a0_1,.string a0_2] (0,0) _ rfl (by (with_reducible repeat (first|refine blk_drewN ?_ _|refine blk_drew ?_|refine blk_alloc ?_ _));refine blk_put (cs:=#[.int .i64 a0_0,.int .i64 a0_1,.string (⟨#[]⟩:ByteArray)]) ?_ 2 _ rfl;(with_reducible repeat (first|refine blk_drewN ?_ _|refine blk_drew ?_|refine blk_alloc ?_ _));refine blk_put (cs:=#[.int .i64 a0_0,.int .i64 0,.string (⟨#[]⟩:ByteArray)]) ?_ 1 _ rfl;(with_reducible repeat (first|refine blk_drewN ?_ _|refine blk_drew ?_|refine blk_alloc ?_ _));refine blk_put (cs:=#[.int .i64 0,.int .i64 0,.string (⟨#[]⟩:ByteArray)]) ?_ 0 _ rfl;(with_reducible repeat (first|refine blk_drewN ?_ _|refine blk_drew ?_|refine blk_alloc ?_ _));refine blk_far ?_ NB772_773.out _;(with_reducible repeat (first|refine blk_drewN ?_ _|refine blk_drew ?_|refine blk_alloc ?_ _));refine blk_far ?_ NB772_773.out _;(with_reducible repeat (first|refine blk_drewN ?_ _|refine blk_drew ?_|refine blk_alloc ?_ _));refine blk_far ?_ NB772_773.out _;(with_reducible repeat (first|refine blk_drewN ?_ _|refine blk_drew ?_|refine blk_alloc ?_ _));exact BK772.out) Tryd.underlying37 rfl (by kernel_rfl)) rfl ?_
 exact ⟨fi_,bel_⟩

def laws_toRowS.l0:Nat→List (S91)→List (S37)→Int→Option ((List (S37)))
 | 0,_,_,_=>none
 | k+1,x0,x3,x4=>if x4 < (x0.length:Int) then (if 0≤x4 then ((laws_toRow.f ((rd_T91 x0 x4).f0) ((rd_T91 x0 x4).f1) ((rd_T91 x0 x4).f2)).bind fun bt778=>(if x4 < (x3.length:Int) then (laws_toRowS.l0 k x0 (x3.set (x4:Int).toNat (⟨bt778.1,bt778.2.1,bt778.2.2⟩:S37)) (wrap64 (x4+1))) else (none))) else (none)) else (some x3)
def laws_toRowS.f (k:Nat) (l0:List (S91)):Option ((List (S37))):=if 0≤(l0.length:Int) then (if ((l0.length:Int):Int).toNat≤8796093022208 then (laws_toRowS.l0 k l0 (List.replicate ((l0.length:Int):Int).toNat z37) 0) else (none)) else (none)
theorem laws_toRowS.mono_l:∀ k,(∀ y0 y1 y2,LeO (laws_toRowS.l0 k y0 y1 y2) (laws_toRowS.l0 (k+1) y0 y1 y2))
 | 0=>fun _ _ _ r h=>by simp [laws_toRowS.l0] at h
 | k+1=>by
  have ih0:=laws_toRowS.mono_l k
  ·intro y0 y1 y2
   unfold laws_toRowS.l0
   repeat' first
   | (with_reducible exact ih0 _ _ _)
   | (with_reducible exact LeO.refl _)
   | (with_reducible exact LeO.none _)
   | (with_reducible refine LeO.ite ?_ ?_)
   | (with_reducible refine LeO.bind ?_ (fun _=>?_))
theorem laws_toRowS.mono:∀ a0 k,LeO (laws_toRowS.f k a0) (laws_toRowS.f (k+1) a0):=by
 intro a0 k
 have ih0:=laws_toRowS.mono_l k
 unfold laws_toRowS.f
 repeat' first
   | (with_reducible exact ih0 _ _ _)
   | (with_reducible exact LeO.refl _)
   | (with_reducible exact LeO.none _)
   | (with_reducible refine LeO.ite ?_ ?_)
   | (with_reducible refine LeO.bind ?_ (fun _=>?_))
theorem laws_toRowS.calls (k:Nat) (A0:Option Addr) (c0:Nat) (l0:List (S91)) (r:List (S37)) (w:World) (hr0:Kd.C k91 w A0 l0.length l0) (hc0:l0.length≤c0) (h:laws_toRowS.f k l0=some r) :
  Calls Tryd.prog 42 #[.slice A0 l0.length c0] w fun e w'=>∃ v0_:Value,e=.returned (v0_)∧Kd.R k37 37 w' w.heap.size (fun _=>True) v0_ r∧Below w.heap.size w w':=by
 have hu91:=Tryd.underlying91
 have hu37:=Tryd.underlying37
 have HR0:=Aside0.mk hr0
 have HC0:=Aside0.mk hc0
 clear hr0 hc0
 have HB:=Aside0.mk (Below.refl w.heap.size w)
 unfold laws_toRowS.f at h
 have H:=h
 clear h
 by_cases c2:0≤(l0.length:Int)
 ·rw [if_pos c2] at H
  have c2b0:=eq_true c2
  have c2b1:decide (0≤(l0.length:Int))=true:=decide_eq_true c2
  clear c2
  by_cases c3:((l0.length:Int):Int).toNat≤8796093022208
  ·rw [if_pos c3] at H
   have c3b0:=eq_true c3
   have c3b1:decide (((l0.length:Int):Int).toNat≤8796093022208)=true:=decide_eq_true c3
   clear c3
   obtain ⟨y774,hy774⟩:∃ y_:List (S37),y_=(List.replicate ((l0.length:Int):Int).toNat z37):=⟨_,rfl⟩
   replace H:(laws_toRowS.l0 k l0 y774 0)=some r:=by first|(rw [hy774];with_reducible exact H)|(have H2_:=(Option.bind_some _ _).symm.trans H;rw [hy774];with_reducible exact H2_)|(have H2_:=(Option.bind_some _ _).symm.trans H;with_reducible exact H2_)|with_reducible exact H|(rw [hy774];exact H)|exact H
   have Ny774:=Aside0.mk hy774
   clear hy774
   have H':=Aside0.mk H
   clear H
   go_enter Tryd.func42,Tryd.ntmps42
   go_wp2_with (first|((with_reducible refine gate_dst (N:=7) rfl ?_);refine Kd.R_make k37 _ 37 rfl (N:=7) rfl 23 _ _ rfl (l0.length:Int) rfl rfl Tryd.underlying23 (.agg #[(.int .i64 0),(.int .i64 0),(.string ⟨#[]⟩)]) 32 info37 rfl (by decide) (by omega) z37 (ok:=fun _=>True) (okp:=fun _=>True) (k37_mkM _ _ _ z37 ) (fun _ hk=>hk) trivial (od_) (Nat.le_trans (Nat.mul_le_mul_right _ (od_:(l0.length:Int).toNat≤8796093022208)) (by omega)) (Below.refl _ _) (Nat.le_refl _) ?_;intro v775 w4 ho5 hb hg_ hnew_;clear hg_ hnew_;(first|rw [←Ny774.out] at ho5|(simp only [Int.reduceToNat] at ho5;rw [←Ny774.out] at ho5));have HO776:=Aside0.mk (Kd.R_lower ho5 (below_size (bel_)));replace HB:=Aside0.mk (below_step (bel_) hb);clear hb ho5))
   go_loopg [4] k (fun kq v4 w'=>∃ (x3_1:List (S37)) (x4_1:Int),v4=.int .i64 x4_1∧Aside0 (laws_toRowS.l0 kq l0 x3_1 x4_1=some r)∧Aside0 (kq≤k)∧Aside0 (Kd.R k37 37 w' w.heap.size (fun _=>True) v775 x3_1)∧Aside0 (Below w.heap.size w w'))
   case atStart=>exact ⟨(y774),(0),(si_),H',⟨Nat.le_refl _⟩,⟨by (with_reducible repeat (first|apply Kd.R_alloc|apply Kd.R_drewN|apply Kd.R_drew));exact HO776.out⟩,⟨bel_⟩⟩
   case round =>
    clear H'
    try clear c2
    try clear c2b0
    try clear c2b1
    try clear p2
    try clear c3
    try clear c3b0
    try clear c3b1
    try clear c4
    obtain ⟨x3_1,x4_1,rfl,HA,HK1,HO_3,HB⟩:=hrel
    cases gk with
    | zero=>exact absurd HA.out (by simp [laws_toRowS.l0])
    | succ k1 =>
     have H:=HA.out
     clear HA
     simp only [laws_toRowS.l0] at H
     by_cases c6:x4_1 < (l0.length:Int)
     ·rw [if_pos c6] at H
      have c6b0:decide (x4_1 < (l0.length:Int))=true:=decide_eq_true c6
      clear c6
      by_cases c7:0≤x4_1
      ·rw [if_pos c7] at H
       have c7b0:decide (0≤x4_1)=true:=decide_eq_true c7
       clear c7
       replace H:=Option.bind_eq_some_iff.mp H
       obtain ⟨⟨t778,t779,t780⟩,A80,H⟩:=H
       try dsimp only at H
       have A8:=Aside0.mk A80
       clear A80
       by_cases c9:x4_1 < (x3_1.length:Int)
       ·rw [if_pos c9] at H
        have c9b0:decide (x4_1 < (x3_1.length:Int))=true:=decide_eq_true c9
        clear c9
        obtain ⟨y781,hy781⟩:∃ y_:List (S37),y_=(x3_1.set (x4_1:Int).toNat (⟨t778,t779,t780⟩:S37)):=⟨_,rfl⟩
        replace H:(laws_toRowS.l0 k1 l0 y781 (wrap64 (x4_1+1)))=some r:=by first|(rw [hy781];with_reducible exact H)|(have H2_:=(Option.bind_some _ _).symm.trans H;rw [hy781];with_reducible exact H2_)|(have H2_:=(Option.bind_some _ _).symm.trans H;with_reducible exact H2_)|with_reducible exact H|(rw [hy781];exact H)|exact H
        have Ny781:=Aside0.mk hy781
        clear hy781
        have H':=Aside0.mk H
        clear H
        have p777:0≤(x4_1:Int):=od_
        have q777:x4_1 < (l0.length:Int):=od_
        obtain ⟨ad777,e777,hx777_0,hx777_1,hx777_2⟩:=at_T91 HR0.out x4_1 p777 q777
        cases e777
        replace hx777_0:=(cb_ HB.out hx777_0 :)
        replace hx777_1:=(cb_ HB.out hx777_1 :)
        replace hx777_2:=(cb_ HB.out hx777_2 :)
        replace p777:=eq_true p777
        replace q777:=eq_true q777
        go_wp2_with (first|((with_reducible refine gate_callee (f:=84) rfl ?_);refine gl_ 20 Tryd.func84 #[.agg #[.int .i64 ((rd_T91 l0 x4_1).f0),.int .i64 ((rd_T91 l0 x4_1).f1),.string ((rd_T91 l0 x4_1).f2)]] ?_;(with_reducible refine (laws_toRow.calls ((rd_T91 l0 x4_1).f0) ((rd_T91 l0 x4_1).f1) ((rd_T91 l0 x4_1).f2) t778 t779 t780 _ A8.out).mono ?_);rintro e w11 ⟨rfl,hb⟩;refine ⟨_,rfl,?_⟩;replace HO_3:=Aside0.mk (Kd.R_below (rp_ HO_3.out) hb);replace HB:=Aside0.mk (below_step (bel_) hb);(try clear hb);have p10:0≤(x4_1:Int):=od_;have q10:(x4_1:Int) < ((x3_1.length:Int):Int):=od_;obtain ⟨go10,co10,eo10,gb10,gl10,cl10,HG10⟩:=Kd.R_form HO_3.out (by omega);(first|cases eo10|(injection eo10 with ea_ en_ ec_;(first|subst ea_|(injection ea_ with ea_;subst ea_));subst ec_;clear en_));have GB10:=Aside0.mk gb10;have GG10:=Aside0.mk HG10;clear gb10 gl10 HG10;obtain ⟨ce10,hcl10,hM10,hcc10,hfr10⟩:=Kd.R_elem HO_3.out z37 (x4_1:Int) p10 q10;obtain rfl:=k37_openM hM10;have hx10_0:w11.cell? ⟨go10,(x4_1:Int).toNat * 3,none⟩=some (.int .i64 ((rd_T37 x3_1 x4_1).f0)):=hcc10 0 _ rfl;have hx10_1:w11.cell? ⟨go10,(x4_1:Int).toNat * 3+1,none⟩=some (.int .i64 ((rd_T37 x3_1 x4_1).f1)):=hcc10 1 _ rfl;have hx10_2:w11.cell? ⟨go10,(x4_1:Int).toNat * 3+2,none⟩=some (.string ((rd_T37 x3_1 x4_1).f2)):=hcc10 2 _ rfl;have hf10_0:w11.frozen? ⟨go10,(x4_1:Int).toNat * 3,none⟩=false:=hfr10 0;have hf10_1:w11.frozen? ⟨go10,(x4_1:Int).toNat * 3+1,none⟩=false:=hfr10 1;have hf10_2:w11.frozen? ⟨go10,(x4_1:Int).toNat * 3+2,none⟩=false:=hfr10 2;clear hcl10 hcc10 hfr10 hM10;replace p10:=eq_true p10;replace q10:=eq_true q10;have HX12:=Aside0.mk (show Kd.R k37 37 w11 w.heap.size (fun _=>True) (.slice (some ⟨go10,0,none⟩) x3_1.length co10) x3_1 from (rp_ HO_3.out));obtain ⟨ce12,hcl12,hM12,hcc12,hfr12⟩:=Kd.R_elem HX12.out z37 (x4_1:Int) (od_) (by have h_:(x4_1:Int) < ((x3_1.length:Int):Int):=od_;first|exact h_|(have e_:=(Kd.R_reads' HO_3.out).1;omega)|simpa using h_);obtain rfl:=k37_openM hM12;have HP12:=Kd.R_seg HX12.out (x4_1:Int) (od_) (by have h_:(x4_1:Int) < ((x3_1.length:Int):Int):=od_;first|exact h_|(have e_:=(Kd.R_reads' HO_3.out).1;omega)|simpa using h_) (seg:=[.int .i64 t778,.int .i64 t779,.string t780]) (j:=0) hcl12 hcc12 (show 3≤3 from by decide) (x':=(⟨t778,t779,t780⟩:S37)) (k37_mkM _ _ _ (⟨t778,t779,t780⟩:S37) ) (fun _ hk=>hk);have hx12_0:=hcc12 0 _ rfl;(try simp only [show (k37).sz=3 from rfl,Nat.mul_one,Nat.add_zero] at hx12_0);have hf12_0:=hfr12 0;(try simp only [show (k37).sz=3 from rfl,Nat.mul_one,Nat.add_zero] at hf12_0);have hx12_1:=hcc12 1 _ rfl;(try simp only [show (k37).sz=3 from rfl,Nat.mul_one,Nat.add_zero] at hx12_1);have hf12_1:=hfr12 1;(try simp only [show (k37).sz=3 from rfl,Nat.mul_one,Nat.add_zero] at hf12_1);have hx12_2:=hcc12 2 _ rfl;(try simp only [show (k37).sz=3 from rfl,Nat.mul_one,Nat.add_zero] at hx12_2);have hf12_2:=hfr12 2;(try simp only [show (k37).sz=3 from rfl,Nat.mul_one,Nat.add_zero] at hf12_2);clear hcl12 hcc12 hfr12 hM12)|((with_reducible refine gate_store (t:=37) (p:=21) rfl ?_);refine store_event (t:=37) (p:=21) (v:=?vo_w13) (w1:=(((w11.setCell ⟨go10,(x4_1:Int).toNat * 3,none⟩ (.int .i64 t778)).setCell ⟨go10,(x4_1:Int).toNat * 3+1,none⟩ (.int .i64 t779)).setCell ⟨go10,(x4_1:Int).toNat * 3+2,none⟩ (.string t780))) ?hg ?ho ?hn ?hr ?_;(case ho=>rfl);(case hg=>rfl);(case hn=>rfl);(case hr=>first|(go_simp;done)|(go_simp;rfl));intro w13 hw;have hg:w11.grownBy w13 (some go10):=(by rw [hw];exact HP12.2);have hp_:Kd.R k37 37 w13 w.heap.size (fun _=>True) (.slice (some ⟨go10,0,none⟩) x3_1.length co10) y781:=(by rw [hw,Ny781.out];exact HP12.1);clear HP12;have n0_:=Aside0.mk (hp_);have n1_:=Aside0.mk ((by rw [hw];exact below_set (below_set (below_set (HB.out) GB10.out) GB10.out) GB10.out:Below w.heap.size w w13));clear HO_3;clear HB;have HO_3:=n0_;have HB:=n1_;clear n0_ n1_;clear hg hw hp_))
        go_roundg k1
        case measure=>have:=HK1.out;omega
        case rel=>exact ⟨(y781),(wrap64 (x4_1+1)),(si_),H',⟨by have:=HK1.out;omega⟩,⟨by (with_reducible repeat (first|apply Kd.R_alloc|apply Kd.R_drewN|apply Kd.R_drew));exact HO_3.out⟩,⟨bel_⟩⟩
       ·rw [if_neg c9] at H
        exact absurd H (by simp)
      ·rw [if_neg c7] at H
       exact absurd H (by simp)
     ·rw [if_neg c6] at H
      have c6b0:decide (x4_1 < (l0.length:Int))=false:=decide_eq_false c6
      clear c6
      obtain rfl:=Option.some.inj H
      go_wp2
      go_ret
      exact ⟨_,fi_,by (with_reducible repeat (first|apply Kd.R_alloc|apply Kd.R_drewN|apply Kd.R_drew));exact HO_3.out,bel_⟩
  ·rw [if_neg c3] at H
   exact absurd H (by simp)
 ·rw [if_neg c2] at H
  exact absurd H (by simp)

def laws_toOp.f (a0_0:Int) (a0_1:Int) (a0_2:Int) (a0_3:Int) (a0_4:ByteArray):Option (Int×Int×Int×Int×ByteArray):=some (a0_0,a0_1,a0_2,a0_3,a0_4)
theorem laws_toOp.calls (a0_0:Int) (a0_1:Int) (a0_2:Int) (a0_3:Int) (a0_4:ByteArray) (r1:Int) (r2:Int) (r3:Int) (r4:Int) (r5:ByteArray) (w:World) (h:laws_toOp.f a0_0 a0_1 a0_2 a0_3 a0_4=some (r1,r2,r3,r4,r5)) :
  Calls Tryd.prog 43 #[.agg #[.int .i64 a0_0,.int .i64 a0_1,.int .i64 a0_2,.int .i64 a0_3,.string a0_4]] w fun e w'=>e=.returned (.agg #[.int .i64 r1,.int .i64 r2,.int .i64 r3,.int .i64 r4,.string r5])∧Below w.heap.size w w':=by
 have hu47:=Tryd.underlying47
 have hu27:=Tryd.underlying27
 have HB:=Aside0.mk (Below.refl w.heap.size w)
 unfold laws_toOp.f at h
 have H:=h
 clear h
 simp only [Option.some.injEq,Prod.mk.injEq] at H
 obtain ⟨rfl,rfl,rfl,rfl,rfl⟩:=H
 go_enter Tryd.func43,Tryd.ntmps43
 go_wp2_with (first|((with_reducible refine gate_dst (N:=1) rfl ?_);refine bx_ 1 (#[.int .i64 a0_0,.int .i64 a0_1,.int .i64 a0_2,.int .i64 a0_3,.string a0_4]) 47 ?_;intro gb782 hg w2 hbox hb;have n0_:=Aside0.mk (below_step (bel_) hb);have n1_:=Aside0.mk (hbox);have n2_:=Aside0.mk ((by rw [hg];exact (below_size (bel_)):w.heap.size≤gb782));have n3_:=Aside0.mk ((by rw [hg];exact (below_size (bel_)):w.heap.size≤gb782));clear HB;have HB:=n0_;have BK782:=n1_;have GW782:=n2_;have GE782:=n3_;clear n0_ n1_ n2_ n3_;clear hb hbox hg)|((with_reducible refine gate_dst (N:=2) rfl ?_);refine bx_ 2 (#[.int .i64 0,.int .i64 0,.int .i64 0,.int .i64 0,.string (⟨#[]⟩:ByteArray)]) 27 ?_;intro gb783 hg w3 hbox hb;have n0_:=Aside0.mk (bb_ BK782.out hb);have n1_:=Aside0.mk (below_step (bel_) hb);have n2_:=Aside0.mk (hbox);have n3_:=Aside0.mk ((by rw [hg];exact (below_size (bel_)):w.heap.size≤gb783));have n4_:=Aside0.mk ((by rw [hg];exact (below_size (bel_)):w.heap.size≤gb783));have n5_:=Aside0.mk ((by rw [hg];exact Nat.ne_of_lt (blk_lt (g:=gb782) (o:=.cells #[.int .i64 a0_0,.int .i64 a0_1,.int .i64 a0_2,.int .i64 a0_3,.string a0_4] 47 (0,0)) (bp_ BK782.out)):gb782≠gb783));have n6_:=Aside0.mk ((by rw [hg];exact Nat.ne_of_gt (blk_lt (g:=gb782) (o:=.cells #[.int .i64 a0_0,.int .i64 a0_1,.int .i64 a0_2,.int .i64 a0_3,.string a0_4] 47 (0,0)) (bp_ BK782.out)):gb783≠gb782));clear BK782;clear HB;have BK782:=n0_;have HB:=n1_;have BK783:=n2_;have GW783:=n3_;have GE783:=n4_;have NB782_783:=n5_;have NB783_782:=n6_;clear n0_ n1_ n2_ n3_ n4_ n5_ n6_;clear hb hbox hg)|((with_reducible refine gate_dst (N:=3) rfl ?_);refine bx_ 3 (#[.int .i64 0,.int .i64 0,.int .i64 0,.int .i64 0,.string (⟨#[]⟩:ByteArray)]) 27 ?_;intro gb784 hg w4 hbox hb;have n0_:=Aside0.mk (bb_ BK782.out hb);have n1_:=Aside0.mk (bb_ BK783.out hb);have n2_:=Aside0.mk (below_step (bel_) hb);have n3_:=Aside0.mk (hbox);have n4_:=Aside0.mk ((by rw [hg];exact (below_size (bel_)):w.heap.size≤gb784));have n5_:=Aside0.mk ((by rw [hg];exact (below_size (bel_)):w.heap.size≤gb784));have n6_:=Aside0.mk ((by rw [hg];exact Nat.ne_of_lt (blk_lt (g:=gb782) (o:=.cells #[.int .i64 a0_0,.int .i64 a0_1,.int .i64 a0_2,.int .i64 a0_3,.string a0_4] 47 (0,0)) (bp_ BK782.out)):gb782≠gb784));have n7_:=Aside0.mk ((by rw [hg];exact Nat.ne_of_gt (blk_lt (g:=gb782) (o:=.cells #[.int .i64 a0_0,.int .i64 a0_1,.int .i64 a0_2,.int .i64 a0_3,.string a0_4] 47 (0,0)) (bp_ BK782.out)):gb784≠gb782));have n8_:=Aside0.mk ((by rw [hg];exact Nat.ne_of_lt (blk_lt (g:=gb783) (o:=.cells #[.int .i64 0,.int .i64 0,.int .i64 0,.int .i64 0,.string (⟨#[]⟩:ByteArray)] 27 (0,0)) (bp_ BK783.out)):gb783≠gb784));have n9_:=Aside0.mk ((by rw [hg];exact Nat.ne_of_gt (blk_lt (g:=gb783) (o:=.cells #[.int .i64 0,.int .i64 0,.int .i64 0,.int .i64 0,.string (⟨#[]⟩:ByteArray)] 27 (0,0)) (bp_ BK783.out)):gb784≠gb783));clear BK782;clear BK783;clear HB;have BK782:=n0_;have BK783:=n1_;have HB:=n2_;have BK784:=n3_;have GW784:=n4_;have GE784:=n5_;have NB782_784:=n6_;have NB784_782:=n7_;have NB783_784:=n8_;have NB784_783:=n9_;clear n0_ n1_ n2_ n3_ n4_ n5_ n6_ n7_ n8_ n9_;clear hb hbox hg;have hnb5:=NB782_783.out;have hnc5:=NB783_782.out;have hnb6:=NB782_784.out;have hnc6:=NB784_782.out;obtain ⟨Z7_0,Z7_1,Z7_2,Z7_3,Z7_4,Y7_0,Y7_1,Y7_2,Y7_3,Y7_4⟩:=op5_ BK782.out;have hnb8:=NB784_783.out;have hnc8:=NB783_784.out;obtain ⟨Z9_0,Z9_1,Z9_2,Z9_3,Z9_4,Y9_0,Y9_1,Y9_2,Y9_3,Y9_4⟩:=op5_ BK784.out;obtain ⟨Z10_0,Z10_1,Z10_2,Z10_3,Z10_4,Y10_0,Y10_1,Y10_2,Y10_3,Y10_4⟩:=op5_ BK783.out))
 refine bodyPost_ret (results_cell_row rfl _ _ gb783 27 #[.int .i64 a0_0,.int .i64 a0_1,.int .i64 a0_2,.int .i64 a0_3,.string a0_4] (0,0) _ rfl (by (with_reducible repeat (first|refine blk_drewN ?_ _|refine blk_drew ?_|refine blk_alloc ?_ _));refine blk_put (cs:=#[.int .i64 a0_0,.int .i64 a0_1,.int .i64 a0_2,.int .i64 a0_3,.string (⟨#[]⟩:ByteArray)]) ?_ 4 _ rfl;(with_reducible repeat (first|refine blk_drewN ?_ _|refine blk_drew ?_|refine blk_alloc ?_ _));refine blk_put (cs:=#[.int .i64 a0_0,.int .i64 a0_1,.int .i64 a0_2,.int .i64 0,.string (⟨#[]⟩:ByteArray)]) ?_ 3 _ rfl;(with_reducible repeat (first|refine blk_drewN ?_ _|refine blk_drew ?_|refine blk_alloc ?_ _));refine blk_put (cs:=#[.int .i64 a0_0,.int .i64 a0_1,.int .i64 0,.int .i64 0,.string (⟨#[]⟩:ByteArray)]) ?_ 2 _ rfl;(with_reducible repeat (first|refine blk_drewN ?_ _|refine blk_drew ?_|refine blk_alloc ?_ _));refine blk_put (cs:=#[.int .i64 a0_0,.int .i64 0,.int .i64 0,.int .i64 0,.string (⟨#[]⟩:ByteArray)]) ?_ 1 _ rfl;(with_reducible repeat (first|refine blk_drewN ?_ _|refine blk_drew ?_|refine blk_alloc ?_ _));refine blk_put (cs:=#[.int .i64 0,.int .i64 0,.int .i64 0,.int .i64 0,.string (⟨#[]⟩:ByteArray)]) ?_ 0 _ rfl;(with_reducible repeat (first|refine blk_drewN ?_ _|refine blk_drew ?_|refine blk_alloc ?_ _));refine blk_far ?_ NB783_784.out _;(with_reducible repeat (first|refine blk_drewN ?_ _|refine blk_drew ?_|refine blk_alloc ?_ _));refine blk_far ?_ NB783_784.out _;(with_reducible repeat (first|refine blk_drewN ?_ _|refine blk_drew ?_|refine blk_alloc ?_ _));refine blk_far ?_ NB783_784.out _;(with_reducible repeat (first|refine blk_drewN ?_ _|refine blk_drew ?_|refine blk_alloc ?_ _));refine blk_far ?_ NB783_784.out _;(with_reducible repeat (first|refine blk_drewN ?_ _|refine blk_drew ?_|refine blk_alloc ?_ _));refine blk_far ?_ NB783_784.out _;(with_reducible repeat (first|refine blk_drewN ?_ _|refine blk_drew ?_|refine blk_alloc ?_ _));exact BK783.out) Tryd.underlying27 rfl (by kernel_rfl)) rfl ?_
 exact ⟨fi_,bel_⟩

def laws_eqOp.f (a0_0:Int) (a0_1:Int) (a0_2:Int) (a0_3:Int) (a0_4:ByteArray) (a1_0:Int) (a1_1:Int) (a1_2:Int) (a1_3:Int) (a1_4:ByteArray):Option (Bool):=if a0_0=a1_0 then (if a0_1=a1_1 then (if a0_2=a1_2 then (if a0_3=a1_3 then (if a0_4.toList=a1_4.toList then (some true) else (some false)) else (some false)) else (some false)) else (some false)) else (some false)
theorem laws_eqOp.calls (a0_0:Int) (a0_1:Int) (a0_2:Int) (a0_3:Int) (a0_4:ByteArray) (a1_0:Int) (a1_1:Int) (a1_2:Int) (a1_3:Int) (a1_4:ByteArray) (r:Bool) (w:World) (h:laws_eqOp.f a0_0 a0_1 a0_2 a0_3 a0_4 a1_0 a1_1 a1_2 a1_3 a1_4=some r) :
  Calls Tryd.prog 44 #[.agg #[.int .i64 a0_0,.int .i64 a0_1,.int .i64 a0_2,.int .i64 a0_3,.string a0_4],.agg #[.int .i64 a1_0,.int .i64 a1_1,.int .i64 a1_2,.int .i64 a1_3,.string a1_4]] w fun e w'=>e=.returned (.bool r)∧Below w.heap.size w w':=by
 have hu27:=Tryd.underlying27
 have HB:=Aside0.mk (Below.refl w.heap.size w)
 unfold laws_eqOp.f at h
 have H:=h
 clear h
 by_cases c3:a0_0=a1_0
 ·rw [if_pos c3] at H
  have c3b0:(a0_0==a1_0)=true:=beq_iff_eq.mpr c3
  have c3b1:(a0_0 != a1_0)=false:=bne_eq_false_iff_eq.mpr c3
  clear c3
  by_cases c4:a0_1=a1_1
  ·rw [if_pos c4] at H
   have c4b0:(a0_1==a1_1)=true:=beq_iff_eq.mpr c4
   have c4b1:(a0_1 != a1_1)=false:=bne_eq_false_iff_eq.mpr c4
   clear c4
   by_cases c5:a0_2=a1_2
   ·rw [if_pos c5] at H
    have c5b0:(a0_2==a1_2)=true:=beq_iff_eq.mpr c5
    have c5b1:(a0_2 != a1_2)=false:=bne_eq_false_iff_eq.mpr c5
    clear c5
    by_cases c6:a0_3=a1_3
    ·rw [if_pos c6] at H
     have c6b0:(a0_3==a1_3)=true:=beq_iff_eq.mpr c6
     have c6b1:(a0_3 != a1_3)=false:=bne_eq_false_iff_eq.mpr c6
     clear c6
     by_cases c7:a0_4.toList=a1_4.toList
     ·rw [if_pos c7] at H
      have c7b0:(a0_4.toList==a1_4.toList)=true:=beq_iff_eq.mpr c7
      have c7b1:(a0_4.toList != a1_4.toList)=false:=bne_eq_false_iff_eq.mpr c7
      clear c7
      obtain rfl:=Option.some.inj H
      go_enter Tryd.func44,Tryd.ntmps44
      go_wp2_with (first|((with_reducible refine gate_dst (N:=2) rfl ?_);refine bx_ 2 (#[.int .i64 a0_0,.int .i64 a0_1,.int .i64 a0_2,.int .i64 a0_3,.string a0_4]) 27 ?_;intro gb785 hg w8 hbox hb;have n0_:=Aside0.mk (below_step (bel_) hb);have n1_:=Aside0.mk (hbox);have n2_:=Aside0.mk ((by rw [hg];exact (below_size (bel_)):w.heap.size≤gb785));have n3_:=Aside0.mk ((by rw [hg];exact (below_size (bel_)):w.heap.size≤gb785));clear HB;have HB:=n0_;have BK785:=n1_;have GW785:=n2_;have GE785:=n3_;clear n0_ n1_ n2_ n3_;clear hb hbox hg)|((with_reducible refine gate_dst (N:=3) rfl ?_);refine bx_ 3 (#[.int .i64 a1_0,.int .i64 a1_1,.int .i64 a1_2,.int .i64 a1_3,.string a1_4]) 27 ?_;intro gb786 hg w9 hbox hb;have n0_:=Aside0.mk (bb_ BK785.out hb);have n1_:=Aside0.mk (below_step (bel_) hb);have n2_:=Aside0.mk (hbox);have n3_:=Aside0.mk ((by rw [hg];exact (below_size (bel_)):w.heap.size≤gb786));have n4_:=Aside0.mk ((by rw [hg];exact (below_size (bel_)):w.heap.size≤gb786));have n5_:=Aside0.mk ((by rw [hg];exact Nat.ne_of_lt (blk_lt (g:=gb785) (o:=.cells #[.int .i64 a0_0,.int .i64 a0_1,.int .i64 a0_2,.int .i64 a0_3,.string a0_4] 27 (0,0)) (bp_ BK785.out)):gb785≠gb786));have n6_:=Aside0.mk ((by rw [hg];exact Nat.ne_of_gt (blk_lt (g:=gb785) (o:=.cells #[.int .i64 a0_0,.int .i64 a0_1,.int .i64 a0_2,.int .i64 a0_3,.string a0_4] 27 (0,0)) (bp_ BK785.out)):gb786≠gb785));clear BK785;clear HB;have BK785:=n0_;have HB:=n1_;have BK786:=n2_;have GW786:=n3_;have GE786:=n4_;have NB785_786:=n5_;have NB786_785:=n6_;clear n0_ n1_ n2_ n3_ n4_ n5_ n6_;clear hb hbox hg;have hnb10:=NB785_786.out;have hnc10:=NB786_785.out;obtain ⟨Z11_0,Z11_1,Z11_2,Z11_3,Z11_4,Y11_0,Y11_1,Y11_2,Y11_3,Y11_4⟩:=op5_ BK785.out;obtain ⟨Z12_0,Z12_1,Z12_2,Z12_3,Z12_4,Y12_0,Y12_1,Y12_2,Y12_3,Y12_4⟩:=op5_ BK786.out))
      go_ret
      exact ⟨fi_,bel_⟩
     ·rw [if_neg c7] at H
      have c7b0:(a0_4.toList==a1_4.toList)=false:=beq_eq_false_iff_ne.mpr c7
      have c7b1:(a0_4.toList != a1_4.toList)=true:=bne_iff_ne.mpr c7
      obtain rfl:=Option.some.inj H
      go_enter Tryd.func44,Tryd.ntmps44
      go_wp2_with (first|((with_reducible refine gate_dst (N:=2) rfl ?_);refine bx_ 2 (#[.int .i64 a0_0,.int .i64 a0_1,.int .i64 a0_2,.int .i64 a0_3,.string a0_4]) 27 ?_;intro gb785 hg w13 hbox hb;have n0_:=Aside0.mk (below_step (bel_) hb);have n1_:=Aside0.mk (hbox);have n2_:=Aside0.mk ((by rw [hg];exact (below_size (bel_)):w.heap.size≤gb785));have n3_:=Aside0.mk ((by rw [hg];exact (below_size (bel_)):w.heap.size≤gb785));clear HB;have HB:=n0_;have BK785:=n1_;have GW785:=n2_;have GE785:=n3_;clear n0_ n1_ n2_ n3_;clear hb hbox hg)|((with_reducible refine gate_dst (N:=3) rfl ?_);refine bx_ 3 (#[.int .i64 a1_0,.int .i64 a1_1,.int .i64 a1_2,.int .i64 a1_3,.string a1_4]) 27 ?_;intro gb786 hg w14 hbox hb;have n0_:=Aside0.mk (bb_ BK785.out hb);have n1_:=Aside0.mk (below_step (bel_) hb);have n2_:=Aside0.mk (hbox);have n3_:=Aside0.mk ((by rw [hg];exact (below_size (bel_)):w.heap.size≤gb786));have n4_:=Aside0.mk ((by rw [hg];exact (below_size (bel_)):w.heap.size≤gb786));have n5_:=Aside0.mk ((by rw [hg];exact Nat.ne_of_lt (blk_lt (g:=gb785) (o:=.cells #[.int .i64 a0_0,.int .i64 a0_1,.int .i64 a0_2,.int .i64 a0_3,.string a0_4] 27 (0,0)) (bp_ BK785.out)):gb785≠gb786));have n6_:=Aside0.mk ((by rw [hg];exact Nat.ne_of_gt (blk_lt (g:=gb785) (o:=.cells #[.int .i64 a0_0,.int .i64 a0_1,.int .i64 a0_2,.int .i64 a0_3,.string a0_4] 27 (0,0)) (bp_ BK785.out)):gb786≠gb785));clear BK785;clear HB;have BK785:=n0_;have HB:=n1_;have BK786:=n2_;have GW786:=n3_;have GE786:=n4_;have NB785_786:=n5_;have NB786_785:=n6_;clear n0_ n1_ n2_ n3_ n4_ n5_ n6_;clear hb hbox hg;have hnb15:=NB785_786.out;have hnc15:=NB786_785.out;obtain ⟨Z16_0,Z16_1,Z16_2,Z16_3,Z16_4,Y16_0,Y16_1,Y16_2,Y16_3,Y16_4⟩:=op5_ BK785.out;obtain ⟨Z17_0,Z17_1,Z17_2,Z17_3,Z17_4,Y17_0,Y17_1,Y17_2,Y17_3,Y17_4⟩:=op5_ BK786.out))
      go_ret
      exact ⟨fi_,bel_⟩
    ·rw [if_neg c6] at H
     have c6b0:(a0_3==a1_3)=false:=beq_eq_false_iff_ne.mpr c6
     have c6b1:(a0_3 != a1_3)=true:=bne_iff_ne.mpr c6
     obtain rfl:=Option.some.inj H
     go_enter Tryd.func44,Tryd.ntmps44
     go_wp2_with (first|((with_reducible refine gate_dst (N:=2) rfl ?_);refine bx_ 2 (#[.int .i64 a0_0,.int .i64 a0_1,.int .i64 a0_2,.int .i64 a0_3,.string a0_4]) 27 ?_;intro gb785 hg w18 hbox hb;have n0_:=Aside0.mk (below_step (bel_) hb);have n1_:=Aside0.mk (hbox);have n2_:=Aside0.mk ((by rw [hg];exact (below_size (bel_)):w.heap.size≤gb785));have n3_:=Aside0.mk ((by rw [hg];exact (below_size (bel_)):w.heap.size≤gb785));clear HB;have HB:=n0_;have BK785:=n1_;have GW785:=n2_;have GE785:=n3_;clear n0_ n1_ n2_ n3_;clear hb hbox hg)|((with_reducible refine gate_dst (N:=3) rfl ?_);refine bx_ 3 (#[.int .i64 a1_0,.int .i64 a1_1,.int .i64 a1_2,.int .i64 a1_3,.string a1_4]) 27 ?_;intro gb786 hg w19 hbox hb;have n0_:=Aside0.mk (bb_ BK785.out hb);have n1_:=Aside0.mk (below_step (bel_) hb);have n2_:=Aside0.mk (hbox);have n3_:=Aside0.mk ((by rw [hg];exact (below_size (bel_)):w.heap.size≤gb786));have n4_:=Aside0.mk ((by rw [hg];exact (below_size (bel_)):w.heap.size≤gb786));have n5_:=Aside0.mk ((by rw [hg];exact Nat.ne_of_lt (blk_lt (g:=gb785) (o:=.cells #[.int .i64 a0_0,.int .i64 a0_1,.int .i64 a0_2,.int .i64 a0_3,.string a0_4] 27 (0,0)) (bp_ BK785.out)):gb785≠gb786));have n6_:=Aside0.mk ((by rw [hg];exact Nat.ne_of_gt (blk_lt (g:=gb785) (o:=.cells #[.int .i64 a0_0,.int .i64 a0_1,.int .i64 a0_2,.int .i64 a0_3,.string a0_4] 27 (0,0)) (bp_ BK785.out)):gb786≠gb785));clear BK785;clear HB;have BK785:=n0_;have HB:=n1_;have BK786:=n2_;have GW786:=n3_;have GE786:=n4_;have NB785_786:=n5_;have NB786_785:=n6_;clear n0_ n1_ n2_ n3_ n4_ n5_ n6_;clear hb hbox hg;have hnb20:=NB785_786.out;have hnc20:=NB786_785.out;obtain ⟨Z21_0,Z21_1,Z21_2,Z21_3,Z21_4,Y21_0,Y21_1,Y21_2,Y21_3,Y21_4⟩:=op5_ BK785.out;obtain ⟨Z22_0,Z22_1,Z22_2,Z22_3,Z22_4,Y22_0,Y22_1,Y22_2,Y22_3,Y22_4⟩:=op5_ BK786.out))
     go_ret
     exact ⟨fi_,bel_⟩
   ·rw [if_neg c5] at H
    have c5b0:(a0_2==a1_2)=false:=beq_eq_false_iff_ne.mpr c5
    have c5b1:(a0_2 != a1_2)=true:=bne_iff_ne.mpr c5
    obtain rfl:=Option.some.inj H
    go_enter Tryd.func44,Tryd.ntmps44
    go_wp2_with (first|((with_reducible refine gate_dst (N:=2) rfl ?_);refine bx_ 2 (#[.int .i64 a0_0,.int .i64 a0_1,.int .i64 a0_2,.int .i64 a0_3,.string a0_4]) 27 ?_;intro gb785 hg w23 hbox hb;have n0_:=Aside0.mk (below_step (bel_) hb);have n1_:=Aside0.mk (hbox);have n2_:=Aside0.mk ((by rw [hg];exact (below_size (bel_)):w.heap.size≤gb785));have n3_:=Aside0.mk ((by rw [hg];exact (below_size (bel_)):w.heap.size≤gb785));clear HB;have HB:=n0_;have BK785:=n1_;have GW785:=n2_;have GE785:=n3_;clear n0_ n1_ n2_ n3_;clear hb hbox hg)|((with_reducible refine gate_dst (N:=3) rfl ?_);refine bx_ 3 (#[.int .i64 a1_0,.int .i64 a1_1,.int .i64 a1_2,.int .i64 a1_3,.string a1_4]) 27 ?_;intro gb786 hg w24 hbox hb;have n0_:=Aside0.mk (bb_ BK785.out hb);have n1_:=Aside0.mk (below_step (bel_) hb);have n2_:=Aside0.mk (hbox);have n3_:=Aside0.mk ((by rw [hg];exact (below_size (bel_)):w.heap.size≤gb786));have n4_:=Aside0.mk ((by rw [hg];exact (below_size (bel_)):w.heap.size≤gb786));have n5_:=Aside0.mk ((by rw [hg];exact Nat.ne_of_lt (blk_lt (g:=gb785) (o:=.cells #[.int .i64 a0_0,.int .i64 a0_1,.int .i64 a0_2,.int .i64 a0_3,.string a0_4] 27 (0,0)) (bp_ BK785.out)):gb785≠gb786));have n6_:=Aside0.mk ((by rw [hg];exact Nat.ne_of_gt (blk_lt (g:=gb785) (o:=.cells #[.int .i64 a0_0,.int .i64 a0_1,.int .i64 a0_2,.int .i64 a0_3,.string a0_4] 27 (0,0)) (bp_ BK785.out)):gb786≠gb785));clear BK785;clear HB;have BK785:=n0_;have HB:=n1_;have BK786:=n2_;have GW786:=n3_;have GE786:=n4_;have NB785_786:=n5_;have NB786_785:=n6_;clear n0_ n1_ n2_ n3_ n4_ n5_ n6_;clear hb hbox hg;have hnb25:=NB785_786.out;have hnc25:=NB786_785.out;obtain ⟨Z26_0,Z26_1,Z26_2,Z26_3,Z26_4,Y26_0,Y26_1,Y26_2,Y26_3,Y26_4⟩:=op5_ BK785.out;obtain ⟨Z27_0,Z27_1,Z27_2,Z27_3,Z27_4,Y27_0,Y27_1,Y27_2,Y27_3,Y27_4⟩:=op5_ BK786.out))
    go_ret
    exact ⟨fi_,bel_⟩
  ·rw [if_neg c4] at H
   have c4b0:(a0_1==a1_1)=false:=beq_eq_false_iff_ne.mpr c4
   have c4b1:(a0_1 != a1_1)=true:=bne_iff_ne.mpr c4
   obtain rfl:=Option.some.inj H
   go_enter Tryd.func44,Tryd.ntmps44
   go_wp2_with (first|((with_reducible refine gate_dst (N:=2) rfl ?_);refine bx_ 2 (#[.int .i64 a0_0,.int .i64 a0_1,.int .i64 a0_2,.int .i64 a0_3,.string a0_4]) 27 ?_;intro gb785 hg w28 hbox hb;have n0_:=Aside0.mk (below_step (bel_) hb);have n1_:=Aside0.mk (hbox);have n2_:=Aside0.mk ((by rw [hg];exact (below_size (bel_)):w.heap.size≤gb785));have n3_:=Aside0.mk ((by rw [hg];exact (below_size (bel_)):w.heap.size≤gb785));clear HB;have HB:=n0_;have BK785:=n1_;have GW785:=n2_;have GE785:=n3_;clear n0_ n1_ n2_ n3_;clear hb hbox hg)|((with_reducible refine gate_dst (N:=3) rfl ?_);refine bx_ 3 (#[.int .i64 a1_0,.int .i64 a1_1,.int .i64 a1_2,.int .i64 a1_3,.string a1_4]) 27 ?_;intro gb786 hg w29 hbox hb;have n0_:=Aside0.mk (bb_ BK785.out hb);have n1_:=Aside0.mk (below_step (bel_) hb);have n2_:=Aside0.mk (hbox);have n3_:=Aside0.mk ((by rw [hg];exact (below_size (bel_)):w.heap.size≤gb786));have n4_:=Aside0.mk ((by rw [hg];exact (below_size (bel_)):w.heap.size≤gb786));have n5_:=Aside0.mk ((by rw [hg];exact Nat.ne_of_lt (blk_lt (g:=gb785) (o:=.cells #[.int .i64 a0_0,.int .i64 a0_1,.int .i64 a0_2,.int .i64 a0_3,.string a0_4] 27 (0,0)) (bp_ BK785.out)):gb785≠gb786));have n6_:=Aside0.mk ((by rw [hg];exact Nat.ne_of_gt (blk_lt (g:=gb785) (o:=.cells #[.int .i64 a0_0,.int .i64 a0_1,.int .i64 a0_2,.int .i64 a0_3,.string a0_4] 27 (0,0)) (bp_ BK785.out)):gb786≠gb785));clear BK785;clear HB;have BK785:=n0_;have HB:=n1_;have BK786:=n2_;have GW786:=n3_;have GE786:=n4_;have NB785_786:=n5_;have NB786_785:=n6_;clear n0_ n1_ n2_ n3_ n4_ n5_ n6_;clear hb hbox hg;have hnb30:=NB785_786.out;have hnc30:=NB786_785.out;obtain ⟨Z31_0,Z31_1,Z31_2,Z31_3,Z31_4,Y31_0,Y31_1,Y31_2,Y31_3,Y31_4⟩:=op5_ BK785.out;obtain ⟨Z32_0,Z32_1,Z32_2,Z32_3,Z32_4,Y32_0,Y32_1,Y32_2,Y32_3,Y32_4⟩:=op5_ BK786.out))
   go_ret
   exact ⟨fi_,bel_⟩
 ·rw [if_neg c3] at H
  have c3b0:(a0_0==a1_0)=false:=beq_eq_false_iff_ne.mpr c3
  have c3b1:(a0_0 != a1_0)=true:=bne_iff_ne.mpr c3
  obtain rfl:=Option.some.inj H
  go_enter Tryd.func44,Tryd.ntmps44
  go_wp2_with (first|((with_reducible refine gate_dst (N:=2) rfl ?_);refine bx_ 2 (#[.int .i64 a0_0,.int .i64 a0_1,.int .i64 a0_2,.int .i64 a0_3,.string a0_4]) 27 ?_;intro gb785 hg w33 hbox hb;have n0_:=Aside0.mk (below_step (bel_) hb);have n1_:=Aside0.mk (hbox);have n2_:=Aside0.mk ((by rw [hg];exact (below_size (bel_)):w.heap.size≤gb785));have n3_:=Aside0.mk ((by rw [hg];exact (below_size (bel_)):w.heap.size≤gb785));clear HB;have HB:=n0_;have BK785:=n1_;have GW785:=n2_;have GE785:=n3_;clear n0_ n1_ n2_ n3_;clear hb hbox hg)|((with_reducible refine gate_dst (N:=3) rfl ?_);refine bx_ 3 (#[.int .i64 a1_0,.int .i64 a1_1,.int .i64 a1_2,.int .i64 a1_3,.string a1_4]) 27 ?_;intro gb786 hg w34 hbox hb;have n0_:=Aside0.mk (bb_ BK785.out hb);have n1_:=Aside0.mk (below_step (bel_) hb);have n2_:=Aside0.mk (hbox);have n3_:=Aside0.mk ((by rw [hg];exact (below_size (bel_)):w.heap.size≤gb786));have n4_:=Aside0.mk ((by rw [hg];exact (below_size (bel_)):w.heap.size≤gb786));have n5_:=Aside0.mk ((by rw [hg];exact Nat.ne_of_lt (blk_lt (g:=gb785) (o:=.cells #[.int .i64 a0_0,.int .i64 a0_1,.int .i64 a0_2,.int .i64 a0_3,.string a0_4] 27 (0,0)) (bp_ BK785.out)):gb785≠gb786));have n6_:=Aside0.mk ((by rw [hg];exact Nat.ne_of_gt (blk_lt (g:=gb785) (o:=.cells #[.int .i64 a0_0,.int .i64 a0_1,.int .i64 a0_2,.int .i64 a0_3,.string a0_4] 27 (0,0)) (bp_ BK785.out)):gb786≠gb785));clear BK785;clear HB;have BK785:=n0_;have HB:=n1_;have BK786:=n2_;have GW786:=n3_;have GE786:=n4_;have NB785_786:=n5_;have NB786_785:=n6_;clear n0_ n1_ n2_ n3_ n4_ n5_ n6_;clear hb hbox hg;have hnb35:=NB785_786.out;have hnc35:=NB786_785.out;obtain ⟨Z36_0,Z36_1,Z36_2,Z36_3,Z36_4,Y36_0,Y36_1,Y36_2,Y36_3,Y36_4⟩:=op5_ BK785.out;obtain ⟨Z37_0,Z37_1,Z37_2,Z37_3,Z37_4,Y37_0,Y37_1,Y37_2,Y37_3,Y37_4⟩:=op5_ BK786.out))
  go_ret
  exact ⟨fi_,bel_⟩

def laws_eqRow.f (a0_0:Int) (a0_1:Int) (a0_2:ByteArray) (a1_0:Int) (a1_1:Int) (a1_2:ByteArray):Option (Bool):=if a0_0=a1_0 then (if a0_1=a1_1 then (if a0_2.toList=a1_2.toList then (some true) else (some false)) else (some false)) else (some false)
theorem laws_eqRow.calls (a0_0:Int) (a0_1:Int) (a0_2:ByteArray) (a1_0:Int) (a1_1:Int) (a1_2:ByteArray) (r:Bool) (w:World) (h:laws_eqRow.f a0_0 a0_1 a0_2 a1_0 a1_1 a1_2=some r) :
  Calls Tryd.prog 85 #[.agg #[.int .i64 a0_0,.int .i64 a0_1,.string a0_2],.agg #[.int .i64 a1_0,.int .i64 a1_1,.string a1_2]] w fun e w'=>e=.returned (.bool r)∧Below w.heap.size w w':=by
 have hu37:=Tryd.underlying37
 have HB:=Aside0.mk (Below.refl w.heap.size w)
 unfold laws_eqRow.f at h
 have H:=h
 clear h
 by_cases c3:a0_0=a1_0
 ·rw [if_pos c3] at H
  have c3b0:(a0_0==a1_0)=true:=beq_iff_eq.mpr c3
  have c3b1:(a0_0 != a1_0)=false:=bne_eq_false_iff_eq.mpr c3
  clear c3
  by_cases c4:a0_1=a1_1
  ·rw [if_pos c4] at H
   have c4b0:(a0_1==a1_1)=true:=beq_iff_eq.mpr c4
   have c4b1:(a0_1 != a1_1)=false:=bne_eq_false_iff_eq.mpr c4
   clear c4
   by_cases c5:a0_2.toList=a1_2.toList
   ·rw [if_pos c5] at H
    have c5b0:(a0_2.toList==a1_2.toList)=true:=beq_iff_eq.mpr c5
    have c5b1:(a0_2.toList != a1_2.toList)=false:=bne_eq_false_iff_eq.mpr c5
    clear c5
    obtain rfl:=Option.some.inj H
    go_enter Tryd.func85,Tryd.ntmps85
    go_wp2_with (first|((with_reducible refine gate_dst (N:=2) rfl ?_);refine bx_ 2 (#[.int .i64 a0_0,.int .i64 a0_1,.string a0_2]) 37 ?_;intro gb787 hg w6 hbox hb;have n0_:=Aside0.mk (below_step (bel_) hb);have n1_:=Aside0.mk (hbox);have n2_:=Aside0.mk ((by rw [hg];exact (below_size (bel_)):w.heap.size≤gb787));have n3_:=Aside0.mk ((by rw [hg];exact (below_size (bel_)):w.heap.size≤gb787));clear HB;have HB:=n0_;have BK787:=n1_;have GW787:=n2_;have GE787:=n3_;clear n0_ n1_ n2_ n3_;clear hb hbox hg)|((with_reducible refine gate_dst (N:=3) rfl ?_);refine bx_ 3 (#[.int .i64 a1_0,.int .i64 a1_1,.string a1_2]) 37 ?_;intro gb788 hg w7 hbox hb;have n0_:=Aside0.mk (bb_ BK787.out hb);have n1_:=Aside0.mk (below_step (bel_) hb);have n2_:=Aside0.mk (hbox);have n3_:=Aside0.mk ((by rw [hg];exact (below_size (bel_)):w.heap.size≤gb788));have n4_:=Aside0.mk ((by rw [hg];exact (below_size (bel_)):w.heap.size≤gb788));have n5_:=Aside0.mk ((by rw [hg];exact Nat.ne_of_lt (blk_lt (g:=gb787) (o:=.cells #[.int .i64 a0_0,.int .i64 a0_1,.string a0_2] 37 (0,0)) (bp_ BK787.out)):gb787≠gb788));have n6_:=Aside0.mk ((by rw [hg];exact Nat.ne_of_gt (blk_lt (g:=gb787) (o:=.cells #[.int .i64 a0_0,.int .i64 a0_1,.string a0_2] 37 (0,0)) (bp_ BK787.out)):gb788≠gb787));clear BK787;clear HB;have BK787:=n0_;have HB:=n1_;have BK788:=n2_;have GW788:=n3_;have GE788:=n4_;have NB787_788:=n5_;have NB788_787:=n6_;clear n0_ n1_ n2_ n3_ n4_ n5_ n6_;clear hb hbox hg;have hnb8:=NB787_788.out;have hnc8:=NB788_787.out;obtain ⟨Z9_0,Z9_1,Z9_2,Y9_0,Y9_1,Y9_2⟩:=op3_ BK787.out;obtain ⟨Z10_0,Z10_1,Z10_2,Y10_0,Y10_1,Y10_2⟩:=op3_ BK788.out))
    go_ret
    exact ⟨fi_,bel_⟩
   ·rw [if_neg c5] at H
    have c5b0:(a0_2.toList==a1_2.toList)=false:=beq_eq_false_iff_ne.mpr c5
    have c5b1:(a0_2.toList != a1_2.toList)=true:=bne_iff_ne.mpr c5
    obtain rfl:=Option.some.inj H
    go_enter Tryd.func85,Tryd.ntmps85
    go_wp2_with (first|((with_reducible refine gate_dst (N:=2) rfl ?_);refine bx_ 2 (#[.int .i64 a0_0,.int .i64 a0_1,.string a0_2]) 37 ?_;intro gb787 hg w11 hbox hb;have n0_:=Aside0.mk (below_step (bel_) hb);have n1_:=Aside0.mk (hbox);have n2_:=Aside0.mk ((by rw [hg];exact (below_size (bel_)):w.heap.size≤gb787));have n3_:=Aside0.mk ((by rw [hg];exact (below_size (bel_)):w.heap.size≤gb787));clear HB;have HB:=n0_;have BK787:=n1_;have GW787:=n2_;have GE787:=n3_;clear n0_ n1_ n2_ n3_;clear hb hbox hg)|((with_reducible refine gate_dst (N:=3) rfl ?_);refine bx_ 3 (#[.int .i64 a1_0,.int .i64 a1_1,.string a1_2]) 37 ?_;intro gb788 hg w12 hbox hb;have n0_:=Aside0.mk (bb_ BK787.out hb);have n1_:=Aside0.mk (below_step (bel_) hb);have n2_:=Aside0.mk (hbox);have n3_:=Aside0.mk ((by rw [hg];exact (below_size (bel_)):w.heap.size≤gb788));have n4_:=Aside0.mk ((by rw [hg];exact (below_size (bel_)):w.heap.size≤gb788));have n5_:=Aside0.mk ((by rw [hg];exact Nat.ne_of_lt (blk_lt (g:=gb787) (o:=.cells #[.int .i64 a0_0,.int .i64 a0_1,.string a0_2] 37 (0,0)) (bp_ BK787.out)):gb787≠gb788));have n6_:=Aside0.mk ((by rw [hg];exact Nat.ne_of_gt (blk_lt (g:=gb787) (o:=.cells #[.int .i64 a0_0,.int .i64 a0_1,.string a0_2] 37 (0,0)) (bp_ BK787.out)):gb788≠gb787));clear BK787;clear HB;have BK787:=n0_;have HB:=n1_;have BK788:=n2_;have GW788:=n3_;have GE788:=n4_;have NB787_788:=n5_;have NB788_787:=n6_;clear n0_ n1_ n2_ n3_ n4_ n5_ n6_;clear hb hbox hg;have hnb13:=NB787_788.out;have hnc13:=NB788_787.out;obtain ⟨Z14_0,Z14_1,Z14_2,Y14_0,Y14_1,Y14_2⟩:=op3_ BK787.out;obtain ⟨Z15_0,Z15_1,Z15_2,Y15_0,Y15_1,Y15_2⟩:=op3_ BK788.out))
    go_ret
    exact ⟨fi_,bel_⟩
  ·rw [if_neg c4] at H
   have c4b0:(a0_1==a1_1)=false:=beq_eq_false_iff_ne.mpr c4
   have c4b1:(a0_1 != a1_1)=true:=bne_iff_ne.mpr c4
   obtain rfl:=Option.some.inj H
   go_enter Tryd.func85,Tryd.ntmps85
   go_wp2_with (first|((with_reducible refine gate_dst (N:=2) rfl ?_);refine bx_ 2 (#[.int .i64 a0_0,.int .i64 a0_1,.string a0_2]) 37 ?_;intro gb787 hg w16 hbox hb;have n0_:=Aside0.mk (below_step (bel_) hb);have n1_:=Aside0.mk (hbox);have n2_:=Aside0.mk ((by rw [hg];exact (below_size (bel_)):w.heap.size≤gb787));have n3_:=Aside0.mk ((by rw [hg];exact (below_size (bel_)):w.heap.size≤gb787));clear HB;have HB:=n0_;have BK787:=n1_;have GW787:=n2_;have GE787:=n3_;clear n0_ n1_ n2_ n3_;clear hb hbox hg)|((with_reducible refine gate_dst (N:=3) rfl ?_);refine bx_ 3 (#[.int .i64 a1_0,.int .i64 a1_1,.string a1_2]) 37 ?_;intro gb788 hg w17 hbox hb;have n0_:=Aside0.mk (bb_ BK787.out hb);have n1_:=Aside0.mk (below_step (bel_) hb);have n2_:=Aside0.mk (hbox);have n3_:=Aside0.mk ((by rw [hg];exact (below_size (bel_)):w.heap.size≤gb788));have n4_:=Aside0.mk ((by rw [hg];exact (below_size (bel_)):w.heap.size≤gb788));have n5_:=Aside0.mk ((by rw [hg];exact Nat.ne_of_lt (blk_lt (g:=gb787) (o:=.cells #[.int .i64 a0_0,.int .i64 a0_1,.string a0_2] 37 (0,0)) (bp_ BK787.out)):gb787≠gb788));have n6_:=Aside0.mk ((by rw [hg];exact Nat.ne_of_gt (blk_lt (g:=gb787) (o:=.cells #[.int .i64 a0_0,.int .i64 a0_1,.string a0_2] 37 (0,0)) (bp_ BK787.out)):gb788≠gb787));clear BK787;clear HB;have BK787:=n0_;have HB:=n1_;have BK788:=n2_;have GW788:=n3_;have GE788:=n4_;have NB787_788:=n5_;have NB788_787:=n6_;clear n0_ n1_ n2_ n3_ n4_ n5_ n6_;clear hb hbox hg;have hnb18:=NB787_788.out;have hnc18:=NB788_787.out;obtain ⟨Z19_0,Z19_1,Z19_2,Y19_0,Y19_1,Y19_2⟩:=op3_ BK787.out;obtain ⟨Z20_0,Z20_1,Z20_2,Y20_0,Y20_1,Y20_2⟩:=op3_ BK788.out))
   go_ret
   exact ⟨fi_,bel_⟩
 ·rw [if_neg c3] at H
  have c3b0:(a0_0==a1_0)=false:=beq_eq_false_iff_ne.mpr c3
  have c3b1:(a0_0 != a1_0)=true:=bne_iff_ne.mpr c3
  obtain rfl:=Option.some.inj H
  go_enter Tryd.func85,Tryd.ntmps85
  go_wp2_with (first|((with_reducible refine gate_dst (N:=2) rfl ?_);refine bx_ 2 (#[.int .i64 a0_0,.int .i64 a0_1,.string a0_2]) 37 ?_;intro gb787 hg w21 hbox hb;have n0_:=Aside0.mk (below_step (bel_) hb);have n1_:=Aside0.mk (hbox);have n2_:=Aside0.mk ((by rw [hg];exact (below_size (bel_)):w.heap.size≤gb787));have n3_:=Aside0.mk ((by rw [hg];exact (below_size (bel_)):w.heap.size≤gb787));clear HB;have HB:=n0_;have BK787:=n1_;have GW787:=n2_;have GE787:=n3_;clear n0_ n1_ n2_ n3_;clear hb hbox hg)|((with_reducible refine gate_dst (N:=3) rfl ?_);refine bx_ 3 (#[.int .i64 a1_0,.int .i64 a1_1,.string a1_2]) 37 ?_;intro gb788 hg w22 hbox hb;have n0_:=Aside0.mk (bb_ BK787.out hb);have n1_:=Aside0.mk (below_step (bel_) hb);have n2_:=Aside0.mk (hbox);have n3_:=Aside0.mk ((by rw [hg];exact (below_size (bel_)):w.heap.size≤gb788));have n4_:=Aside0.mk ((by rw [hg];exact (below_size (bel_)):w.heap.size≤gb788));have n5_:=Aside0.mk ((by rw [hg];exact Nat.ne_of_lt (blk_lt (g:=gb787) (o:=.cells #[.int .i64 a0_0,.int .i64 a0_1,.string a0_2] 37 (0,0)) (bp_ BK787.out)):gb787≠gb788));have n6_:=Aside0.mk ((by rw [hg];exact Nat.ne_of_gt (blk_lt (g:=gb787) (o:=.cells #[.int .i64 a0_0,.int .i64 a0_1,.string a0_2] 37 (0,0)) (bp_ BK787.out)):gb788≠gb787));clear BK787;clear HB;have BK787:=n0_;have HB:=n1_;have BK788:=n2_;have GW788:=n3_;have GE788:=n4_;have NB787_788:=n5_;have NB788_787:=n6_;clear n0_ n1_ n2_ n3_ n4_ n5_ n6_;clear hb hbox hg;have hnb23:=NB787_788.out;have hnc23:=NB788_787.out;obtain ⟨Z24_0,Z24_1,Z24_2,Y24_0,Y24_1,Y24_2⟩:=op3_ BK787.out;obtain ⟨Z25_0,Z25_1,Z25_2,Y25_0,Y25_1,Y25_2⟩:=op3_ BK788.out))
  go_ret
  exact ⟨fi_,bel_⟩

def laws_eqRowS.l0:Nat→List (S37)→List (S37)→Int→Option (Bool)
 | 0,_,_,_=>none
 | k+1,x0,x1,x5=>if x5 < (x0.length:Int) then (if 0≤x5 then (if x5 < (x1.length:Int) then ((laws_eqRow.f ((rd_T37 x0 x5).f0) ((rd_T37 x0 x5).f1) ((rd_T37 x0 x5).f2) ((rd_T37 x1 x5).f0) ((rd_T37 x1 x5).f1) ((rd_T37 x1 x5).f2)).bind fun t791=>(if t791=true then (laws_eqRowS.l0 k x0 x1 (wrap64 (x5+1))) else (some false))) else (none)) else (none)) else (some true)
def laws_eqRowS.f (k:Nat) (l0:List (S37)) (l1:List (S37)):Option (Bool):=if (l0.length:Int)=(l1.length:Int) then (laws_eqRowS.l0 k l0 l1 0) else (some false)
theorem laws_eqRowS.mono_l:∀ k,(∀ y0 y1 y2,LeO (laws_eqRowS.l0 k y0 y1 y2) (laws_eqRowS.l0 (k+1) y0 y1 y2))
 | 0=>fun _ _ _ r h=>by simp [laws_eqRowS.l0] at h
 | k+1=>by
  have ih0:=laws_eqRowS.mono_l k
  ·intro y0 y1 y2
   unfold laws_eqRowS.l0
   repeat' first
   | (with_reducible exact ih0 _ _ _)
   | (with_reducible exact LeO.refl _)
   | (with_reducible exact LeO.none _)
   | (with_reducible refine LeO.ite ?_ ?_)
   | (with_reducible refine LeO.bind ?_ (fun _=>?_))
theorem laws_eqRowS.mono:∀ a0 a1 k,LeO (laws_eqRowS.f k a0 a1) (laws_eqRowS.f (k+1) a0 a1):=by
 intro a0 a1 k
 have ih0:=laws_eqRowS.mono_l k
 unfold laws_eqRowS.f
 repeat' first
   | (with_reducible exact ih0 _ _ _)
   | (with_reducible exact LeO.refl _)
   | (with_reducible exact LeO.none _)
   | (with_reducible refine LeO.ite ?_ ?_)
   | (with_reducible refine LeO.bind ?_ (fun _=>?_))
def laws_eqRowS.T6:Bool×List (List Nat×List Nat):=(true,[([],[]),([],[]),([0,1],[0,1]),([2],[2]),([],[]),([],[]),([4,5],[4,5]),([6],[6]),([3,7],[3,7]),([8],[8])])
def laws_eqRowS.B6:List Nat:=[0,0,3,7,0,0,48,112,255,511]
theorem laws_eqRowS.tab6:rtab .any (opsOf Tryd.f45 6)=laws_eqRowS.T6:=by kernel_rfl
theorem laws_eqRowS.bits6:waitsOk laws_eqRowS.T6.2 laws_eqRowS.B6=true:=by kernel_rfl
theorem laws_eqRowS.calls (k:Nat) (A0:Option Addr) (c0:Nat) (l0:List (S37)) (A1:Option Addr) (c1:Nat) (l1:List (S37)) (r:Bool) (w:World) (hr0:Kd.C k37 w A0 l0.length l0) (hc0:l0.length≤c0) (hr1:Kd.C k37 w A1 l1.length l1) (hc1:l1.length≤c1) (h:laws_eqRowS.f k l0 l1=some r) :
  Calls Tryd.prog 45 #[.slice A0 l0.length c0,.slice A1 l1.length c1] w fun e w'=>e=.returned (.bool r)∧Below w.heap.size w w':=by
 have hu37:=Tryd.underlying37
 have HR0:=Aside0.mk hr0
 have HC0:=Aside0.mk hc0
 clear hr0 hc0
 have HR1:=Aside0.mk hr1
 have HC1:=Aside0.mk hc1
 clear hr1 hc1
 have HB:=Aside0.mk (Below.refl w.heap.size w)
 unfold laws_eqRowS.f at h
 have H:=h
 clear h
 by_cases c3:(l0.length:Int)=(l1.length:Int)
 ·rw [if_pos c3] at H
  have c3b0:((l0.length:Int)==(l1.length:Int))=true:=beq_iff_eq.mpr c3
  have c3b1:((l0.length:Int) != (l1.length:Int))=false:=bne_eq_false_iff_eq.mpr c3
  have c3b2:(l0.length==l1.length)=true:=by first|simpa using c3|(simp at c3 ⊢;omega)
  clear c3
  have H':=Aside0.mk H
  clear H
  go_enter Tryd.func45,Tryd.ntmps45
  go_wp2
  go_loopg [5] k (fun kq v5 w'=>∃ (x5_1:Int),v5=.int .i64 x5_1∧Aside0 (laws_eqRowS.l0 kq l0 l1 x5_1=some r)∧Aside0 (kq≤k)∧Aside0 (Below w.heap.size w w'))
  case atStart=>exact ⟨(0),(si_),H',⟨Nat.le_refl _⟩,⟨bel_⟩⟩
  case round =>
   clear H'
   try clear c1
   try clear p2
   try clear c3
   try clear c3b0
   try clear c3b1
   try clear c3b2
   obtain ⟨x5_1,rfl,HA,HK1,HB⟩:=hrel
   cases gk with
   | zero=>exact absurd HA.out (by simp [laws_eqRowS.l0])
   | succ k1 =>
    have H:=HA.out
    clear HA
    simp only [laws_eqRowS.l0] at H
    by_cases c4:x5_1 < (l0.length:Int)
    ·rw [if_pos c4] at H
     have c4b0:decide (x5_1 < (l0.length:Int))=true:=decide_eq_true c4
     clear c4
     by_cases c5:0≤x5_1
     ·rw [if_pos c5] at H
      have c5b0:decide (0≤x5_1)=true:=decide_eq_true c5
      clear c5
      by_cases c6:x5_1 < (l1.length:Int)
      ·rw [if_pos c6] at H
       have c6b0:decide (x5_1 < (l1.length:Int))=true:=decide_eq_true c6
       clear c6
       replace H:=Option.bind_eq_some_iff.mp H
       obtain ⟨t791,A70,H⟩:=H
       try dsimp only at H
       have A7:=Aside0.mk A70
       clear A70
       by_cases c8:t791=true
       ·subst c8
        have H1:(laws_eqRowS.l0 k1 l0 l1 (wrap64 (x5_1+1)))=some r:=by rw [if_pos rfl] at H;exact H
        clear H
        have H:=H1
        clear H1
        have H':=Aside0.mk H
        clear H
        try go_wp2
        have n0_:=Aside0.mk (below_drew1 HB.out)
        clear HB
        have HB:=n0_
        clear n0_
        have p789:0≤(x5_1:Int):=od_
        have q789:x5_1 < (l0.length:Int):=od_
        obtain ⟨ad789,e789,hx789_0,hx789_1,hx789_2⟩:=at_T37 HR0.out x5_1 p789 q789
        have hw789_2:=hx789_2
        have hw789_1:=hx789_1
        have hw789_0:=hx789_0
        cases e789
        replace hx789_0:=(cb_ HB.out hx789_0 :)
        replace hx789_1:=(cb_ HB.out hx789_1 :)
        replace hx789_2:=(cb_ HB.out hx789_2 :)
        replace p789:=eq_true p789
        replace q789:=eq_true q789
        have p790:0≤(x5_1:Int):=od_
        have q790:x5_1 < (l1.length:Int):=od_
        obtain ⟨ad790,e790,hx790_0,hx790_1,hx790_2⟩:=at_T37 HR1.out x5_1 p790 q790
        have hw790_2:=hx790_2
        have hw790_1:=hx790_1
        have hw790_0:=hx790_0
        cases e790
        replace hx790_0:=(cb_ HB.out hx790_0 :)
        replace hx790_1:=(cb_ HB.out hx790_1 :)
        replace hx790_2:=(cb_ HB.out hx790_2 :)
        replace p790:=eq_true p790
        replace q790:=eq_true q790
        refine start_ (n:=10) (S:=fun w'=>w'.cell? (ad789.add ((x5_1).toNat * 3))=some (.int .i64 ((rd_T37 l0 x5_1).f0))∧w'.cell? ⟨(ad789.add ((x5_1).toNat * 3)).block,(ad789.add ((x5_1).toNat * 3)).off+1,none⟩=some (.int .i64 ((rd_T37 l0 x5_1).f1))∧w'.cell? ⟨(ad789.add ((x5_1).toNat * 3)).block,(ad789.add ((x5_1).toNat * 3)).off+2,none⟩=some (.string ((rd_T37 l0 x5_1).f2))∧w'.cell? (ad790.add ((x5_1).toNat * 3))=some (.int .i64 ((rd_T37 l1 x5_1).f0))∧w'.cell? ⟨(ad790.add ((x5_1).toNat * 3)).block,(ad790.add ((x5_1).toNat * 3)).off+1,none⟩=some (.int .i64 ((rd_T37 l1 x5_1).f1))∧w'.cell? ⟨(ad790.add ((x5_1).toNat * 3)).block,(ad790.add ((x5_1).toNat * 3)).off+2,none⟩=some (.string ((rd_T37 l1 x5_1).f2))) (ds:=[]) #[false,false,false,false,false,false,false,false,false,false] (by kernel_rfl) rfl rfl ⟨((cb_ HB.out hw789_0 :)),((cb_ HB.out hw789_1 :)),((cb_ HB.out hw789_2 :)),((cb_ HB.out hw790_0 :)),((cb_ HB.out hw790_1 :)),((cb_ HB.out hw790_2 :))⟩ (fun hHeld=>?_);refine with_tabW laws_eqRowS.tab6 laws_eqRowS.bits6 (fun HT_ HW_=>?_)
        generalize wr.drew=w9 at HB hx789_0 hx789_1 hx789_2 hx790_0 hx790_1 hx790_2 hHeld ⊢
        refine pa_ 0 17 ?_
        refine pa_ 1 18 ?_
        refine pa_ 2 19 ?_
        refine pa_ 4 21 ?_
        refine pa_ 5 22 ?_
        refine pa_ 6 23 ?_
        refine ta6_ 3 20 hHeld ?_
        refine ta6_ 7 24 hHeld ?_
        refine on_ 8 25 (fun K hK=>?_)
        refine goes_ Tryd.func85 (by kernel_rfl) rfl #[.agg #[.int .i64 ((rd_T37 l0 x5_1).f0),.int .i64 ((rd_T37 l0 x5_1).f1),.string ((rd_T37 l0 x5_1).f2)],.agg #[.int .i64 ((rd_T37 l1 x5_1).f0),.int .i64 ((rd_T37 l1 x5_1).f1),.string ((rd_T37 l1 x5_1).f2)]] (by rfl) rfl rfl ar_ ?_
        with_reducible refine (laws_eqRow.calls ((rd_T37 l0 x5_1).f0) ((rd_T37 l0 x5_1).f1) ((rd_T37 l0 x5_1).f2) ((rd_T37 l1 x5_1).f0) ((rd_T37 l1 x5_1).f1) ((rd_T37 l1 x5_1).f2) true _ A7.out).mono ?_
        rintro e w10 ⟨rfl,hb⟩
        refine ⟨_,rfl,?_⟩
        have n0_:=Aside0.mk (below_step (bel_) hb)
        clear HB
        have HB:=n0_
        clear n0_
        (try clear hb)
        (try clear hb2)
        (try clear hk)
        (try clear hi)
        refine hK.out _ _ ⟨((cb_ HB.out hw789_0 :)),((cb_ HB.out hw789_1 :)),((cb_ HB.out hw789_2 :)),((cb_ HB.out hw790_0 :)),((cb_ HB.out hw790_1 :)),((cb_ HB.out hw790_2 :))⟩ (fun hHeld=>?_)
        clear hK K
        refine no_ 25 ?_
        refine pa_ 9 26 ?_
        refine done_ (done_of HT_.out (by kernel_rfl)) ?_
        try go_wp2
        go_roundg k1
        case measure=>have:=HK1.out;omega
        case rel=>exact ⟨(wrap64 (x5_1+1)),(si_),H',⟨by have:=HK1.out;omega⟩,⟨bel_⟩⟩
       ·replace c8:=Bool.eq_false_iff.mpr c8
        subst c8
        have H1:(some false)=some r:=by rw [if_neg (show ¬ (false=true) by decide)] at H;exact H
        clear H
        have H:=H1
        clear H1
        obtain rfl:=Option.some.inj H
        try go_wp2
        have n0_:=Aside0.mk (below_drew1 HB.out)
        clear HB
        have HB:=n0_
        clear n0_
        have p789:0≤(x5_1:Int):=od_
        have q789:x5_1 < (l0.length:Int):=od_
        obtain ⟨ad789,e789,hx789_0,hx789_1,hx789_2⟩:=at_T37 HR0.out x5_1 p789 q789
        have hw789_2:=hx789_2
        have hw789_1:=hx789_1
        have hw789_0:=hx789_0
        cases e789
        replace hx789_0:=(cb_ HB.out hx789_0 :)
        replace hx789_1:=(cb_ HB.out hx789_1 :)
        replace hx789_2:=(cb_ HB.out hx789_2 :)
        replace p789:=eq_true p789
        replace q789:=eq_true q789
        have p790:0≤(x5_1:Int):=od_
        have q790:x5_1 < (l1.length:Int):=od_
        obtain ⟨ad790,e790,hx790_0,hx790_1,hx790_2⟩:=at_T37 HR1.out x5_1 p790 q790
        have hw790_2:=hx790_2
        have hw790_1:=hx790_1
        have hw790_0:=hx790_0
        cases e790
        replace hx790_0:=(cb_ HB.out hx790_0 :)
        replace hx790_1:=(cb_ HB.out hx790_1 :)
        replace hx790_2:=(cb_ HB.out hx790_2 :)
        replace p790:=eq_true p790
        replace q790:=eq_true q790
        refine start_ (n:=10) (S:=fun w'=>w'.cell? (ad789.add ((x5_1).toNat * 3))=some (.int .i64 ((rd_T37 l0 x5_1).f0))∧w'.cell? ⟨(ad789.add ((x5_1).toNat * 3)).block,(ad789.add ((x5_1).toNat * 3)).off+1,none⟩=some (.int .i64 ((rd_T37 l0 x5_1).f1))∧w'.cell? ⟨(ad789.add ((x5_1).toNat * 3)).block,(ad789.add ((x5_1).toNat * 3)).off+2,none⟩=some (.string ((rd_T37 l0 x5_1).f2))∧w'.cell? (ad790.add ((x5_1).toNat * 3))=some (.int .i64 ((rd_T37 l1 x5_1).f0))∧w'.cell? ⟨(ad790.add ((x5_1).toNat * 3)).block,(ad790.add ((x5_1).toNat * 3)).off+1,none⟩=some (.int .i64 ((rd_T37 l1 x5_1).f1))∧w'.cell? ⟨(ad790.add ((x5_1).toNat * 3)).block,(ad790.add ((x5_1).toNat * 3)).off+2,none⟩=some (.string ((rd_T37 l1 x5_1).f2))) (ds:=[]) #[false,false,false,false,false,false,false,false,false,false] (by kernel_rfl) rfl rfl ⟨((cb_ HB.out hw789_0 :)),((cb_ HB.out hw789_1 :)),((cb_ HB.out hw789_2 :)),((cb_ HB.out hw790_0 :)),((cb_ HB.out hw790_1 :)),((cb_ HB.out hw790_2 :))⟩ (fun hHeld=>?_);refine with_tabW laws_eqRowS.tab6 laws_eqRowS.bits6 (fun HT_ HW_=>?_)
        generalize wr.drew=w11 at HB hx789_0 hx789_1 hx789_2 hx790_0 hx790_1 hx790_2 hHeld ⊢
        refine pa_ 0 17 ?_
        refine pa_ 1 18 ?_
        refine pa_ 2 19 ?_
        refine pa_ 4 21 ?_
        refine pa_ 5 22 ?_
        refine pa_ 6 23 ?_
        refine ta6_ 3 20 hHeld ?_
        refine ta6_ 7 24 hHeld ?_
        refine on_ 8 25 (fun K hK=>?_)
        refine goes_ Tryd.func85 (by kernel_rfl) rfl #[.agg #[.int .i64 ((rd_T37 l0 x5_1).f0),.int .i64 ((rd_T37 l0 x5_1).f1),.string ((rd_T37 l0 x5_1).f2)],.agg #[.int .i64 ((rd_T37 l1 x5_1).f0),.int .i64 ((rd_T37 l1 x5_1).f1),.string ((rd_T37 l1 x5_1).f2)]] (by rfl) rfl rfl ar_ ?_
        with_reducible refine (laws_eqRow.calls ((rd_T37 l0 x5_1).f0) ((rd_T37 l0 x5_1).f1) ((rd_T37 l0 x5_1).f2) ((rd_T37 l1 x5_1).f0) ((rd_T37 l1 x5_1).f1) ((rd_T37 l1 x5_1).f2) false _ A7.out).mono ?_
        rintro e w12 ⟨rfl,hb⟩
        refine ⟨_,rfl,?_⟩
        have n0_:=Aside0.mk (below_step (bel_) hb)
        clear HB
        have HB:=n0_
        clear n0_
        (try clear hb)
        (try clear hb2)
        (try clear hk)
        (try clear hi)
        refine hK.out _ _ ⟨((cb_ HB.out hw789_0 :)),((cb_ HB.out hw789_1 :)),((cb_ HB.out hw789_2 :)),((cb_ HB.out hw790_0 :)),((cb_ HB.out hw790_1 :)),((cb_ HB.out hw790_2 :))⟩ (fun hHeld=>?_)
        clear hK K
        refine no_ 25 ?_
        refine pa_ 9 26 ?_
        refine done_ (done_of HT_.out (by kernel_rfl)) ?_
        try go_wp2
        go_ret
        exact ⟨fi_,bel_⟩
      ·rw [if_neg c6] at H
       exact absurd H (by simp)
     ·rw [if_neg c5] at H
      exact absurd H (by simp)
    ·rw [if_neg c4] at H
     have c4b0:decide (x5_1 < (l0.length:Int))=false:=decide_eq_false c4
     clear c4
     obtain rfl:=Option.some.inj H
     go_wp2
     go_ret
     exact ⟨fi_,bel_⟩
 ·rw [if_neg c3] at H
  have c3b0:((l0.length:Int)==(l1.length:Int))=false:=beq_eq_false_iff_ne.mpr c3
  have c3b1:((l0.length:Int) != (l1.length:Int))=true:=bne_iff_ne.mpr c3
  have c3b2:(l0.length==l1.length)=false:=by first|simpa using c3|(simp at c3 ⊢;omega)
  obtain rfl:=Option.some.inj H
  go_enter Tryd.func45,Tryd.ntmps45
  go_wp2
  go_ret
  exact ⟨fi_,bel_⟩

end Go.Proofs.YtlkheeegkifblaaDoor.P
namespace Go.Proofs.YtlkheeegkifblaaDoor.P
open Go.RowKit
def owners:List Int:=[0,1,1,1,0,0,0,0,0,0,0,2,2,2,2,2,2,0,0,0,0,3,3,3,3,3,3,0,0,0,0,4,4,4,4,4,4]
def Glob (w:World):Prop:=Lib.TabIs Tryd.prog w "loop.example/plashet/impl.rowOwners" .i64 owners
theorem gOwners:Tryd.prog.globalNamed "loop.example/plashet/impl.rowOwners" = some 0:=by kernel_rfl
theorem Glob.var {w:World} (h:Glob w):w.var? Tryd.prog "loop.example/plashet/impl.rowOwners" = some (owners.map fun z=>Value.int .i64 z).toArray:=h
theorem Glob.lt {w:World} (h:Glob w):0 < w.heap.size:=by
 have h:=h.var
 unfold World.var? at h
 simp only [gOwners,Option.bind_some] at h
 rcases Nat.lt_or_ge 0 w.heap.size with hl|hl
 ·exact hl
 ·rw [Array.getElem?_eq_none hl] at h
  cases h
theorem Glob.below {w w':World} (h:Glob w) (hb:Below w.heap.size w w'):Glob w':=by
 have hl:=h.lt
 have h:=h.var
 unfold Glob Lib.TabIs World.var? at *
 simp only [gOwners,Option.bind_some] at h ⊢
 rw [hb.block _ hl]
 exact h
theorem Glob.drew {w:World} (h:Glob w):Glob w.drew:=by
 have h:=h.var
 unfold Glob Lib.TabIs World.var? at *
 exact h
theorem Glob.drewN {w:World} (h:Glob w) (n:Nat):Glob (w.drewN n):=by
 induction n generalizing w with
 | zero=>exact h
 | succ n ih=>rw [←World.drew_drewN];exact ih h.drew
theorem Glob.cell {w:World} (h:Glob w) (i:Nat) (hi:i < 37):w.cell? ⟨0,i,none⟩=some (.int .i64 (owners.getD i 0)):=by
 have hc:=World.var?_cell gOwners h.var i
 rw [hc]
 have hl:i < owners.length:=hi
 simp [List.getD_eq_getElem?_getD,List.getElem?_eq_getElem hl]
def ownI (id:Int):Int:=if 0≤id∧id < 37 then owners.getD id.toNat 0 else 0
theorem Glob.at_ {w:World} (h:Glob w) (i:Int) (h0:0≤i) (h1:i < 37):w.cell? ⟨0,i.toNat,none⟩=some (.int .i64 (ownI i)):=by
 have:=h.cell i.toNat (by omega)
 rw [ownI,if_pos ⟨h0,h1⟩]
 exact this
theorem owners_range:∀ z∈owners,0≤z∧z≤4:=by decide
theorem ownI_range (i:Int):0≤ownI i∧ownI i≤4:=by
 unfold ownI
 split
 ·rename_i h
  have hl:i.toNat < owners.length:=by have:owners.length=37:=rfl;omega
  rw [List.getD_eq_getElem?_getD,List.getElem?_eq_getElem hl]
  exact owners_range _ (List.getElem_mem hl)
 ·omega
end Go.Proofs.YtlkheeegkifblaaDoor.P
namespace Go.Proofs.YtlkheeegkifblaaDoor.FP
open Go.Proofs.YtlkheeegkifblaaDoor.P
inductive Fo where
 | nil
 | nd (i:Nat) (t:ByteArray) (k n:Fo)
structure Nd where
 t:ByteArray
 up:Nat
 first:Nat
 next:Nat
def Fo.hd:Fo→Nat
 | .nil=>0
 | .nd i _ _ _=>i
def Fo.ids:Fo→List Nat
 | .nil=>[]
 | .nd i _ k n=>i::(k.ids++n.ids)
def Fo.tops:Fo→List Nat
 | .nil=>[]
 | .nd i _ _ n=>i::n.tops
def Fo.fl (d:Nat):Fo→List S37
 | .nil=>[]
 | .nd i t k n=>⟨(i:Int),(d:Int),t⟩::(k.fl (d+1)++n.fl d)
def Rep (h:Nat→Nd) (up:Nat):Fo→Prop
 | .nil=>True
 | .nd i t k n=>i≠0∧h i=⟨t,up,k.hd,n.hd⟩∧Rep h i k∧Rep h up n
def insAfter (a i:Nat) (t:ByteArray) (s:Fo):Fo→Fo
 | .nil=>.nil
 | .nd j u k n=>if j=a then .nd j u k (.nd i t s n) else .nd j u (insAfter a i t s k) (insAfter a i t s n)
def insFirst (p i:Nat) (t:ByteArray) (s:Fo):Fo→Fo
 | .nil=>.nil
 | .nd j u k n=>if j=p then .nd j u (.nd i t s k) n else .nd j u (insFirst p i t s k) (insFirst p i t s n)
def del (x:Nat):Fo→Fo
 | .nil=>.nil
 | .nd j u k n=>if j=x then n else .nd j u (del x k) (del x n)
def sub (x:Nat):Fo→Fo
 | .nil=>.nil
 | .nd j u k n=>if j=x then k else if x∈k.ids then sub x k else sub x n
def attachH (h:Nat→Nd) (i up a:Nat):Nat→Nd:=fun j =>
 if a=0 then
  if j=up then ⟨(h up).t,(h up).up,i,(h up).next⟩ else if j=i then ⟨(h i).t,up,(h i).first,(h up).first⟩ else h j
 else
  if j=a then ⟨(h a).t,(h a).up,(h a).first,i⟩ else if j=i then ⟨(h i).t,up,(h i).first,(h a).next⟩ else h j
def detachH (h:Nat→Nd) (x a:Nat):Nat→Nd:=fun j =>
 if j=x then ⟨(h x).t,0,(h x).first,0⟩
 else if a=0 then (if j=(h x).up then ⟨(h j).t,(h j).up,(h x).next,(h j).next⟩ else h j)
 else (if j=a then ⟨(h j).t,(h j).up,(h j).first,(h x).next⟩ else h j)
theorem Rep.ext {h h':Nat→Nd} {up:Nat}:∀ {F:Fo},Rep h up F→(∀ i∈F.ids,h' i=h i)→Rep h' up F
 | .nil,_,_=>trivial
 | .nd i t k n,⟨h1,h2,h3,h4⟩,e=>⟨h1,(e i (by simp [Fo.ids])).trans h2,Rep.ext h3 fun j hj=>e j (by simp [Fo.ids,hj]),Rep.ext h4 fun j hj=>e j (by simp [Fo.ids,hj])⟩
theorem Rep.ne0 {h:Nat→Nd} {up:Nat}:∀ {F:Fo},Rep h up F→∀ i∈F.ids,i≠0
 | .nil,_,i,hi=>by simp [Fo.ids] at hi
 | .nd j t k n,⟨h1,h2,h3,h4⟩,i,hi=>by
  simp only [Fo.ids,List.mem_cons,List.mem_append] at hi
  rcases hi with rfl|hi|hi
  ·exact h1
  ·exact Rep.ne0 h3 i hi
  ·exact Rep.ne0 h4 i hi
theorem attachH_zero (h:Nat→Nd) (i up:Nat) (j:Nat):attachH h i up 0 j=if j=up then ⟨(h up).t,(h up).up,i,(h up).next⟩ else if j=i then ⟨(h i).t,up,(h i).first,(h up).first⟩ else h j:=rfl
theorem attachH_pos (h:Nat→Nd) (i up a:Nat) (ha:a≠0) (j:Nat):attachH h i up a j=if j=a then ⟨(h a).t,(h a).up,(h a).first,i⟩ else if j=i then ⟨(h i).t,up,(h i).first,(h a).next⟩ else h j:=if_neg ha
theorem detachH_self (h:Nat→Nd) (x a:Nat):detachH h x a x=⟨(h x).t,0,(h x).first,0⟩:=if_pos rfl
theorem detachH_zero (h:Nat→Nd) (x:Nat) {j:Nat} (e:j≠x):detachH h x 0 j=if j=(h x).up then ⟨(h j).t,(h j).up,(h x).next,(h j).next⟩ else h j:=by unfold detachH;rw [if_neg e,if_pos rfl]
theorem detachH_pos (h:Nat→Nd) (x a:Nat) (ha:a≠0) {j:Nat} (e:j≠x):detachH h x a j=if j=a then ⟨(h j).t,(h j).up,(h j).first,(h x).next⟩ else h j:=by unfold detachH;rw [if_neg e,if_neg ha]
structure Free (h:Nat→Nd) (i:Nat) (t:ByteArray) (s:Fo):Prop where
 ne:i≠0
 t:(h i).t=t
 first:(h i).first=s.hd
 rep:Rep h i s
 out:i∉s.ids
theorem insAfter_id (a i:Nat) (t:ByteArray) (s:Fo):∀ {F:Fo},a∉F.ids→insAfter a i t s F=F
 | .nil,_=>rfl
 | .nd j u k n,h=>by
  simp only [Fo.ids,List.mem_cons,List.mem_append,not_or] at h
  unfold insAfter
  rw [if_neg (fun e=>h.1 e.symm),insAfter_id a i t s h.2.1,insAfter_id a i t s h.2.2]
theorem insFirst_id (p i:Nat) (t:ByteArray) (s:Fo):∀ {F:Fo},p∉F.ids→insFirst p i t s F=F
 | .nil,_=>rfl
 | .nd j u k n,h=>by
  simp only [Fo.ids,List.mem_cons,List.mem_append,not_or] at h
  unfold insFirst
  rw [if_neg (fun e=>h.1 e.symm),insFirst_id p i t s h.2.1,insFirst_id p i t s h.2.2]
theorem del_id (x:Nat):∀ {F:Fo},x∉F.ids→del x F=F
 | .nil,_=>rfl
 | .nd j u k n,h=>by
  simp only [Fo.ids,List.mem_cons,List.mem_append,not_or] at h
  unfold del
  rw [if_neg (fun e=>h.1 e.symm),del_id x h.2.1,del_id x h.2.2]
theorem insAfter_hd (a i:Nat) (t:ByteArray) (s:Fo):∀ (F:Fo),(insAfter a i t s F).hd=F.hd
 | .nil=>rfl
 | .nd j u k n=>by unfold insAfter;split <;> rfl
theorem insFirst_hd (p i:Nat) (t:ByteArray) (s:Fo):∀ (F:Fo),(insFirst p i t s F).hd=F.hd
 | .nil=>rfl
 | .nd j u k n=>by unfold insFirst;split <;> rfl
theorem nodup_nd {j:Nat} {u:ByteArray} {k n:Fo} (h:(Fo.nd j u k n).ids.Nodup):j∉k.ids∧j∉n.ids∧k.ids.Nodup∧n.ids.Nodup∧(∀ x∈k.ids,x∉n.ids):=by
 simp only [Fo.ids,List.nodup_cons,List.nodup_append,List.mem_append,not_or] at h
 exact ⟨h.1.1,h.1.2,h.2.1,h.2.2.1,fun x hx hn=>h.2.2.2 x hx x hn rfl⟩
theorem rep_insAfter {h:Nat→Nd} {a i q:Nat} {t:ByteArray} {s:Fo} (hf:Free h i t s) (ha0:a≠0) (hq:(h a).up=q) :
  ∀ {F:Fo} {up:Nat},Rep h up F→F.ids.Nodup→i∉F.ids→a∉s.ids→a≠i→(∀ j∈s.ids,j∉F.ids)→Rep (attachH h i q a) up (insAfter a i t s F)
 | .nil,up,_,_,_,_,_,_=>trivial
 | .nd j u k n,up,⟨h1,h2,h3,h4⟩,hn,hi,has,hai,hd=>by
  obtain ⟨n1,n2,n3,n4,n5⟩:=nodup_nd hn
  have hat:=attachH_pos h i q a ha0
  simp only [Fo.ids,List.mem_cons,List.mem_append,not_or] at hi
  have hs:Rep (attachH h i q a) i s:=hf.rep.ext fun x hx=>by
   rw [hat x,if_neg (fun (e:x=a)=>has (e ▸ hx)),if_neg (fun (e:x=i)=>hf.out (e ▸ hx))]
  unfold insAfter
  by_cases hj:j=a
  ·subst hj
   rw [if_pos rfl]
   have hup:q=up:=by rw [←hq,h2]
   refine ⟨h1,?_,?_,hf.ne,?_,hs,?_⟩
   ·rw [hat j,if_pos rfl,h2];rfl
   ·exact h3.ext fun x hx=>by rw [hat x,if_neg (fun (e:x=j)=>n1 (e ▸ hx)),if_neg (fun (e:x=i)=>hi.2.1 (e ▸ hx))]
   ·rw [hat i,if_neg (fun e=>hai e.symm),if_pos rfl,h2,hup]
    show Nd.mk (h i).t up (h i).first n.hd=_
    rw [hf.t,hf.first]
   ·exact h4.ext fun x hx=>by rw [hat x,if_neg (fun (e:x=j)=>n2 (e ▸ hx)),if_neg (fun (e:x=i)=>hi.2.2 (e ▸ hx))]
  ·rw [if_neg hj]
   refine ⟨h1,?_,?_,?_⟩
   ·rw [hat j,if_neg hj,if_neg (fun e=>hi.1 e.symm),h2,insAfter_hd,insAfter_hd]
   ·exact rep_insAfter hf ha0 hq h3 n3 hi.2.1 has hai fun x hx hk=>hd x hx (by simp [Fo.ids,hk])
   ·exact rep_insAfter hf ha0 hq h4 n4 hi.2.2 has hai fun x hx hk=>hd x hx (by simp [Fo.ids,hk])
theorem rep_insFirst {h:Nat→Nd} {p i:Nat} {t:ByteArray} {s:Fo} (hf:Free h i t s) :
  ∀ {F:Fo} {up:Nat},Rep h up F→F.ids.Nodup→i∉F.ids→p∉s.ids→p≠i→(∀ j∈s.ids,j∉F.ids)→Rep (attachH h i p 0) up (insFirst p i t s F)
 | .nil,up,_,_,_,_,_,_=>trivial
 | .nd j u k n,up,⟨h1,h2,h3,h4⟩,hn,hi,has,hai,hd=>by
  obtain ⟨n1,n2,n3,n4,n5⟩:=nodup_nd hn
  have hat:=attachH_zero h i p
  simp only [Fo.ids,List.mem_cons,List.mem_append,not_or] at hi
  have hs:Rep (attachH h i p 0) i s:=hf.rep.ext fun x hx=>by
   rw [hat x,if_neg (fun (e:x=p)=>has (e ▸ hx)),if_neg (fun (e:x=i)=>hf.out (e ▸ hx))]
  unfold insFirst
  by_cases hj:j=p
  ·subst hj
   rw [if_pos rfl]
   refine ⟨h1,?_,⟨hf.ne,?_,hs,?_⟩,?_⟩
   ·rw [hat j,if_pos rfl,h2];rfl
   ·rw [hat i,if_neg (fun e=>hai e.symm),if_pos rfl,h2]
    show Nd.mk (h i).t j (h i).first k.hd=_
    rw [hf.t,hf.first]
   ·exact h3.ext fun x hx=>by rw [hat x,if_neg (fun (e:x=j)=>n1 (e ▸ hx)),if_neg (fun (e:x=i)=>hi.2.1 (e ▸ hx))]
   ·exact h4.ext fun x hx=>by rw [hat x,if_neg (fun (e:x=j)=>n2 (e ▸ hx)),if_neg (fun (e:x=i)=>hi.2.2 (e ▸ hx))]
  ·rw [if_neg hj]
   refine ⟨h1,?_,?_,?_⟩
   ·rw [hat j,if_neg hj,if_neg (fun e=>hi.1 e.symm),h2,insFirst_hd,insFirst_hd]
   ·exact rep_insFirst hf h3 n3 hi.2.1 has hai fun x hx hk=>hd x hx (by simp [Fo.ids,hk])
   ·exact rep_insFirst hf h4 n4 hi.2.2 has hai fun x hx hk=>hd x hx (by simp [Fo.ids,hk])
def sib (x:Nat):Nat→Fo→Nat
 | _,.nil=>0
 | p,.nd j u k n=>if j=x then p else if x∈k.ids then sib x 0 k else sib x j n
theorem sib_mem (x:Nat):∀ (F:Fo) (p:Nat),sib x p F=p∨sib x p F=0∨sib x p F∈F.ids
 | .nil,p=>Or.inr (Or.inl rfl)
 | .nd j u k n,p=>by
  unfold sib
  by_cases h1:j=x
  ·rw [if_pos h1];exact Or.inl rfl
  ·rw [if_neg h1]
   by_cases h2:x∈k.ids
   ·rw [if_pos h2]
    rcases sib_mem x k 0 with h|h|h
    ·exact Or.inr (Or.inl h)
    ·exact Or.inr (Or.inl h)
    ·exact Or.inr (Or.inr (by simp [Fo.ids,h]))
   ·rw [if_neg h2]
    rcases sib_mem x n j with h|h|h
    ·rw [h];exact Or.inr (Or.inr (by simp [Fo.ids]))
    ·exact Or.inr (Or.inl h)
    ·exact Or.inr (Or.inr (by simp [Fo.ids,h]))
theorem rep_up {h:Nat→Nd} {x:Nat}:∀ {F:Fo} {up:Nat},Rep h up F→F.ids.Nodup→x∈F.ids→(h x).up=up∨(h x).up∈F.ids
 | .nil,_,_,_,hx=>by simp [Fo.ids] at hx
 | .nd j u k n,up,⟨h1,h2,h3,h4⟩,hn,hx=>by
  obtain ⟨n1,n2,n3,n4,n5⟩:=nodup_nd hn
  simp only [Fo.ids,List.mem_cons,List.mem_append] at hx
  rcases hx with rfl|hx|hx
  ·left;rw [h2]
  ·rcases rep_up h3 n3 hx with e|e
   ·right;rw [e];simp [Fo.ids]
   ·right;simp [Fo.ids,e]
  ·rcases rep_up h4 n4 hx with e|e
   ·exact Or.inl e
   ·right;simp [Fo.ids,e]
theorem sib_zero {h:Nat→Nd} {x:Nat}:∀ {F:Fo} {up p:Nat},Rep h up F→F.ids.Nodup→x∈F.ids→sib x p F=0→(p≠0∨F.hd≠x)→(h x).up∈F.ids
 | .nil,_,_,_,_,hx,_,_=>by simp [Fo.ids] at hx
 | .nd j u k n,up,p,⟨h1,h2,h3,h4⟩,hn,hx,hs,hp=>by
  obtain ⟨n1,n2,n3,n4,n5⟩:=nodup_nd hn
  unfold sib at hs
  simp only [Fo.ids,List.mem_cons,List.mem_append] at hx
  by_cases e:j=x
  ·rw [if_pos e] at hs
   rcases hp with hp|hp
   ·exact absurd hs hp
   ·exact absurd e hp
  ·rw [if_neg e] at hs
   by_cases hk:x∈k.ids
   ·rcases rep_up h3 n3 hk with e|e
    ·rw [e];simp [Fo.ids]
    ·simp [Fo.ids,e]
   ·rw [if_neg hk] at hs
    have hxn:x∈n.ids:=by
     rcases hx with e'|e'|e'
     ·exact absurd e'.symm e
     ·exact absurd e' hk
     ·exact e'
    have:=sib_zero (p:=j) h4 n4 hxn hs (Or.inl h1)
    simp [Fo.ids,this]
theorem del_hd (x:Nat) (F:Fo) (h:F.hd≠x):(del x F).hd=F.hd:=by
 cases F with
 | nil=>rfl
 | nd j u k n=>unfold del;rw [if_neg (show j≠x from h)];rfl
theorem del_hd_self {h:Nat→Nd} {up x:Nat} {F:Fo} (hr:Rep h up F) (e:F.hd=x) (hx:x≠0):(del x F).hd=(h x).next∧(h x).up=up:=by
 cases F with
 | nil=>exact absurd e.symm hx
 | nd j u k n =>
  obtain rfl:j=x:=e
  obtain ⟨h1,h2,h3,h4⟩:=hr
  unfold del
  rw [if_pos rfl,h2]
  exact ⟨rfl,rfl⟩
theorem sib_hd {x p:Nat} {F:Fo} (e:F.hd=x) (hx:x≠0):sib x p F=p:=by
 cases F with
 | nil=>exact absurd e.symm hx
 | nd j u k n=>unfold sib;exact if_pos e
theorem up_ne {h:Nat→Nd} {x:Nat}:∀ {F:Fo} {up:Nat},Rep h up F→F.ids.Nodup→x∈F.ids→up∉F.ids→(h x).up≠x
 | .nil,_,_,_,hx,_=>by simp [Fo.ids] at hx
 | .nd j u k n,up,⟨h1,h2,h3,h4⟩,hn,hx,hup=>by
  obtain ⟨n1,n2,n3,n4,n5⟩:=nodup_nd hn
  simp only [Fo.ids,List.mem_cons,List.mem_append,not_or] at hx hup
  rcases hx with rfl|hx|hx
  ·rw [h2];exact hup.1
  ·exact up_ne h3 n3 hx n1
  ·exact up_ne h4 n4 hx hup.2.2
theorem sib_ne {x:Nat} (hx0:x≠0):∀ {F:Fo} {p:Nat},F.ids.Nodup→x∈F.ids→p≠x→sib x p F≠x
 | .nil,_,_,hx,_=>by simp [Fo.ids] at hx
 | .nd j u k n,p,hn,hx,hp=>by
  obtain ⟨n1,n2,n3,n4,n5⟩:=nodup_nd hn
  simp only [Fo.ids,List.mem_cons,List.mem_append] at hx
  unfold sib
  by_cases e1:j=x
  ·rw [if_pos e1];exact hp
  ·rw [if_neg e1]
   by_cases e2:x∈k.ids
   ·rw [if_pos e2];exact sib_ne hx0 n3 e2 (fun e=>hx0 e.symm)
   ·rw [if_neg e2]
    exact sib_ne hx0 n4 (by rcases hx with g|g|g;exact absurd g.symm e1;exact absurd g e2;exact g) e1
theorem rep_del {h:Nat→Nd} {x:Nat}:∀ {F:Fo} {up p:Nat},Rep h up F→F.ids.Nodup→x∈F.ids→up∉F.ids→p∉F.ids→Rep (detachH h x (sib x p F)) up (del x F)
 | .nil,_,_,_,_,hx,_,_=>by simp [Fo.ids] at hx
 | .nd j u k n,up,p,hR,hn,hx,hup,hp=>by
  have hx0:x≠0:=hR.ne0 x hx
  have hxup:(h x).up≠x:=up_ne hR hn hx hup
  obtain ⟨h1,h2,h3,h4⟩:=hR
  obtain ⟨n1,n2,n3,n4,n5⟩:=nodup_nd hn
  simp only [Fo.ids,List.mem_cons,List.mem_append,not_or] at hx hup hp
  unfold sib del
  by_cases e:j=x
  ·subst e
   rw [if_pos rfl,if_pos rfl]
   refine h4.ext fun y hy=>?_
   have hyj:y≠j:=fun e=>n2 (e ▸ hy)
   by_cases hp0:p=0
   ·subst hp0
    rw [detachH_zero h j hyj,h2,if_neg (fun (e:y=up)=>hup.2.2 (e ▸ hy))]
   ·rw [detachH_pos h j p hp0 hyj,if_neg (fun (e:y=p)=>hp.2.2 (e ▸ hy))]
  ·rw [if_neg e,if_neg e]
   by_cases hk:x∈k.ids
   ·rw [if_pos hk]
    have z3:(0:Nat)∉k.ids:=fun h0=>h3.ne0 0 h0 rfl
    have ih:=rep_del (p:=0) h3 n3 hk n1 z3
    have hnx:x∉n.ids:=n5 x hk
    have hsx:=sib_ne (p:=0) hx0 n3 hk (fun e=>hx0 e.symm)
    have hsm:sib x 0 k≠0→sib x 0 k∈k.ids:=fun hs=>by
     rcases sib_mem x k 0 with h'|h'|h'
     ·exact absurd h' hs
     ·exact absurd h' hs
     ·exact h'
    rw [del_id x hnx]
    refine ⟨h1,?_,ih,?_⟩
    ·by_cases hh:k.hd=x
     ·have hs:sib x 0 k=0:=sib_hd hh hx0
      obtain ⟨d1,d2⟩:=del_hd_self h3 hh hx0
      rw [hs,detachH_zero h x e,d2,if_pos rfl,d1,h2]
     ·rw [del_hd x k hh]
      by_cases hs:sib x 0 k=0
      ·have hq:=sib_zero (p:=0) h3 n3 hk hs (Or.inr hh)
       rw [hs,detachH_zero h x e,if_neg (fun (e2:j=(h x).up)=>n1 (e2 ▸ hq)),h2]
      ·rw [detachH_pos h x _ hs e,if_neg (fun (e2:j=sib x 0 k)=>n1 (e2 ▸ hsm hs)),h2]
    ·refine h4.ext fun y hy=>?_
     have hyx:y≠x:=fun e2=>hnx (e2 ▸ hy)
     by_cases hs:sib x 0 k=0
     ·rw [hs,detachH_zero h x hyx,if_neg]
      intro e2
      rcases rep_up h3 n3 hk with e3|e3
      ·exact n2 (e3 ▸ e2 ▸ hy)
      ·exact n5 _ e3 (e2 ▸ hy)
     ·rw [detachH_pos h x _ hs hyx,if_neg (fun (e2:y=sib x 0 k)=>n5 _ (hsm hs) (e2 ▸ hy))]
   ·rw [if_neg hk]
    have hxn:x∈n.ids:=by
     rcases hx with g|g|g
     ·exact absurd g.symm e
     ·exact absurd g hk
     ·exact g
    have ih:=rep_del (p:=j) h4 n4 hxn hup.2.2 n2
    rw [del_id x hk]
    have hsm:sib x j n≠j→sib x j n≠0→sib x j n∈n.ids:=fun hj hs=>by
     rcases sib_mem x n j with h'|h'|h'
     ·exact absurd h' hj
     ·exact absurd h' hs
     ·exact h'
    refine ⟨h1,?_,?_,ih⟩
    ·by_cases hh:n.hd=x
     ·have hs:sib x j n=j:=sib_hd hh hx0
      obtain ⟨d1,d2⟩:=del_hd_self h4 hh hx0
      rw [hs,detachH_pos h x j h1 e,if_pos rfl,d1,h2]
     ·rw [del_hd x n hh]
      by_cases hs:sib x j n=0
      ·have hq:=sib_zero (p:=j) h4 n4 hxn hs (Or.inl h1)
       rw [hs,detachH_zero h x e,if_neg (fun (e2:j=(h x).up)=>n2 (e2 ▸ hq)),h2]
      ·have hsj:sib x j n≠j:=by
        cases n with
        | nil=>simp [Fo.ids] at hxn
        | nd j2 u2 k2 n2' =>
         have hj2:j2≠x:=hh
         unfold sib
         rw [if_neg hj2]
         obtain ⟨m1,m2,m3,m4,m5⟩:=nodup_nd n4
         simp only [Fo.ids,List.mem_cons,List.mem_append,not_or] at n2
         split
         ·rcases sib_mem x k2 0 with h'|h'|h'
          ·rw [h'];exact fun e=>h1 e.symm
          ·rw [h'];exact fun e=>h1 e.symm
          ·exact fun e=>n2.2.1 (e ▸ h')
         ·rcases sib_mem x n2' j2 with h'|h'|h'
          ·rw [h'];exact fun e=>n2.1 e.symm
          ·rw [h'];exact fun e=>h1 e.symm
          ·exact fun e=>n2.2.2 (e ▸ h')
       rw [detachH_pos h x _ hs e,if_neg (fun (e2:j=sib x j n)=>hsj e2.symm),h2]
    ·refine h3.ext fun y hy=>?_
     have hyx:y≠x:=fun e2=>hk (e2 ▸ hy)
     by_cases hs:sib x j n=0
     ·rw [hs,detachH_zero h x hyx,if_neg]
      intro e2
      have hq:=sib_zero (p:=j) h4 n4 hxn hs (Or.inl h1)
      exact n5 _ hy (e2 ▸ hq)
     ·rw [detachH_pos h x _ hs hyx,if_neg]
      intro e2
      by_cases hsj:sib x j n=j
      ·exact n1 (by rw [←hsj,←e2];exact hy)
      ·exact n5 _ hy (e2 ▸ hsm hsj hs)
def RepTop (h:Nat→Nd):Fo→Prop
 | .nil=>True
 | .nd i t k n=>i≠0∧h i=⟨t,0,k.hd,0⟩∧Rep h i k∧RepTop h n
theorem RepTop.ext {h h':Nat→Nd}:∀ {F:Fo},RepTop h F→(∀ i∈F.ids,h' i=h i)→RepTop h' F
 | .nil,_,_=>trivial
 | .nd i t k n,⟨h1,h2,h3,h4⟩,e=>⟨h1,(e i (by simp [Fo.ids])).trans h2,Rep.ext h3 fun j hj=>e j (by simp [Fo.ids,hj]),RepTop.ext h4 fun j hj=>e j (by simp [Fo.ids,hj])⟩
theorem RepTop.ne0 {h:Nat→Nd}:∀ {F:Fo},RepTop h F→∀ i∈F.ids,i≠0
 | .nil,_,i,hi=>by simp [Fo.ids] at hi
 | .nd j t k n,⟨h1,h2,h3,h4⟩,i,hi=>by
  simp only [Fo.ids,List.mem_cons,List.mem_append] at hi
  rcases hi with rfl|hi|hi
  ·exact h1
  ·exact Rep.ne0 h3 i hi
  ·exact RepTop.ne0 h4 i hi
theorem tops_ids:∀ {F:Fo} {x:Nat},x∈F.tops→x∈F.ids
 | .nil,x,h=>by cases h
 | .nd j t k n,x,h=>by
  simp only [Fo.tops,List.mem_cons] at h
  simp only [Fo.ids,List.mem_cons,List.mem_append]
  rcases h with h|h
  ·exact Or.inl h
  ·exact Or.inr (Or.inr (tops_ids h))
theorem reptop_up {h:Nat→Nd} {x:Nat}:∀ {F:Fo},RepTop h F→F.ids.Nodup→x∈F.ids→x∉F.tops→(h x).up∈F.ids∧(h x).up≠x
 | .nil,_,_,hx,_=>by simp [Fo.ids] at hx
 | .nd j u k n,⟨h1,h2,h3,h4⟩,hn,hx,ht=>by
  obtain ⟨n1,n2,n3,n4,n5⟩:=nodup_nd hn
  simp only [Fo.ids,Fo.tops,List.mem_cons,List.mem_append,not_or] at hx ht ⊢
  rcases hx with e|hx|hx
  ·exact absurd e ht.1
  ·refine ⟨?_,up_ne h3 n3 hx n1⟩
   rcases rep_up h3 n3 hx with e|e
   ·exact Or.inl e
   ·exact Or.inr (Or.inl e)
  ·obtain ⟨g1,g2⟩:=reptop_up h4 n4 hx ht.2
   exact ⟨Or.inr (Or.inr g1),g2⟩
theorem reptop_root {h:Nat→Nd} {x:Nat}:∀ {F:Fo},RepTop h F→x∈F.tops→(h x).up=0
 | .nil,_,hx=>by cases hx
 | .nd j u k n,⟨h1,h2,h3,h4⟩,hx=>by
  simp only [Fo.tops,List.mem_cons] at hx
  rcases hx with rfl|hx
  ·rw [h2]
  ·exact reptop_root h4 hx
theorem reptop_insAfter {h:Nat→Nd} {a i q:Nat} {t:ByteArray} {s:Fo} (hf:Free h i t s) (ha0:a≠0) (hq:(h a).up=q) :
  ∀ {F:Fo},RepTop h F→F.ids.Nodup→i∉F.ids→a∉F.tops→a∉s.ids→a≠i→(∀ j∈s.ids,j∉F.ids)→RepTop (attachH h i q a) (insAfter a i t s F)
 | .nil,_,_,_,_,_,_,_=>trivial
 | .nd j u k n,⟨h1,h2,h3,h4⟩,hn,hi,hta,has,hai,hd=>by
  obtain ⟨n1,n2,n3,n4,n5⟩:=nodup_nd hn
  simp only [Fo.ids,Fo.tops,List.mem_cons,List.mem_append,not_or] at hi hta
  have hj:j≠a:=fun e=>hta.1 e.symm
  unfold insAfter
  rw [if_neg hj]
  refine ⟨h1,?_,?_,?_⟩
  ·rw [attachH_pos h i q a ha0 j,if_neg hj,if_neg (fun e=>hi.1 e.symm),h2,insAfter_hd]
  ·exact rep_insAfter hf ha0 hq h3 n3 hi.2.1 has hai fun x hx hk=>hd x hx (by simp [Fo.ids,hk])
  ·exact reptop_insAfter hf ha0 hq h4 n4 hi.2.2 hta.2 has hai fun x hx hk=>hd x hx (by simp [Fo.ids,hk])
theorem reptop_insFirst {h:Nat→Nd} {p i:Nat} {t:ByteArray} {s:Fo} (hf:Free h i t s) :
  ∀ {F:Fo},RepTop h F→F.ids.Nodup→i∉F.ids→p∉s.ids→p≠i→(∀ j∈s.ids,j∉F.ids)→RepTop (attachH h i p 0) (insFirst p i t s F)
 | .nil,_,_,_,_,_,_=>trivial
 | .nd j u k n,⟨h1,h2,h3,h4⟩,hn,hi,has,hai,hd=>by
  obtain ⟨n1,n2,n3,n4,n5⟩:=nodup_nd hn
  have hat:=attachH_zero h i p
  simp only [Fo.ids,List.mem_cons,List.mem_append,not_or] at hi
  unfold insFirst
  by_cases hj:j=p
  ·subst hj
   rw [if_pos rfl]
   refine ⟨h1,?_,⟨hf.ne,?_,?_,?_⟩,?_⟩
   ·rw [hat j,if_pos rfl,h2];rfl
   ·rw [hat i,if_neg (fun e=>hai e.symm),if_pos rfl,h2]
    show Nd.mk (h i).t j (h i).first k.hd=_
    rw [hf.t,hf.first]
   ·exact hf.rep.ext fun x hx=>by
     rw [hat x,if_neg (fun (e:x=j)=>has (e ▸ hx)),if_neg (fun (e:x=i)=>hf.out (e ▸ hx))]
   ·exact h3.ext fun x hx=>by rw [hat x,if_neg (fun (e:x=j)=>n1 (e ▸ hx)),if_neg (fun (e:x=i)=>hi.2.1 (e ▸ hx))]
   ·exact h4.ext fun x hx=>by rw [hat x,if_neg (fun (e:x=j)=>n2 (e ▸ hx)),if_neg (fun (e:x=i)=>hi.2.2 (e ▸ hx))]
  ·rw [if_neg hj]
   refine ⟨h1,?_,?_,?_⟩
   ·rw [hat j,if_neg hj,if_neg (fun e=>hi.1 e.symm),h2,insFirst_hd]
   ·exact rep_insFirst hf h3 n3 hi.2.1 has hai fun x hx hk=>hd x hx (by simp [Fo.ids,hk])
   ·exact reptop_insFirst hf h4 n4 hi.2.2 has hai fun x hx hk=>hd x hx (by simp [Fo.ids,hk])
def sibT (x:Nat):Fo→Nat
 | .nil=>0
 | .nd j u k n=>if x∈k.ids then sib x 0 k else sibT x n
theorem sibT_mem (x:Nat):∀ (F:Fo),sibT x F=0∨sibT x F∈F.ids
 | .nil=>Or.inl rfl
 | .nd j u k n=>by
  unfold sibT
  split
  ·rcases sib_mem x k 0 with h|h|h
   ·exact Or.inl h
   ·exact Or.inl h
   ·exact Or.inr (by simp [Fo.ids,h])
  ·rcases sibT_mem x n with h|h
   ·exact Or.inl h
   ·exact Or.inr (by simp [Fo.ids,h])
theorem reptop_del {h:Nat→Nd} {x:Nat}:∀ {F:Fo},RepTop h F→F.ids.Nodup→x∈F.ids→x∉F.tops→RepTop (detachH h x (sibT x F)) (del x F)
 | .nil,_,_,hx,_=>by simp [Fo.ids] at hx
 | .nd j u k n,hR,hn,hx,ht=>by
  have hx0:x≠0:=hR.ne0 x hx
  obtain ⟨h1,h2,h3,h4⟩:=hR
  obtain ⟨n1,n2,n3,n4,n5⟩:=nodup_nd hn
  simp only [Fo.ids,Fo.tops,List.mem_cons,List.mem_append,not_or] at hx ht
  have e:j≠x:=fun e=>ht.1 e.symm
  unfold sibT del
  rw [if_neg e]
  by_cases hk:x∈k.ids
  ·rw [if_pos hk]
   have z3:(0:Nat)∉k.ids:=fun h0=>h3.ne0 0 h0 rfl
   have hxup:(h x).up≠x:=up_ne h3 n3 hk n1
   have ih:=rep_del (p:=0) h3 n3 hk n1 z3
   have hnx:x∉n.ids:=n5 x hk
   have hsx:=sib_ne (p:=0) hx0 n3 hk (fun e=>hx0 e.symm)
   have hsm:sib x 0 k≠0→sib x 0 k∈k.ids:=fun hs=>by
    rcases sib_mem x k 0 with h'|h'|h'
    ·exact absurd h' hs
    ·exact absurd h' hs
    ·exact h'
   rw [del_id x hnx]
   refine ⟨h1,?_,ih,?_⟩
   ·by_cases hh:k.hd=x
    ·have hs:sib x 0 k=0:=sib_hd hh hx0
     obtain ⟨d1,d2⟩:=del_hd_self h3 hh hx0
     rw [hs,detachH_zero h x e,d2,if_pos rfl,d1,h2]
    ·rw [del_hd x k hh]
     by_cases hs:sib x 0 k=0
     ·have hq:=sib_zero (p:=0) h3 n3 hk hs (Or.inr hh)
      rw [hs,detachH_zero h x e,if_neg (fun (e2:j=(h x).up)=>n1 (e2 ▸ hq)),h2]
     ·rw [detachH_pos h x _ hs e,if_neg (fun (e2:j=sib x 0 k)=>n1 (e2 ▸ hsm hs)),h2]
   ·refine h4.ext fun y hy=>?_
    have hyx:y≠x:=fun e2=>hnx (e2 ▸ hy)
    by_cases hs:sib x 0 k=0
    ·rw [hs,detachH_zero h x hyx,if_neg]
     intro e2
     rcases rep_up h3 n3 hk with e3|e3
     ·exact n2 (e3 ▸ e2 ▸ hy)
     ·exact n5 _ e3 (e2 ▸ hy)
    ·rw [detachH_pos h x _ hs hyx,if_neg (fun (e2:y=sib x 0 k)=>n5 _ (hsm hs) (e2 ▸ hy))]
  ·rw [if_neg hk]
   have hxn:x∈n.ids:=by
    rcases hx with g|g|g
    ·exact absurd g.symm e
    ·exact absurd g hk
    ·exact g
   have ih:=reptop_del h4 n4 hxn ht.2
   obtain ⟨u1,u2⟩:=reptop_up h4 n4 hxn ht.2
   have hsm:sibT x n≠0→sibT x n∈n.ids:=fun hs=>by
    rcases sibT_mem x n with h'|h'
    ·exact absurd h' hs
    ·exact h'
   rw [del_id x hk]
   refine ⟨h1,?_,?_,ih⟩
   ·by_cases hs:sibT x n=0
    ·rw [hs,detachH_zero h x e,if_neg (fun (e2:j=(h x).up)=>n2 (e2 ▸ u1)),h2]
    ·rw [detachH_pos h x _ hs e,if_neg (fun (e2:j=sibT x n)=>n2 (e2 ▸ hsm hs)),h2]
   ·refine h3.ext fun y hy=>?_
    have hyx:y≠x:=fun e2=>hk (e2 ▸ hy)
    by_cases hs:sibT x n=0
    ·rw [hs,detachH_zero h x hyx,if_neg (fun (e2:y=(h x).up)=>n5 _ hy (e2 ▸ u1))]
    ·rw [detachH_pos h x _ hs hyx,if_neg (fun (e2:y=sibT x n)=>n5 _ hy (e2 ▸ hsm hs))]
theorem free_detach {h:Nat→Nd} {x a:Nat}:∀ {F:Fo} {up:Nat},Rep h up F→F.ids.Nodup→x∈F.ids→a∉(sub x F).ids→(h x).up∉(sub x F).ids→Free (detachH h x a) x (h x).t (sub x F)
 | .nil,_,_,_,hx,_,_=>by simp [Fo.ids] at hx
 | .nd j u k n,up,⟨h1,h2,h3,h4⟩,hn,hx,ha,hu=>by
  obtain ⟨n1,n2,n3,n4,n5⟩:=nodup_nd hn
  unfold sub at ha hu ⊢
  by_cases e:j=x
  ·subst e
   rw [if_pos rfl] at ha hu ⊢
   refine ⟨h1,by rw [detachH_self],by rw [detachH_self,h2],h3.ext fun y hy=>?_,n1⟩
   have hyj:y≠j:=fun e=>n1 (e ▸ hy)
   by_cases ha0:a=0
   ·subst ha0;rw [detachH_zero h j hyj,if_neg (fun (e:y=(h j).up)=>hu (e ▸ hy))]
   ·rw [detachH_pos h j a ha0 hyj,if_neg (fun (e:y=a)=>ha (e ▸ hy))]
  ·rw [if_neg e] at ha hu ⊢
   by_cases hk:x∈k.ids
   ·rw [if_pos hk] at ha hu ⊢
    exact free_detach h3 n3 hk ha hu
   ·rw [if_neg hk] at ha hu ⊢
    simp only [Fo.ids,List.mem_cons,List.mem_append] at hx
    exact free_detach h4 n4 (by rcases hx with g|g|g;exact absurd g.symm e;exact absurd g hk;exact g) ha hu
def dpth:Fo→Nat
 | .nil=>0
 | .nd _ _ k .nil=>dpth k+1
 | .nd _ _ _ (.nd i t k n)=>dpth (.nd i t k n)
def sp:Nat→Fo→Nat
 | _,.nil=>0
 | 0,.nd i _ _ .nil=>i
 | e+1,.nd _ _ k .nil=>sp e k
 | e,.nd _ _ _ (.nd i t k n)=>sp e (.nd i t k n)
def snoc (i:Nat) (t:ByteArray):Nat→Fo→Fo
 | _,.nil=>.nd i t .nil .nil
 | 0,.nd j u k .nil=>.nd j u k (.nd i t .nil .nil)
 | e+1,.nd j u k .nil=>.nd j u (snoc i t e k) .nil
 | e,.nd j u k (.nd j2 u2 k2 n2)=>.nd j u k (snoc i t e (.nd j2 u2 k2 n2))
theorem snoc_ne (i:Nat) (t:ByteArray):∀ (e:Nat) (G:Fo),∃ j u k n,snoc i t e G=.nd j u k n
 | e,.nil=>⟨_,_,_,_,by unfold snoc;rfl⟩
 | 0,.nd j u k .nil=>⟨_,_,_,_,by unfold snoc;rfl⟩
 | e+1,.nd j u k .nil=>⟨_,_,_,_,by unfold snoc;rfl⟩
 | e,.nd j u k (.nd j2 u2 k2 n2)=>⟨_,_,_,_,by unfold snoc;rfl⟩
theorem snoc_fl (i:Nat) (t:ByteArray):∀ (G:Fo) (e d:Nat),e≤dpth G→(snoc i t e G).fl d=G.fl d++[⟨(i:Int),((d+e:Nat):Int),t⟩]
 | .nil,e,d,h=>by
  have:e=0:=by simpa [dpth] using h
  subst this
  simp [snoc,Fo.fl]
 | .nd j u k .nil,0,d,h=>by simp [snoc,Fo.fl]
 | .nd j u k .nil,e+1,d,h=>by
  have:=snoc_fl i t k e (d+1) (by simp only [dpth] at h;omega)
  simp only [snoc,Fo.fl,this]
  rw [show d+1+e=d+(e+1) by omega]
  simp
 | .nd j u k (.nd j2 u2 k2 n2),e,d,h=>by
  have:=snoc_fl i t (.nd j2 u2 k2 n2) e d h
  have e1:snoc i t e (.nd j u k (.nd j2 u2 k2 n2))=.nd j u k (snoc i t e (.nd j2 u2 k2 n2)):=by cases e <;> rfl
  rw [e1]
  simp only [Fo.fl] at this ⊢
  rw [this]
  simp
theorem snoc_ids (i:Nat) (t:ByteArray):∀ (G:Fo) (e:Nat),(snoc i t e G).ids=G.ids++[i]
 | .nil,e=>by simp [snoc,Fo.ids]
 | .nd j u k .nil,0=>by simp [snoc,Fo.ids]
 | .nd j u k .nil,e+1=>by simp [snoc,Fo.ids,snoc_ids i t k e]
 | .nd j u k (.nd j2 u2 k2 n2),e=>by
  have e1:snoc i t e (.nd j u k (.nd j2 u2 k2 n2))=.nd j u k (snoc i t e (.nd j2 u2 k2 n2)):=by cases e <;> rfl
  rw [e1]
  show j::(k.ids++(snoc i t e (.nd j2 u2 k2 n2)).ids)=_
  rw [snoc_ids i t (.nd j2 u2 k2 n2) e]
  simp [Fo.ids]
theorem snoc_tops (i:Nat) (t:ByteArray):∀ (G:Fo) (e:Nat),e≤dpth G→(snoc i t e G).tops=if e=0 then G.tops++[i] else G.tops
 | .nil,e,h=>by
  have:e=0:=by simpa [dpth] using h
  subst this
  simp [snoc,Fo.tops]
 | .nd j u k .nil,0,_=>by simp [snoc,Fo.tops]
 | .nd j u k .nil,e+1,_=>by simp [snoc,Fo.tops]
 | .nd j u k (.nd j2 u2 k2 n2),e,h=>by
  have e1:snoc i t e (.nd j u k (.nd j2 u2 k2 n2))=.nd j u k (snoc i t e (.nd j2 u2 k2 n2)):=by cases e <;> rfl
  rw [e1]
  show j::(snoc i t e (.nd j2 u2 k2 n2)).tops=_
  rw [snoc_tops i t (.nd j2 u2 k2 n2) e h]
  by_cases he:e=0 <;> simp [he,Fo.tops]
theorem dpth_nd {j:Nat} {u:ByteArray} {k n:Fo} (h:∃ a b c d,n=.nd a b c d):dpth (.nd j u k n)=dpth n:=by
 obtain ⟨a,b,c,d,rfl⟩:=h
 rfl
theorem sp_nd {e j:Nat} {u:ByteArray} {k n:Fo} (h:∃ a b c d,n=.nd a b c d):sp e (.nd j u k n)=sp e n:=by
 obtain ⟨a,b,c,d,rfl⟩:=h
 cases e <;> rfl
theorem snoc_dpth (i:Nat) (t:ByteArray):∀ (G:Fo) (e:Nat),e≤dpth G→dpth (snoc i t e G)=e+1
 | .nil,e,h=>by
  have:e=0:=by simpa [dpth] using h
  subst this
  rfl
 | .nd j u k .nil,0,_=>rfl
 | .nd j u k .nil,e+1,h=>by
  show dpth (.nd j u (snoc i t e k) .nil)=_
  show dpth (snoc i t e k)+1=_
  rw [snoc_dpth i t k e (by simp only [dpth] at h;omega)]
 | .nd j u k (.nd j2 u2 k2 n2),e,h=>by
  have e1:snoc i t e (.nd j u k (.nd j2 u2 k2 n2))=.nd j u k (snoc i t e (.nd j2 u2 k2 n2)):=by cases e <;> rfl
  rw [e1,dpth_nd (snoc_ne i t e _)]
  exact snoc_dpth i t (.nd j2 u2 k2 n2) e h
theorem snoc_sp (i:Nat) (t:ByteArray):∀ (G:Fo) (e:Nat),e≤dpth G→sp e (snoc i t e G)=i∧∀ d,d < e→sp d (snoc i t e G)=sp d G
 | .nil,e,h=>by
  have:e=0:=by simpa [dpth] using h
  subst this
  exact ⟨rfl,fun d hd=>by omega⟩
 | .nd j u k .nil,0,_=>⟨rfl,fun d hd=>by omega⟩
 | .nd j u k .nil,e+1,h=>by
  obtain ⟨h1,h2⟩:=snoc_sp i t k e (by simp only [dpth] at h;omega)
  refine ⟨h1,fun d hd=>?_⟩
  cases d with
  | zero=>rfl
  | succ d=>exact h2 d (by omega)
 | .nd j u k (.nd j2 u2 k2 n2),e,h=>by
  have e1:snoc i t e (.nd j u k (.nd j2 u2 k2 n2))=.nd j u k (snoc i t e (.nd j2 u2 k2 n2)):=by cases e <;> rfl
  obtain ⟨h1,h2⟩:=snoc_sp i t (.nd j2 u2 k2 n2) e h
  rw [e1]
  refine ⟨(sp_nd (snoc_ne i t e _)).trans h1,fun d hd=>?_⟩
  rw [sp_nd (snoc_ne i t e _),h2 d hd]
  exact (sp_nd ⟨_,_,_,_,rfl⟩).symm
theorem sp_mem:∀ (G:Fo) (e:Nat),e < dpth G→sp e G∈G.ids
 | .nil,e,h=>by simp [dpth] at h
 | .nd j u k .nil,0,_=>by simp [sp,Fo.ids]
 | .nd j u k .nil,e+1,h=>by
  have:=sp_mem k e (by simp only [dpth] at h;omega)
  show sp e k∈_
  simp [Fo.ids,this]
 | .nd j u k (.nd j2 u2 k2 n2),e,h=>by
  have:=sp_mem (.nd j2 u2 k2 n2) e h
  rw [sp_nd ⟨_,_,_,_,rfl⟩]
  show _∈j::(k.ids++(Fo.nd j2 u2 k2 n2).ids)
  simp only [List.mem_cons,List.mem_append]
  exact Or.inr (Or.inr this)
theorem rep_sp {h:Nat→Nd}:∀ (G:Fo) {up:Nat} (e:Nat),Rep h up G→e < dpth G→(h (sp e G)).up=if e=0 then up else sp (e - 1) G
 | .nil,up,e,_,hl=>by simp [dpth] at hl
 | .nd j u k .nil,up,0,⟨h1,h2,h3,h4⟩,_=>by show (h j).up=_;rw [h2];rfl
 | .nd j u k .nil,up,e+1,⟨h1,h2,h3,h4⟩,hl=>by
  have:=rep_sp k e h3 (by simp only [dpth] at hl;omega)
  show (h (sp e k)).up=_
  rw [this,if_neg (by omega:¬ e+1=0)]
  cases e with
  | zero=>rfl
  | succ e=>rfl
 | .nd j u k (.nd j2 u2 k2 n2),up,e,⟨h1,h2,h3,h4⟩,hl=>by
  have:=rep_sp (.nd j2 u2 k2 n2) e h4 hl
  rw [sp_nd ⟨_,_,_,_,rfl⟩,sp_nd ⟨_,_,_,_,rfl⟩]
  exact this
theorem reptop_sp {h:Nat→Nd}:∀ (G:Fo) (e:Nat),RepTop h G→e+1 < dpth G→(h (sp (e+1) G)).up=sp e G
 | .nil,e,_,hl=>by simp [dpth] at hl
 | .nd j u k .nil,e,⟨h1,h2,h3,h4⟩,hl=>by
  have:=rep_sp k e h3 (by simp only [dpth] at hl;omega)
  show (h (sp e k)).up=_
  rw [this]
  cases e with
  | zero=>rfl
  | succ e=>rfl
 | .nd j u k (.nd j2 u2 k2 n2),e,⟨h1,h2,h3,h4⟩,hl=>by
  have:=reptop_sp (.nd j2 u2 k2 n2) e h4 hl
  rw [sp_nd ⟨_,_,_,_,rfl⟩,sp_nd ⟨_,_,_,_,rfl⟩]
  exact this
theorem sp_not_top:∀ (G:Fo) (e:Nat),G.ids.Nodup→e+1 < dpth G→sp (e+1) G∉G.tops
 | .nil,e,_,hl=>by simp [dpth] at hl
 | .nd j u k .nil,e,hn,hl=>by
  obtain ⟨n1,n2,n3,n4,n5⟩:=nodup_nd hn
  have hm:=sp_mem k e (by simp only [dpth] at hl;omega)
  show sp e k∉[j]
  intro hc
  rw [List.mem_singleton.1 hc] at hm
  exact n1 hm
 | .nd j u k (.nd j2 u2 k2 n2),e,hn,hl=>by
  obtain ⟨n1,m2,n3,n4,n5⟩:=nodup_nd hn
  have:=sp_not_top (.nd j2 u2 k2 n2) e n4 hl
  have hm:=sp_mem (.nd j2 u2 k2 n2) (e+1) hl
  rw [sp_nd ⟨_,_,_,_,rfl⟩]
  intro hc
  rcases List.mem_cons.1 hc with hc|hc
  ·rw [hc] at hm;exact m2 hm
  ·exact this hc
theorem snoc_after (i:Nat) (t:ByteArray):∀ (G:Fo) (e:Nat),G.ids.Nodup→e < dpth G→snoc i t e G=insAfter (sp e G) i t .nil G
 | .nil,e,_,hl=>by simp [dpth] at hl
 | .nd j u k .nil,0,hn,_=>by
  show Fo.nd j u k (.nd i t .nil .nil)=insAfter j i t .nil (.nd j u k .nil)
  unfold insAfter
  rw [if_pos rfl]
 | .nd j u k .nil,e+1,hn,hl=>by
  obtain ⟨n1,n2,n3,n4,n5⟩:=nodup_nd hn
  have hl':e < dpth k:=by simp only [dpth] at hl;omega
  have hm:=sp_mem k e hl'
  show Fo.nd j u (snoc i t e k) .nil=insAfter (sp e k) i t .nil (.nd j u k .nil)
  unfold insAfter
  rw [if_neg (fun (e2:j=sp e k)=>n1 (e2 ▸ hm)),snoc_after i t k e n3 hl']
  rfl
 | .nd j u k (.nd j2 u2 k2 n2),e,hn,hl=>by
  obtain ⟨n1,n2',n3,n4,n5⟩:=nodup_nd hn
  have e1:snoc i t e (.nd j u k (.nd j2 u2 k2 n2))=.nd j u k (snoc i t e (.nd j2 u2 k2 n2)):=by cases e <;> rfl
  have hm:=sp_mem (.nd j2 u2 k2 n2) e hl
  have e2:sp e (.nd j u k (.nd j2 u2 k2 n2))=sp e (.nd j2 u2 k2 n2):=sp_nd ⟨_,_,_,_,rfl⟩
  rw [e1,e2,snoc_after i t _ e n4 hl]
  have e3:insAfter (sp e (.nd j2 u2 k2 n2)) i t .nil (.nd j u k (.nd j2 u2 k2 n2))=.nd j u (insAfter (sp e (.nd j2 u2 k2 n2)) i t .nil k) (insAfter (sp e (.nd j2 u2 k2 n2)) i t .nil (.nd j2 u2 k2 n2)):=by
   conv=>lhs;unfold insAfter
   rw [if_neg (fun (e2:j=sp e (.nd j2 u2 k2 n2))=>n2' (e2 ▸ hm))]
  rw [e3,insAfter_id _ i t .nil (fun hk=>n5 _ hk hm)]
end Go.Proofs.YtlkheeegkifblaaDoor.FP
