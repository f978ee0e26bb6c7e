/- FnKeyBack: a part. -/
import Derived.Test.YtlkheeegkifblaaDoorZFn83
set_option linter.unusedVariables false
set_option linter.unusedSimpArgs false
set_option linter.unusedSectionVars false
set_option maxHeartbeats 8000000
set_option maxRecDepth 100000
namespace Go.Proofs.YtlkheeegkifblaaDoor.P
open Go.RowKit Go.Proofs.YtlkheeegkifblaaDoorW.PrintWords Go.Proofs.YtlkheeegkifblaaDoorW.PrintLast
theorem spec_KeyBack.calls (k:Nat) (A0:Option Addr) (c0:Nat) (l0:List (S37)) (a1_0:Int) (a1_1:Int) (a1_2:Int) (a1_3:Int) (a1_4:ByteArray) (r1:Int) (r2:Int) (r3:Int) (r4:Int) (r5:ByteArray) (r6:Bool) (w:World) (hr0:Kd.C k37 w A0 l0.length l0) (hc0:l0.length≤c0) (h:spec_KeyBack.f k l0 a1_0 a1_1 a1_2 a1_3 a1_4=some (r1,r2,r3,r4,r5,r6)) :
  Calls Tryd.prog 41 #[.slice A0 l0.length c0,.agg #[.int .i64 a1_0,.int .i64 a1_1,.int .i64 a1_2,.int .i64 a1_3,.string a1_4]] w fun e w'=>e=.returned (.tuple #[.agg #[.int .i64 r1,.int .i64 r2,.int .i64 r3,.int .i64 r4,.string r5],.bool r6])∧Below w.heap.size w w':=by
 have hu27:=Tryd.underlying27
 have HR0:=a_ hr0
 have HC0:=a_ hc0
 clear hr0 hc0
 have HB:=a_ (Below.refl w.heap.size w)
 unfold spec_KeyBack.f at h
 have H:=h
 clear h
 have HC3:=a_ H
 clear H
 go_enter Tryd.func41,Tryd.ntmps41
 go_upto_region 1 with (first|((with_reducible refine gD_ (N:=3) rfl ?_);refine bx_ 3 (#[.int .i64 a1_0,.int .i64 a1_1,.int .i64 a1_2,.int .i64 a1_3,.string a1_4]) 27 ?_;intro gb744 hg w4 hbox hb;have n0_:=a_ (bS_ (bel_) hb);have n1_:=a_ (hbox);have n2_:=a_ ((by rw [hg];exact (below_size (bel_)):w.heap.size≤gb744));have n3_:=a_ ((by rw [hg];exact (below_size (bel_)):w.heap.size≤gb744));clear HB;have HB:=n0_;have BK744:=n1_;have GW744:=n2_;have GE744:=n3_;clear n0_ n1_ n2_ n3_;clear hb hbox hg)|((with_reducible refine gD_ (N:=4) rfl ?_);refine bx_ 4 (#[.int .i64 0,.int .i64 0,.int .i64 0,.int .i64 0,.string (⟨#[]⟩:ByteArray)]) 27 ?_;intro gb745 hg w5 hbox hb;have n0_:=a_ (bb_ BK744.out hb);have n1_:=a_ (bS_ (bel_) hb);have n2_:=a_ (hbox);have n3_:=a_ ((by rw [hg];exact (below_size (bel_)):w.heap.size≤gb745));have n4_:=a_ ((by rw [hg];exact (below_size (bel_)):w.heap.size≤gb745));have n5_:=a_ ((by rw [hg];exact Nat.ne_of_lt (blk_lt (g:=gb744) (o:=.cells #[.int .i64 a1_0,.int .i64 a1_1,.int .i64 a1_2,.int .i64 a1_3,.string a1_4] 27 (0,0)) (bp_ BK744.out)):gb744≠gb745));have n6_:=a_ ((by rw [hg];exact Nat.ne_of_gt (blk_lt (g:=gb744) (o:=.cells #[.int .i64 a1_0,.int .i64 a1_1,.int .i64 a1_2,.int .i64 a1_3,.string a1_4] 27 (0,0)) (bp_ BK744.out)):gb745≠gb744));clear BK744;clear HB;have BK744:=n0_;have HB:=n1_;have BK745:=n2_;have GW745:=n3_;have GE745:=n4_;have NB744_745:=n5_;have NB745_744:=n6_;clear n0_ n1_ n2_ n3_ n4_ n5_ n6_;clear hb hbox hg))
 (try simp only [Act.put,List.setIfInBounds_toArray,List.set_cons_zero,List.set_cons_succ])
 go_cut [17] (fun v17 wc=>∃ (kq:Nat) (x17_2:Bool),v17=.bool x17_2∧Aside0 (spec_KeyBack.j0 kq l0 x17_2 a1_0 a1_1 a1_2 a1_3 a1_4=some (r1,r2,r3,r4,r5,r6))∧Aside0 (kq≤k)∧Aside0 (wc.heap[gb744]?=some (.cells #[.int .i64 a1_0,.int .i64 a1_1,.int .i64 a1_2,.int .i64 a1_3,.string a1_4] 27 (0,0)))∧Aside0 (wc.heap[gb745]?=some (.cells #[.int .i64 0,.int .i64 0,.int .i64 0,.int .i64 0,.string (⟨#[]⟩:ByteArray)] 27 (0,0)))∧Aside0 (Below w.heap.size w wc))
 case first =>
  have H:=HC3.out
  clear HC3
  replace H:=bs_ H
  obtain ⟨t746,A60,H⟩:=H
  try dsimp only at H
  have A6:=a_ A60
  clear A60
  by_cases c7:t746=true
  ·subst c7
   have H1:((spec_OpOk.f k a1_0 a1_1 a1_2 a1_3 a1_4).bind fun t747=>(spec_KeyBack.j0 k l0 (!t747) a1_0 a1_1 a1_2 a1_3 a1_4))=some (r1,r2,r3,r4,r5,r6):=by rw [if_pos rfl] at H;exact H
   clear H
   have H:=H1
   clear H1
   replace H:=bs_ H
   obtain ⟨t747,A80,H⟩:=H
   try dsimp only at H
   have A8:=a_ A80
   clear A80
   have H':=a_ H
   clear H
   go_wp2_with (first|((with_reducible refine gC_ (f:=19) rfl ?_);refine gl_ 11 Tryd.func19 #[.slice A0 l0.length c0] ?_;(with_reducible refine (spec_TreeOk.calls k _ _ l0 true _ ?side1 ?side2 A6.out).mono ?_);(case side1=>exact cp_ HR0.out);(case side2=>exact HC0.out);rintro e w9 ⟨rfl,hb⟩;refine ⟨_,rfl,?_⟩;replace HB:=a_ (bS_ (bel_) hb);replace BK744:=a_ (bb_ BK744.out hb);replace BK745:=a_ (bb_ BK745.out hb);(try clear hb);have hnb10:=NB744_745.out;have hnc10:=NB745_744.out;obtain ⟨Z11_0,Z11_1,Z11_2,Z11_3,Z11_4,Y11_0,Y11_1,Y11_2,Y11_3,Y11_4⟩:=op5_ BK744.out)|(go_at_call 47;(with_reducible refine (spec_OpOk.calls k a1_0 a1_1 a1_2 a1_3 a1_4 t747 _ A8.out).mono ?_);rintro e w12 ⟨rfl,hb⟩;replace HB:=a_ (bS_ (bel_) hb);replace BK744:=a_ (bb_ BK744.out hb);replace BK745:=a_ (bb_ BK745.out hb);(try clear hb)))
   go_meet
   case rel=>exact ⟨_,(!t747),(si_),H',⟨by first|omega|exact Nat.le_refl _⟩,⟨by (with_reducible repeat (first|refine bN_ ?_ _|refine bD_ ?_|refine bA_ ?_ _));exact BK744.out⟩,⟨by (with_reducible repeat (first|refine bN_ ?_ _|refine bD_ ?_|refine bA_ ?_ _));exact BK745.out⟩,⟨bel_⟩⟩
  ·replace c7:=Bool.eq_false_iff.mpr c7
   subst c7
   have H1:(spec_KeyBack.j0 k l0 true a1_0 a1_1 a1_2 a1_3 a1_4)=some (r1,r2,r3,r4,r5,r6):=by rw [if_neg (show ¬ (false=true) by decide)] at H;exact H
   clear H
   have H:=H1
   clear H1
   have H':=a_ H
   clear H
   go_wp2_with (first|((with_reducible refine gC_ (f:=19) rfl ?_);refine gl_ 11 Tryd.func19 #[.slice A0 l0.length c0] ?_;(with_reducible refine (spec_TreeOk.calls k _ _ l0 false _ ?side1 ?side2 A6.out).mono ?_);(case side1=>exact cp_ HR0.out);(case side2=>exact HC0.out);rintro e w13 ⟨rfl,hb⟩;refine ⟨_,rfl,?_⟩;replace HB:=a_ (bS_ (bel_) hb);replace BK744:=a_ (bb_ BK744.out hb);replace BK745:=a_ (bb_ BK745.out hb);(try clear hb)))
   go_meet
   case rel=>exact ⟨_,(true),(si_),H',⟨by first|omega|exact Nat.le_refl _⟩,⟨by (with_reducible repeat (first|refine bN_ ?_ _|refine bD_ ?_|refine bA_ ?_ _));exact BK744.out⟩,⟨by (with_reducible repeat (first|refine bN_ ?_ _|refine bD_ ?_|refine bA_ ?_ _));exact BK745.out⟩,⟨bel_⟩⟩
 case rest =>
  clear HC3
  try clear c1
  try clear p2
  try clear c4
  try clear c7
  try clear c10
  try clear Z11_0 Z11_1 Z11_2 Z11_3 Z11_4 Y11_0 Y11_1 Y11_2 Y11_3 Y11_4
  obtain ⟨kq,x17_2,rfl,HA,HJ2,BK744,BK745,HB⟩:=hcut
  cases kq with
  | zero=>exact absurd HA.out (by simp [spec_KeyBack.j0])
  | succ kj2 =>
   have H:=HA.out
   clear HA
   simp only [spec_KeyBack.j0] at H
   by_cases c14:x17_2=true
   ·subst c14
    have H1:(some (0,0,0,0,(⟨#[]⟩:ByteArray),false))=some (r1,r2,r3,r4,r5,r6):=by rw [if_pos rfl] at H;exact H
    clear H
    have H:=H1
    clear H1
    simp only [Option.some.injEq,Prod.mk.injEq] at H
    obtain ⟨rfl,rfl,rfl,rfl,rfl,rfl⟩:=H
    have hnb15:=NB745_744.out
    have hnc15:=NB744_745.out
    obtain ⟨Z16_0,Z16_1,Z16_2,Z16_3,Z16_4,Y16_0,Y16_1,Y16_2,Y16_3,Y16_4⟩:=op5_ BK745.out
    go_wp2
    refine bodyPost_ret (results_ct rfl _ _ gb745 27 #[.int .i64 0,.int .i64 0,.int .i64 0,.int .i64 0,.string (⟨#[]⟩:ByteArray)] (0,0) _ rfl (by (with_reducible repeat (first|refine bN_ ?_ _|refine bD_ ?_|refine bA_ ?_ _));exact bk5_ (bp_ BK745.out)) Tryd.underlying27 rfl (by kernel_rfl)) rfl ?_
    exact ⟨fi_,bel_⟩
   ·replace c14:=Bool.eq_false_iff.mpr c14
    subst c14
    have H1:((spec_l2At.f kj2 l0 a1_1).bind fun t748=>(if a1_0=2 then (if t748 < 0 then (some (0,0,0,0,(⟨#[]⟩:ByteArray),false)) else (if 0≤t748 then (if t748 < (l0.length:Int) then (if ((rd_T37 l0 t748).f2).toList=a1_4.toList then (some (0,0,0,0,(⟨#[]⟩:ByteArray),false)) else (some (2,a1_1,0,0,(rd_T37 l0 t748).f2,true))) else (none)) else (none))) else ((spec_l3Where.f kj2 l0 a1_0 a1_1 a1_2 a1_3 a1_4).bind fun bt751=>(if bt751.2.2=true then ((spec_l3Do.f kj2 l0 a1_0 a1_1 a1_2 a1_3 a1_4).bind fun t754=>((spec_l2Text.f kj2 t754).bind fun t757=>((spec_l2Text.f kj2 l0).bind fun t758=>(spec_KeyBack.j1 kj2 l0 t748 (t757.toList==t758.toList) a1_0 a1_1 a1_2 a1_3 a1_4)))) else (spec_KeyBack.j1 kj2 l0 t748 true a1_0 a1_1 a1_2 a1_3 a1_4)))))=some (r1,r2,r3,r4,r5,r6):=by rw [if_neg (show ¬ (false=true) by decide)] at H;exact H
    clear H
    have H:=H1
    clear H1
    replace H:=bs_ H
    obtain ⟨t748,A170,H⟩:=H
    try dsimp only at H
    have A17:=a_ A170
    clear A170
    by_cases c18:a1_0=2
    ·rw [if_pos c18] at H
     have c18b0:(a1_0==2)=true:=beq_iff_eq.mpr c18
     have c18b1:(a1_0 != 2)=false:=be_ c18
     clear c18
     by_cases c19:t748 < 0
     ·rw [if_pos c19] at H
      have c19b0:decide (t748 < 0)=true:=dt_ c19
      clear c19
      simp only [Option.some.injEq,Prod.mk.injEq] at H
      obtain ⟨rfl,rfl,rfl,rfl,rfl,rfl⟩:=H
      have hnb20:=NB744_745.out
      have hnc20:=NB745_744.out
      obtain ⟨Z21_0,Z21_1,Z21_2,Z21_3,Z21_4,Y21_0,Y21_1,Y21_2,Y21_3,Y21_4⟩:=op5_ BK744.out
      try go_wp2_with (first|((with_reducible refine gC_ (f:=54) rfl ?_);refine gl_ 22 Tryd.func54 #[.slice A0 l0.length c0,.int .i64 a1_1] ?_;(with_reducible refine (spec_l2At.calls kj2 _ _ l0 a1_1 t748 _ ?side1 ?side2 A17.out).mono ?_);(case side1=>exact cp_ HR0.out);(case side2=>exact HC0.out);rintro e w' ⟨rfl,⟨nd,rfl⟩⟩;refine ⟨_,rfl,?_⟩;(try (rw [drewN_self wc];generalize hq_:World.drewN wc _=wc;have n0_:Aside0 (wc.heap[gb744]?=some (.cells #[.int .i64 a1_0,.int .i64 a1_1,.int .i64 a1_2,.int .i64 a1_3,.string a1_4] 27 (0,0))):=⟨by rw [←hq_];exact (bp_ BK744.out)⟩;have n1_:Aside0 (wc.heap[gb745]?=some (.cells #[.int .i64 0,.int .i64 0,.int .i64 0,.int .i64 0,.string (⟨#[]⟩:ByteArray)] 27 (0,0))):=⟨by rw [←hq_];exact (bp_ BK745.out)⟩;have n2_:Aside0 (Below w.heap.size w wc):=⟨by rw [←hq_];exact (bel_)⟩;clear BK744 BK745 HB hq_;have BK744:=n0_;have BK745:=n1_;have HB:=n2_;clear n0_ n1_ n2_;obtain ⟨Zy744_0,Zy744_1,Zy744_2,Zy744_3,Zy744_4,Yy744_0,Yy744_1,Yy744_2,Yy744_3,Yy744_4⟩:=op5_ BK744.out;obtain ⟨Zy745_0,Zy745_1,Zy745_2,Zy745_3,Zy745_4,Yy745_0,Yy745_1,Yy745_2,Yy745_3,Yy745_4⟩:=op5_ BK745.out))))
      have n0_:=a_ (bD_ BK744.out)
      have n1_:=a_ (bD_ BK745.out)
      have n2_:=a_ (below_drew1 HB.out)
      clear BK744
      clear BK745
      clear HB
      have BK744:=n0_
      have BK745:=n1_
      have HB:=n2_
      clear n0_ n1_ n2_
      refine start_ (n:=12) (S:=fun w'=>True) (ds:=[]) #[false,false,false,false,false,false,false,false,false,false,false,false] (by kernel_rfl) rfl rfl trivial (fun hHeld=>?_);refine with_tabW spec_KeyBack.tab5 spec_KeyBack.bits5 (fun HT_ HW_=>?_)
      generalize wc.drew=w22 at BK744 BK745 HB hHeld ⊢
      refine pa_ 0 26 ?_
      refine pa_ 1 27 ?_
      refine pa_ 2 28 ?_
      refine po_ 3 29 ?_
      refine po_ 4 30 ?_
      refine po_ 5 31 ?_
      refine po_ 6 32 ?_
      refine po_ 7 33 ?_
      refine po_ 8 34 ?_
      refine po_ 9 35 ?_
      refine po_ 10 36 ?_
      refine pa_ 11 37 ?_
      refine done_ (done_of HT_.out (by kernel_rfl)) ?_
      obtain ⟨Z23_0,Z23_1,Z23_2,Z23_3,Z23_4,Y23_0,Y23_1,Y23_2,Y23_3,Y23_4⟩:=op5_ BK745.out
      try go_wp2
      refine bodyPost_ret (results_ct rfl _ _ gb745 27 #[.int .i64 0,.int .i64 0,.int .i64 0,.int .i64 0,.string (⟨#[]⟩:ByteArray)] (0,0) _ rfl (by (with_reducible repeat (first|refine bN_ ?_ _|refine bD_ ?_|refine bA_ ?_ _));exact bk5_ (bp_ BK745.out)) Tryd.underlying27 rfl (by kernel_rfl)) rfl ?_
      exact ⟨fi_,bel_⟩
     ·rw [if_neg c19] at H
      have c19b0:decide (t748 < 0)=false:=df_ c19
      clear c19
      by_cases c24:0≤t748
      ·rw [if_pos c24] at H
       have c24b0:decide (0≤t748)=true:=dt_ c24
       clear c24
       by_cases c25:t748 < (l0.length:Int)
       ·rw [if_pos c25] at H
        have c25b0:decide (t748 < (l0.length:Int))=true:=dt_ c25
        clear c25
        by_cases c26:((rd_T37 l0 t748).f2).toList=a1_4.toList
        ·rw [if_pos c26] at H
         have c26b0:(((rd_T37 l0 t748).f2).toList==a1_4.toList)=true:=beq_iff_eq.mpr c26
         have c26b1:(((rd_T37 l0 t748).f2).toList != a1_4.toList)=false:=be_ c26
         clear c26
         simp only [Option.some.injEq,Prod.mk.injEq] at H
         obtain ⟨rfl,rfl,rfl,rfl,rfl,rfl⟩:=H
         have hnb27:=NB744_745.out
         have hnc27:=NB745_744.out
         obtain ⟨Z28_0,Z28_1,Z28_2,Z28_3,Z28_4,Y28_0,Y28_1,Y28_2,Y28_3,Y28_4⟩:=op5_ BK744.out
         try go_wp2_with (first|((with_reducible refine gC_ (f:=54) rfl ?_);refine gl_ 22 Tryd.func54 #[.slice A0 l0.length c0,.int .i64 a1_1] ?_;(with_reducible refine (spec_l2At.calls kj2 _ _ l0 a1_1 t748 _ ?side1 ?side2 A17.out).mono ?_);(case side1=>exact cp_ HR0.out);(case side2=>exact HC0.out);rintro e w' ⟨rfl,⟨nd,rfl⟩⟩;refine ⟨_,rfl,?_⟩;(try (rw [drewN_self wc];generalize hq_:World.drewN wc _=wc;have n0_:Aside0 (wc.heap[gb744]?=some (.cells #[.int .i64 a1_0,.int .i64 a1_1,.int .i64 a1_2,.int .i64 a1_3,.string a1_4] 27 (0,0))):=⟨by rw [←hq_];exact (bp_ BK744.out)⟩;have n1_:Aside0 (wc.heap[gb745]?=some (.cells #[.int .i64 0,.int .i64 0,.int .i64 0,.int .i64 0,.string (⟨#[]⟩:ByteArray)] 27 (0,0))):=⟨by rw [←hq_];exact (bp_ BK745.out)⟩;have n2_:Aside0 (Below w.heap.size w wc):=⟨by rw [←hq_];exact (bel_)⟩;clear BK744 BK745 HB hq_;have BK744:=n0_;have BK745:=n1_;have HB:=n2_;clear n0_ n1_ n2_;obtain ⟨Zy744_0,Zy744_1,Zy744_2,Zy744_3,Zy744_4,Yy744_0,Yy744_1,Yy744_2,Yy744_3,Yy744_4⟩:=op5_ BK744.out;obtain ⟨Zy745_0,Zy745_1,Zy745_2,Zy745_3,Zy745_4,Yy745_0,Yy745_1,Yy745_2,Yy745_3,Yy745_4⟩:=op5_ BK745.out))))
         have n0_:=a_ (bD_ BK744.out)
         have n1_:=a_ (bD_ BK745.out)
         have n2_:=a_ (below_drew1 HB.out)
         clear BK744
         clear BK745
         clear HB
         have BK744:=n0_
         have BK745:=n1_
         have HB:=n2_
         clear n0_ n1_ n2_
         have p749:0≤(t748:Int):=od_
         have q749:t748 < (l0.length:Int):=od_
         obtain ⟨ad749,e749,hx749_0,hx749_1,hx749_2⟩:=at_T37 HR0.out t748 p749 q749
         have hw749_2:=hx749_2
         have hw749_1:=hx749_1
         have hw749_0:=hx749_0
         cases e749
         replace hx749_0:=(cb_ HB.out hx749_0 :)
         replace hx749_1:=(cb_ HB.out hx749_1 :)
         replace hx749_2:=(cb_ HB.out hx749_2 :)
         replace p749:=eq_true p749
         replace q749:=eq_true q749
         refine start_ (n:=12) (S:=fun w'=>w'.cell? ⟨gb744,0,none⟩=some (.int .i64 a1_0)∧w'.cell? ⟨gb744,1,none⟩=some (.int .i64 a1_1)∧w'.cell? ⟨gb744,2,none⟩=some (.int .i64 a1_2)∧w'.cell? ⟨gb744,3,none⟩=some (.int .i64 a1_3)∧w'.cell? ⟨gb744,4,none⟩=some (.string a1_4)∧w'.cell? (ad749.add ((t748).toNat * 3))=some (.int .i64 ((rd_T37 l0 t748).f0))∧w'.cell? ⟨(ad749.add ((t748).toNat * 3)).block,(ad749.add ((t748).toNat * 3)).off+1,none⟩=some (.int .i64 ((rd_T37 l0 t748).f1))∧w'.cell? ⟨(ad749.add ((t748).toNat * 3)).block,(ad749.add ((t748).toNat * 3)).off+2,none⟩=some (.string ((rd_T37 l0 t748).f2))) (ds:=[]) #[false,false,false,false,false,false,false,false,false,false,false,false] (by kernel_rfl) rfl rfl ⟨(bC_ BK744.out 0).trans rfl,(bC_ BK744.out 1).trans rfl,(bC_ BK744.out 2).trans rfl,(bC_ BK744.out 3).trans rfl,(bC_ BK744.out 4).trans rfl,((cb_ HB.out hw749_0 :)),((cb_ HB.out hw749_1 :)),((cb_ HB.out hw749_2 :))⟩ (fun hHeld=>?_);refine with_tabW spec_KeyBack.tab5 spec_KeyBack.bits5 (fun HT_ HW_=>?_)
         generalize wc.drew=w29 at BK744 BK745 HB hx749_0 hx749_1 hx749_2 hHeld ⊢
         refine pa_ 0 26 ?_
         refine pa_ 1 27 ?_
         refine pa_ 2 28 ?_
         refine pa_ 3 29 ?_
         refine pa_ 4 30 ?_
         refine pa_ 5 31 ?_
         refine pa_ 6 32 ?_
         refine pa_ 8 34 ?_
         refine ta8_ 7 33 hHeld ?_
         refine ta8_ 9 35 hHeld ?_
         refine pa_ 10 36 ?_
         refine pa_ 11 37 ?_
         refine done_ (done_of HT_.out (by kernel_rfl)) ?_
         obtain ⟨Z30_0,Z30_1,Z30_2,Z30_3,Z30_4,Y30_0,Y30_1,Y30_2,Y30_3,Y30_4⟩:=op5_ BK745.out
         try go_wp2
         refine bodyPost_ret (results_ct rfl _ _ gb745 27 #[.int .i64 0,.int .i64 0,.int .i64 0,.int .i64 0,.string (⟨#[]⟩:ByteArray)] (0,0) _ rfl (by (with_reducible repeat (first|refine bN_ ?_ _|refine bD_ ?_|refine bA_ ?_ _));exact bk5_ (bp_ BK745.out)) Tryd.underlying27 rfl (by kernel_rfl)) rfl ?_
         exact ⟨fi_,bel_⟩
        ·rw [if_neg c26] at H
         have c26b0:(((rd_T37 l0 t748).f2).toList==a1_4.toList)=false:=bn_ c26
         have c26b1:(((rd_T37 l0 t748).f2).toList != a1_4.toList)=true:=bne_iff_ne.mpr c26
         simp only [Option.some.injEq,Prod.mk.injEq] at H
         obtain ⟨rfl,rfl,rfl,rfl,rfl,rfl⟩:=H
         have hnb31:=NB744_745.out
         have hnc31:=NB745_744.out
         obtain ⟨Z32_0,Z32_1,Z32_2,Z32_3,Z32_4,Y32_0,Y32_1,Y32_2,Y32_3,Y32_4⟩:=op5_ BK744.out
         try go_wp2_with (first|((with_reducible refine gC_ (f:=54) rfl ?_);refine gl_ 22 Tryd.func54 #[.slice A0 l0.length c0,.int .i64 a1_1] ?_;(with_reducible refine (spec_l2At.calls kj2 _ _ l0 a1_1 t748 _ ?side1 ?side2 A17.out).mono ?_);(case side1=>exact cp_ HR0.out);(case side2=>exact HC0.out);rintro e w' ⟨rfl,⟨nd,rfl⟩⟩;refine ⟨_,rfl,?_⟩;(try (rw [drewN_self wc];generalize hq_:World.drewN wc _=wc;have n0_:Aside0 (wc.heap[gb744]?=some (.cells #[.int .i64 a1_0,.int .i64 a1_1,.int .i64 a1_2,.int .i64 a1_3,.string a1_4] 27 (0,0))):=⟨by rw [←hq_];exact (bp_ BK744.out)⟩;have n1_:Aside0 (wc.heap[gb745]?=some (.cells #[.int .i64 0,.int .i64 0,.int .i64 0,.int .i64 0,.string (⟨#[]⟩:ByteArray)] 27 (0,0))):=⟨by rw [←hq_];exact (bp_ BK745.out)⟩;have n2_:Aside0 (Below w.heap.size w wc):=⟨by rw [←hq_];exact (bel_)⟩;clear BK744 BK745 HB hq_;have BK744:=n0_;have BK745:=n1_;have HB:=n2_;clear n0_ n1_ n2_;obtain ⟨Zy744_0,Zy744_1,Zy744_2,Zy744_3,Zy744_4,Yy744_0,Yy744_1,Yy744_2,Yy744_3,Yy744_4⟩:=op5_ BK744.out;obtain ⟨Zy745_0,Zy745_1,Zy745_2,Zy745_3,Zy745_4,Yy745_0,Yy745_1,Yy745_2,Yy745_3,Yy745_4⟩:=op5_ BK745.out))))
         have n0_:=a_ (bD_ BK744.out)
         have n1_:=a_ (bD_ BK745.out)
         have n2_:=a_ (below_drew1 HB.out)
         clear BK744
         clear BK745
         clear HB
         have BK744:=n0_
         have BK745:=n1_
         have HB:=n2_
         clear n0_ n1_ n2_
         have p749:0≤(t748:Int):=od_
         have q749:t748 < (l0.length:Int):=od_
         obtain ⟨ad749,e749,hx749_0,hx749_1,hx749_2⟩:=at_T37 HR0.out t748 p749 q749
         have hw749_2:=hx749_2
         have hw749_1:=hx749_1
         have hw749_0:=hx749_0
         cases e749
         replace hx749_0:=(cb_ HB.out hx749_0 :)
         replace hx749_1:=(cb_ HB.out hx749_1 :)
         replace hx749_2:=(cb_ HB.out hx749_2 :)
         replace p749:=eq_true p749
         replace q749:=eq_true q749
         refine start_ (n:=12) (S:=fun w'=>w'.cell? ⟨gb744,0,none⟩=some (.int .i64 a1_0)∧w'.cell? ⟨gb744,1,none⟩=some (.int .i64 a1_1)∧w'.cell? ⟨gb744,2,none⟩=some (.int .i64 a1_2)∧w'.cell? ⟨gb744,3,none⟩=some (.int .i64 a1_3)∧w'.cell? ⟨gb744,4,none⟩=some (.string a1_4)∧w'.cell? (ad749.add ((t748).toNat * 3))=some (.int .i64 ((rd_T37 l0 t748).f0))∧w'.cell? ⟨(ad749.add ((t748).toNat * 3)).block,(ad749.add ((t748).toNat * 3)).off+1,none⟩=some (.int .i64 ((rd_T37 l0 t748).f1))∧w'.cell? ⟨(ad749.add ((t748).toNat * 3)).block,(ad749.add ((t748).toNat * 3)).off+2,none⟩=some (.string ((rd_T37 l0 t748).f2))) (ds:=[]) #[false,false,false,false,false,false,false,false,false,false,false,false] (by kernel_rfl) rfl rfl ⟨(bC_ BK744.out 0).trans rfl,(bC_ BK744.out 1).trans rfl,(bC_ BK744.out 2).trans rfl,(bC_ BK744.out 3).trans rfl,(bC_ BK744.out 4).trans rfl,((cb_ HB.out hw749_0 :)),((cb_ HB.out hw749_1 :)),((cb_ HB.out hw749_2 :))⟩ (fun hHeld=>?_);refine with_tabW spec_KeyBack.tab5 spec_KeyBack.bits5 (fun HT_ HW_=>?_)
         generalize wc.drew=w33 at BK744 BK745 HB hx749_0 hx749_1 hx749_2 hHeld ⊢
         refine pa_ 0 26 ?_
         refine pa_ 1 27 ?_
         refine pa_ 2 28 ?_
         refine pa_ 3 29 ?_
         refine pa_ 4 30 ?_
         refine pa_ 5 31 ?_
         refine pa_ 6 32 ?_
         refine pa_ 8 34 ?_
         refine ta8_ 7 33 hHeld ?_
         refine ta8_ 9 35 hHeld ?_
         refine pa_ 10 36 ?_
         refine pa_ 11 37 ?_
         refine done_ (done_of HT_.out (by kernel_rfl)) ?_
         try go_wp2
         have n0_:=a_ (bD_ BK744.out)
         have n1_:=a_ (bD_ BK745.out)
         have n2_:=a_ (below_drew1 HB.out)
         clear BK744
         clear BK745
         clear HB
         have BK744:=n0_
         have BK745:=n1_
         have HB:=n2_
         clear n0_ n1_ n2_
         have p750:0≤(t748:Int):=od_
         have q750:t748 < (l0.length:Int):=od_
         obtain ⟨ad750,e750,hx750_0,hx750_1,hx750_2⟩:=at_T37 HR0.out t748 p750 q750
         have hw750_2:=hx750_2
         have hw750_1:=hx750_1
         have hw750_0:=hx750_0
         obtain rfl:ad749=ad750:=(by injection e750)
         replace hx750_0:=(cb_ HB.out hx750_0 :)
         replace hx750_1:=(cb_ HB.out hx750_1 :)
         replace hx750_2:=(cb_ HB.out hx750_2 :)
         replace p750:=eq_true p750
         replace q750:=eq_true q750
         refine start_ (n:=10) (S:=fun w'=>w'.cell? ⟨gb744,0,none⟩=some (.int .i64 a1_0)∧w'.cell? ⟨gb744,1,none⟩=some (.int .i64 a1_1)∧w'.cell? ⟨gb744,2,none⟩=some (.int .i64 a1_2)∧w'.cell? ⟨gb744,3,none⟩=some (.int .i64 a1_3)∧w'.cell? ⟨gb744,4,none⟩=some (.string a1_4)∧w'.cell? (ad749.add ((t748).toNat * 3))=some (.int .i64 ((rd_T37 l0 t748).f0))∧w'.cell? ⟨(ad749.add ((t748).toNat * 3)).block,(ad749.add ((t748).toNat * 3)).off+1,none⟩=some (.int .i64 ((rd_T37 l0 t748).f1))∧w'.cell? ⟨(ad749.add ((t748).toNat * 3)).block,(ad749.add ((t748).toNat * 3)).off+2,none⟩=some (.string ((rd_T37 l0 t748).f2))) (ds:=[]) #[false,false,false,false,false,false,false,false,false,false] (by kernel_rfl) rfl rfl ⟨(bC_ BK744.out 0).trans rfl,(bC_ BK744.out 1).trans rfl,(bC_ BK744.out 2).trans rfl,(bC_ BK744.out 3).trans rfl,(bC_ BK744.out 4).trans rfl,((cb_ HB.out hw750_0 :)),((cb_ HB.out hw750_1 :)),((cb_ HB.out hw750_2 :))⟩ (fun hHeld=>?_);refine with_tabW spec_KeyBack.tab7 spec_KeyBack.bits7 (fun HT_ HW_=>?_)
         generalize w33.drew=w34 at BK744 BK745 HB hx750_0 hx750_1 hx750_2 hHeld ⊢
         refine pa_ 0 39 ?_
         refine pa_ 2 41 ?_
         refine pa_ 3 42 ?_
         refine pa_ 4 43 ?_
         refine pa_ 5 44 ?_
         refine ta8_ 1 40 hHeld ?_
         refine ta8_ 6 45 hHeld ?_
         refine pa_ 7 46 ?_
         refine one_ (i:=8) (N:=none) #[true,true,true,true,true,true,true,true,true,false] rfl rfl (one_of HT_.out (by kernel_rfl)) (by decide) (fun K hK=>?_)
         have hs35:w34.cell? ⟨gb745,0,none⟩=some (.int .i64 0):=(bC_ BK745.out 0).trans rfl
         have hfs35:=bF_ BK745.out 0
         have hns35_0:=NB744_745.out
         have hms35_0:=NB745_744.out
         have hs36:w34.cell? ⟨gb745,1,none⟩=some (.int .i64 0):=(bC_ BK745.out 1).trans rfl
         have hfs36:=bF_ BK745.out 1
         have hns36_0:=NB744_745.out
         have hms36_0:=NB745_744.out
         have hs37:w34.cell? ⟨gb745,2,none⟩=some (.int .i64 0):=(bC_ BK745.out 2).trans rfl
         have hfs37:=bF_ BK745.out 2
         have hns37_0:=NB744_745.out
         have hms37_0:=NB745_744.out
         have hs38:w34.cell? ⟨gb745,3,none⟩=some (.int .i64 0):=(bC_ BK745.out 3).trans rfl
         have hfs38:=bF_ BK745.out 3
         have hns38_0:=NB744_745.out
         have hms38_0:=NB745_744.out
         have hs39:w34.cell? ⟨gb745,4,none⟩=some (.string (⟨#[]⟩:ByteArray)):=(bC_ BK745.out 4).trans rfl
         have hfs39:=bF_ BK745.out 4
         have hns39_0:=NB744_745.out
         have hms39_0:=NB745_744.out
         refine skip_ (w1:=?_) (by rfl) rfl ?_ ?_
         rotate_left
         ·go_simp
          rfl
         refine hK.out _ _ ⟨((cF_ (p:=⟨gb745,_,none⟩) NB744_745.out _).trans (((cF_ (p:=⟨gb745,_,none⟩) NB744_745.out _).trans (((cF_ (p:=⟨gb745,_,none⟩) NB744_745.out _).trans (((cF_ (p:=⟨gb745,_,none⟩) NB744_745.out _).trans (((cF_ (p:=⟨gb745,_,none⟩) NB744_745.out _).trans (hHeld.1)))))))))),((cF_ (p:=⟨gb745,_,none⟩) NB744_745.out _).trans (((cF_ (p:=⟨gb745,_,none⟩) NB744_745.out _).trans (((cF_ (p:=⟨gb745,_,none⟩) NB744_745.out _).trans (((cF_ (p:=⟨gb745,_,none⟩) NB744_745.out _).trans (((cF_ (p:=⟨gb745,_,none⟩) NB744_745.out _).trans (hHeld.2.1)))))))))),((cF_ (p:=⟨gb745,_,none⟩) NB744_745.out _).trans (((cF_ (p:=⟨gb745,_,none⟩) NB744_745.out _).trans (((cF_ (p:=⟨gb745,_,none⟩) NB744_745.out _).trans (((cF_ (p:=⟨gb745,_,none⟩) NB744_745.out _).trans (((cF_ (p:=⟨gb745,_,none⟩) NB744_745.out _).trans (hHeld.2.2.1)))))))))),((cF_ (p:=⟨gb745,_,none⟩) NB744_745.out _).trans (((cF_ (p:=⟨gb745,_,none⟩) NB744_745.out _).trans (((cF_ (p:=⟨gb745,_,none⟩) NB744_745.out _).trans (((cF_ (p:=⟨gb745,_,none⟩) NB744_745.out _).trans (((cF_ (p:=⟨gb745,_,none⟩) NB744_745.out _).trans (hHeld.2.2.2.1)))))))))),((cF_ (p:=⟨gb745,_,none⟩) NB744_745.out _).trans (((cF_ (p:=⟨gb745,_,none⟩) NB744_745.out _).trans (((cF_ (p:=⟨gb745,_,none⟩) NB744_745.out _).trans (((cF_ (p:=⟨gb745,_,none⟩) NB744_745.out _).trans (((cF_ (p:=⟨gb745,_,none⟩) NB744_745.out _).trans (hHeld.2.2.2.2.1)))))))))),((cF_ (p:=⟨gb745,_,none⟩) (by first|exact Nat.ne_of_lt (Nat.lt_of_lt_of_le (by have:=bl_ _ _ hw750_0;first|rwa [add_block] at this|exact this) GW745.out)|(rw [add_block];exact Nat.ne_of_lt (Nat.lt_of_lt_of_le (by have:=bl_ _ _ hw750_0;first|rwa [add_block] at this|exact this) GW745.out))|(show (Addr.add _ _).block≠_;rw [add_block];exact Nat.ne_of_lt (Nat.lt_of_lt_of_le (by have:=bl_ _ _ hw750_0;first|rwa [add_block] at this|exact this) GW745.out))|(dsimp only;exact Nat.ne_of_lt (Nat.lt_of_lt_of_le (by have:=bl_ _ _ hw750_0;first|rwa [add_block] at this|exact this) GW745.out))) _).trans (((cF_ (p:=⟨gb745,_,none⟩) (by first|exact Nat.ne_of_lt (Nat.lt_of_lt_of_le (by have:=bl_ _ _ hw750_0;first|rwa [add_block] at this|exact this) GW745.out)|(rw [add_block];exact Nat.ne_of_lt (Nat.lt_of_lt_of_le (by have:=bl_ _ _ hw750_0;first|rwa [add_block] at this|exact this) GW745.out))|(show (Addr.add _ _).block≠_;rw [add_block];exact Nat.ne_of_lt (Nat.lt_of_lt_of_le (by have:=bl_ _ _ hw750_0;first|rwa [add_block] at this|exact this) GW745.out))|(dsimp only;exact Nat.ne_of_lt (Nat.lt_of_lt_of_le (by have:=bl_ _ _ hw750_0;first|rwa [add_block] at this|exact this) GW745.out))) _).trans (((cF_ (p:=⟨gb745,_,none⟩) (by first|exact Nat.ne_of_lt (Nat.lt_of_lt_of_le (by have:=bl_ _ _ hw750_0;first|rwa [add_block] at this|exact this) GW745.out)|(rw [add_block];exact Nat.ne_of_lt (Nat.lt_of_lt_of_le (by have:=bl_ _ _ hw750_0;first|rwa [add_block] at this|exact this) GW745.out))|(show (Addr.add _ _).block≠_;rw [add_block];exact Nat.ne_of_lt (Nat.lt_of_lt_of_le (by have:=bl_ _ _ hw750_0;first|rwa [add_block] at this|exact this) GW745.out))|(dsimp only;exact Nat.ne_of_lt (Nat.lt_of_lt_of_le (by have:=bl_ _ _ hw750_0;first|rwa [add_block] at this|exact this) GW745.out))) _).trans (((cF_ (p:=⟨gb745,_,none⟩) (by first|exact Nat.ne_of_lt (Nat.lt_of_lt_of_le (by have:=bl_ _ _ hw750_0;first|rwa [add_block] at this|exact this) GW745.out)|(rw [add_block];exact Nat.ne_of_lt (Nat.lt_of_lt_of_le (by have:=bl_ _ _ hw750_0;first|rwa [add_block] at this|exact this) GW745.out))|(show (Addr.add _ _).block≠_;rw [add_block];exact Nat.ne_of_lt (Nat.lt_of_lt_of_le (by have:=bl_ _ _ hw750_0;first|rwa [add_block] at this|exact this) GW745.out))|(dsimp only;exact Nat.ne_of_lt (Nat.lt_of_lt_of_le (by have:=bl_ _ _ hw750_0;first|rwa [add_block] at this|exact this) GW745.out))) _).trans (((cF_ (p:=⟨gb745,_,none⟩) (by first|exact Nat.ne_of_lt (Nat.lt_of_lt_of_le (by have:=bl_ _ _ hw750_0;first|rwa [add_block] at this|exact this) GW745.out)|(rw [add_block];exact Nat.ne_of_lt (Nat.lt_of_lt_of_le (by have:=bl_ _ _ hw750_0;first|rwa [add_block] at this|exact this) GW745.out))|(show (Addr.add _ _).block≠_;rw [add_block];exact Nat.ne_of_lt (Nat.lt_of_lt_of_le (by have:=bl_ _ _ hw750_0;first|rwa [add_block] at this|exact this) GW745.out))|(dsimp only;exact Nat.ne_of_lt (Nat.lt_of_lt_of_le (by have:=bl_ _ _ hw750_0;first|rwa [add_block] at this|exact this) GW745.out))) _).trans (hHeld.2.2.2.2.2.1)))))))))),((cF_ (p:=⟨gb745,_,none⟩) (by first|exact Nat.ne_of_lt (Nat.lt_of_lt_of_le (by have:=bl_ _ _ hw750_1;first|rwa [add_block] at this|exact this) GW745.out)|(rw [add_block];exact Nat.ne_of_lt (Nat.lt_of_lt_of_le (by have:=bl_ _ _ hw750_1;first|rwa [add_block] at this|exact this) GW745.out))|(show (Addr.add _ _).block≠_;rw [add_block];exact Nat.ne_of_lt (Nat.lt_of_lt_of_le (by have:=bl_ _ _ hw750_1;first|rwa [add_block] at this|exact this) GW745.out))|(dsimp only;exact Nat.ne_of_lt (Nat.lt_of_lt_of_le (by have:=bl_ _ _ hw750_1;first|rwa [add_block] at this|exact this) GW745.out))) _).trans (((cF_ (p:=⟨gb745,_,none⟩) (by first|exact Nat.ne_of_lt (Nat.lt_of_lt_of_le (by have:=bl_ _ _ hw750_1;first|rwa [add_block] at this|exact this) GW745.out)|(rw [add_block];exact Nat.ne_of_lt (Nat.lt_of_lt_of_le (by have:=bl_ _ _ hw750_1;first|rwa [add_block] at this|exact this) GW745.out))|(show (Addr.add _ _).block≠_;rw [add_block];exact Nat.ne_of_lt (Nat.lt_of_lt_of_le (by have:=bl_ _ _ hw750_1;first|rwa [add_block] at this|exact this) GW745.out))|(dsimp only;exact Nat.ne_of_lt (Nat.lt_of_lt_of_le (by have:=bl_ _ _ hw750_1;first|rwa [add_block] at this|exact this) GW745.out))) _).trans (((cF_ (p:=⟨gb745,_,none⟩) (by first|exact Nat.ne_of_lt (Nat.lt_of_lt_of_le (by have:=bl_ _ _ hw750_1;first|rwa [add_block] at this|exact this) GW745.out)|(rw [add_block];exact Nat.ne_of_lt (Nat.lt_of_lt_of_le (by have:=bl_ _ _ hw750_1;first|rwa [add_block] at this|exact this) GW745.out))|(show (Addr.add _ _).block≠_;rw [add_block];exact Nat.ne_of_lt (Nat.lt_of_lt_of_le (by have:=bl_ _ _ hw750_1;first|rwa [add_block] at this|exact this) GW745.out))|(dsimp only;exact Nat.ne_of_lt (Nat.lt_of_lt_of_le (by have:=bl_ _ _ hw750_1;first|rwa [add_block] at this|exact this) GW745.out))) _).trans (((cF_ (p:=⟨gb745,_,none⟩) (by first|exact Nat.ne_of_lt (Nat.lt_of_lt_of_le (by have:=bl_ _ _ hw750_1;first|rwa [add_block] at this|exact this) GW745.out)|(rw [add_block];exact Nat.ne_of_lt (Nat.lt_of_lt_of_le (by have:=bl_ _ _ hw750_1;first|rwa [add_block] at this|exact this) GW745.out))|(show (Addr.add _ _).block≠_;rw [add_block];exact Nat.ne_of_lt (Nat.lt_of_lt_of_le (by have:=bl_ _ _ hw750_1;first|rwa [add_block] at this|exact this) GW745.out))|(dsimp only;exact Nat.ne_of_lt (Nat.lt_of_lt_of_le (by have:=bl_ _ _ hw750_1;first|rwa [add_block] at this|exact this) GW745.out))) _).trans (((cF_ (p:=⟨gb745,_,none⟩) (by first|exact Nat.ne_of_lt (Nat.lt_of_lt_of_le (by have:=bl_ _ _ hw750_1;first|rwa [add_block] at this|exact this) GW745.out)|(rw [add_block];exact Nat.ne_of_lt (Nat.lt_of_lt_of_le (by have:=bl_ _ _ hw750_1;first|rwa [add_block] at this|exact this) GW745.out))|(show (Addr.add _ _).block≠_;rw [add_block];exact Nat.ne_of_lt (Nat.lt_of_lt_of_le (by have:=bl_ _ _ hw750_1;first|rwa [add_block] at this|exact this) GW745.out))|(dsimp only;exact Nat.ne_of_lt (Nat.lt_of_lt_of_le (by have:=bl_ _ _ hw750_1;first|rwa [add_block] at this|exact this) GW745.out))) _).trans (hHeld.2.2.2.2.2.2.1)))))))))),((cF_ (p:=⟨gb745,_,none⟩) (by first|exact Nat.ne_of_lt (Nat.lt_of_lt_of_le (by have:=bl_ _ _ hw750_2;first|rwa [add_block] at this|exact this) GW745.out)|(rw [add_block];exact Nat.ne_of_lt (Nat.lt_of_lt_of_le (by have:=bl_ _ _ hw750_2;first|rwa [add_block] at this|exact this) GW745.out))|(show (Addr.add _ _).block≠_;rw [add_block];exact Nat.ne_of_lt (Nat.lt_of_lt_of_le (by have:=bl_ _ _ hw750_2;first|rwa [add_block] at this|exact this) GW745.out))|(dsimp only;exact Nat.ne_of_lt (Nat.lt_of_lt_of_le (by have:=bl_ _ _ hw750_2;first|rwa [add_block] at this|exact this) GW745.out))) _).trans (((cF_ (p:=⟨gb745,_,none⟩) (by first|exact Nat.ne_of_lt (Nat.lt_of_lt_of_le (by have:=bl_ _ _ hw750_2;first|rwa [add_block] at this|exact this) GW745.out)|(rw [add_block];exact Nat.ne_of_lt (Nat.lt_of_lt_of_le (by have:=bl_ _ _ hw750_2;first|rwa [add_block] at this|exact this) GW745.out))|(show (Addr.add _ _).block≠_;rw [add_block];exact Nat.ne_of_lt (Nat.lt_of_lt_of_le (by have:=bl_ _ _ hw750_2;first|rwa [add_block] at this|exact this) GW745.out))|(dsimp only;exact Nat.ne_of_lt (Nat.lt_of_lt_of_le (by have:=bl_ _ _ hw750_2;first|rwa [add_block] at this|exact this) GW745.out))) _).trans (((cF_ (p:=⟨gb745,_,none⟩) (by first|exact Nat.ne_of_lt (Nat.lt_of_lt_of_le (by have:=bl_ _ _ hw750_2;first|rwa [add_block] at this|exact this) GW745.out)|(rw [add_block];exact Nat.ne_of_lt (Nat.lt_of_lt_of_le (by have:=bl_ _ _ hw750_2;first|rwa [add_block] at this|exact this) GW745.out))|(show (Addr.add _ _).block≠_;rw [add_block];exact Nat.ne_of_lt (Nat.lt_of_lt_of_le (by have:=bl_ _ _ hw750_2;first|rwa [add_block] at this|exact this) GW745.out))|(dsimp only;exact Nat.ne_of_lt (Nat.lt_of_lt_of_le (by have:=bl_ _ _ hw750_2;first|rwa [add_block] at this|exact this) GW745.out))) _).trans (((cF_ (p:=⟨gb745,_,none⟩) (by first|exact Nat.ne_of_lt (Nat.lt_of_lt_of_le (by have:=bl_ _ _ hw750_2;first|rwa [add_block] at this|exact this) GW745.out)|(rw [add_block];exact Nat.ne_of_lt (Nat.lt_of_lt_of_le (by have:=bl_ _ _ hw750_2;first|rwa [add_block] at this|exact this) GW745.out))|(show (Addr.add _ _).block≠_;rw [add_block];exact Nat.ne_of_lt (Nat.lt_of_lt_of_le (by have:=bl_ _ _ hw750_2;first|rwa [add_block] at this|exact this) GW745.out))|(dsimp only;exact Nat.ne_of_lt (Nat.lt_of_lt_of_le (by have:=bl_ _ _ hw750_2;first|rwa [add_block] at this|exact this) GW745.out))) _).trans (((cF_ (p:=⟨gb745,_,none⟩) (by first|exact Nat.ne_of_lt (Nat.lt_of_lt_of_le (by have:=bl_ _ _ hw750_2;first|rwa [add_block] at this|exact this) GW745.out)|(rw [add_block];exact Nat.ne_of_lt (Nat.lt_of_lt_of_le (by have:=bl_ _ _ hw750_2;first|rwa [add_block] at this|exact this) GW745.out))|(show (Addr.add _ _).block≠_;rw [add_block];exact Nat.ne_of_lt (Nat.lt_of_lt_of_le (by have:=bl_ _ _ hw750_2;first|rwa [add_block] at this|exact this) GW745.out))|(dsimp only;exact Nat.ne_of_lt (Nat.lt_of_lt_of_le (by have:=bl_ _ _ hw750_2;first|rwa [add_block] at this|exact this) GW745.out))) _).trans (hHeld.2.2.2.2.2.2.2))))))))))⟩ (fun hHeld=>?_)
         clear hK K
         refine pa_ 9 5 ?_
         refine done_ (done_of HT_.out (by kernel_rfl)) ?_
         try go_wp2
         refine bodyPost_ret (results_ct rfl _ _ gb745 27 #[.int .i64 2,.int .i64 a1_1,.int .i64 0,.int .i64 0,.string ((rd_T37 l0 t748).f2)] (0,0) _ rfl (by (with_reducible repeat (first|refine bN_ ?_ _|refine bD_ ?_|refine bA_ ?_ _));exact bk5_ (bp_ BK745.out)) Tryd.underlying27 rfl (by kernel_rfl)) rfl ?_
         exact ⟨fi_,bel_⟩
       ·rw [if_neg c25] at H
        exact absurd H (by simp)
      ·rw [if_neg c24] at H
       exact absurd H (by simp)
    ·rw [if_neg c18] at H
     have c18b0:(a1_0==2)=false:=bn_ c18
     have c18b1:(a1_0 != 2)=true:=bne_iff_ne.mpr c18
     replace H:=bs_ H
     obtain ⟨⟨t751,t752,t753⟩,A400,H⟩:=H
     try dsimp only at H
     have A40:=a_ A400
     clear A400
     have HC41:=a_ H
     clear H
     have hnb42:=NB744_745.out
     have hnc42:=NB745_744.out
     obtain ⟨Z43_0,Z43_1,Z43_2,Z43_3,Z43_4,Y43_0,Y43_1,Y43_2,Y43_3,Y43_4⟩:=op5_ BK744.out
     go_upto_region 9 with (first|((with_reducible refine gC_ (f:=54) rfl ?_);refine gl_ 22 Tryd.func54 #[.slice A0 l0.length c0,.int .i64 a1_1] ?_;(with_reducible refine (spec_l2At.calls kj2 _ _ l0 a1_1 t748 _ ?side1 ?side2 A17.out).mono ?_);(case side1=>exact cp_ HR0.out);(case side2=>exact HC0.out);rintro e w' ⟨rfl,⟨nd,rfl⟩⟩;refine ⟨_,rfl,?_⟩)|((with_reducible refine gC_ (f:=79) rfl ?_);refine gl_ 50 Tryd.func79 #[.slice A0 l0.length c0,.agg #[.int .i64 a1_0,.int .i64 a1_1,.int .i64 a1_2,.int .i64 a1_3,.string a1_4]] ?_;(with_reducible refine (spec_l3Where.calls kj2 _ _ l0 a1_0 a1_1 a1_2 a1_3 a1_4 t751 t752 t753 _ ?side1 ?side2 A40.out).mono ?_);(case side1=>repeat (first|exact (Kd.C_below HR0.out (bel_))|(with_reducible refine Kd.C_alloc ?_ _)|(with_reducible refine Kd.C_drewN ?_ _)|(with_reducible refine Kd.C_drew ?_)));(case side2=>exact HC0.out);rintro e w44 ⟨rfl,hb⟩;refine ⟨_,rfl,?_⟩;replace HB:=a_ (bS_ (bel_) hb);replace BK744:=a_ (bb_ BK744.out hb);replace BK745:=a_ (bb_ BK745.out hb);(try clear hb)))
     (try simp only [Act.put,List.setIfInBounds_toArray,List.set_cons_zero,List.set_cons_succ])
     go_cut [64] (fun v64 wc=>∃ (kq:Nat) (x64_40:Bool),v64=.bool x64_40∧Aside0 (spec_KeyBack.j1 kq l0 t748 x64_40 a1_0 a1_1 a1_2 a1_3 a1_4=some (r1,r2,r3,r4,r5,r6))∧Aside0 (kq≤kj2)∧Aside0 (wc.heap[gb744]?=some (.cells #[.int .i64 a1_0,.int .i64 a1_1,.int .i64 a1_2,.int .i64 a1_3,.string a1_4] 27 (0,0)))∧Aside0 (wc.heap[gb745]?=some (.cells #[.int .i64 0,.int .i64 0,.int .i64 0,.int .i64 0,.string (⟨#[]⟩:ByteArray)] 27 (0,0)))∧Aside0 (Below w.heap.size w wc))
     case first =>
      have H:=HC41.out
      clear HC41
      by_cases c45:t753=true
      ·subst c45
       have H1:((spec_l3Do.f kj2 l0 a1_0 a1_1 a1_2 a1_3 a1_4).bind fun t754=>((spec_l2Text.f kj2 t754).bind fun t757=>((spec_l2Text.f kj2 l0).bind fun t758=>(spec_KeyBack.j1 kj2 l0 t748 (t757.toList==t758.toList) a1_0 a1_1 a1_2 a1_3 a1_4))))=some (r1,r2,r3,r4,r5,r6):=by rw [if_pos rfl] at H;exact H
       clear H
       have H:=H1
       clear H1
       replace H:=bs_ H
       obtain ⟨t754,A460,H⟩:=H
       try dsimp only at H
       have A46:=a_ A460
       clear A460
       replace H:=bs_ H
       obtain ⟨t757,A470,H⟩:=H
       try dsimp only at H
       have A47:=a_ A470
       clear A470
       replace H:=bs_ H
       obtain ⟨t758,A480,H⟩:=H
       try dsimp only at H
       have A48:=a_ A480
       clear A480
       have H':=a_ H
       clear H
       have hnb49:=NB744_745.out
       have hnc49:=NB745_744.out
       obtain ⟨Z50_0,Z50_1,Z50_2,Z50_3,Z50_4,Y50_0,Y50_1,Y50_2,Y50_3,Y50_4⟩:=op5_ BK744.out
       go_wp2_with (first|(go_at_call 81;(with_reducible refine (spec_l3Do.calls kj2 _ _ l0 a1_0 a1_1 a1_2 a1_3 a1_4 t754 _ ?side1 ?side2 A46.out).mono ?_);(case side1=>exact cp_ HR0.out);(case side2=>exact HC0.out);rintro e w51 ⟨v755,rfl,ho0,hb⟩;have HO756:=a_ (Kd.R_lower ho0 (below_size (bel_)));replace HB:=a_ (bS_ (bel_) hb);replace BK744:=a_ (bb_ BK744.out hb);replace BK745:=a_ (bb_ BK745.out hb);(try clear hb ho0);obtain ⟨Ao52,co52,eo52⟩:=Kd.R_slice HO756.out;subst eo52)|(go_at_call 80;(with_reducible refine (spec_l2Text.calls kj2 _ _ t754 t757 _ ?side1 ?side2 A47.out).mono ?_);(case side1=>exact cx_ (Kd.R_reads' HO756.out).2.2);(case side2=>exact (Kd.R_reads' HO756.out).2.1);rintro e w53 ⟨rfl,hb⟩;replace HO756:=a_ (Kd.R_below (rp_ HO756.out) hb);replace HB:=a_ (bS_ (bel_) hb);replace BK744:=a_ (bb_ BK744.out hb);replace BK745:=a_ (bb_ BK745.out hb);(try clear hb))|(go_at_call 80;(with_reducible refine (spec_l2Text.calls kj2 _ _ l0 t758 _ ?side1 ?side2 A48.out).mono ?_);(case side1=>exact cp_ HR0.out);(case side2=>exact HC0.out);rintro e w54 ⟨rfl,hb⟩;replace HO756:=a_ (Kd.R_below (rp_ HO756.out) hb);replace HB:=a_ (bS_ (bel_) hb);replace BK744:=a_ (bb_ BK744.out hb);replace BK745:=a_ (bb_ BK745.out hb);(try clear hb)))
       go_meet
       case rel=>exact ⟨_,((t757.toList==t758.toList)),(si_),H',⟨by have:=HJ2.out;first|omega|exact Nat.le_refl _⟩,⟨by (with_reducible repeat (first|refine bN_ ?_ _|refine bD_ ?_|refine bA_ ?_ _));exact BK744.out⟩,⟨by (with_reducible repeat (first|refine bN_ ?_ _|refine bD_ ?_|refine bA_ ?_ _));exact BK745.out⟩,⟨bel_⟩⟩
      ·replace c45:=Bool.eq_false_iff.mpr c45
       subst c45
       have H1:(spec_KeyBack.j1 kj2 l0 t748 true a1_0 a1_1 a1_2 a1_3 a1_4)=some (r1,r2,r3,r4,r5,r6):=by rw [if_neg (show ¬ (false=true) by decide)] at H;exact H
       clear H
       have H:=H1
       clear H1
       have H':=a_ H
       clear H
       go_wp2
       go_meet
       case rel=>exact ⟨_,(true),(si_),H',⟨by have:=HJ2.out;first|omega|exact Nat.le_refl _⟩,⟨by (with_reducible repeat (first|refine bN_ ?_ _|refine bD_ ?_|refine bA_ ?_ _));exact BK744.out⟩,⟨by (with_reducible repeat (first|refine bN_ ?_ _|refine bD_ ?_|refine bA_ ?_ _));exact BK745.out⟩,⟨bel_⟩⟩
     case rest =>
      clear HC41
      try clear c1
      try clear c2
      try clear p2
      try clear c3
      try clear c4
      try clear c5
      try clear c7
      try clear p7
      try clear q7
      try clear hx7
      try clear c18
      try clear c18b0
      try clear c18b1
      try clear c19
      try clear c19b0
      try clear c24
      try clear c24b0
      try clear c25
      try clear c25b0
      try clear c26
      try clear c26b0
      try clear c26b1
      try clear c27
      try clear c31
      try clear c42
      try clear c45
      try clear c49
      try clear c54
      try clear hx749_0
      try clear hx749_1
      try clear hx749_2
      try clear hx750_0
      try clear hx750_1
      try clear hx750_2
      try clear p749
      try clear p750
      try clear q749
      try clear q750
      try clear Z23_0 Z23_1 Z23_2 Z23_3 Z23_4 Y23_0 Y23_1 Y23_2 Y23_3 Y23_4
      try clear Z28_0 Z28_1 Z28_2 Z28_3 Z28_4 Y28_0 Y28_1 Y28_2 Y28_3 Y28_4
      try clear Z30_0 Z30_1 Z30_2 Z30_3 Z30_4 Y30_0 Y30_1 Y30_2 Y30_3 Y30_4
      try clear Z32_0 Z32_1 Z32_2 Z32_3 Z32_4 Y32_0 Y32_1 Y32_2 Y32_3 Y32_4
      try clear Z43_0 Z43_1 Z43_2 Z43_3 Z43_4 Y43_0 Y43_1 Y43_2 Y43_3 Y43_4
      try clear Z50_0 Z50_1 Z50_2 Z50_3 Z50_4 Y50_0 Y50_1 Y50_2 Y50_3 Y50_4
      obtain ⟨kq,x64_40,rfl,HA,HJ40,BK744,BK745,HB⟩:=hcut
      cases kq with
      | zero=>exact absurd HA.out (by simp [spec_KeyBack.j1])
      | succ kj40 =>
       have H:=HA.out
       clear HA
       simp only [spec_KeyBack.j1] at H
       by_cases c55:x64_40=true
       ·subst c55
        have H1:(some (0,0,0,0,(⟨#[]⟩:ByteArray),false))=some (r1,r2,r3,r4,r5,r6):=by rw [if_pos rfl] at H;exact H
        clear H
        have H:=H1
        clear H1
        simp only [Option.some.injEq,Prod.mk.injEq] at H
        obtain ⟨rfl,rfl,rfl,rfl,rfl,rfl⟩:=H
        have hnb56:=NB745_744.out
        have hnc56:=NB744_745.out
        obtain ⟨Z57_0,Z57_1,Z57_2,Z57_3,Z57_4,Y57_0,Y57_1,Y57_2,Y57_3,Y57_4⟩:=op5_ BK745.out
        go_wp2
        refine bodyPost_ret (results_ct rfl _ _ gb745 27 #[.int .i64 0,.int .i64 0,.int .i64 0,.int .i64 0,.string (⟨#[]⟩:ByteArray)] (0,0) _ rfl (by (with_reducible repeat (first|refine bN_ ?_ _|refine bD_ ?_|refine bA_ ?_ _));exact bk5_ (bp_ BK745.out)) Tryd.underlying27 rfl (by kernel_rfl)) rfl ?_
        exact ⟨fi_,bel_⟩
       ·replace c55:=Bool.eq_false_iff.mpr c55
        subst c55
        have H1:(if a1_0=1 then ((spec_l11Move.f a1_1 2 0).bind fun bt759=>(some (bt759.1,bt759.2.1,bt759.2.2.1,bt759.2.2.2.1,bt759.2.2.2.2,true))) else ((spec_l2Up.f kj40 l0 t748).bind fun t764=>((spec_l2Ahead.f kj40 l0 t748).bind fun t765=>((spec_l11Move.f a1_1 t764 t765).bind fun bt766=>(some (bt766.1,bt766.2.1,bt766.2.2.1,bt766.2.2.2.1,bt766.2.2.2.2,true))))))=some (r1,r2,r3,r4,r5,r6):=by rw [if_neg (show ¬ (false=true) by decide)] at H;exact H
        clear H
        have H:=H1
        clear H1
        by_cases c58:a1_0=1
        ·rw [if_pos c58] at H
         have c58b0:(a1_0==1)=true:=beq_iff_eq.mpr c58
         have c58b1:(a1_0 != 1)=false:=be_ c58
         clear c58
         replace H:=bs_ H
         obtain ⟨⟨t759,t760,t761,t762,t763⟩,A590,H⟩:=H
         try dsimp only at H
         have A59:=a_ A590
         clear A590
         simp only [Option.some.injEq,Prod.mk.injEq] at H
         obtain ⟨rfl,rfl,rfl,rfl,rfl,rfl⟩:=H
         have hnb60:=NB744_745.out
         have hnc60:=NB745_744.out
         obtain ⟨Z61_0,Z61_1,Z61_2,Z61_3,Z61_4,Y61_0,Y61_1,Y61_2,Y61_3,Y61_4⟩:=op5_ BK744.out
         go_wp2_with (first|((with_reducible refine gC_ (f:=56) rfl ?_);refine gl_ 71 Tryd.func56 #[.int .i64 a1_1,.int .i64 2,.int .i64 0] ?_;(with_reducible refine (spec_l11Move.calls a1_1 2 0 t759 t760 t761 t762 t763 _ A59.out).mono ?_);rintro e w62 ⟨rfl,hb⟩;refine ⟨_,rfl,?_⟩;replace HB:=a_ (bS_ (bel_) hb);replace BK744:=a_ (bb_ BK744.out hb);replace BK745:=a_ (bb_ BK745.out hb);(try clear hb);obtain ⟨Z63_0,Z63_1,Z63_2,Z63_3,Z63_4,Y63_0,Y63_1,Y63_2,Y63_3,Y63_4⟩:=op5_ BK745.out))
         refine bodyPost_ret (results_ct rfl _ _ gb745 27 #[.int .i64 t759,.int .i64 t760,.int .i64 t761,.int .i64 t762,.string t763] (0,0) _ rfl (by (with_reducible repeat (first|refine bN_ ?_ _|refine bD_ ?_|refine bA_ ?_ _));exact bk5_ (bp_ BK745.out)) Tryd.underlying27 rfl (by kernel_rfl)) rfl ?_
         exact ⟨fi_,bel_⟩
        ·rw [if_neg c58] at H
         have c58b0:(a1_0==1)=false:=bn_ c58
         have c58b1:(a1_0 != 1)=true:=bne_iff_ne.mpr c58
         replace H:=bs_ H
         obtain ⟨t764,A640,H⟩:=H
         try dsimp only at H
         have A64:=a_ A640
         clear A640
         replace H:=bs_ H
         obtain ⟨t765,A650,H⟩:=H
         try dsimp only at H
         have A65:=a_ A650
         clear A650
         replace H:=bs_ H
         obtain ⟨⟨t766,t767,t768,t769,t770⟩,A660,H⟩:=H
         try dsimp only at H
         have A66:=a_ A660
         clear A660
         simp only [Option.some.injEq,Prod.mk.injEq] at H
         obtain ⟨rfl,rfl,rfl,rfl,rfl,rfl⟩:=H
         have hnb67:=NB744_745.out
         have hnc67:=NB745_744.out
         obtain ⟨Z68_0,Z68_1,Z68_2,Z68_3,Z68_4,Y68_0,Y68_1,Y68_2,Y68_3,Y68_4⟩:=op5_ BK744.out
         try go_wp2
         have n0_:=a_ (bD_ BK744.out)
         have n1_:=a_ (bD_ BK745.out)
         have n2_:=a_ (below_drew1 HB.out)
         clear BK744
         clear BK745
         clear HB
         have BK744:=n0_
         have BK745:=n1_
         have HB:=n2_
         clear n0_ n1_ n2_
         refine start_ (n:=11) (S:=fun w'=>w'.cell? ⟨gb744,0,none⟩=some (.int .i64 a1_0)∧w'.cell? ⟨gb744,1,none⟩=some (.int .i64 a1_1)∧w'.cell? ⟨gb744,2,none⟩=some (.int .i64 a1_2)∧w'.cell? ⟨gb744,3,none⟩=some (.int .i64 a1_3)∧w'.cell? ⟨gb744,4,none⟩=some (.string a1_4)) (ds:=[]) #[false,false,false,false,false,false,false,false,false,false,false] (by kernel_rfl) rfl rfl ⟨(bC_ BK744.out 0).trans rfl,(bC_ BK744.out 1).trans rfl,(bC_ BK744.out 2).trans rfl,(bC_ BK744.out 3).trans rfl,(bC_ BK744.out 4).trans rfl⟩ (fun hHeld=>?_);refine with_tabW spec_KeyBack.tab13 spec_KeyBack.bits13 (fun HT_ HW_=>?_)
         generalize wc.drew=w69 at BK744 BK745 HB hHeld ⊢
         refine pa_ 0 72 ?_
         refine pa_ 2 74 ?_
         refine pa_ 3 75 ?_
         refine pa_ 5 77 ?_
         refine pa_ 6 78 ?_
         refine ta5_ 1 73 hHeld ?_
         refine on_ 4 76 (fun K hK=>?_)
         refine goes_ Tryd.func82 (by kernel_rfl) rfl #[.slice A0 l0.length c0,.int .i64 t748] (by rfl) rfl rfl ar_ ?_
         with_reducible refine (spec_l2Up.calls kj40 _ _ l0 t748 t764 _ ?side1 ?side2 A64.out).mono ?_
         (case side1=>exact cp_ HR0.out)
         (case side2=>exact HC0.out)
         rintro e w' ⟨rfl,⟨nd,rfl⟩⟩
         refine ⟨_,rfl,?_⟩
         refine hK.out _ _ ⟨(bC_ BK744.out 0).trans rfl,(bC_ BK744.out 1).trans rfl,(bC_ BK744.out 2).trans rfl,(bC_ BK744.out 3).trans rfl,(bC_ BK744.out 4).trans rfl⟩ (fun hHeld=>?_)
         clear hK K
         refine no_ 76 ?_
         refine on_ 7 79 (fun K hK=>?_)
         refine goes_ Tryd.func83 (by kernel_rfl) rfl #[.slice A0 l0.length c0,.int .i64 t748] (by rfl) rfl rfl ar_ ?_
         with_reducible refine (spec_l2Ahead.calls kj40 _ _ l0 t748 t765 _ ?side1 ?side2 A65.out).mono ?_
         (case side1=>repeat (first|exact (Kd.C_below HR0.out (bel_))|(with_reducible refine Kd.C_alloc ?_ _)|(with_reducible refine Kd.C_drewN ?_ _)|(with_reducible refine Kd.C_drew ?_)))
         (case side2=>exact HC0.out)
         rintro e w' ⟨rfl,⟨nd,rfl⟩⟩
         refine ⟨_,rfl,?_⟩
         refine hK.out _ _ ⟨(bC_ BK744.out 0).trans rfl,(bC_ BK744.out 1).trans rfl,(bC_ BK744.out 2).trans rfl,(bC_ BK744.out 3).trans rfl,(bC_ BK744.out 4).trans rfl⟩ (fun hHeld=>?_)
         clear hK K
         refine no_ 79 ?_
         refine on_ 8 80 (fun K hK=>?_)
         refine goes_ Tryd.func56 (by kernel_rfl) rfl #[.int .i64 a1_1,.int .i64 t764,.int .i64 t765] (by rfl) rfl rfl ar_ ?_
         with_reducible refine (spec_l11Move.calls a1_1 t764 t765 t766 t767 t768 t769 t770 _ A66.out).mono ?_
         rintro e w70 ⟨rfl,hb⟩
         refine ⟨_,rfl,?_⟩
         have n0_:=a_ (bb_ BK744.out hb)
         have n1_:=a_ (bb_ BK745.out hb)
         have n2_:=a_ (bS_ (bel_) hb)
         clear BK744
         clear BK745
         clear HB
         have BK744:=n0_
         have BK745:=n1_
         have HB:=n2_
         clear n0_ n1_ n2_
         (try clear hb)
         (try clear hb2)
         (try clear hk)
         (try clear hi)
         refine hK.out _ _ ⟨(bC_ BK744.out 0).trans rfl,(bC_ BK744.out 1).trans rfl,(bC_ BK744.out 2).trans rfl,(bC_ BK744.out 3).trans rfl,(bC_ BK744.out 4).trans rfl⟩ (fun hHeld=>?_)
         clear hK K
         refine no_ 80 ?_
         refine one_ (i:=9) (N:=none) #[true,true,true,true,true,true,true,true,true,true,false] rfl rfl (one_of HT_.out (by kernel_rfl)) (by decide) (fun K hK=>?_)
         have hs71:w70.cell? ⟨gb745,0,none⟩=some (.int .i64 0):=(bC_ BK745.out 0).trans rfl
         have hfs71:=bF_ BK745.out 0
         have hns71_0:=NB744_745.out
         have hms71_0:=NB745_744.out
         have hs72:w70.cell? ⟨gb745,1,none⟩=some (.int .i64 0):=(bC_ BK745.out 1).trans rfl
         have hfs72:=bF_ BK745.out 1
         have hns72_0:=NB744_745.out
         have hms72_0:=NB745_744.out
         have hs73:w70.cell? ⟨gb745,2,none⟩=some (.int .i64 0):=(bC_ BK745.out 2).trans rfl
         have hfs73:=bF_ BK745.out 2
         have hns73_0:=NB744_745.out
         have hms73_0:=NB745_744.out
         have hs74:w70.cell? ⟨gb745,3,none⟩=some (.int .i64 0):=(bC_ BK745.out 3).trans rfl
         have hfs74:=bF_ BK745.out 3
         have hns74_0:=NB744_745.out
         have hms74_0:=NB745_744.out
         have hs75:w70.cell? ⟨gb745,4,none⟩=some (.string (⟨#[]⟩:ByteArray)):=(bC_ BK745.out 4).trans rfl
         have hfs75:=bF_ BK745.out 4
         have hns75_0:=NB744_745.out
         have hms75_0:=NB745_744.out
         refine skip_ (w1:=?_) (by rfl) rfl ?_ ?_
         rotate_left
         ·go_simp
          rfl
         refine hK.out _ _ ⟨((cF_ (p:=⟨gb745,_,none⟩) NB744_745.out _).trans (((cF_ (p:=⟨gb745,_,none⟩) NB744_745.out _).trans (((cF_ (p:=⟨gb745,_,none⟩) NB744_745.out _).trans (((cF_ (p:=⟨gb745,_,none⟩) NB744_745.out _).trans (((cF_ (p:=⟨gb745,_,none⟩) NB744_745.out _).trans (hHeld.1)))))))))),((cF_ (p:=⟨gb745,_,none⟩) NB744_745.out _).trans (((cF_ (p:=⟨gb745,_,none⟩) NB744_745.out _).trans (((cF_ (p:=⟨gb745,_,none⟩) NB744_745.out _).trans (((cF_ (p:=⟨gb745,_,none⟩) NB744_745.out _).trans (((cF_ (p:=⟨gb745,_,none⟩) NB744_745.out _).trans (hHeld.2.1)))))))))),((cF_ (p:=⟨gb745,_,none⟩) NB744_745.out _).trans (((cF_ (p:=⟨gb745,_,none⟩) NB744_745.out _).trans (((cF_ (p:=⟨gb745,_,none⟩) NB744_745.out _).trans (((cF_ (p:=⟨gb745,_,none⟩) NB744_745.out _).trans (((cF_ (p:=⟨gb745,_,none⟩) NB744_745.out _).trans (hHeld.2.2.1)))))))))),((cF_ (p:=⟨gb745,_,none⟩) NB744_745.out _).trans (((cF_ (p:=⟨gb745,_,none⟩) NB744_745.out _).trans (((cF_ (p:=⟨gb745,_,none⟩) NB744_745.out _).trans (((cF_ (p:=⟨gb745,_,none⟩) NB744_745.out _).trans (((cF_ (p:=⟨gb745,_,none⟩) NB744_745.out _).trans (hHeld.2.2.2.1)))))))))),((cF_ (p:=⟨gb745,_,none⟩) NB744_745.out _).trans (((cF_ (p:=⟨gb745,_,none⟩) NB744_745.out _).trans (((cF_ (p:=⟨gb745,_,none⟩) NB744_745.out _).trans (((cF_ (p:=⟨gb745,_,none⟩) NB744_745.out _).trans (((cF_ (p:=⟨gb745,_,none⟩) NB744_745.out _).trans (hHeld.2.2.2.2))))))))))⟩ (fun hHeld=>?_)
         clear hK K
         refine pa_ 10 5 ?_
         refine done_ (done_of HT_.out (by kernel_rfl)) ?_
         try go_wp2
         refine bodyPost_ret (results_ct rfl _ _ gb745 27 #[.int .i64 t766,.int .i64 t767,.int .i64 t768,.int .i64 t769,.string t770] (0,0) _ rfl (by (with_reducible repeat (first|refine bN_ ?_ _|refine bD_ ?_|refine bA_ ?_ _));exact bk5_ (bp_ BK745.out)) Tryd.underlying27 rfl (by kernel_rfl)) rfl ?_
         exact ⟨fi_,bel_⟩
mutual
def spec_l71Op.j1:Nat→List Int→Int→Int→Int→Int→Int→ByteArray→Option (Int×Int×Int×Int×ByteArray×Int)
 | 0,_,_,_,_,_,_,_=>none
 | k+1,x1000,x1001,x836000,x836001,x836002,x836003,x836004=>(spec_l6Rd_pick.f k x1000 x1001 30).bind fun bt854=>(if bt854.1=0 then ((spec_l6Rd_pick.f k x1000 bt854.2 5).bind fun bt856=>(some (bt856.1,x836001,x836002,x836003,x836004,bt856.2))) else (if bt854.1=1 then ((spec_l6Rd_pick.f k x1000 bt854.2 50).bind fun bt858=>(some (x836000,bt858.1,x836002,x836003,x836004,bt858.2))) else (if bt854.1=2 then ((spec_l6Rd_pick.f k x1000 bt854.2 50).bind fun bt860=>(some (x836000,x836001,bt860.1,x836003,x836004,bt860.2))) else (if bt854.1=3 then ((spec_l6Rd_pick.f k x1000 bt854.2 50).bind fun bt862=>(some (x836000,x836001,x836002,bt862.1,x836004,bt862.2))) else (some (x836000,x836001,x836002,x836003,x836004,bt854.2))))))
def spec_l71Op.j0:Nat→Int→Int→Int→Bool→List Int→Int→Int→Int→Int→Int→ByteArray→Option (Int×Int×Int×Int×ByteArray×Int)
 | 0,_,_,_,_,_,_,_,_,_,_,_=>none
 | k+1,x4,x5,x26,x27,x1000,x1001,x836000,x836001,x836002,x836003,x836004=>if x27=true then (spec_l71Op.j1 k x1000 x1001 1 x836001 x4 x5 x836004) else (if x26=2 then (spec_l71Op.j1 k x1000 x1001 3 x836001 x4 x5 (⟨#[]⟩:ByteArray)) else (if x26=3 then (spec_l71Op.j1 k x1000 x1001 3 x836001 x4 x5 (⟨#[]⟩:ByteArray)) else (spec_l71Op.j1 k x1000 x1001 x836000 x836001 x836002 x836003 x836004)))
end
def spec_l71Op.f (k:Nat) (s0_0:List Int) (s0_1:Int):Option (Int×Int×Int×Int×ByteArray×Int):=(spec_l71Id.f k s0_0 s0_1).bind fun bt831=>((spec_l71Text.f k s0_0 bt831.2).bind fun bt833=>((spec_l71Id.f k s0_0 bt833.2).bind fun bt836=>((some (([1,1,bt836.1,2,3]:List Int):List Int)).bind fun y838=>((spec_l6Rd_pick.f k s0_0 bt836.2 5).bind fun bt841=>(if 0≤bt841.1 then (if bt841.1 < (y838.length:Int) then ((spec_l71Id.f k s0_0 bt841.2).bind fun bt844=>((some (([0,bt844.1]:List Int):List Int)).bind fun y846=>((spec_l6Rd_pick.f k s0_0 bt844.2 2).bind fun bt849=>(if 0≤bt849.1 then (if bt849.1 < (y846.length:Int) then ((spec_l6Rd_pick.f k s0_0 bt849.2 5).bind fun bt852=>(if bt852.1=0 then (spec_l71Op.j0 k (rd y838 bt841.1) (rd y846 bt849.1) bt852.1 (bt852.1==0) s0_0 bt852.2 2 bt831.1 0 0 bt833.1) else (spec_l71Op.j0 k (rd y838 bt841.1) (rd y846 bt849.1) bt852.1 (bt852.1==1) s0_0 bt852.2 2 bt831.1 0 0 bt833.1))) else (none)) else (none))))) else (none)) else (none))))))
theorem spec_l71Op.mono_l:∀ k,(∀ y0 y1 y2 y3 y4 y5 y6,LeO (spec_l71Op.j1 k y0 y1 y2 y3 y4 y5 y6) (spec_l71Op.j1 (k+1) y0 y1 y2 y3 y4 y5 y6))∧(∀ y0 y1 y2 y3 y4 y5 y6 y7 y8 y9 y10,LeO (spec_l71Op.j0 k y0 y1 y2 y3 y4 y5 y6 y7 y8 y9 y10) (spec_l71Op.j0 (k+1) y0 y1 y2 y3 y4 y5 y6 y7 y8 y9 y10))
 | 0=>⟨fun _ _ _ _ _ _ _ r h=>by simp [spec_l71Op.j1] at h,fun _ _ _ _ _ _ _ _ _ _ _ r h=>by simp [spec_l71Op.j0] at h⟩
 | k+1=>by
  obtain ⟨ih0,ih1⟩:=spec_l71Op.mono_l k
  refine ⟨?_,?_⟩
  all_goals intros
  all_goals first|unfold spec_l71Op.j1|unfold spec_l71Op.j0
  all_goals repeat' first
  | (with_reducible exact ih0 _ _ _ _ _ _ _)
  | (with_reducible exact ih1 _ _ _ _ _ _ _ _ _ _ _)
  | (with_reducible exact spec_l6Rd_pick.mono _ _ _ _)
  | (with_reducible exact spec_l71Id.mono _ _ _)
  | (with_reducible exact spec_l71Text.mono _ _ _)
  | (with_reducible exact LeO.refl _)
  | (with_reducible exact LeO.none _)
  | (with_reducible refine LeO.ite ?_ ?_)
  | (with_reducible refine LeO.bind ?_ (fun _=>?_))
theorem spec_l71Op.mono:∀ a0 a1 k,LeO (spec_l71Op.f k a0 a1) (spec_l71Op.f (k+1) a0 a1):=by
 intro a0 a1 k
 obtain ⟨ih0,ih1⟩:=spec_l71Op.mono_l k
 unfold spec_l71Op.f
 repeat' first
   | (with_reducible exact ih0 _ _ _ _ _ _ _)
   | (with_reducible exact ih1 _ _ _ _ _ _ _ _ _ _ _)
   | (with_reducible exact spec_l6Rd_pick.mono _ _ _ _)
   | (with_reducible exact spec_l71Id.mono _ _ _)
   | (with_reducible exact spec_l71Text.mono _ _ _)
   | (with_reducible exact LeO.refl _)
   | (with_reducible exact LeO.none _)
   | (with_reducible refine LeO.ite ?_ ?_)
   | (with_reducible refine LeO.bind ?_ (fun _=>?_))
theorem spec_l71Op.calls (k:Nat) (g:Nat) (s0_0:List Int) (s0_1:Int) (r1:Int) (r2:Int) (r3:Int) (r4:Int) (r5:ByteArray) (r6:Int) (w0 w:World) (hI:IsS102 w0 w g s0_0 s0_1) (hB:Below w0.heap.size w0 w) (h:spec_l71Op.f k s0_0 s0_1=some (r1,r2,r3,r4,r5,r6)) :
  Calls Tryd.prog 109 #[.pointer (some ⟨g,0,none⟩)] w fun e w'=>e=.returned (.agg #[.int .i64 r1,.int .i64 r2,.int .i64 r3,.int .i64 r4,.string r5])∧IsS102 w0 w' g s0_0 r6∧Below w0.heap.size w0 w'∧KeepBut w w' g none:=by
 have hu27:=Tryd.underlying27
 have HI0:=a_ hI
 have HK:=a_ (KeepBut.refl w g none)
 have HL:=a_ hB.size
 clear hI
 have HW0:=a_ hB.size
 have HB:=a_ hB
 clear hB
 unfold spec_l71Op.f at h
 have H:=h
 clear h
 replace H:=bs_ H
 obtain ⟨⟨t831,t832⟩,A20,H⟩:=H
 try dsimp only at H
 have A2:=a_ A20
 clear A20
 replace H:=bs_ H
 obtain ⟨⟨t833,t834⟩,A30,H⟩:=H
 try dsimp only at H
 have A3:=a_ A30
 clear A30
 replace H:=bs_ H
 obtain ⟨⟨t836,t837⟩,A40,H⟩:=H
 try dsimp only at H
 have A4:=a_ A40
 clear A40
 obtain ⟨y838,hy838⟩:∃ y_:List Int,y_=(([1,1,t836,2,3]:List Int)):=⟨_,rfl⟩
 replace H:((spec_l6Rd_pick.f k s0_0 t837 5).bind fun bt841=>(if 0≤bt841.1 then (if bt841.1 < (y838.length:Int) then ((spec_l71Id.f k s0_0 bt841.2).bind fun bt844=>((some (([0,bt844.1]:List Int):List Int)).bind fun y846=>((spec_l6Rd_pick.f k s0_0 bt844.2 2).bind fun bt849=>(if 0≤bt849.1 then (if bt849.1 < (y846.length:Int) then ((spec_l6Rd_pick.f k s0_0 bt849.2 5).bind fun bt852=>(if bt852.1=0 then (spec_l71Op.j0 k (rd y838 bt841.1) (rd y846 bt849.1) bt852.1 (bt852.1==0) s0_0 bt852.2 2 t831 0 0 t833) else (spec_l71Op.j0 k (rd y838 bt841.1) (rd y846 bt849.1) bt852.1 (bt852.1==1) s0_0 bt852.2 2 t831 0 0 t833))) else (none)) else (none))))) else (none)) else (none)))=some (r1,r2,r3,r4,r5,r6):=by first|(rw [hy838];with_reducible exact H)|(have H2_:=(Option.bind_some _ _).symm.trans H;rw [hy838];with_reducible exact H2_)|(have H2_:=(Option.bind_some _ _).symm.trans H;with_reducible exact H2_)|with_reducible exact H|(rw [hy838];exact H)|exact H
 have Ny838:=a_ hy838
 clear hy838
 replace H:=bs_ H
 obtain ⟨⟨t841,t842⟩,A50,H⟩:=H
 try dsimp only at H
 have A5:=a_ A50
 clear A50
 by_cases c6:0≤t841
 ·rw [if_pos c6] at H
  have c6b0:decide (0≤t841)=true:=dt_ c6
  clear c6
  by_cases c7:t841 < (y838.length:Int)
  ·rw [if_pos c7] at H
   have c7b0:decide (t841 < (y838.length:Int))=true:=dt_ c7
   clear c7
   replace H:=bs_ H
   obtain ⟨⟨t844,t845⟩,A80,H⟩:=H
   try dsimp only at H
   have A8:=a_ A80
   clear A80
   obtain ⟨y846,hy846⟩:∃ y_:List Int,y_=(([0,t844]:List Int)):=⟨_,rfl⟩
   replace H:((spec_l6Rd_pick.f k s0_0 t845 2).bind fun bt849=>(if 0≤bt849.1 then (if bt849.1 < (y846.length:Int) then ((spec_l6Rd_pick.f k s0_0 bt849.2 5).bind fun bt852=>(if bt852.1=0 then (spec_l71Op.j0 k (rd y838 t841) (rd y846 bt849.1) bt852.1 (bt852.1==0) s0_0 bt852.2 2 t831 0 0 t833) else (spec_l71Op.j0 k (rd y838 t841) (rd y846 bt849.1) bt852.1 (bt852.1==1) s0_0 bt852.2 2 t831 0 0 t833))) else (none)) else (none)))=some (r1,r2,r3,r4,r5,r6):=by first|(rw [hy846];with_reducible exact H)|(have H2_:=(Option.bind_some _ _).symm.trans H;rw [hy846];with_reducible exact H2_)|(have H2_:=(Option.bind_some _ _).symm.trans H;with_reducible exact H2_)|with_reducible exact H|(rw [hy846];exact H)|exact H
   have Ny846:=a_ hy846
   clear hy846
   replace H:=bs_ H
   obtain ⟨⟨t849,t850⟩,A90,H⟩:=H
   try dsimp only at H
   have A9:=a_ A90
   clear A90
   by_cases c10:0≤t849
   ·rw [if_pos c10] at H
    have c10b0:decide (0≤t849)=true:=dt_ c10
    clear c10
    by_cases c11:t849 < (y846.length:Int)
    ·rw [if_pos c11] at H
     have c11b0:decide (t849 < (y846.length:Int))=true:=dt_ c11
     clear c11
     replace H:=bs_ H
     obtain ⟨⟨t852,t853⟩,A120,H⟩:=H
     try dsimp only at H
     have A12:=a_ A120
     clear A120
     have HC13:=a_ H
     clear H
     go_enter Tryd.func109,Tryd.ntmps109
     go_upto_block 0 with (first|((with_reducible refine gD_ (N:=2) rfl ?_);refine bx_ 2 (#[.int .i64 0,.int .i64 0,.int .i64 0,.int .i64 0,.string (⟨#[]⟩:ByteArray)]) 27 ?_;intro gb830 hg w14 hbox hb;have n0_:=a_ (IsS102.below (is_HI0) hb);have n1_:=a_ (KeepBut.trans (ke_) (KeepBut.of_below hb g none) (.inl rfl));have n2_:=a_ (bS_ (bel_) hb);have n3_:=a_ (hbox);have n4_:=a_ ((by rw [hg];exact (keep_size (w:=w) (g:=g) (row:=none) (ke_)):w.heap.size≤gb830));have n5_:=a_ ((Nat.le_trans HW0.out (by rw [hg];exact (keep_size (w:=w) (g:=g) (row:=none) (ke_)):w.heap.size≤gb830):w0.heap.size≤gb830));have n6_:=a_ ((by rw [hg];exact Nat.ne_of_lt (IsS102.lt (show IsS102 w0 _ g s0_0 s0_1 from is_HI0)):g≠gb830));have n7_:=a_ ((by rw [hg];exact Nat.ne_of_gt (IsS102.lt (show IsS102 w0 _ g s0_0 s0_1 from is_HI0)):gb830≠g));clear HI0;clear HK;clear HB;have HI0:=n0_;have HK:=n1_;have HB:=n2_;have BK830:=n3_;have GW830:=n4_;have GE830:=n5_;have NB0_830:=n6_;have NB830_0:=n7_;clear n0_ n1_ n2_ n3_ n4_ n5_ n6_ n7_;clear hb hbox hg)|((with_reducible refine gC_ (f:=91) rfl ?_);refine gl_ 7 Tryd.func91 #[.pointer (some ⟨g,0,none⟩)] ?_;(with_reducible refine (spec_l71Id.calls k g s0_0 s0_1 t831 t832 w0 _ ?side1 ?side2 A2.out).mono ?_);(case side1=>exact is_HI0);(case side2=>exact bel_);rintro e w15 ⟨rfl,hi,hb,hk⟩;refine ⟨_,rfl,?_⟩;replace BK830:=a_ (kb_ hk BK830.out NB830_0.out);replace HK:=a_ (KeepBut.trans (kf_ HK.out) hk (.inl rfl));replace HB:=a_ (hb);replace HI0:=a_ (hi);(try clear hb hk hi))|((with_reducible refine gC_ (f:=112) rfl ?_);refine gl_ 9 Tryd.func112 #[.pointer (some ⟨g,0,none⟩)] ?_;(with_reducible refine (spec_l71Text.calls k g s0_0 t832 t833 t834 w0 _ ?side1 ?side2 A3.out).mono ?_);(case side1=>exact is_HI0);(case side2=>exact bel_);rintro e w16 ⟨rfl,hi,hb,hk⟩;refine ⟨_,rfl,?_⟩;replace BK830:=a_ (kb_ hk BK830.out NB830_0.out);replace HK:=a_ (KeepBut.trans (kf_ HK.out) hk (.inl rfl));replace HB:=a_ (hb);replace HI0:=a_ (hi);(try clear hb hk hi))|((with_reducible refine gD_ (N:=3) rfl ?_);refine bx_ 3 (#[.int .i64 0,.int .i64 0,.int .i64 0,.int .i64 0,.string (⟨#[]⟩:ByteArray)]) 27 ?_;intro gb835 hg w17 hbox hb;have n0_:=a_ (IsS102.below (is_HI0) hb);have n1_:=a_ (bb_ BK830.out hb);have n2_:=a_ (KeepBut.trans (kf_ HK.out) (KeepBut.of_below hb g none) (.inl rfl));have n3_:=a_ (bS_ (bel_) hb);have n4_:=a_ (hbox);have n5_:=a_ ((by rw [hg];exact (keep_size (w:=w) (g:=g) (row:=none) (kf_ HK.out)):w.heap.size≤gb835));have n6_:=a_ ((Nat.le_trans HW0.out (by rw [hg];exact (keep_size (w:=w) (g:=g) (row:=none) (kf_ HK.out)):w.heap.size≤gb835):w0.heap.size≤gb835));have n7_:=a_ ((by rw [hg];exact Nat.ne_of_lt (blk_lt (g:=gb830) (o:=.cells #[.int .i64 0,.int .i64 0,.int .i64 0,.int .i64 0,.string (⟨#[]⟩:ByteArray)] 27 (0,0)) (bp_ BK830.out)):gb830≠gb835));have n8_:=a_ ((by rw [hg];exact Nat.ne_of_gt (blk_lt (g:=gb830) (o:=.cells #[.int .i64 0,.int .i64 0,.int .i64 0,.int .i64 0,.string (⟨#[]⟩:ByteArray)] 27 (0,0)) (bp_ BK830.out)):gb835≠gb830));have n9_:=a_ ((by rw [hg];exact Nat.ne_of_lt (IsS102.lt (show IsS102 w0 _ g s0_0 t834 from is_HI0)):g≠gb835));have n10_:=a_ ((by rw [hg];exact Nat.ne_of_gt (IsS102.lt (show IsS102 w0 _ g s0_0 t834 from is_HI0)):gb835≠g));clear HI0;clear BK830;clear HK;clear HB;have HI0:=n0_;have BK830:=n1_;have HK:=n2_;have HB:=n3_;have BK835:=n4_;have GW835:=n5_;have GE835:=n6_;have NB830_835:=n7_;have NB835_830:=n8_;have NB0_835:=n9_;have NB835_0:=n10_;clear n0_ n1_ n2_ n3_ n4_ n5_ n6_ n7_ n8_ n9_ n10_;clear hb hbox hg;have hnb18:=NB835_830.out;have hnc18:=NB830_835.out;have hnb19:=NB835_0.out;have hnc19:=NB0_835.out;obtain ⟨Z20_0,Z20_1,Z20_2,Z20_3,Z20_4,Y20_0,Y20_1,Y20_2,Y20_3,Y20_4⟩:=op5_ BK835.out)|((with_reducible refine gC_ (f:=91) rfl ?_);refine gl_ 12 Tryd.func91 #[.pointer (some ⟨g,0,none⟩)] ?_;(with_reducible refine (spec_l71Id.calls k g s0_0 t834 t836 t837 w0 _ ?side1 ?side2 A4.out).mono ?_);(case side1=>exact is_HI0);(case side2=>exact bel_);rintro e w21 ⟨rfl,hi,hb,hk⟩;refine ⟨_,rfl,?_⟩;have n0_:=a_ (KeepBut.blk hk (g':=gb830) (o:=.cells #[.int .i64 0,.int .i64 0,.int .i64 0,.int .i64 0,.string (⟨#[]⟩:ByteArray)] 27 (0,0)) (by (with_reducible repeat (first|refine bN_ ?_ _|refine bD_ ?_|refine bA_ ?_ _));refine blk_far ?_ NB830_835.out _;(with_reducible repeat (first|refine bN_ ?_ _|refine bD_ ?_|refine bA_ ?_ _));refine blk_far ?_ NB830_835.out _;(with_reducible repeat (first|refine bN_ ?_ _|refine bD_ ?_|refine bA_ ?_ _));refine blk_far ?_ NB830_835.out _;(with_reducible repeat (first|refine bN_ ?_ _|refine bD_ ?_|refine bA_ ?_ _));refine blk_far ?_ NB830_835.out _;(with_reducible repeat (first|refine bN_ ?_ _|refine bD_ ?_|refine bA_ ?_ _));refine blk_far ?_ NB830_835.out _;(with_reducible repeat (first|refine bN_ ?_ _|refine bD_ ?_|refine bA_ ?_ _));exact BK830.out) NB830_0.out (by simp));have n1_:=a_ (KeepBut.blk hk (g':=gb835) (o:=.cells #[.int .i64 2,.int .i64 t831,.int .i64 0,.int .i64 0,.string t833] 27 (0,0)) (by (with_reducible repeat (first|refine bN_ ?_ _|refine bD_ ?_|refine bA_ ?_ _));exact bk5_ (bp_ BK835.out)) NB835_0.out (by simp));have n2_:=a_ (KeepBut.trans (kf_ HK.out) hk (.inl rfl));have n3_:=a_ (hb);have n4_:=a_ (hi);clear BK830;clear BK835;clear HK;clear HB;clear HI0;have BK830:=n0_;have BK835:=n1_;have HK:=n2_;have HB:=n3_;have HI0:=n4_;clear n0_ n1_ n2_ n3_ n4_;(try clear hb hk hi))|((with_reducible refine gD_ (N:=13) rfl ?_);refine Kd.R_lit (Kd.int .i64) _ 3 ?hg (N:=13) ?hd (xs:=([1,1,t836,2,3]:List Int)) (inner:=[.int .i64 1,.int .i64 1,.int .i64 t836,.int .i64 2,.int .i64 3]) (ok:=fun _=>True) (okp:=fun _=>True) ?hr ?hp (fun _ hk=>hk) trivial (Below.refl _ _) (Nat.le_refl _) (by simp) ?_;(case hd=>rfl);(case hg=>rfl);(case hr=>first|(go_simp;done)|(go_simp;rfl));(case hp=>exact (Reps.one (show Kd.M (Kd.int .i64) _ _ _ 1 [.int .i64 1] from rfl) (Reps.one (show Kd.M (Kd.int .i64) _ _ _ 1 [.int .i64 1] from rfl) (Reps.one (show Kd.M (Kd.int .i64) _ _ _ t836 [.int .i64 t836] from rfl) (Reps.one (show Kd.M (Kd.int .i64) _ _ _ 2 [.int .i64 2] from rfl) (Reps.one (show Kd.M (Kd.int .i64) _ _ _ 3 [.int .i64 3] from rfl) (Reps.none _ _)))))));intro v839 w22 ho23 hb hg_ hnew_;clear hg_ hnew_;(first|rw [←Ny838.out] at ho23|(simp only [Int.reduceToNat] at ho23;rw [←Ny838.out] at ho23));have HO840:=a_ (Kd.R_lower ho23 (keep_size (w:=w) (g:=g) (row:=none) (kf_ HK.out)));replace HK:=a_ (KeepBut.trans (kf_ HK.out) (KeepBut.of_below hb g none) (.inl rfl));replace HB:=a_ (bS_ (bel_) hb);replace HI0:=a_ (IsS102.below (is_HI0) hb);replace BK830:=a_ (bb_ BK830.out hb);replace BK835:=a_ (bb_ BK835.out hb);clear hb ho23)|((with_reducible refine gC_ (f:=73) rfl ?_);refine gl_ 15 Tryd.func73 #[.pointer (some ⟨g,0,none⟩),.int .i64 5] ?_;(with_reducible refine (spec_l6Rd_pick.calls k g s0_0 t837 5 t841 t842 w0 _ ?side1 ?side2 A5.out).mono ?_);(case side1=>exact is_HI0);(case side2=>exact bel_);rintro e w24 ⟨rfl,hi,hb,hk⟩;refine ⟨_,rfl,?_⟩;replace BK830:=a_ (kb_ hk BK830.out NB830_0.out);replace BK835:=a_ (kb_ hk BK835.out NB835_0.out);replace HO840:=a_ (Kd.R_mono (Kd.R_keep (IsS102.apart (show IsS102 w0 _ g s0_0 t837 from is_HI0) (rp_ HO840.out) (by decide)) hk (fun _ h=>h.2)) (fun _ h=>h.1));replace HK:=a_ (KeepBut.trans (kf_ HK.out) hk (.inl rfl));replace HB:=a_ (hb);replace HI0:=a_ (hi);(try clear hb hk hi);obtain ⟨Ao25,co25,eo25⟩:=Kd.R_slice HO840.out;subst eo25;have p843:0≤(t841:Int):=od_;have q843:t841 < (y838.length:Int):=od_;obtain ⟨ad843,e843,hx843_0⟩:=Kd.at_int (Kd.R_reads' HO840.out).2.2 t841 p843 q843;cases e843;replace p843:=eq_true p843;replace q843:=eq_true q843)|((with_reducible refine gC_ (f:=91) rfl ?_);refine gl_ 19 Tryd.func91 #[.pointer (some ⟨g,0,none⟩)] ?_;(with_reducible refine (spec_l71Id.calls k g s0_0 t842 t844 t845 w0 _ ?side1 ?side2 A8.out).mono ?_);(case side1=>exact is_HI0);(case side2=>exact bel_);rintro e w26 ⟨rfl,hi,hb,hk⟩;refine ⟨_,rfl,?_⟩;replace BK830:=a_ (kb_ hk BK830.out NB830_0.out);replace BK835:=a_ (kb_ hk BK835.out NB835_0.out);replace HO840:=a_ (Kd.R_mono (Kd.R_keep (IsS102.apart (show IsS102 w0 _ g s0_0 t842 from is_HI0) (rp_ HO840.out) (by decide)) hk (fun _ h=>h.2)) (fun _ h=>h.1));replace HK:=a_ (KeepBut.trans (kf_ HK.out) hk (.inl rfl));replace HB:=a_ (hb);replace HI0:=a_ (hi);(try clear hb hk hi))|((with_reducible refine gD_ (N:=20) rfl ?_);refine Kd.R_lit (Kd.int .i64) _ 3 ?hg (N:=20) ?hd (xs:=([0,t844]:List Int)) (inner:=[.int .i64 0,.int .i64 t844]) (ok:=fun _=>True) (okp:=fun _=>True) ?hr ?hp (fun _ hk=>hk) trivial (Below.refl _ _) (Nat.le_refl _) (by simp) ?_;(case hd=>rfl);(case hg=>rfl);(case hr=>first|(go_simp;done)|(go_simp;rfl));(case hp=>exact (Reps.one (show Kd.M (Kd.int .i64) _ _ _ 0 [.int .i64 0] from rfl) (Reps.one (show Kd.M (Kd.int .i64) _ _ _ t844 [.int .i64 t844] from rfl) (Reps.none _ _))));intro v847 w27 ho28 hb hg_ hnew_;clear hg_ hnew_;(first|rw [←Ny846.out] at ho28|(simp only [Int.reduceToNat] at ho28;rw [←Ny846.out] at ho28));have HO848:=a_ (Kd.R_lower (Kd.R_new' ho28 (Kd.R_lt (rp_ HO840.out))) (keep_size (w:=w) (g:=g) (row:=none) (kf_ HK.out)));replace HO840:=a_ (Kd.R_elder' (rp_ HO840.out) (Kd.R_base ho28) hb);replace HK:=a_ (KeepBut.trans (kf_ HK.out) (KeepBut.of_below hb g none) (.inl rfl));replace HB:=a_ (bS_ (bel_) hb);replace HI0:=a_ (IsS102.below (is_HI0) hb);replace BK830:=a_ (bb_ BK830.out hb);replace BK835:=a_ (bb_ BK835.out hb);clear hb ho28)|((with_reducible refine gC_ (f:=73) rfl ?_);refine gl_ 22 Tryd.func73 #[.pointer (some ⟨g,0,none⟩),.int .i64 2] ?_;(with_reducible refine (spec_l6Rd_pick.calls k g s0_0 t845 2 t849 t850 w0 _ ?side1 ?side2 A9.out).mono ?_);(case side1=>exact is_HI0);(case side2=>exact bel_);rintro e w29 ⟨rfl,hi,hb,hk⟩;refine ⟨_,rfl,?_⟩;replace BK830:=a_ (kb_ hk BK830.out NB830_0.out);replace BK835:=a_ (kb_ hk BK835.out NB835_0.out);replace HO840:=a_ (Kd.R_mono (Kd.R_keep (IsS102.apart (show IsS102 w0 _ g s0_0 t845 from is_HI0) (rp_ HO840.out) (by decide)) hk (fun _ h=>h.2)) (fun _ h=>h.1));replace HO848:=a_ (Kd.R_mono (Kd.R_keep (IsS102.apart (show IsS102 w0 _ g s0_0 t845 from is_HI0) (rp_ HO848.out) (by decide)) hk (fun _ h=>h.2)) (fun _ h=>h.1));replace HK:=a_ (KeepBut.trans (kf_ HK.out) hk (.inl rfl));replace HB:=a_ (hb);replace HI0:=a_ (hi);(try clear hb hk hi);obtain ⟨Ao30,co30,eo30⟩:=Kd.R_slice HO848.out;subst eo30;have p851:0≤(t849:Int):=od_;have q851:t849 < (y846.length:Int):=od_;obtain ⟨ad851,e851,hx851_0⟩:=Kd.at_int (Kd.R_reads' HO848.out).2.2 t849 p851 q851;cases e851;replace p851:=eq_true p851;replace q851:=eq_true q851)|((with_reducible refine gC_ (f:=73) rfl ?_);refine gl_ 26 Tryd.func73 #[.pointer (some ⟨g,0,none⟩),.int .i64 5] ?_;(with_reducible refine (spec_l6Rd_pick.calls k g s0_0 t850 5 t852 t853 w0 _ ?side1 ?side2 A12.out).mono ?_);(case side1=>exact is_HI0);(case side2=>exact bel_);rintro e w31 ⟨rfl,hi,hb,hk⟩;refine ⟨_,rfl,?_⟩;replace BK830:=a_ (kb_ hk BK830.out NB830_0.out);replace BK835:=a_ (kb_ hk BK835.out NB835_0.out);replace HO840:=a_ (Kd.R_mono (Kd.R_keep (IsS102.apart (show IsS102 w0 _ g s0_0 t850 from is_HI0) (rp_ HO840.out) (by decide)) hk (fun _ h=>h.2)) (fun _ h=>h.1));replace HO848:=a_ (Kd.R_mono (Kd.R_keep (IsS102.apart (show IsS102 w0 _ g s0_0 t850 from is_HI0) (rp_ HO848.out) (by decide)) hk (fun _ h=>h.2)) (fun _ h=>h.1));replace HK:=a_ (KeepBut.trans (kf_ HK.out) hk (.inl rfl));replace HB:=a_ (hb);replace HI0:=a_ (hi);(try clear hb hk hi)))
     (try simp only [Act.put,List.setIfInBounds_toArray,List.set_cons_zero,List.set_cons_succ])
     go_cut [] (fun wc=>∃ (kq:Nat) (x836000_12:Int) (x836001_12:Int) (x836002_12:Int) (x836003_12:Int) (x836004_12:ByteArray),Aside0 (spec_l71Op.j1 kq s0_0 t853 x836000_12 x836001_12 x836002_12 x836003_12 x836004_12=some (r1,r2,r3,r4,r5,r6))∧Aside0 (kq≤k)∧Aside0 (wc.heap[gb830]?=some (.cells #[.int .i64 0,.int .i64 0,.int .i64 0,.int .i64 0,.string (⟨#[]⟩:ByteArray)] 27 (0,0)))∧Aside0 (wc.heap[gb835]?=some (.cells #[.int .i64 x836000_12,.int .i64 x836001_12,.int .i64 x836002_12,.int .i64 x836003_12,.string x836004_12] 27 (0,0)))∧Aside0 (IsS102 w0 wc g s0_0 t853)∧Aside0 (KeepBut w wc g none)∧Aside0 (Below w0.heap.size w0 wc))
     case first =>
      have H:=HC13.out
      clear HC13
      have HC32:=a_ H
      clear H
      go_upto_if 27 with (fail)
      go_cut [27] (fun v27 wc=>∃ (kq:Nat) (x27_31:Bool),v27=.bool x27_31∧Aside0 (spec_l71Op.j0 kq (rd y838 t841) (rd y846 t849) t852 x27_31 s0_0 t853 2 t831 0 0 t833=some (r1,r2,r3,r4,r5,r6))∧Aside0 (kq≤k)∧Aside0 (wc.heap[gb830]?=some (.cells #[.int .i64 0,.int .i64 0,.int .i64 0,.int .i64 0,.string (⟨#[]⟩:ByteArray)] 27 (0,0)))∧Aside0 (wc.heap[gb835]?=some (.cells #[.int .i64 2,.int .i64 t831,.int .i64 0,.int .i64 0,.string t833] 27 (0,0)))∧Aside0 (IsS102 w0 wc g s0_0 t853)∧Aside0 (KeepBut w wc g none)∧Aside0 (Below w0.heap.size w0 wc))
      case first =>
       have H:=HC32.out
       clear HC32
       by_cases c33:t852=0
       ·rw [if_pos c33] at H
        have c33b0:(t852==0)=true:=beq_iff_eq.mpr c33
        have c33b1:(t852 != 0)=false:=be_ c33
        clear c33
        (first|rw [c33b0]|(simp only [i64_w,i32_w];rw [c33b0])|skip)
        have H':=a_ H
        clear H
        go_wp2
        go_meet
        case rel=>exact ⟨_,((t852==0)),(si_),H',⟨by first|omega|exact Nat.le_refl _⟩,⟨by (with_reducible repeat (first|refine bN_ ?_ _|refine bD_ ?_|refine bA_ ?_ _));exact BK830.out⟩,⟨by (with_reducible repeat (first|refine bN_ ?_ _|refine bD_ ?_|refine bA_ ?_ _));exact BK835.out⟩,⟨is_HI0⟩,⟨kf_ HK.out⟩,⟨bel_⟩⟩
       ·rw [if_neg c33] at H
        have c33b0:(t852==0)=false:=bn_ c33
        have c33b1:(t852 != 0)=true:=bne_iff_ne.mpr c33
        (first|rw [c33b0]|(simp only [i64_w,i32_w];rw [c33b0])|skip)
        have H':=a_ H
        clear H
        go_wp2
        go_meet
        case rel=>exact ⟨_,((t852==1)),(si_),H',⟨by first|omega|exact Nat.le_refl _⟩,⟨by (with_reducible repeat (first|refine bN_ ?_ _|refine bD_ ?_|refine bA_ ?_ _));exact BK830.out⟩,⟨by (with_reducible repeat (first|refine bN_ ?_ _|refine bD_ ?_|refine bA_ ?_ _));exact BK835.out⟩,⟨is_HI0⟩,⟨kf_ HK.out⟩,⟨bel_⟩⟩
      case rest =>
       clear HC32
       try clear c1
       try clear p2
       try clear c3
       try clear c6
       try clear c6b0
       try clear c7
       try clear c7b0
       try clear p8
       try clear q8
       try clear hx8
       try clear c9
       try clear c10
       try clear c10b0
       try clear c11
       try clear c11b0
       try clear c18
       try clear c19
       try clear c33
       try clear c33b0
       try clear c33b1
       try clear hx843_0
       try clear hx851_0
       try clear p843
       try clear p851
       try clear q843
       try clear q851
       try clear Z20_0 Z20_1 Z20_2 Z20_3 Z20_4 Y20_0 Y20_1 Y20_2 Y20_3 Y20_4
       obtain ⟨kq,x27_31,rfl,HA,HJ31,BK830,BK835,HI0,HK,HB⟩:=hcut
       cases kq with
       | zero=>exact absurd HA.out (by simp [spec_l71Op.j0])
       | succ kj31 =>
        have H:=HA.out
        clear HA
        simp only [spec_l71Op.j0] at H
        by_cases c34:x27_31=true
        ·subst c34
         have H1:(spec_l71Op.j1 kj31 s0_0 t853 1 t831 (rd y838 t841) (rd y846 t849) t833)=some (r1,r2,r3,r4,r5,r6):=by rw [if_pos rfl] at H;exact H
         clear H
         have H:=H1
         clear H1
         have H':=a_ H
         clear H
         have hnb35:=NB835_830.out
         have hnc35:=NB830_835.out
         have hnb36:=NB835_0.out
         have hnc36:=NB0_835.out
         obtain ⟨Z37_0,Z37_1,Z37_2,Z37_3,Z37_4,Y37_0,Y37_1,Y37_2,Y37_3,Y37_4⟩:=op5_ BK835.out
         go_wp2
         go_meet
         case rel=>exact ⟨_,(1),(t831),((rd y838 t841)),((rd y846 t849)),(t833),H',⟨by have:=HJ31.out;first|omega|exact Nat.le_refl _⟩,⟨by (with_reducible repeat (first|refine bN_ ?_ _|refine bD_ ?_|refine bA_ ?_ _));refine blk_far ?_ NB830_835.out _;(with_reducible repeat (first|refine bN_ ?_ _|refine bD_ ?_|refine bA_ ?_ _));refine blk_far ?_ NB830_835.out _;(with_reducible repeat (first|refine bN_ ?_ _|refine bD_ ?_|refine bA_ ?_ _));refine blk_far ?_ NB830_835.out _;(with_reducible repeat (first|refine bN_ ?_ _|refine bD_ ?_|refine bA_ ?_ _));refine blk_far ?_ NB830_835.out _;(with_reducible repeat (first|refine bN_ ?_ _|refine bD_ ?_|refine bA_ ?_ _));refine blk_far ?_ NB830_835.out _;(with_reducible repeat (first|refine bN_ ?_ _|refine bD_ ?_|refine bA_ ?_ _));exact BK830.out⟩,⟨by (with_reducible repeat (first|refine bN_ ?_ _|refine bD_ ?_|refine bA_ ?_ _));exact bk5_ (bp_ BK835.out)⟩,⟨is_HI0⟩,⟨kf_ HK.out⟩,⟨bel_⟩⟩
        ·replace c34:=Bool.eq_false_iff.mpr c34
         subst c34
         have H1:(if t852=2 then (spec_l71Op.j1 kj31 s0_0 t853 3 t831 (rd y838 t841) (rd y846 t849) (⟨#[]⟩:ByteArray)) else (if t852=3 then (spec_l71Op.j1 kj31 s0_0 t853 3 t831 (rd y838 t841) (rd y846 t849) (⟨#[]⟩:ByteArray)) else (spec_l71Op.j1 kj31 s0_0 t853 2 t831 0 0 t833)))=some (r1,r2,r3,r4,r5,r6):=by rw [if_neg (show ¬ (false=true) by decide)] at H;exact H
         clear H
         have H:=H1
         clear H1
         by_cases c38:t852=2
         ·rw [if_pos c38] at H
          have c38b0:(t852==2)=true:=beq_iff_eq.mpr c38
          have c38b1:(t852 != 2)=false:=be_ c38
          clear c38
          have H':=a_ H
          clear H
          have hnb39:=NB835_830.out
          have hnc39:=NB830_835.out
          have hnb40:=NB835_0.out
          have hnc40:=NB0_835.out
          obtain ⟨Z41_0,Z41_1,Z41_2,Z41_3,Z41_4,Y41_0,Y41_1,Y41_2,Y41_3,Y41_4⟩:=op5_ BK835.out
          go_wp2
          go_meet
          case rel=>exact ⟨_,(3),(t831),((rd y838 t841)),((rd y846 t849)),((⟨#[]⟩:ByteArray)),H',⟨by have:=HJ31.out;first|omega|exact Nat.le_refl _⟩,⟨by (with_reducible repeat (first|refine bN_ ?_ _|refine bD_ ?_|refine bA_ ?_ _));refine blk_far ?_ NB830_835.out _;(with_reducible repeat (first|refine bN_ ?_ _|refine bD_ ?_|refine bA_ ?_ _));refine blk_far ?_ NB830_835.out _;(with_reducible repeat (first|refine bN_ ?_ _|refine bD_ ?_|refine bA_ ?_ _));refine blk_far ?_ NB830_835.out _;(with_reducible repeat (first|refine bN_ ?_ _|refine bD_ ?_|refine bA_ ?_ _));refine blk_far ?_ NB830_835.out _;(with_reducible repeat (first|refine bN_ ?_ _|refine bD_ ?_|refine bA_ ?_ _));refine blk_far ?_ NB830_835.out _;(with_reducible repeat (first|refine bN_ ?_ _|refine bD_ ?_|refine bA_ ?_ _));exact BK830.out⟩,⟨by (with_reducible repeat (first|refine bN_ ?_ _|refine bD_ ?_|refine bA_ ?_ _));exact bk5_ (bp_ BK835.out)⟩,⟨is_HI0⟩,⟨kf_ HK.out⟩,⟨bel_⟩⟩
         ·rw [if_neg c38] at H
          have c38b0:(t852==2)=false:=bn_ c38
          have c38b1:(t852 != 2)=true:=bne_iff_ne.mpr c38
          by_cases c42:t852=3
          ·rw [if_pos c42] at H
           have c42b0:(t852==3)=true:=beq_iff_eq.mpr c42
           have c42b1:(t852 != 3)=false:=be_ c42
           clear c42
           have H':=a_ H
           clear H
           have hnb43:=NB835_830.out
           have hnc43:=NB830_835.out
           have hnb44:=NB835_0.out
           have hnc44:=NB0_835.out
           obtain ⟨Z45_0,Z45_1,Z45_2,Z45_3,Z45_4,Y45_0,Y45_1,Y45_2,Y45_3,Y45_4⟩:=op5_ BK835.out
           go_wp2
           go_meet
           case rel=>exact ⟨_,(3),(t831),((rd y838 t841)),((rd y846 t849)),((⟨#[]⟩:ByteArray)),H',⟨by have:=HJ31.out;first|omega|exact Nat.le_refl _⟩,⟨by (with_reducible repeat (first|refine bN_ ?_ _|refine bD_ ?_|refine bA_ ?_ _));refine blk_far ?_ NB830_835.out _;(with_reducible repeat (first|refine bN_ ?_ _|refine bD_ ?_|refine bA_ ?_ _));refine blk_far ?_ NB830_835.out _;(with_reducible repeat (first|refine bN_ ?_ _|refine bD_ ?_|refine bA_ ?_ _));refine blk_far ?_ NB830_835.out _;(with_reducible repeat (first|refine bN_ ?_ _|refine bD_ ?_|refine bA_ ?_ _));refine blk_far ?_ NB830_835.out _;(with_reducible repeat (first|refine bN_ ?_ _|refine bD_ ?_|refine bA_ ?_ _));refine blk_far ?_ NB830_835.out _;(with_reducible repeat (first|refine bN_ ?_ _|refine bD_ ?_|refine bA_ ?_ _));exact BK830.out⟩,⟨by (with_reducible repeat (first|refine bN_ ?_ _|refine bD_ ?_|refine bA_ ?_ _));exact bk5_ (bp_ BK835.out)⟩,⟨is_HI0⟩,⟨kf_ HK.out⟩,⟨bel_⟩⟩
          ·rw [if_neg c42] at H
           have c42b0:(t852==3)=false:=bn_ c42
           have c42b1:(t852 != 3)=true:=bne_iff_ne.mpr c42
           have H':=a_ H
           clear H
           go_wp2
           go_meet
           case rel=>exact ⟨_,(2),(t831),(0),(0),(t833),H',⟨by have:=HJ31.out;first|omega|exact Nat.le_refl _⟩,⟨by (with_reducible repeat (first|refine bN_ ?_ _|refine bD_ ?_|refine bA_ ?_ _));exact BK830.out⟩,⟨by (with_reducible repeat (first|refine bN_ ?_ _|refine bD_ ?_|refine bA_ ?_ _));exact BK835.out⟩,⟨is_HI0⟩,⟨kf_ HK.out⟩,⟨bel_⟩⟩
     case rest =>
      clear HC13
      try clear c1
      try clear p2
      try clear c3
      try clear c4
      try clear c6
      try clear c6b0
      try clear c7
      try clear c7b0
      try clear p8
      try clear q8
      try clear hx8
      try clear c9
      try clear c10
      try clear c10b0
      try clear c11
      try clear c11b0
      try clear c18
      try clear c19
      try clear c33
      try clear c33b0
      try clear c33b1
      try clear c34
      try clear c35
      try clear c36
      try clear c38
      try clear c38b0
      try clear c38b1
      try clear c39
      try clear c40
      try clear c42
      try clear c42b0
      try clear c42b1
      try clear c43
      try clear c44
      try clear hx843_0
      try clear hx851_0
      try clear p2
      try clear p8
      try clear p843
      try clear p851
      try clear q8
      try clear q843
      try clear q851
      try clear Z20_0 Z20_1 Z20_2 Z20_3 Z20_4 Y20_0 Y20_1 Y20_2 Y20_3 Y20_4
      try clear Z37_0 Z37_1 Z37_2 Z37_3 Z37_4 Y37_0 Y37_1 Y37_2 Y37_3 Y37_4
      try clear Z41_0 Z41_1 Z41_2 Z41_3 Z41_4 Y41_0 Y41_1 Y41_2 Y41_3 Y41_4
      try clear Z45_0 Z45_1 Z45_2 Z45_3 Z45_4 Y45_0 Y45_1 Y45_2 Y45_3 Y45_4
      obtain ⟨kq,x836000_12,x836001_12,x836002_12,x836003_12,x836004_12,HA,HJ12,BK830,BK835,HI0,HK,HB⟩:=hcut
      cases kq with
      | zero=>exact absurd HA.out (by simp [spec_l71Op.j1])
      | succ kj12 =>
       have H:=HA.out
       clear HA
       simp only [spec_l71Op.j1] at H
       replace H:=bs_ H
       obtain ⟨⟨t854,t855⟩,A460,H⟩:=H
       try dsimp only at H
       have A46:=a_ A460
       clear A460
       by_cases c47:t854=0
       ·rw [if_pos c47] at H
        have c47b0:(t854==0)=true:=beq_iff_eq.mpr c47
        have c47b1:(t854 != 0)=false:=be_ c47
        clear c47
        replace H:=bs_ H
        obtain ⟨⟨t856,t857⟩,A480,H⟩:=H
        try dsimp only at H
        have A48:=a_ A480
        clear A480
        simp only [Option.some.injEq,Prod.mk.injEq] at H
        obtain ⟨rfl,rfl,rfl,rfl,rfl,rfl⟩:=H
        go_wp2_with (first|((with_reducible refine gC_ (f:=73) rfl ?_);refine gl_ 46 Tryd.func73 #[.pointer (some ⟨g,0,none⟩),.int .i64 30] ?_;(with_reducible refine (spec_l6Rd_pick.calls kj12 g s0_0 t853 30 t854 t855 w0 _ ?side1 ?side2 A46.out).mono ?_);(case side1=>exact is_HI0);(case side2=>exact bel_);rintro e w49 ⟨rfl,hi,hb,hk⟩;refine ⟨_,rfl,?_⟩;replace BK830:=a_ (kb_ hk BK830.out NB830_0.out);replace BK835:=a_ (kb_ hk BK835.out NB835_0.out);replace HK:=a_ (KeepBut.trans (kf_ HK.out) hk (.inl rfl));replace HB:=a_ (hb);replace HI0:=a_ (hi);(try clear hb hk hi))|((with_reducible refine gC_ (f:=73) rfl ?_);refine gl_ 50 Tryd.func73 #[.pointer (some ⟨g,0,none⟩),.int .i64 5] ?_;(with_reducible refine (spec_l6Rd_pick.calls kj12 g s0_0 t855 5 t856 t857 w0 _ ?side1 ?side2 A48.out).mono ?_);(case side1=>exact is_HI0);(case side2=>exact bel_);rintro e w50 ⟨rfl,hi,hb,hk⟩;refine ⟨_,rfl,?_⟩;replace BK830:=a_ (kb_ hk BK830.out NB830_0.out);replace BK835:=a_ (kb_ hk BK835.out NB835_0.out);replace HK:=a_ (KeepBut.trans (kf_ HK.out) hk (.inl rfl));replace HB:=a_ (hb);replace HI0:=a_ (hi);(try clear hb hk hi);have hnb51:=NB835_830.out;have hnc51:=NB830_835.out;have hnb52:=NB835_0.out;have hnc52:=NB0_835.out;obtain ⟨Z53_0,Z53_1,Z53_2,Z53_3,Z53_4,Y53_0,Y53_1,Y53_2,Y53_3,Y53_4⟩:=op5_ BK835.out;have hnb54:=NB830_0.out;have hnc54:=NB0_830.out;obtain ⟨Z55_0,Z55_1,Z55_2,Z55_3,Z55_4,Y55_0,Y55_1,Y55_2,Y55_3,Y55_4⟩:=op5_ BK830.out))
        refine bodyPost_ret (results_cell_row rfl _ _ gb830 27 #[.int .i64 t856,.int .i64 x836001_12,.int .i64 x836002_12,.int .i64 x836003_12,.string x836004_12] (0,0) _ rfl (by (with_reducible repeat (first|refine bN_ ?_ _|refine bD_ ?_|refine bA_ ?_ _));refine blk_put (cs:=#[.int .i64 t856,.int .i64 x836001_12,.int .i64 x836002_12,.int .i64 x836003_12,.string (⟨#[]⟩:ByteArray)]) ?_ 4 _ rfl;(with_reducible repeat (first|refine bN_ ?_ _|refine bD_ ?_|refine bA_ ?_ _));refine blk_put (cs:=#[.int .i64 t856,.int .i64 x836001_12,.int .i64 x836002_12,.int .i64 0,.string (⟨#[]⟩:ByteArray)]) ?_ 3 _ rfl;(with_reducible repeat (first|refine bN_ ?_ _|refine bD_ ?_|refine bA_ ?_ _));refine blk_put (cs:=#[.int .i64 t856,.int .i64 x836001_12,.int .i64 0,.int .i64 0,.string (⟨#[]⟩:ByteArray)]) ?_ 2 _ rfl;(with_reducible repeat (first|refine bN_ ?_ _|refine bD_ ?_|refine bA_ ?_ _));refine blk_put (cs:=#[.int .i64 t856,.int .i64 0,.int .i64 0,.int .i64 0,.string (⟨#[]⟩:ByteArray)]) ?_ 1 _ rfl;(with_reducible repeat (first|refine bN_ ?_ _|refine bD_ ?_|refine bA_ ?_ _));refine blk_put (cs:=#[.int .i64 0,.int .i64 0,.int .i64 0,.int .i64 0,.string (⟨#[]⟩:ByteArray)]) ?_ 0 _ rfl;(with_reducible repeat (first|refine bN_ ?_ _|refine bD_ ?_|refine bA_ ?_ _));refine blk_far ?_ NB830_835.out _;(with_reducible repeat (first|refine bN_ ?_ _|refine bD_ ?_|refine bA_ ?_ _));exact BK830.out) Tryd.underlying27 rfl (by kernel_rfl)) rfl ?_
        exact ⟨fi_,is_HI0,bel_,kf_ HK.out⟩
       ·rw [if_neg c47] at H
        have c47b0:(t854==0)=false:=bn_ c47
        have c47b1:(t854 != 0)=true:=bne_iff_ne.mpr c47
        by_cases c56:t854=1
        ·rw [if_pos c56] at H
         have c56b0:(t854==1)=true:=beq_iff_eq.mpr c56
         have c56b1:(t854 != 1)=false:=be_ c56
         clear c56
         replace H:=bs_ H
         obtain ⟨⟨t858,t859⟩,A570,H⟩:=H
         try dsimp only at H
         have A57:=a_ A570
         clear A570
         simp only [Option.some.injEq,Prod.mk.injEq] at H
         obtain ⟨rfl,rfl,rfl,rfl,rfl,rfl⟩:=H
         go_wp2_with (first|((with_reducible refine gC_ (f:=73) rfl ?_);refine gl_ 46 Tryd.func73 #[.pointer (some ⟨g,0,none⟩),.int .i64 30] ?_;(with_reducible refine (spec_l6Rd_pick.calls kj12 g s0_0 t853 30 t854 t855 w0 _ ?side1 ?side2 A46.out).mono ?_);(case side1=>exact is_HI0);(case side2=>exact bel_);rintro e w58 ⟨rfl,hi,hb,hk⟩;refine ⟨_,rfl,?_⟩;replace BK830:=a_ (kb_ hk BK830.out NB830_0.out);replace BK835:=a_ (kb_ hk BK835.out NB835_0.out);replace HK:=a_ (KeepBut.trans (kf_ HK.out) hk (.inl rfl));replace HB:=a_ (hb);replace HI0:=a_ (hi);(try clear hb hk hi))|((with_reducible refine gC_ (f:=73) rfl ?_);refine gl_ 55 Tryd.func73 #[.pointer (some ⟨g,0,none⟩),.int .i64 50] ?_;(with_reducible refine (spec_l6Rd_pick.calls kj12 g s0_0 t855 50 t858 t859 w0 _ ?side1 ?side2 A57.out).mono ?_);(case side1=>exact is_HI0);(case side2=>exact bel_);rintro e w59 ⟨rfl,hi,hb,hk⟩;refine ⟨_,rfl,?_⟩;replace BK830:=a_ (kb_ hk BK830.out NB830_0.out);replace BK835:=a_ (kb_ hk BK835.out NB835_0.out);replace HK:=a_ (KeepBut.trans (kf_ HK.out) hk (.inl rfl));replace HB:=a_ (hb);replace HI0:=a_ (hi);(try clear hb hk hi);have hnb60:=NB835_830.out;have hnc60:=NB830_835.out;have hnb61:=NB835_0.out;have hnc61:=NB0_835.out;obtain ⟨Z62_0,Z62_1,Z62_2,Z62_3,Z62_4,Y62_0,Y62_1,Y62_2,Y62_3,Y62_4⟩:=op5_ BK835.out;have hnb63:=NB830_0.out;have hnc63:=NB0_830.out;obtain ⟨Z64_0,Z64_1,Z64_2,Z64_3,Z64_4,Y64_0,Y64_1,Y64_2,Y64_3,Y64_4⟩:=op5_ BK830.out))
         refine bodyPost_ret (results_cell_row rfl _ _ gb830 27 #[.int .i64 x836000_12,.int .i64 t858,.int .i64 x836002_12,.int .i64 x836003_12,.string x836004_12] (0,0) _ rfl (by (with_reducible repeat (first|refine bN_ ?_ _|refine bD_ ?_|refine bA_ ?_ _));refine blk_put (cs:=#[.int .i64 x836000_12,.int .i64 t858,.int .i64 x836002_12,.int .i64 x836003_12,.string (⟨#[]⟩:ByteArray)]) ?_ 4 _ rfl;(with_reducible repeat (first|refine bN_ ?_ _|refine bD_ ?_|refine bA_ ?_ _));refine blk_put (cs:=#[.int .i64 x836000_12,.int .i64 t858,.int .i64 x836002_12,.int .i64 0,.string (⟨#[]⟩:ByteArray)]) ?_ 3 _ rfl;(with_reducible repeat (first|refine bN_ ?_ _|refine bD_ ?_|refine bA_ ?_ _));refine blk_put (cs:=#[.int .i64 x836000_12,.int .i64 t858,.int .i64 0,.int .i64 0,.string (⟨#[]⟩:ByteArray)]) ?_ 2 _ rfl;(with_reducible repeat (first|refine bN_ ?_ _|refine bD_ ?_|refine bA_ ?_ _));refine blk_put (cs:=#[.int .i64 x836000_12,.int .i64 0,.int .i64 0,.int .i64 0,.string (⟨#[]⟩:ByteArray)]) ?_ 1 _ rfl;(with_reducible repeat (first|refine bN_ ?_ _|refine bD_ ?_|refine bA_ ?_ _));refine blk_put (cs:=#[.int .i64 0,.int .i64 0,.int .i64 0,.int .i64 0,.string (⟨#[]⟩:ByteArray)]) ?_ 0 _ rfl;(with_reducible repeat (first|refine bN_ ?_ _|refine bD_ ?_|refine bA_ ?_ _));refine blk_far ?_ NB830_835.out _;(with_reducible repeat (first|refine bN_ ?_ _|refine bD_ ?_|refine bA_ ?_ _));exact BK830.out) Tryd.underlying27 rfl (by kernel_rfl)) rfl ?_
         exact ⟨fi_,is_HI0,bel_,kf_ HK.out⟩
        ·rw [if_neg c56] at H
         have c56b0:(t854==1)=false:=bn_ c56
         have c56b1:(t854 != 1)=true:=bne_iff_ne.mpr c56
         by_cases c65:t854=2
         ·rw [if_pos c65] at H
          have c65b0:(t854==2)=true:=beq_iff_eq.mpr c65
          have c65b1:(t854 != 2)=false:=be_ c65
          clear c65
          replace H:=bs_ H
          obtain ⟨⟨t860,t861⟩,A660,H⟩:=H
          try dsimp only at H
          have A66:=a_ A660
          clear A660
          simp only [Option.some.injEq,Prod.mk.injEq] at H
          obtain ⟨rfl,rfl,rfl,rfl,rfl,rfl⟩:=H
          go_wp2_with (first|((with_reducible refine gC_ (f:=73) rfl ?_);refine gl_ 46 Tryd.func73 #[.pointer (some ⟨g,0,none⟩),.int .i64 30] ?_;(with_reducible refine (spec_l6Rd_pick.calls kj12 g s0_0 t853 30 t854 t855 w0 _ ?side1 ?side2 A46.out).mono ?_);(case side1=>exact is_HI0);(case side2=>exact bel_);rintro e w67 ⟨rfl,hi,hb,hk⟩;refine ⟨_,rfl,?_⟩;replace BK830:=a_ (kb_ hk BK830.out NB830_0.out);replace BK835:=a_ (kb_ hk BK835.out NB835_0.out);replace HK:=a_ (KeepBut.trans (kf_ HK.out) hk (.inl rfl));replace HB:=a_ (hb);replace HI0:=a_ (hi);(try clear hb hk hi))|((with_reducible refine gC_ (f:=73) rfl ?_);refine gl_ 60 Tryd.func73 #[.pointer (some ⟨g,0,none⟩),.int .i64 50] ?_;(with_reducible refine (spec_l6Rd_pick.calls kj12 g s0_0 t855 50 t860 t861 w0 _ ?side1 ?side2 A66.out).mono ?_);(case side1=>exact is_HI0);(case side2=>exact bel_);rintro e w68 ⟨rfl,hi,hb,hk⟩;refine ⟨_,rfl,?_⟩;replace BK830:=a_ (kb_ hk BK830.out NB830_0.out);replace BK835:=a_ (kb_ hk BK835.out NB835_0.out);replace HK:=a_ (KeepBut.trans (kf_ HK.out) hk (.inl rfl));replace HB:=a_ (hb);replace HI0:=a_ (hi);(try clear hb hk hi);have hnb69:=NB835_830.out;have hnc69:=NB830_835.out;have hnb70:=NB835_0.out;have hnc70:=NB0_835.out;obtain ⟨Z71_0,Z71_1,Z71_2,Z71_3,Z71_4,Y71_0,Y71_1,Y71_2,Y71_3,Y71_4⟩:=op5_ BK835.out;have hnb72:=NB830_0.out;have hnc72:=NB0_830.out;obtain ⟨Z73_0,Z73_1,Z73_2,Z73_3,Z73_4,Y73_0,Y73_1,Y73_2,Y73_3,Y73_4⟩:=op5_ BK830.out))
          refine bodyPost_ret (results_cell_row rfl _ _ gb830 27 #[.int .i64 x836000_12,.int .i64 x836001_12,.int .i64 t860,.int .i64 x836003_12,.string x836004_12] (0,0) _ rfl (by (with_reducible repeat (first|refine bN_ ?_ _|refine bD_ ?_|refine bA_ ?_ _));refine blk_put (cs:=#[.int .i64 x836000_12,.int .i64 x836001_12,.int .i64 t860,.int .i64 x836003_12,.string (⟨#[]⟩:ByteArray)]) ?_ 4 _ rfl;(with_reducible repeat (first|refine bN_ ?_ _|refine bD_ ?_|refine bA_ ?_ _));refine blk_put (cs:=#[.int .i64 x836000_12,.int .i64 x836001_12,.int .i64 t860,.int .i64 0,.string (⟨#[]⟩:ByteArray)]) ?_ 3 _ rfl;(with_reducible repeat (first|refine bN_ ?_ _|refine bD_ ?_|refine bA_ ?_ _));refine blk_put (cs:=#[.int .i64 x836000_12,.int .i64 x836001_12,.int .i64 0,.int .i64 0,.string (⟨#[]⟩:ByteArray)]) ?_ 2 _ rfl;(with_reducible repeat (first|refine bN_ ?_ _|refine bD_ ?_|refine bA_ ?_ _));refine blk_put (cs:=#[.int .i64 x836000_12,.int .i64 0,.int .i64 0,.int .i64 0,.string (⟨#[]⟩:ByteArray)]) ?_ 1 _ rfl;(with_reducible repeat (first|refine bN_ ?_ _|refine bD_ ?_|refine bA_ ?_ _));refine blk_put (cs:=#[.int .i64 0,.int .i64 0,.int .i64 0,.int .i64 0,.string (⟨#[]⟩:ByteArray)]) ?_ 0 _ rfl;(with_reducible repeat (first|refine bN_ ?_ _|refine bD_ ?_|refine bA_ ?_ _));refine blk_far ?_ NB830_835.out _;(with_reducible repeat (first|refine bN_ ?_ _|refine bD_ ?_|refine bA_ ?_ _));exact BK830.out) Tryd.underlying27 rfl (by kernel_rfl)) rfl ?_
          exact ⟨fi_,is_HI0,bel_,kf_ HK.out⟩
         ·rw [if_neg c65] at H
          have c65b0:(t854==2)=false:=bn_ c65
          have c65b1:(t854 != 2)=true:=bne_iff_ne.mpr c65
          by_cases c74:t854=3
          ·rw [if_pos c74] at H
           have c74b0:(t854==3)=true:=beq_iff_eq.mpr c74
           have c74b1:(t854 != 3)=false:=be_ c74
           clear c74
           replace H:=bs_ H
           obtain ⟨⟨t862,t863⟩,A750,H⟩:=H
           try dsimp only at H
           have A75:=a_ A750
           clear A750
           simp only [Option.some.injEq,Prod.mk.injEq] at H
           obtain ⟨rfl,rfl,rfl,rfl,rfl,rfl⟩:=H
           go_wp2_with (first|((with_reducible refine gC_ (f:=73) rfl ?_);refine gl_ 46 Tryd.func73 #[.pointer (some ⟨g,0,none⟩),.int .i64 30] ?_;(with_reducible refine (spec_l6Rd_pick.calls kj12 g s0_0 t853 30 t854 t855 w0 _ ?side1 ?side2 A46.out).mono ?_);(case side1=>exact is_HI0);(case side2=>exact bel_);rintro e w76 ⟨rfl,hi,hb,hk⟩;refine ⟨_,rfl,?_⟩;replace BK830:=a_ (kb_ hk BK830.out NB830_0.out);replace BK835:=a_ (kb_ hk BK835.out NB835_0.out);replace HK:=a_ (KeepBut.trans (kf_ HK.out) hk (.inl rfl));replace HB:=a_ (hb);replace HI0:=a_ (hi);(try clear hb hk hi))|((with_reducible refine gC_ (f:=73) rfl ?_);refine gl_ 65 Tryd.func73 #[.pointer (some ⟨g,0,none⟩),.int .i64 50] ?_;(with_reducible refine (spec_l6Rd_pick.calls kj12 g s0_0 t855 50 t862 t863 w0 _ ?side1 ?side2 A75.out).mono ?_);(case side1=>exact is_HI0);(case side2=>exact bel_);rintro e w77 ⟨rfl,hi,hb,hk⟩;refine ⟨_,rfl,?_⟩;replace BK830:=a_ (kb_ hk BK830.out NB830_0.out);replace BK835:=a_ (kb_ hk BK835.out NB835_0.out);replace HK:=a_ (KeepBut.trans (kf_ HK.out) hk (.inl rfl));replace HB:=a_ (hb);replace HI0:=a_ (hi);(try clear hb hk hi);have hnb78:=NB835_830.out;have hnc78:=NB830_835.out;have hnb79:=NB835_0.out;have hnc79:=NB0_835.out;obtain ⟨Z80_0,Z80_1,Z80_2,Z80_3,Z80_4,Y80_0,Y80_1,Y80_2,Y80_3,Y80_4⟩:=op5_ BK835.out;have hnb81:=NB830_0.out;have hnc81:=NB0_830.out;obtain ⟨Z82_0,Z82_1,Z82_2,Z82_3,Z82_4,Y82_0,Y82_1,Y82_2,Y82_3,Y82_4⟩:=op5_ BK830.out))
           refine bodyPost_ret (results_cell_row rfl _ _ gb830 27 #[.int .i64 x836000_12,.int .i64 x836001_12,.int .i64 x836002_12,.int .i64 t862,.string x836004_12] (0,0) _ rfl (by (with_reducible repeat (first|refine bN_ ?_ _|refine bD_ ?_|refine bA_ ?_ _));refine blk_put (cs:=#[.int .i64 x836000_12,.int .i64 x836001_12,.int .i64 x836002_12,.int .i64 t862,.string (⟨#[]⟩:ByteArray)]) ?_ 4 _ rfl;(with_reducible repeat (first|refine bN_ ?_ _|refine bD_ ?_|refine bA_ ?_ _));refine blk_put (cs:=#[.int .i64 x836000_12,.int .i64 x836001_12,.int .i64 x836002_12,.int .i64 0,.string (⟨#[]⟩:ByteArray)]) ?_ 3 _ rfl;(with_reducible repeat (first|refine bN_ ?_ _|refine bD_ ?_|refine bA_ ?_ _));refine blk_put (cs:=#[.int .i64 x836000_12,.int .i64 x836001_12,.int .i64 0,.int .i64 0,.string (⟨#[]⟩:ByteArray)]) ?_ 2 _ rfl;(with_reducible repeat (first|refine bN_ ?_ _|refine bD_ ?_|refine bA_ ?_ _));refine blk_put (cs:=#[.int .i64 x836000_12,.int .i64 0,.int .i64 0,.int .i64 0,.string (⟨#[]⟩:ByteArray)]) ?_ 1 _ rfl;(with_reducible repeat (first|refine bN_ ?_ _|refine bD_ ?_|refine bA_ ?_ _));refine blk_put (cs:=#[.int .i64 0,.int .i64 0,.int .i64 0,.int .i64 0,.string (⟨#[]⟩:ByteArray)]) ?_ 0 _ rfl;(with_reducible repeat (first|refine bN_ ?_ _|refine bD_ ?_|refine bA_ ?_ _));refine blk_far ?_ NB830_835.out _;(with_reducible repeat (first|refine bN_ ?_ _|refine bD_ ?_|refine bA_ ?_ _));exact BK830.out) Tryd.underlying27 rfl (by kernel_rfl)) rfl ?_
           exact ⟨fi_,is_HI0,bel_,kf_ HK.out⟩
          ·rw [if_neg c74] at H
           have c74b0:(t854==3)=false:=bn_ c74
           have c74b1:(t854 != 3)=true:=bne_iff_ne.mpr c74
           simp only [Option.some.injEq,Prod.mk.injEq] at H
           obtain ⟨rfl,rfl,rfl,rfl,rfl,rfl⟩:=H
           go_wp2_with (first|((with_reducible refine gC_ (f:=73) rfl ?_);refine gl_ 46 Tryd.func73 #[.pointer (some ⟨g,0,none⟩),.int .i64 30] ?_;(with_reducible refine (spec_l6Rd_pick.calls kj12 g s0_0 t853 30 t854 t855 w0 _ ?side1 ?side2 A46.out).mono ?_);(case side1=>exact is_HI0);(case side2=>exact bel_);rintro e w83 ⟨rfl,hi,hb,hk⟩;refine ⟨_,rfl,?_⟩;replace BK830:=a_ (kb_ hk BK830.out NB830_0.out);replace BK835:=a_ (kb_ hk BK835.out NB835_0.out);replace HK:=a_ (KeepBut.trans (kf_ HK.out) hk (.inl rfl));replace HB:=a_ (hb);replace HI0:=a_ (hi);(try clear hb hk hi);have hnb84:=NB835_830.out;have hnc84:=NB830_835.out;have hnb85:=NB835_0.out;have hnc85:=NB0_835.out;obtain ⟨Z86_0,Z86_1,Z86_2,Z86_3,Z86_4,Y86_0,Y86_1,Y86_2,Y86_3,Y86_4⟩:=op5_ BK835.out;have hnb87:=NB830_0.out;have hnc87:=NB0_830.out;obtain ⟨Z88_0,Z88_1,Z88_2,Z88_3,Z88_4,Y88_0,Y88_1,Y88_2,Y88_3,Y88_4⟩:=op5_ BK830.out))
           refine bodyPost_ret (results_cell_row rfl _ _ gb830 27 #[.int .i64 x836000_12,.int .i64 x836001_12,.int .i64 x836002_12,.int .i64 x836003_12,.string x836004_12] (0,0) _ rfl (by (with_reducible repeat (first|refine bN_ ?_ _|refine bD_ ?_|refine bA_ ?_ _));exact bk5_ (bp_ BK830.out)) Tryd.underlying27 rfl (by kernel_rfl)) rfl ?_
           exact ⟨fi_,is_HI0,bel_,kf_ HK.out⟩
    ·rw [if_neg c11] at H
     exact absurd H (by simp)
   ·rw [if_neg c10] at H
    exact absurd H (by simp)
  ·rw [if_neg c7] at H
   exact absurd H (by simp)
 ·rw [if_neg c6] at H
  exact absurd H (by simp)
mutual
def spec_l71Fits.j0:Nat→List (S37)→Int→Bool→List Int→Int→Int→Int→Int→Int→ByteArray→Option ((List (S37))×Int×Int×Int×Int×ByteArray×Int)
 | 0,_,_,_,_,_,_,_,_,_,_=>none
 | k+1,x4,x5,x26,x1000,x1001,x877000,x877001,x877002,x877003,x877004=>if x26=true then (spec_l71Fits.j1 k x4 x1000 x1001 x877000 x5 x877002 x877003 x877004) else (spec_l71Fits.j1 k x4 x1000 x1001 x877000 x877001 x877002 x877003 x877004)
def spec_l71Fits.j1:Nat→List (S37)→List Int→Int→Int→Int→Int→Int→ByteArray→Option ((List (S37))×Int×Int×Int×Int×ByteArray×Int)
 | 0,_,_,_,_,_,_,_,_=>none
 | k+1,x4,x1000,x1001,x877000,x877001,x877002,x877003,x877004=>(spec_l6Rd_pick.f k x1000 x1001 3).bind fun bt880=>(if bt880.1=0 then (if x877000=3 then (spec_l71Fits.j2 k x4 true x1000 bt880.2 x877000 x877001 x877002 x877003 x877004) else (spec_l71Fits.j2 k x4 (x877000==1) x1000 bt880.2 x877000 x877001 x877002 x877003 x877004)) else (spec_l71Fits.j2 k x4 false x1000 bt880.2 x877000 x877001 x877002 x877003 x877004))
def spec_l71Fits.j2:Nat→List (S37)→Bool→List Int→Int→Int→Int→Int→Int→ByteArray→Option ((List (S37))×Int×Int×Int×Int×ByteArray×Int)
 | 0,_,_,_,_,_,_,_,_,_=>none
 | k+1,x4,x41,x1000,x1001,x877000,x877001,x877002,x877003,x877004=>if x41=true then ((spec_l6Rd_pick.f k x1000 x1001 (x4.length:Int)).bind fun bt882=>(if 0≤bt882.1 then (if bt882.1 < (x4.length:Int) then ((spec_l2Kids.f k x4 ((rd_T37 x4 bt882.1).f0)).bind fun t885=>(if (t885.length:Int) > 0 then ((spec_l6Rd_pick.f k x1000 bt882.2 (t885.length:Int)).bind fun bt888=>(if 0≤bt888.1 then (if bt888.1 < (t885.length:Int) then (some (x4,x877000,x877001,(rd_T37 x4 bt882.1).f0,rd t885 bt888.1,x877004,bt888.2)) else (none)) else (none))) else (some (x4,x877000,x877001,(rd_T37 x4 bt882.1).f0,x877003,x877004,bt882.2)))) else (none)) else (none))) else (some (x4,x877000,x877001,x877002,x877003,x877004,x1001))
end
def spec_l71Fits.f (k:Nat) (s0_0:List Int) (s0_1:Int):Option ((List (S37))×Int×Int×Int×Int×ByteArray×Int):=(spec_l71Row.f k s0_0 s0_1).bind fun bt865=>((spec_l71Op.f k s0_0 bt865.2.2).bind fun bt870=>((spec_l6Rd_pick.f k s0_0 bt870.2.2.2.2.2 5).bind fun bt877=>(if bt877.1 > 0 then (if bt870.1=1 then (spec_l71Fits.j0 k bt865.1 bt865.2.1 false s0_0 bt877.2 bt870.1 bt870.2.1 bt870.2.2.1 bt870.2.2.2.1 bt870.2.2.2.2.1) else ((spec_l1Made.f bt865.2.1).bind fun t879=>(spec_l71Fits.j0 k bt865.1 bt865.2.1 t879 s0_0 bt877.2 bt870.1 bt870.2.1 bt870.2.2.1 bt870.2.2.2.1 bt870.2.2.2.2.1))) else (spec_l71Fits.j0 k bt865.1 bt865.2.1 false s0_0 bt877.2 bt870.1 bt870.2.1 bt870.2.2.1 bt870.2.2.2.1 bt870.2.2.2.2.1))))
theorem spec_l71Fits.mono_l:∀ k,(∀ y0 y1 y2 y3 y4 y5 y6 y7 y8 y9,LeO (spec_l71Fits.j0 k y0 y1 y2 y3 y4 y5 y6 y7 y8 y9) (spec_l71Fits.j0 (k+1) y0 y1 y2 y3 y4 y5 y6 y7 y8 y9))∧(∀ y0 y1 y2 y3 y4 y5 y6 y7,LeO (spec_l71Fits.j1 k y0 y1 y2 y3 y4 y5 y6 y7) (spec_l71Fits.j1 (k+1) y0 y1 y2 y3 y4 y5 y6 y7))∧(∀ y0 y1 y2 y3 y4 y5 y6 y7 y8,LeO (spec_l71Fits.j2 k y0 y1 y2 y3 y4 y5 y6 y7 y8) (spec_l71Fits.j2 (k+1) y0 y1 y2 y3 y4 y5 y6 y7 y8))
 | 0=>⟨fun _ _ _ _ _ _ _ _ _ _ r h=>by simp [spec_l71Fits.j0] at h,fun _ _ _ _ _ _ _ _ r h=>by simp [spec_l71Fits.j1] at h,fun _ _ _ _ _ _ _ _ _ r h=>by simp [spec_l71Fits.j2] at h⟩
 | k+1=>by
  obtain ⟨ih0,ih1,ih2⟩:=spec_l71Fits.mono_l k
  refine ⟨?_,?_,?_⟩
  all_goals intros
  all_goals first|unfold spec_l71Fits.j0|unfold spec_l71Fits.j1|unfold spec_l71Fits.j2
  all_goals repeat' first
  | (with_reducible exact ih0 _ _ _ _ _ _ _ _ _ _)
  | (with_reducible exact ih1 _ _ _ _ _ _ _ _)
  | (with_reducible exact ih2 _ _ _ _ _ _ _ _ _)
  | (with_reducible exact spec_l2Kids.mono _ _ _)
  | (with_reducible exact spec_l6Rd_pick.mono _ _ _ _)
  | (with_reducible exact spec_l71Op.mono _ _ _)
  | (with_reducible exact spec_l71Row.mono _ _ _)
  | (with_reducible exact LeO.refl _)
  | (with_reducible exact LeO.none _)
  | (with_reducible refine LeO.ite ?_ ?_)
  | (with_reducible refine LeO.bind ?_ (fun _=>?_))
theorem spec_l71Fits.mono:∀ a0 a1 k,LeO (spec_l71Fits.f k a0 a1) (spec_l71Fits.f (k+1) a0 a1):=by
 intro a0 a1 k
 obtain ⟨ih0,ih1,ih2⟩:=spec_l71Fits.mono_l k
 unfold spec_l71Fits.f
 repeat' first
   | (with_reducible exact ih0 _ _ _ _ _ _ _ _ _ _)
   | (with_reducible exact ih1 _ _ _ _ _ _ _ _)
   | (with_reducible exact ih2 _ _ _ _ _ _ _ _ _)
   | (with_reducible exact spec_l2Kids.mono _ _ _)
   | (with_reducible exact spec_l6Rd_pick.mono _ _ _ _)
   | (with_reducible exact spec_l71Op.mono _ _ _)
   | (with_reducible exact spec_l71Row.mono _ _ _)
   | (with_reducible exact LeO.refl _)
   | (with_reducible exact LeO.none _)
   | (with_reducible refine LeO.ite ?_ ?_)
   | (with_reducible refine LeO.bind ?_ (fun _=>?_))
end Go.Proofs.YtlkheeegkifblaaDoor.P
