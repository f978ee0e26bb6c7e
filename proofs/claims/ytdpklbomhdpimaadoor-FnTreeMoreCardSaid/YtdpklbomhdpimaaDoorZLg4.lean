/- Joined by a program (wip/shake.py): the declarations that 'YtdpklbomhdpimaaDoorCardFnTreeMore' reaches. -/
import Derived.Test.YtdpklbomhdpimaaDoorZLg3
set_option linter.unusedVariables false
set_option linter.unusedSimpArgs false
set_option linter.unusedSectionVars false
set_option maxHeartbeats 8000000
set_option maxRecDepth 100000
namespace Go.Proofs.YtdpklbomhdpimaaDoor.P
open Go.RowKit Go.Proofs.YtdpklbomhdpimaaDoorW.PrintWords Go.Proofs.YtdpklbomhdpimaaDoorW.PrintLast
theorem spec_LogOk.calls (k:Nat) (A0:Option Addr) (c0:Nat) (l0:List (S44)) (r:Bool) (w:World) (hr0:Kd.C k44 w A0 l0.length l0) (hc0:l0.length≤c0) (h:spec_LogOk.f k l0=some r) :
  Calls Tryd.prog 43 #[.slice A0 l0.length c0] w fun e w'=>e=.returned (.bool r)∧Below w.heap.size w w':=by
 have hu44:=Tryd.underlying44
 have HR0:=a_ hr0
 have HC0:=a_ hc0
 clear hr0 hc0
 have HB:=a_ (Below.refl w.heap.size w)
 unfold spec_LogOk.f at h
 have H:=h
 clear h
 have H':=a_ H
 clear H
 go_enter Tryd.func43,Tryd.ntmps43
 go_wp2
 go_loopg [3] k (fun kq v3 w'=>∃ (x3_1:Int),v3=.int .i64 x3_1∧Aside0 (spec_LogOk.l0 kq l0 x3_1=some r)∧Aside0 (kq≤k)∧Aside0 (Below w.heap.size w w'))
 case atStart=>exact ⟨(0),(si_),H',⟨Nat.le_refl _⟩,⟨bel_⟩⟩
 case round =>
  clear H'
  obtain ⟨x3_1,rfl,HA,HK1,HB⟩:=hrel
  cases gk with
  | zero=>exact absurd HA.out (by simp [spec_LogOk.l0])
  | succ k1 =>
   have H:=HA.out
   clear HA
   simp only [spec_LogOk.l0] at H
   by_cases c2:x3_1 < (l0.length:Int)
   ·rw [if_pos c2] at H
    have c2b0:decide (x3_1 < (l0.length:Int))=true:=dt_ c2
    clear c2
    by_cases c3:0≤x3_1
    ·rw [if_pos c3] at H
     have c3b0:decide (0≤x3_1)=true:=dt_ c3
     clear c3
     replace H:=bs_ H
     obtain ⟨t426,A40,H⟩:=H
     try dsimp only at H
     have A4:=a_ A40
     clear A40
     by_cases c5:t426=true
     ·subst c5
      have H1:(if x3_1≤(l0.length:Int) then ((spec_l12Seq.f k1 (l0.take (x3_1:Int).toNat) ((rd_T44 l0 x3_1).f0)).bind fun t433=>(if ((rd_T44 l0 x3_1).f1)=(wrap64 (t433+1)) then (spec_LogOk.l0 k1 l0 (wrap64 (x3_1+1))) else (some false))) else (none))=some r:=by rw [if_pos rfl] at H;exact H
      clear H
      have H:=H1
      clear H1
      have c6b0:=eq_true (od_:0≤x3_1)
      by_cases c7:x3_1≤(l0.length:Int)
      ·rw [if_pos c7] at H
       have c7b0:=eq_true c7
       have c7b1:decide (x3_1≤(l0.length:Int))=true:=dt_ c7
       clear c7
       obtain ⟨y428,hy428⟩:∃ y_:List (S44),y_=(l0.take (x3_1:Int).toNat):=⟨_,rfl⟩
       replace H:((spec_l12Seq.f k1 y428 ((rd_T44 l0 x3_1).f0)).bind fun t433=>(if ((rd_T44 l0 x3_1).f1)=(wrap64 (t433+1)) then (spec_LogOk.l0 k1 l0 (wrap64 (x3_1+1))) else (some false)))=some r:=by first|(rw [hy428];with_reducible exact H)|(have H2_:=(Option.bind_some _ _).symm.trans H;rw [hy428];with_reducible exact H2_)|(have H2_:=(Option.bind_some _ _).symm.trans H;with_reducible exact H2_)|with_reducible exact H|(rw [hy428];exact H)|exact H
       have Ny428:=a_ hy428
       clear hy428
       replace H:=bs_ H
       obtain ⟨t433,A80,H⟩:=H
       try dsimp only at H
       have A8:=a_ A80
       clear A80
       by_cases c9:((rd_T44 l0 x3_1).f1)=(wrap64 (t433+1))
       ·rw [if_pos c9] at H
        have c9b0:(((rd_T44 l0 x3_1).f1)==(wrap64 (t433+1)))=true:=beq_iff_eq.mpr c9
        have c9b1:(((rd_T44 l0 x3_1).f1) != (wrap64 (t433+1)))=false:=be_ c9
        clear c9
        have H':=a_ H
        clear H
        try go_wp2
        have n0_:=a_ (below_drew1 HB.out)
        clear HB
        have HB:=n0_
        clear n0_
        have p425:0≤(x3_1:Int):=od_
        have q425:x3_1 < (l0.length:Int):=od_
        obtain ⟨ad425,e425,hx425_0,hx425_1,hx425_2,hx425_3,hx425_4,hx425_5,hx425_6⟩:=at_T44 HR0.out x3_1 p425 q425
        have hw425_6:=hx425_6
        have hw425_5:=hx425_5
        have hw425_4:=hx425_4
        have hw425_3:=hx425_3
        have hw425_2:=hx425_2
        have hw425_1:=hx425_1
        have hw425_0:=hx425_0
        cases e425
        replace hx425_0:=(cb_ HB.out hx425_0 :)
        replace hx425_1:=(cb_ HB.out hx425_1 :)
        replace hx425_2:=(cb_ HB.out hx425_2 :)
        replace hx425_3:=(cb_ HB.out hx425_3 :)
        replace hx425_4:=(cb_ HB.out hx425_4 :)
        replace hx425_5:=(cb_ HB.out hx425_5 :)
        replace hx425_6:=(cb_ HB.out hx425_6 :)
        replace p425:=eq_true p425
        replace q425:=eq_true q425
        have p427:0≤(x3_1:Int):=od_
        have q427:x3_1 < (l0.length:Int):=od_
        obtain ⟨ad427,e427,hx427_0,hx427_1,hx427_2,hx427_3,hx427_4,hx427_5,hx427_6⟩:=at_T44 HR0.out x3_1 p427 q427
        have hw427_6:=hx427_6
        have hw427_5:=hx427_5
        have hw427_4:=hx427_4
        have hw427_3:=hx427_3
        have hw427_2:=hx427_2
        have hw427_1:=hx427_1
        have hw427_0:=hx427_0
        obtain rfl:ad425=ad427:=(by injection e427)
        replace hx427_0:=(cb_ HB.out hx427_0 :)
        replace hx427_1:=(cb_ HB.out hx427_1 :)
        replace hx427_2:=(cb_ HB.out hx427_2 :)
        replace hx427_3:=(cb_ HB.out hx427_3 :)
        replace hx427_4:=(cb_ HB.out hx427_4 :)
        replace hx427_5:=(cb_ HB.out hx427_5 :)
        replace hx427_6:=(cb_ HB.out hx427_6 :)
        replace p427:=eq_true p427
        replace q427:=eq_true q427
        have p432:0≤(x3_1:Int):=od_
        have q432:x3_1 < (l0.length:Int):=od_
        obtain ⟨ad432,e432,hx432_0,hx432_1,hx432_2,hx432_3,hx432_4,hx432_5,hx432_6⟩:=at_T44 HR0.out x3_1 p432 q432
        have hw432_6:=hx432_6
        have hw432_5:=hx432_5
        have hw432_4:=hx432_4
        have hw432_3:=hx432_3
        have hw432_2:=hx432_2
        have hw432_1:=hx432_1
        have hw432_0:=hx432_0
        obtain rfl:ad425=ad432:=(by injection e432)
        replace hx432_0:=(cb_ HB.out hx432_0 :)
        replace hx432_1:=(cb_ HB.out hx432_1 :)
        replace hx432_2:=(cb_ HB.out hx432_2 :)
        replace hx432_3:=(cb_ HB.out hx432_3 :)
        replace hx432_4:=(cb_ HB.out hx432_4 :)
        replace hx432_5:=(cb_ HB.out hx432_5 :)
        replace hx432_6:=(cb_ HB.out hx432_6 :)
        replace p432:=eq_true p432
        replace q432:=eq_true q432
        refine start_ (n:=24) (S:=fun w'=>w'.cell? (ad425.add ((x3_1).toNat * 7))=some (.int .i64 ((rd_T44 l0 x3_1).f0))∧w'.cell? ⟨(ad425.add ((x3_1).toNat * 7)).block,(ad425.add ((x3_1).toNat * 7)).off+1,none⟩=some (.int .i64 ((rd_T44 l0 x3_1).f1))∧w'.cell? ⟨(ad425.add ((x3_1).toNat * 7)).block,(ad425.add ((x3_1).toNat * 7)).off+2,none⟩=some (.int .i64 ((rd_T44 l0 x3_1).f2.f0))∧w'.cell? ⟨(ad425.add ((x3_1).toNat * 7)).block,(ad425.add ((x3_1).toNat * 7)).off+3,none⟩=some (.int .i64 ((rd_T44 l0 x3_1).f2.f1))∧w'.cell? ⟨(ad425.add ((x3_1).toNat * 7)).block,(ad425.add ((x3_1).toNat * 7)).off+4,none⟩=some (.int .i64 ((rd_T44 l0 x3_1).f2.f2))∧w'.cell? ⟨(ad425.add ((x3_1).toNat * 7)).block,(ad425.add ((x3_1).toNat * 7)).off+5,none⟩=some (.int .i64 ((rd_T44 l0 x3_1).f2.f3))∧w'.cell? ⟨(ad425.add ((x3_1).toNat * 7)).block,(ad425.add ((x3_1).toNat * 7)).off+6,none⟩=some (.string ((rd_T44 l0 x3_1).f2.f4))∧w'.cell? (ad425.add ((x3_1).toNat * 7))=some (.int .i64 ((rd_T44 l0 x3_1).f0))∧w'.cell? ⟨(ad425.add ((x3_1).toNat * 7)).block,(ad425.add ((x3_1).toNat * 7)).off+1,none⟩=some (.int .i64 ((rd_T44 l0 x3_1).f1))∧w'.cell? ⟨(ad425.add ((x3_1).toNat * 7)).block,(ad425.add ((x3_1).toNat * 7)).off+2,none⟩=some (.int .i64 ((rd_T44 l0 x3_1).f2.f0))∧w'.cell? ⟨(ad425.add ((x3_1).toNat * 7)).block,(ad425.add ((x3_1).toNat * 7)).off+3,none⟩=some (.int .i64 ((rd_T44 l0 x3_1).f2.f1))∧w'.cell? ⟨(ad425.add ((x3_1).toNat * 7)).block,(ad425.add ((x3_1).toNat * 7)).off+4,none⟩=some (.int .i64 ((rd_T44 l0 x3_1).f2.f2))∧w'.cell? ⟨(ad425.add ((x3_1).toNat * 7)).block,(ad425.add ((x3_1).toNat * 7)).off+5,none⟩=some (.int .i64 ((rd_T44 l0 x3_1).f2.f3))∧w'.cell? ⟨(ad425.add ((x3_1).toNat * 7)).block,(ad425.add ((x3_1).toNat * 7)).off+6,none⟩=some (.string ((rd_T44 l0 x3_1).f2.f4))∧w'.cell? (ad425.add ((x3_1).toNat * 7))=some (.int .i64 ((rd_T44 l0 x3_1).f0))∧w'.cell? ⟨(ad425.add ((x3_1).toNat * 7)).block,(ad425.add ((x3_1).toNat * 7)).off+1,none⟩=some (.int .i64 ((rd_T44 l0 x3_1).f1))∧w'.cell? ⟨(ad425.add ((x3_1).toNat * 7)).block,(ad425.add ((x3_1).toNat * 7)).off+2,none⟩=some (.int .i64 ((rd_T44 l0 x3_1).f2.f0))∧w'.cell? ⟨(ad425.add ((x3_1).toNat * 7)).block,(ad425.add ((x3_1).toNat * 7)).off+3,none⟩=some (.int .i64 ((rd_T44 l0 x3_1).f2.f1))∧w'.cell? ⟨(ad425.add ((x3_1).toNat * 7)).block,(ad425.add ((x3_1).toNat * 7)).off+4,none⟩=some (.int .i64 ((rd_T44 l0 x3_1).f2.f2))∧w'.cell? ⟨(ad425.add ((x3_1).toNat * 7)).block,(ad425.add ((x3_1).toNat * 7)).off+5,none⟩=some (.int .i64 ((rd_T44 l0 x3_1).f2.f3))∧w'.cell? ⟨(ad425.add ((x3_1).toNat * 7)).block,(ad425.add ((x3_1).toNat * 7)).off+6,none⟩=some (.string ((rd_T44 l0 x3_1).f2.f4))) (ds:=[]) #[false,false,false,false,false,false,false,false,false,false,false,false,false,false,false,false,false,false,false,false,false,false,false,false] (by kernel_rfl) rfl rfl ⟨((cb_ HB.out hw425_0 :)),((cb_ HB.out hw425_1 :)),((cb_ HB.out hw425_2 :)),((cb_ HB.out hw425_3 :)),((cb_ HB.out hw425_4 :)),((cb_ HB.out hw425_5 :)),((cb_ HB.out hw425_6 :)),((cb_ HB.out hw427_0 :)),((cb_ HB.out hw427_1 :)),((cb_ HB.out hw427_2 :)),((cb_ HB.out hw427_3 :)),((cb_ HB.out hw427_4 :)),((cb_ HB.out hw427_5 :)),((cb_ HB.out hw427_6 :)),((cb_ HB.out hw432_0 :)),((cb_ HB.out hw432_1 :)),((cb_ HB.out hw432_2 :)),((cb_ HB.out hw432_3 :)),((cb_ HB.out hw432_4 :)),((cb_ HB.out hw432_5 :)),((cb_ HB.out hw432_6 :))⟩ (fun hHeld=>?_);refine with_tabW spec_LogOk.tab4 spec_LogOk.bits4 (fun HT_ HW_=>?_)
        generalize wr.drew=w10 at HB hx425_0 hx425_1 hx425_2 hx425_3 hx425_4 hx425_5 hx425_6 hx427_0 hx427_1 hx427_2 hx427_3 hx427_4 hx427_5 hx427_6 hx432_0 hx432_1 hx432_2 hx432_3 hx432_4 hx432_5 hx432_6 hHeld ⊢
        refine pa_ 0 10 ?_
        refine pa_ 1 11 ?_
        refine pa_ 2 12 ?_
        refine ta21_ 3 13 hHeld ?_
        refine on_ 4 14 (fun K hK=>?_)
        refine goes_ Tryd.func30 (by kernel_rfl) rfl #[.agg #[.int .i64 ((rd_T44 l0 x3_1).f0),.int .i64 ((rd_T44 l0 x3_1).f1),.int .i64 ((rd_T44 l0 x3_1).f2.f0),.int .i64 ((rd_T44 l0 x3_1).f2.f1),.int .i64 ((rd_T44 l0 x3_1).f2.f2),.int .i64 ((rd_T44 l0 x3_1).f2.f3),.string ((rd_T44 l0 x3_1).f2.f4)]] (by rfl) rfl rfl ar_ ?_
        with_reducible refine (spec_EntryOk.calls k1 ((rd_T44 l0 x3_1).f0) ((rd_T44 l0 x3_1).f1) ((rd_T44 l0 x3_1).f2.f0) ((rd_T44 l0 x3_1).f2.f1) ((rd_T44 l0 x3_1).f2.f2) ((rd_T44 l0 x3_1).f2.f3) ((rd_T44 l0 x3_1).f2.f4) true _ A4.out).mono ?_
        rintro e w11 ⟨rfl,hb⟩
        refine ⟨_,rfl,?_⟩
        have n0_:=a_ (bS_ (bel_) hb)
        clear HB
        have HB:=n0_
        clear n0_
        (try clear hb)
        (try clear hb2)
        (try clear hk)
        (try clear hi)
        have q12:(x3_1:Int)≤((l0.length:Int):Int):=od_
        obtain ⟨i012,hi012,_,hsz12,_⟩:=info_parts info44
        have hroom12:l0.length≤c0:=HC0.out
        have hC12:Kd.C k44 _ (some ad425) l0.length l0:=HR0.out
        have hcut12:=cut_to (P:=Tryd.prog) 23 44 .i64 Tryd.underlying23 hi012 (some ad425) l0.length c0 x3_1 (od_) q12 hroom12
        have hr12:=Kd.C_take (m:=(x3_1:Int).toNat) hC12 (by omega)
        have hy12:y428.length=(x3_1:Int).toNat:=(by rw [Ny428.out,List.length_take];omega)
        rw [←Ny428.out] at hr12
        rw [←hy12] at hcut12
        have HR431:=a_ hr12
        have HC431:=a_ (show y428.length≤c0 from by omega)
        clear hr12 hC12 hroom12 hi012 hsz12
        have KY12:=a_ hy12
        clear hy12
        replace q12:=eq_true q12
        refine hK.out _ _ ⟨((cb_ HB.out hw425_0 :)),((cb_ HB.out hw425_1 :)),((cb_ HB.out hw425_2 :)),((cb_ HB.out hw425_3 :)),((cb_ HB.out hw425_4 :)),((cb_ HB.out hw425_5 :)),((cb_ HB.out hw425_6 :)),((cb_ HB.out hw427_0 :)),((cb_ HB.out hw427_1 :)),((cb_ HB.out hw427_2 :)),((cb_ HB.out hw427_3 :)),((cb_ HB.out hw427_4 :)),((cb_ HB.out hw427_5 :)),((cb_ HB.out hw427_6 :)),((cb_ HB.out hw432_0 :)),((cb_ HB.out hw432_1 :)),((cb_ HB.out hw432_2 :)),((cb_ HB.out hw432_3 :)),((cb_ HB.out hw432_4 :)),((cb_ HB.out hw432_5 :)),((cb_ HB.out hw432_6 :))⟩ (fun hHeld=>?_)
        clear hK K
        refine no_ 14 ?_
        refine pa_ 5 15 ?_
        refine pa_ 6 16 ?_
        refine pa_ 7 17 ?_
        refine pa_ 8 18 ?_
        refine pa_ 9 19 ?_
        refine pa_ 10 20 ?_
        refine pa_ 12 22 ?_
        refine pa_ 13 23 ?_
        refine pa_ 14 24 ?_
        refine pa_ 15 25 ?_
        refine pa_ 16 26 ?_
        refine pa_ 17 27 ?_
        refine pa_ 18 28 ?_
        refine ta21_ 11 21 hHeld ?_
        refine ta21_ 19 29 hHeld ?_
        refine on_ 20 30 (fun K hK=>?_)
        refine goes_ Tryd.func90 (by kernel_rfl) rfl #[.slice (some ad425) y428.length c0,.int .i64 ((rd_T44 l0 x3_1).f0)] (by rfl) rfl rfl ar_ ?_
        with_reducible refine (spec_l12Seq.calls k1 _ _ y428 ((rd_T44 l0 x3_1).f0) t433 _ ?side1 ?side2 A8.out).mono ?_
        (case side1=>exact cp_ HR431.out)
        (case side2=>exact HC431.out)
        rintro e w' ⟨rfl,⟨nd,rfl⟩⟩
        refine ⟨_,rfl,?_⟩
        refine hK.out _ _ ⟨((cb_ HB.out hw425_0 :)),((cb_ HB.out hw425_1 :)),((cb_ HB.out hw425_2 :)),((cb_ HB.out hw425_3 :)),((cb_ HB.out hw425_4 :)),((cb_ HB.out hw425_5 :)),((cb_ HB.out hw425_6 :)),((cb_ HB.out hw427_0 :)),((cb_ HB.out hw427_1 :)),((cb_ HB.out hw427_2 :)),((cb_ HB.out hw427_3 :)),((cb_ HB.out hw427_4 :)),((cb_ HB.out hw427_5 :)),((cb_ HB.out hw427_6 :)),((cb_ HB.out hw432_0 :)),((cb_ HB.out hw432_1 :)),((cb_ HB.out hw432_2 :)),((cb_ HB.out hw432_3 :)),((cb_ HB.out hw432_4 :)),((cb_ HB.out hw432_5 :)),((cb_ HB.out hw432_6 :))⟩ (fun hHeld=>?_)
        clear hK K
        refine no_ 30 ?_
        refine pa_ 21 31 ?_
        refine pa_ 22 32 ?_
        refine pa_ 23 33 ?_
        refine done_ (done_of HT_.out (by kernel_rfl)) ?_
        try go_wp2
        go_roundg k1
        case measure=>have:=HK1.out;omega
        case rel=>exact ⟨(wrap64 (x3_1+1)),(si_),H',⟨by have:=HK1.out;omega⟩,⟨bel_⟩⟩
       ·rw [if_neg c9] at H
        have c9b0:(((rd_T44 l0 x3_1).f1)==(wrap64 (t433+1)))=false:=bn_ c9
        have c9b1:(((rd_T44 l0 x3_1).f1) != (wrap64 (t433+1)))=true:=bne_iff_ne.mpr c9
        obtain rfl:=sj_ H
        try go_wp2
        have n0_:=a_ (below_drew1 HB.out)
        clear HB
        have HB:=n0_
        clear n0_
        have p425:0≤(x3_1:Int):=od_
        have q425:x3_1 < (l0.length:Int):=od_
        obtain ⟨ad425,e425,hx425_0,hx425_1,hx425_2,hx425_3,hx425_4,hx425_5,hx425_6⟩:=at_T44 HR0.out x3_1 p425 q425
        have hw425_6:=hx425_6
        have hw425_5:=hx425_5
        have hw425_4:=hx425_4
        have hw425_3:=hx425_3
        have hw425_2:=hx425_2
        have hw425_1:=hx425_1
        have hw425_0:=hx425_0
        cases e425
        replace hx425_0:=(cb_ HB.out hx425_0 :)
        replace hx425_1:=(cb_ HB.out hx425_1 :)
        replace hx425_2:=(cb_ HB.out hx425_2 :)
        replace hx425_3:=(cb_ HB.out hx425_3 :)
        replace hx425_4:=(cb_ HB.out hx425_4 :)
        replace hx425_5:=(cb_ HB.out hx425_5 :)
        replace hx425_6:=(cb_ HB.out hx425_6 :)
        replace p425:=eq_true p425
        replace q425:=eq_true q425
        have p427:0≤(x3_1:Int):=od_
        have q427:x3_1 < (l0.length:Int):=od_
        obtain ⟨ad427,e427,hx427_0,hx427_1,hx427_2,hx427_3,hx427_4,hx427_5,hx427_6⟩:=at_T44 HR0.out x3_1 p427 q427
        have hw427_6:=hx427_6
        have hw427_5:=hx427_5
        have hw427_4:=hx427_4
        have hw427_3:=hx427_3
        have hw427_2:=hx427_2
        have hw427_1:=hx427_1
        have hw427_0:=hx427_0
        obtain rfl:ad425=ad427:=(by injection e427)
        replace hx427_0:=(cb_ HB.out hx427_0 :)
        replace hx427_1:=(cb_ HB.out hx427_1 :)
        replace hx427_2:=(cb_ HB.out hx427_2 :)
        replace hx427_3:=(cb_ HB.out hx427_3 :)
        replace hx427_4:=(cb_ HB.out hx427_4 :)
        replace hx427_5:=(cb_ HB.out hx427_5 :)
        replace hx427_6:=(cb_ HB.out hx427_6 :)
        replace p427:=eq_true p427
        replace q427:=eq_true q427
        have p432:0≤(x3_1:Int):=od_
        have q432:x3_1 < (l0.length:Int):=od_
        obtain ⟨ad432,e432,hx432_0,hx432_1,hx432_2,hx432_3,hx432_4,hx432_5,hx432_6⟩:=at_T44 HR0.out x3_1 p432 q432
        have hw432_6:=hx432_6
        have hw432_5:=hx432_5
        have hw432_4:=hx432_4
        have hw432_3:=hx432_3
        have hw432_2:=hx432_2
        have hw432_1:=hx432_1
        have hw432_0:=hx432_0
        obtain rfl:ad425=ad432:=(by injection e432)
        replace hx432_0:=(cb_ HB.out hx432_0 :)
        replace hx432_1:=(cb_ HB.out hx432_1 :)
        replace hx432_2:=(cb_ HB.out hx432_2 :)
        replace hx432_3:=(cb_ HB.out hx432_3 :)
        replace hx432_4:=(cb_ HB.out hx432_4 :)
        replace hx432_5:=(cb_ HB.out hx432_5 :)
        replace hx432_6:=(cb_ HB.out hx432_6 :)
        replace p432:=eq_true p432
        replace q432:=eq_true q432
        refine start_ (n:=24) (S:=fun w'=>w'.cell? (ad425.add ((x3_1).toNat * 7))=some (.int .i64 ((rd_T44 l0 x3_1).f0))∧w'.cell? ⟨(ad425.add ((x3_1).toNat * 7)).block,(ad425.add ((x3_1).toNat * 7)).off+1,none⟩=some (.int .i64 ((rd_T44 l0 x3_1).f1))∧w'.cell? ⟨(ad425.add ((x3_1).toNat * 7)).block,(ad425.add ((x3_1).toNat * 7)).off+2,none⟩=some (.int .i64 ((rd_T44 l0 x3_1).f2.f0))∧w'.cell? ⟨(ad425.add ((x3_1).toNat * 7)).block,(ad425.add ((x3_1).toNat * 7)).off+3,none⟩=some (.int .i64 ((rd_T44 l0 x3_1).f2.f1))∧w'.cell? ⟨(ad425.add ((x3_1).toNat * 7)).block,(ad425.add ((x3_1).toNat * 7)).off+4,none⟩=some (.int .i64 ((rd_T44 l0 x3_1).f2.f2))∧w'.cell? ⟨(ad425.add ((x3_1).toNat * 7)).block,(ad425.add ((x3_1).toNat * 7)).off+5,none⟩=some (.int .i64 ((rd_T44 l0 x3_1).f2.f3))∧w'.cell? ⟨(ad425.add ((x3_1).toNat * 7)).block,(ad425.add ((x3_1).toNat * 7)).off+6,none⟩=some (.string ((rd_T44 l0 x3_1).f2.f4))∧w'.cell? (ad425.add ((x3_1).toNat * 7))=some (.int .i64 ((rd_T44 l0 x3_1).f0))∧w'.cell? ⟨(ad425.add ((x3_1).toNat * 7)).block,(ad425.add ((x3_1).toNat * 7)).off+1,none⟩=some (.int .i64 ((rd_T44 l0 x3_1).f1))∧w'.cell? ⟨(ad425.add ((x3_1).toNat * 7)).block,(ad425.add ((x3_1).toNat * 7)).off+2,none⟩=some (.int .i64 ((rd_T44 l0 x3_1).f2.f0))∧w'.cell? ⟨(ad425.add ((x3_1).toNat * 7)).block,(ad425.add ((x3_1).toNat * 7)).off+3,none⟩=some (.int .i64 ((rd_T44 l0 x3_1).f2.f1))∧w'.cell? ⟨(ad425.add ((x3_1).toNat * 7)).block,(ad425.add ((x3_1).toNat * 7)).off+4,none⟩=some (.int .i64 ((rd_T44 l0 x3_1).f2.f2))∧w'.cell? ⟨(ad425.add ((x3_1).toNat * 7)).block,(ad425.add ((x3_1).toNat * 7)).off+5,none⟩=some (.int .i64 ((rd_T44 l0 x3_1).f2.f3))∧w'.cell? ⟨(ad425.add ((x3_1).toNat * 7)).block,(ad425.add ((x3_1).toNat * 7)).off+6,none⟩=some (.string ((rd_T44 l0 x3_1).f2.f4))∧w'.cell? (ad425.add ((x3_1).toNat * 7))=some (.int .i64 ((rd_T44 l0 x3_1).f0))∧w'.cell? ⟨(ad425.add ((x3_1).toNat * 7)).block,(ad425.add ((x3_1).toNat * 7)).off+1,none⟩=some (.int .i64 ((rd_T44 l0 x3_1).f1))∧w'.cell? ⟨(ad425.add ((x3_1).toNat * 7)).block,(ad425.add ((x3_1).toNat * 7)).off+2,none⟩=some (.int .i64 ((rd_T44 l0 x3_1).f2.f0))∧w'.cell? ⟨(ad425.add ((x3_1).toNat * 7)).block,(ad425.add ((x3_1).toNat * 7)).off+3,none⟩=some (.int .i64 ((rd_T44 l0 x3_1).f2.f1))∧w'.cell? ⟨(ad425.add ((x3_1).toNat * 7)).block,(ad425.add ((x3_1).toNat * 7)).off+4,none⟩=some (.int .i64 ((rd_T44 l0 x3_1).f2.f2))∧w'.cell? ⟨(ad425.add ((x3_1).toNat * 7)).block,(ad425.add ((x3_1).toNat * 7)).off+5,none⟩=some (.int .i64 ((rd_T44 l0 x3_1).f2.f3))∧w'.cell? ⟨(ad425.add ((x3_1).toNat * 7)).block,(ad425.add ((x3_1).toNat * 7)).off+6,none⟩=some (.string ((rd_T44 l0 x3_1).f2.f4))) (ds:=[]) #[false,false,false,false,false,false,false,false,false,false,false,false,false,false,false,false,false,false,false,false,false,false,false,false] (by kernel_rfl) rfl rfl ⟨((cb_ HB.out hw425_0 :)),((cb_ HB.out hw425_1 :)),((cb_ HB.out hw425_2 :)),((cb_ HB.out hw425_3 :)),((cb_ HB.out hw425_4 :)),((cb_ HB.out hw425_5 :)),((cb_ HB.out hw425_6 :)),((cb_ HB.out hw427_0 :)),((cb_ HB.out hw427_1 :)),((cb_ HB.out hw427_2 :)),((cb_ HB.out hw427_3 :)),((cb_ HB.out hw427_4 :)),((cb_ HB.out hw427_5 :)),((cb_ HB.out hw427_6 :)),((cb_ HB.out hw432_0 :)),((cb_ HB.out hw432_1 :)),((cb_ HB.out hw432_2 :)),((cb_ HB.out hw432_3 :)),((cb_ HB.out hw432_4 :)),((cb_ HB.out hw432_5 :)),((cb_ HB.out hw432_6 :))⟩ (fun hHeld=>?_);refine with_tabW spec_LogOk.tab4 spec_LogOk.bits4 (fun HT_ HW_=>?_)
        generalize wr.drew=w13 at HB hx425_0 hx425_1 hx425_2 hx425_3 hx425_4 hx425_5 hx425_6 hx427_0 hx427_1 hx427_2 hx427_3 hx427_4 hx427_5 hx427_6 hx432_0 hx432_1 hx432_2 hx432_3 hx432_4 hx432_5 hx432_6 hHeld ⊢
        refine pa_ 0 10 ?_
        refine pa_ 1 11 ?_
        refine pa_ 2 12 ?_
        refine ta21_ 3 13 hHeld ?_
        refine on_ 4 14 (fun K hK=>?_)
        refine goes_ Tryd.func30 (by kernel_rfl) rfl #[.agg #[.int .i64 ((rd_T44 l0 x3_1).f0),.int .i64 ((rd_T44 l0 x3_1).f1),.int .i64 ((rd_T44 l0 x3_1).f2.f0),.int .i64 ((rd_T44 l0 x3_1).f2.f1),.int .i64 ((rd_T44 l0 x3_1).f2.f2),.int .i64 ((rd_T44 l0 x3_1).f2.f3),.string ((rd_T44 l0 x3_1).f2.f4)]] (by rfl) rfl rfl ar_ ?_
        with_reducible refine (spec_EntryOk.calls k1 ((rd_T44 l0 x3_1).f0) ((rd_T44 l0 x3_1).f1) ((rd_T44 l0 x3_1).f2.f0) ((rd_T44 l0 x3_1).f2.f1) ((rd_T44 l0 x3_1).f2.f2) ((rd_T44 l0 x3_1).f2.f3) ((rd_T44 l0 x3_1).f2.f4) true _ A4.out).mono ?_
        rintro e w14 ⟨rfl,hb⟩
        refine ⟨_,rfl,?_⟩
        have n0_:=a_ (bS_ (bel_) hb)
        clear HB
        have HB:=n0_
        clear n0_
        (try clear hb)
        (try clear hb2)
        (try clear hk)
        (try clear hi)
        have q15:(x3_1:Int)≤((l0.length:Int):Int):=od_
        obtain ⟨i015,hi015,_,hsz15,_⟩:=info_parts info44
        have hroom15:l0.length≤c0:=HC0.out
        have hC15:Kd.C k44 _ (some ad425) l0.length l0:=HR0.out
        have hcut15:=cut_to (P:=Tryd.prog) 23 44 .i64 Tryd.underlying23 hi015 (some ad425) l0.length c0 x3_1 (od_) q15 hroom15
        have hr15:=Kd.C_take (m:=(x3_1:Int).toNat) hC15 (by omega)
        have hy15:y428.length=(x3_1:Int).toNat:=(by rw [Ny428.out,List.length_take];omega)
        rw [←Ny428.out] at hr15
        rw [←hy15] at hcut15
        have HR431:=a_ hr15
        have HC431:=a_ (show y428.length≤c0 from by omega)
        clear hr15 hC15 hroom15 hi015 hsz15
        have KY15:=a_ hy15
        clear hy15
        replace q15:=eq_true q15
        refine hK.out _ _ ⟨((cb_ HB.out hw425_0 :)),((cb_ HB.out hw425_1 :)),((cb_ HB.out hw425_2 :)),((cb_ HB.out hw425_3 :)),((cb_ HB.out hw425_4 :)),((cb_ HB.out hw425_5 :)),((cb_ HB.out hw425_6 :)),((cb_ HB.out hw427_0 :)),((cb_ HB.out hw427_1 :)),((cb_ HB.out hw427_2 :)),((cb_ HB.out hw427_3 :)),((cb_ HB.out hw427_4 :)),((cb_ HB.out hw427_5 :)),((cb_ HB.out hw427_6 :)),((cb_ HB.out hw432_0 :)),((cb_ HB.out hw432_1 :)),((cb_ HB.out hw432_2 :)),((cb_ HB.out hw432_3 :)),((cb_ HB.out hw432_4 :)),((cb_ HB.out hw432_5 :)),((cb_ HB.out hw432_6 :))⟩ (fun hHeld=>?_)
        clear hK K
        refine no_ 14 ?_
        refine pa_ 5 15 ?_
        refine pa_ 6 16 ?_
        refine pa_ 7 17 ?_
        refine pa_ 8 18 ?_
        refine pa_ 9 19 ?_
        refine pa_ 10 20 ?_
        refine pa_ 12 22 ?_
        refine pa_ 13 23 ?_
        refine pa_ 14 24 ?_
        refine pa_ 15 25 ?_
        refine pa_ 16 26 ?_
        refine pa_ 17 27 ?_
        refine pa_ 18 28 ?_
        refine ta21_ 11 21 hHeld ?_
        refine ta21_ 19 29 hHeld ?_
        refine on_ 20 30 (fun K hK=>?_)
        refine goes_ Tryd.func90 (by kernel_rfl) rfl #[.slice (some ad425) y428.length c0,.int .i64 ((rd_T44 l0 x3_1).f0)] (by rfl) rfl rfl ar_ ?_
        with_reducible refine (spec_l12Seq.calls k1 _ _ y428 ((rd_T44 l0 x3_1).f0) t433 _ ?side1 ?side2 A8.out).mono ?_
        (case side1=>exact cp_ HR431.out)
        (case side2=>exact HC431.out)
        rintro e w' ⟨rfl,⟨nd,rfl⟩⟩
        refine ⟨_,rfl,?_⟩
        refine hK.out _ _ ⟨((cb_ HB.out hw425_0 :)),((cb_ HB.out hw425_1 :)),((cb_ HB.out hw425_2 :)),((cb_ HB.out hw425_3 :)),((cb_ HB.out hw425_4 :)),((cb_ HB.out hw425_5 :)),((cb_ HB.out hw425_6 :)),((cb_ HB.out hw427_0 :)),((cb_ HB.out hw427_1 :)),((cb_ HB.out hw427_2 :)),((cb_ HB.out hw427_3 :)),((cb_ HB.out hw427_4 :)),((cb_ HB.out hw427_5 :)),((cb_ HB.out hw427_6 :)),((cb_ HB.out hw432_0 :)),((cb_ HB.out hw432_1 :)),((cb_ HB.out hw432_2 :)),((cb_ HB.out hw432_3 :)),((cb_ HB.out hw432_4 :)),((cb_ HB.out hw432_5 :)),((cb_ HB.out hw432_6 :))⟩ (fun hHeld=>?_)
        clear hK K
        refine no_ 30 ?_
        refine pa_ 21 31 ?_
        refine pa_ 22 32 ?_
        refine pa_ 23 33 ?_
        refine done_ (done_of HT_.out (by kernel_rfl)) ?_
        try go_wp2
        go_ret
        exact ⟨fi_,bel_⟩
      ·rw [if_neg c7] at H
       exact absurd H (by simp)
     ·replace c5:=Bool.eq_false_iff.mpr c5
      subst c5
      have H1:(some false)=some r:=by rw [if_neg (show ¬ (false=true) by decide)] at H;exact H
      clear H
      have H:=H1
      clear H1
      obtain rfl:=sj_ H
      try go_wp2
      have n0_:=a_ (below_drew1 HB.out)
      clear HB
      have HB:=n0_
      clear n0_
      have p425:0≤(x3_1:Int):=od_
      have q425:x3_1 < (l0.length:Int):=od_
      obtain ⟨ad425,e425,hx425_0,hx425_1,hx425_2,hx425_3,hx425_4,hx425_5,hx425_6⟩:=at_T44 HR0.out x3_1 p425 q425
      have hw425_6:=hx425_6
      have hw425_5:=hx425_5
      have hw425_4:=hx425_4
      have hw425_3:=hx425_3
      have hw425_2:=hx425_2
      have hw425_1:=hx425_1
      have hw425_0:=hx425_0
      cases e425
      replace hx425_0:=(cb_ HB.out hx425_0 :)
      replace hx425_1:=(cb_ HB.out hx425_1 :)
      replace hx425_2:=(cb_ HB.out hx425_2 :)
      replace hx425_3:=(cb_ HB.out hx425_3 :)
      replace hx425_4:=(cb_ HB.out hx425_4 :)
      replace hx425_5:=(cb_ HB.out hx425_5 :)
      replace hx425_6:=(cb_ HB.out hx425_6 :)
      replace p425:=eq_true p425
      replace q425:=eq_true q425
      refine start_ (n:=24) (S:=fun w'=>w'.cell? (ad425.add ((x3_1).toNat * 7))=some (.int .i64 ((rd_T44 l0 x3_1).f0))∧w'.cell? ⟨(ad425.add ((x3_1).toNat * 7)).block,(ad425.add ((x3_1).toNat * 7)).off+1,none⟩=some (.int .i64 ((rd_T44 l0 x3_1).f1))∧w'.cell? ⟨(ad425.add ((x3_1).toNat * 7)).block,(ad425.add ((x3_1).toNat * 7)).off+2,none⟩=some (.int .i64 ((rd_T44 l0 x3_1).f2.f0))∧w'.cell? ⟨(ad425.add ((x3_1).toNat * 7)).block,(ad425.add ((x3_1).toNat * 7)).off+3,none⟩=some (.int .i64 ((rd_T44 l0 x3_1).f2.f1))∧w'.cell? ⟨(ad425.add ((x3_1).toNat * 7)).block,(ad425.add ((x3_1).toNat * 7)).off+4,none⟩=some (.int .i64 ((rd_T44 l0 x3_1).f2.f2))∧w'.cell? ⟨(ad425.add ((x3_1).toNat * 7)).block,(ad425.add ((x3_1).toNat * 7)).off+5,none⟩=some (.int .i64 ((rd_T44 l0 x3_1).f2.f3))∧w'.cell? ⟨(ad425.add ((x3_1).toNat * 7)).block,(ad425.add ((x3_1).toNat * 7)).off+6,none⟩=some (.string ((rd_T44 l0 x3_1).f2.f4))) (ds:=[]) #[false,false,false,false,false,false,false,false,false,false,false,false,false,false,false,false,false,false,false,false,false,false,false,false] (by kernel_rfl) rfl rfl ⟨((cb_ HB.out hw425_0 :)),((cb_ HB.out hw425_1 :)),((cb_ HB.out hw425_2 :)),((cb_ HB.out hw425_3 :)),((cb_ HB.out hw425_4 :)),((cb_ HB.out hw425_5 :)),((cb_ HB.out hw425_6 :))⟩ (fun hHeld=>?_);refine with_tabW spec_LogOk.tab4 spec_LogOk.bits4 (fun HT_ HW_=>?_)
      generalize wr.drew=w16 at HB hx425_0 hx425_1 hx425_2 hx425_3 hx425_4 hx425_5 hx425_6 hHeld ⊢
      refine pa_ 0 10 ?_
      refine pa_ 1 11 ?_
      refine pa_ 2 12 ?_
      refine ta7_ 3 13 hHeld ?_
      refine on_ 4 14 (fun K hK=>?_)
      refine goes_ Tryd.func30 (by kernel_rfl) rfl #[.agg #[.int .i64 ((rd_T44 l0 x3_1).f0),.int .i64 ((rd_T44 l0 x3_1).f1),.int .i64 ((rd_T44 l0 x3_1).f2.f0),.int .i64 ((rd_T44 l0 x3_1).f2.f1),.int .i64 ((rd_T44 l0 x3_1).f2.f2),.int .i64 ((rd_T44 l0 x3_1).f2.f3),.string ((rd_T44 l0 x3_1).f2.f4)]] (by rfl) rfl rfl ar_ ?_
      with_reducible refine (spec_EntryOk.calls k1 ((rd_T44 l0 x3_1).f0) ((rd_T44 l0 x3_1).f1) ((rd_T44 l0 x3_1).f2.f0) ((rd_T44 l0 x3_1).f2.f1) ((rd_T44 l0 x3_1).f2.f2) ((rd_T44 l0 x3_1).f2.f3) ((rd_T44 l0 x3_1).f2.f4) false _ A4.out).mono ?_
      rintro e w17 ⟨rfl,hb⟩
      refine ⟨_,rfl,?_⟩
      have n0_:=a_ (bS_ (bel_) hb)
      clear HB
      have HB:=n0_
      clear n0_
      (try clear hb)
      (try clear hb2)
      (try clear hk)
      (try clear hi)
      refine hK.out _ _ ⟨((cb_ HB.out hw425_0 :)),((cb_ HB.out hw425_1 :)),((cb_ HB.out hw425_2 :)),((cb_ HB.out hw425_3 :)),((cb_ HB.out hw425_4 :)),((cb_ HB.out hw425_5 :)),((cb_ HB.out hw425_6 :))⟩ (fun hHeld=>?_)
      clear hK K
      refine no_ 14 ?_
      refine pa_ 5 15 ?_
      refine pa_ 6 16 ?_
      refine po_ 7 17 ?_
      refine po_ 8 18 ?_
      refine po_ 9 19 ?_
      refine po_ 10 20 ?_
      refine po_ 11 21 ?_
      refine po_ 12 22 ?_
      refine po_ 13 23 ?_
      refine po_ 14 24 ?_
      refine po_ 15 25 ?_
      refine po_ 16 26 ?_
      refine po_ 17 27 ?_
      refine po_ 18 28 ?_
      refine po_ 19 29 ?_
      refine po_ 20 30 ?_
      refine po_ 21 31 ?_
      refine po_ 22 32 ?_
      refine pa_ 23 33 ?_
      refine done_ (done_of HT_.out (by kernel_rfl)) ?_
      try go_wp2
      go_ret
      exact ⟨fi_,bel_⟩
    ·rw [if_neg c3] at H
     exact absurd H (by simp)
   ·rw [if_neg c2] at H
    have c2b0:decide (x3_1 < (l0.length:Int))=false:=df_ c2
    clear c2
    obtain rfl:=sj_ H
    go_wp2
    go_ret
    exact ⟨fi_,bel_⟩

theorem eqA42 (d:Nat) (w:World) (x0 y0:Int) (x1 y1:Int) (x2 y2:Int) (x3 y3:Int) (x4 y4:ByteArray) :
  (Op.equalIn (d+2) 42 (.agg #[.int .i64 x0,.int .i64 x1,.int .i64 x2,.int .i64 x3,.string x4]) (.agg #[.int .i64 y0,.int .i64 y1,.int .i64 y2,.int .i64 y3,.string y4])).run Tryd.prog w=.ok (x0==y0&&(x1==y1&&(x2==y2&&(x3==y3&&(x4.toList==y4.toList))))) w:=by
 refine eqA_of Tryd.underlying42 (by kernel_rfl) ?_
 refine eqf_cons (by rfl) (by go_simp;rfl) (by go_simp;rfl) (by go_simp) ?_
 refine eqf_cons (by rfl) (by go_simp;rfl) (by go_simp;rfl) (by go_simp) ?_
 refine eqf_cons (by rfl) (by go_simp;rfl) (by go_simp;rfl) (by go_simp) ?_
 refine eqf_cons (by rfl) (by go_simp;rfl) (by go_simp;rfl) (by go_simp) ?_
 exact eqf_last (by rfl) (by go_simp;rfl) (by go_simp;rfl) (by go_simp)
theorem eqA44 (d:Nat) (w:World) (x0 y0:Int) (x1 y1:Int) (x2 y2:Int) (x3 y3:Int) (x4 y4:Int) (x5 y5:Int) (x6 y6:ByteArray) :
  (Op.equalIn (d+3) 44 (.agg #[.int .i64 x0,.int .i64 x1,.int .i64 x2,.int .i64 x3,.int .i64 x4,.int .i64 x5,.string x6]) (.agg #[.int .i64 y0,.int .i64 y1,.int .i64 y2,.int .i64 y3,.int .i64 y4,.int .i64 y5,.string y6])).run Tryd.prog w=.ok (x0==y0&&(x1==y1&&((x2==y2&&(x3==y3&&(x4==y4&&(x5==y5&&(x6.toList==y6.toList)))))))) w:=by
 refine eqA_of Tryd.underlying44 (by kernel_rfl) ?_
 refine eqf_cons (by rfl) (by go_simp;rfl) (by go_simp;rfl) (by go_simp) ?_
 refine eqf_cons (by rfl) (by go_simp;rfl) (by go_simp;rfl) (by go_simp) ?_
 exact eqf_last (by rfl) (by go_simp) (by go_simp) (eqA42 (d+0) w _ _ _ _ _ _ _ _ _ _)
attribute [local go_sem high] eqA44
def spec_l12Has.l0:Nat→List (S44)→Int→Int→Int→Int→Int→Int→Int→ByteArray→Option (Bool)
 | 0,_,_,_,_,_,_,_,_,_=>none
 | k+1,x0,x5,x470000,x470001,x470002,x470003,x470004,x470005,x470006=>if x5 < (x0.length:Int) then (if 0≤x5 then (if (((rd_T44 x0 x5).f0)==x470000&&(((rd_T44 x0 x5).f1)==x470001&&((((rd_T44 x0 x5).f2.f0)==x470002&&(((rd_T44 x0 x5).f2.f1)==x470003&&(((rd_T44 x0 x5).f2.f2)==x470004&&(((rd_T44 x0 x5).f2.f3)==x470005&&((((rd_T44 x0 x5).f2.f4).toList)==x470006.toList))))))))=true then (some true) else (spec_l12Has.l0 k x0 (wrap64 (x5+1)) x470000 x470001 x470002 x470003 x470004 x470005 x470006)) else (none)) else (some false)
def spec_l12Has.f (k:Nat) (l0:List (S44)) (a1_0:Int) (a1_1:Int) (a1_2:Int) (a1_3:Int) (a1_4:Int) (a1_5:Int) (a1_6:ByteArray):Option (Bool):=spec_l12Has.l0 k l0 0 a1_0 a1_1 a1_2 a1_3 a1_4 a1_5 a1_6
theorem spec_l12Has.mono_l:∀ k,(∀ y0 y1 y2 y3 y4 y5 y6 y7 y8,LeO (spec_l12Has.l0 k y0 y1 y2 y3 y4 y5 y6 y7 y8) (spec_l12Has.l0 (k+1) y0 y1 y2 y3 y4 y5 y6 y7 y8))
 | 0=>fun _ _ _ _ _ _ _ _ _ r h=>by simp [spec_l12Has.l0] at h
 | k+1=>by
  have ih0:=spec_l12Has.mono_l k
  ·intro y0 y1 y2 y3 y4 y5 y6 y7 y8
   unfold spec_l12Has.l0
   repeat' first
   | (with_reducible exact ih0 _ _ _ _ _ _ _ _ _)
   | (with_reducible exact LeO.refl _)
   | (with_reducible exact LeO.none _)
   | (with_reducible refine LeO.ite ?_ ?_)
   | (with_reducible refine LeO.bind ?_ (fun _=>?_))
theorem spec_l12Has.mono:∀ a0 a1 a2 a3 a4 a5 a6 a7 k,LeO (spec_l12Has.f k a0 a1 a2 a3 a4 a5 a6 a7) (spec_l12Has.f (k+1) a0 a1 a2 a3 a4 a5 a6 a7):=by
 intro a0 a1 a2 a3 a4 a5 a6 a7 k
 have ih0:=spec_l12Has.mono_l k
 unfold spec_l12Has.f
 repeat' first
   | (with_reducible exact ih0 _ _ _ _ _ _ _ _ _)
   | (with_reducible exact LeO.refl _)
   | (with_reducible exact LeO.none _)
   | (with_reducible refine LeO.ite ?_ ?_)
   | (with_reducible refine LeO.bind ?_ (fun _=>?_))
theorem spec_l12Has.calls (k:Nat) (A0:Option Addr) (c0:Nat) (l0:List (S44)) (a1_0:Int) (a1_1:Int) (a1_2:Int) (a1_3:Int) (a1_4:Int) (a1_5:Int) (a1_6:ByteArray) (r:Bool) (w:World) (hr0:Kd.C k44 w A0 l0.length l0) (hc0:l0.length≤c0) (h:spec_l12Has.f k l0 a1_0 a1_1 a1_2 a1_3 a1_4 a1_5 a1_6=some r) :
  Calls Tryd.prog 126 #[.slice A0 l0.length c0,.agg #[.int .i64 a1_0,.int .i64 a1_1,.int .i64 a1_2,.int .i64 a1_3,.int .i64 a1_4,.int .i64 a1_5,.string a1_6]] w fun e w'=>e=.returned (.bool r)∧Below w.heap.size w w':=by
 have hu44:=Tryd.underlying44
 have HR0:=a_ hr0
 have HC0:=a_ hc0
 clear hr0 hc0
 have HB:=a_ (Below.refl w.heap.size w)
 unfold spec_l12Has.f at h
 have H:=h
 clear h
 have H':=a_ H
 clear H
 go_enter Tryd.func126,Tryd.ntmps126
 go_wp2_with (first|((with_reducible refine gD_ (N:=3) rfl ?_);refine bx_ 3 (#[.int .i64 a1_0,.int .i64 a1_1,.int .i64 a1_2,.int .i64 a1_3,.int .i64 a1_4,.int .i64 a1_5,.string a1_6]) 44 ?_;intro gb469 hg w3 hbox hb;have n0_:=a_ (bS_ (bel_) hb);have n1_:=a_ (hbox);have n2_:=a_ ((by rw [hg];exact (below_size (bel_)):w.heap.size≤gb469));have n3_:=a_ ((by rw [hg];exact (below_size (bel_)):w.heap.size≤gb469));clear HB;have HB:=n0_;have BK469:=n1_;have GW469:=n2_;have GE469:=n3_;clear n0_ n1_ n2_ n3_;clear hb hbox hg))
 repeat (go_quiet (first|((with_reducible refine gD_ (N:=3) rfl ?_);refine bx_ 3 (#[.int .i64 a1_0,.int .i64 a1_1,.int .i64 a1_2,.int .i64 a1_3,.int .i64 a1_4,.int .i64 a1_5,.string a1_6]) 44 ?_;intro gb469 hg w3 hbox hb;have n0_:=a_ (bS_ (bel_) hb);have n1_:=a_ (hbox);have n2_:=a_ ((by rw [hg];exact (below_size (bel_)):w.heap.size≤gb469));have n3_:=a_ ((by rw [hg];exact (below_size (bel_)):w.heap.size≤gb469));clear HB;have HB:=n0_;have BK469:=n1_;have GW469:=n2_;have GE469:=n3_;clear n0_ n1_ n2_ n3_;clear hb hbox hg));try go_wp2_with (first|((with_reducible refine gD_ (N:=3) rfl ?_);refine bx_ 3 (#[.int .i64 a1_0,.int .i64 a1_1,.int .i64 a1_2,.int .i64 a1_3,.int .i64 a1_4,.int .i64 a1_5,.string a1_6]) 44 ?_;intro gb469 hg w3 hbox hb;have n0_:=a_ (bS_ (bel_) hb);have n1_:=a_ (hbox);have n2_:=a_ ((by rw [hg];exact (below_size (bel_)):w.heap.size≤gb469));have n3_:=a_ ((by rw [hg];exact (below_size (bel_)):w.heap.size≤gb469));clear HB;have HB:=n0_;have BK469:=n1_;have GW469:=n2_;have GE469:=n3_;clear n0_ n1_ n2_ n3_;clear hb hbox hg)))
 go_loopg [5] k (fun kq v5 w'=>∃ (x5_1:Int),v5=.int .i64 x5_1∧Aside0 (spec_l12Has.l0 kq l0 x5_1 a1_0 a1_1 a1_2 a1_3 a1_4 a1_5 a1_6=some r)∧Aside0 (kq≤k)∧Aside0 (w'.heap[gb469]?=some (.cells #[.int .i64 a1_0,.int .i64 a1_1,.int .i64 a1_2,.int .i64 a1_3,.int .i64 a1_4,.int .i64 a1_5,.string a1_6] 44 (0,0)))∧Aside0 (Below w.heap.size w w'))
 case atStart=>exact ⟨(0),(si_),H',⟨Nat.le_refl _⟩,⟨by (with_reducible repeat (first|refine bN_ ?_ _|refine bD_ ?_|refine bA_ ?_ _));exact BK469.out⟩,⟨bel_⟩⟩
 case round =>
  clear H'
  try clear c1
  try clear p2
  obtain ⟨x5_1,rfl,HA,HK1,BK469,HB⟩:=hrel
  cases gk with
  | zero=>exact absurd HA.out (by simp [spec_l12Has.l0])
  | succ k1 =>
   have H:=HA.out
   clear HA
   simp only [spec_l12Has.l0] at H
   by_cases c4:x5_1 < (l0.length:Int)
   ·rw [if_pos c4] at H
    have c4b0:decide (x5_1 < (l0.length:Int))=true:=dt_ c4
    clear c4
    by_cases c5:0≤x5_1
    ·rw [if_pos c5] at H
     have c5b0:decide (0≤x5_1)=true:=dt_ c5
     clear c5
     by_cases c6:(((rd_T44 l0 x5_1).f0)==a1_0&&(((rd_T44 l0 x5_1).f1)==a1_1&&((((rd_T44 l0 x5_1).f2.f0)==a1_2&&(((rd_T44 l0 x5_1).f2.f1)==a1_3&&(((rd_T44 l0 x5_1).f2.f2)==a1_4&&(((rd_T44 l0 x5_1).f2.f3)==a1_5&&((((rd_T44 l0 x5_1).f2.f4).toList)==a1_6.toList))))))))=true
     ·rw [if_pos c6] at H
      have c6b0:(((rd_T44 l0 x5_1).f0)==a1_0&&(((rd_T44 l0 x5_1).f1)==a1_1&&((((rd_T44 l0 x5_1).f2.f0)==a1_2&&(((rd_T44 l0 x5_1).f2.f1)==a1_3&&(((rd_T44 l0 x5_1).f2.f2)==a1_4&&(((rd_T44 l0 x5_1).f2.f3)==a1_5&&((((rd_T44 l0 x5_1).f2.f4).toList)==a1_6.toList))))))))=true:=c6
      (try (have c6b1:decide (((rd_T44 l0 x5_1).f0)=a1_0&&(((rd_T44 l0 x5_1).f1)==a1_1&&((((rd_T44 l0 x5_1).f2.f0)==a1_2&&(((rd_T44 l0 x5_1).f2.f1)==a1_3&&(((rd_T44 l0 x5_1).f2.f2)==a1_4&&(((rd_T44 l0 x5_1).f2.f3)==a1_5&&((((rd_T44 l0 x5_1).f2.f4).toList)==a1_6.toList))))))))=true:=by simpa using c6))
      (try (have c6b2:(((rd_T44 l0 x5_1).f0)==a1_0&&(((rd_T44 l0 x5_1).f1)==a1_1&&((((rd_T44 l0 x5_1).f2.f0)==a1_2&&(((rd_T44 l0 x5_1).f2.f1)==a1_3&&(((rd_T44 l0 x5_1).f2.f2)==a1_4&&(((rd_T44 l0 x5_1).f2.f3)==a1_5&&((((rd_T44 l0 x5_1).f2.f4).toList)==a1_6.toList))))))))=true:=by simpa using c6))
      clear c6
      obtain rfl:=sj_ H
      have p470:0≤(x5_1:Int):=od_
      have q470:x5_1 < (l0.length:Int):=od_
      obtain ⟨ad470,e470,hx470_0,hx470_1,hx470_2,hx470_3,hx470_4,hx470_5,hx470_6⟩:=at_T44 HR0.out x5_1 p470 q470
      cases e470
      replace hx470_0:=(cb_ HB.out hx470_0 :)
      replace hx470_1:=(cb_ HB.out hx470_1 :)
      replace hx470_2:=(cb_ HB.out hx470_2 :)
      replace hx470_3:=(cb_ HB.out hx470_3 :)
      replace hx470_4:=(cb_ HB.out hx470_4 :)
      replace hx470_5:=(cb_ HB.out hx470_5 :)
      replace hx470_6:=(cb_ HB.out hx470_6 :)
      replace p470:=eq_true p470
      replace q470:=eq_true q470
      obtain ⟨Z7_0,Z7_1,Z7_2,Z7_3,Z7_4,Z7_5,Z7_6,Y7_0,Y7_1,Y7_2,Y7_3,Y7_4,Y7_5,Y7_6⟩:=op7_ BK469.out
      go_wp2
      repeat (go_quiet (fail);try go_wp2)
      go_ret
      exact ⟨fi_,bel_⟩
     ·rw [if_neg c6] at H
      have c6b0:(((rd_T44 l0 x5_1).f0)==a1_0&&(((rd_T44 l0 x5_1).f1)==a1_1&&((((rd_T44 l0 x5_1).f2.f0)==a1_2&&(((rd_T44 l0 x5_1).f2.f1)==a1_3&&(((rd_T44 l0 x5_1).f2.f2)==a1_4&&(((rd_T44 l0 x5_1).f2.f3)==a1_5&&((((rd_T44 l0 x5_1).f2.f4).toList)==a1_6.toList))))))))=false:=by simpa using c6
      (try (have c6b1:decide (((rd_T44 l0 x5_1).f0)=a1_0&&(((rd_T44 l0 x5_1).f1)==a1_1&&((((rd_T44 l0 x5_1).f2.f0)==a1_2&&(((rd_T44 l0 x5_1).f2.f1)==a1_3&&(((rd_T44 l0 x5_1).f2.f2)==a1_4&&(((rd_T44 l0 x5_1).f2.f3)==a1_5&&((((rd_T44 l0 x5_1).f2.f4).toList)==a1_6.toList))))))))=false:=by simpa using c6))
      (try (have c6b2:(((rd_T44 l0 x5_1).f0)==a1_0&&(((rd_T44 l0 x5_1).f1)==a1_1&&((((rd_T44 l0 x5_1).f2.f0)==a1_2&&(((rd_T44 l0 x5_1).f2.f1)==a1_3&&(((rd_T44 l0 x5_1).f2.f2)==a1_4&&(((rd_T44 l0 x5_1).f2.f3)==a1_5&&((((rd_T44 l0 x5_1).f2.f4).toList)==a1_6.toList))))))))=false:=by simpa using c6))
      (try (have c6b3:¬ (((rd_T44 l0 x5_1).f0)=a1_0&&(((rd_T44 l0 x5_1).f1)==a1_1&&((((rd_T44 l0 x5_1).f2.f0)==a1_2&&(((rd_T44 l0 x5_1).f2.f1)==a1_3&&(((rd_T44 l0 x5_1).f2.f2)==a1_4&&(((rd_T44 l0 x5_1).f2.f3)==a1_5&&((((rd_T44 l0 x5_1).f2.f4).toList)==a1_6.toList)))))))):=by simpa using c6))
      clear c6
      have H':=a_ H
      clear H
      have p470:0≤(x5_1:Int):=od_
      have q470:x5_1 < (l0.length:Int):=od_
      obtain ⟨ad470,e470,hx470_0,hx470_1,hx470_2,hx470_3,hx470_4,hx470_5,hx470_6⟩:=at_T44 HR0.out x5_1 p470 q470
      cases e470
      replace hx470_0:=(cb_ HB.out hx470_0 :)
      replace hx470_1:=(cb_ HB.out hx470_1 :)
      replace hx470_2:=(cb_ HB.out hx470_2 :)
      replace hx470_3:=(cb_ HB.out hx470_3 :)
      replace hx470_4:=(cb_ HB.out hx470_4 :)
      replace hx470_5:=(cb_ HB.out hx470_5 :)
      replace hx470_6:=(cb_ HB.out hx470_6 :)
      replace p470:=eq_true p470
      replace q470:=eq_true q470
      obtain ⟨Z8_0,Z8_1,Z8_2,Z8_3,Z8_4,Z8_5,Z8_6,Y8_0,Y8_1,Y8_2,Y8_3,Y8_4,Y8_5,Y8_6⟩:=op7_ BK469.out
      go_wp2
      repeat (go_quiet (fail);try go_wp2)
      go_roundg k1
      case measure=>have:=HK1.out;omega
      case rel=>exact ⟨(wrap64 (x5_1+1)),(si_),H',⟨by have:=HK1.out;omega⟩,⟨by (with_reducible repeat (first|refine bN_ ?_ _|refine bD_ ?_|refine bA_ ?_ _));exact BK469.out⟩,⟨bel_⟩⟩
    ·rw [if_neg c5] at H
     exact absurd H (by simp)
   ·rw [if_neg c4] at H
    have c4b0:decide (x5_1 < (l0.length:Int))=false:=df_ c4
    clear c4
    obtain rfl:=sj_ H
    go_wp2
    repeat (go_quiet (fail);try go_wp2)
    go_ret
    exact ⟨fi_,bel_⟩

def spec_l12Add.f (k:Nat) (l0:List (S44)) (a1_0:Int) (a1_1:Int) (a1_2:Int) (a1_3:Int) (a1_4:Int) (a1_5:Int) (a1_6:ByteArray):Option ((List (S44))×Int):=(spec_l12Seq.f k l0 a1_0).bind fun t149=>((spec_l12Has.f k l0 a1_0 a1_1 a1_2 a1_3 a1_4 a1_5 a1_6).bind fun t150=>(if t150=true then (some (l0,0)) else (if a1_1=(wrap64 (t149+1)) then (if (l0.length:Int)≥40 then (some (l0,(-1))) else ((some (([]:List (S44)):List (S44))).bind fun y151=>(if y151.length+l0.length < 2199023255552 then ((some (y151++l0:List (S44))).bind fun y154=>((some (([(⟨a1_0,a1_1,(⟨a1_2,a1_3,a1_4,a1_5,a1_6⟩:S42)⟩:S44)]:List (S44)):List (S44))).bind fun y157=>(if y154.length+y157.length < 2199023255552 then (some ((y154++y157),1)) else (none)))) else (none)))) else (some (l0,(-1))))))
theorem spec_l12Add.mono:∀ a0 a1 a2 a3 a4 a5 a6 a7 k,LeO (spec_l12Add.f k a0 a1 a2 a3 a4 a5 a6 a7) (spec_l12Add.f (k+1) a0 a1 a2 a3 a4 a5 a6 a7):=by
 intro a0 a1 a2 a3 a4 a5 a6 a7 k
 unfold spec_l12Add.f
 repeat' first
   | (with_reducible exact spec_l12Has.mono _ _ _ _ _ _ _ _ _)
   | (with_reducible exact spec_l12Seq.mono _ _ _)
   | (with_reducible exact LeO.refl _)
   | (with_reducible exact LeO.none _)
   | (with_reducible refine LeO.ite ?_ ?_)
   | (with_reducible refine LeO.bind ?_ (fun _=>?_))
def spec_l12Add.T6:Bool×List (List Nat×List Nat):=(true,[([],[]),([],[]),([0,1],[0,1]),([],[]),([3],[3]),([2,4,2],[2,4]),([5,5,0,1,2,3,4,5],[5]),([6,0,1,2,3,4,5,6],[])])
def spec_l12Add.B6:List Nat:=[0,0,3,0,8,31,63,127]
theorem spec_l12Add.tab6:rtab .any (opsOf Tryd.f91 6)=spec_l12Add.T6:=by kernel_rfl
theorem spec_l12Add.bits6:waitsOk spec_l12Add.T6.2 spec_l12Add.B6=true:=by kernel_rfl
def Out12 (B:Nat) (w':World) (A:Option Addr) (c:Nat) (l:List (S44)) (v:Value) (r:List (S44)) (n:Int):Prop:=(n=1∧Kd.R k44 44 w' B (fun _=>True) v r)∨(n≠1∧v=.slice A l.length c∧r=l)
theorem Out12.reads {B:Nat} {w':World} {A:Option Addr} {c:Nat} {l:List (S44)} {v:Value} {r:List (S44)} {n:Int} (h:Out12 B w' A c l v r n) (hC:Kd.C k44 w' A l.length l) (hc:l.length≤c):∃ (A':Option Addr) (c':Nat),v=.slice A' r.length c'∧r.length≤c'∧Kd.C k44 w' A' r.length r:=by
 rcases h with ⟨_,h⟩|⟨_,rfl,rfl⟩
 ·obtain ⟨A',c',rfl⟩:=Kd.R_slice h
  exact ⟨A',c',rfl,(Kd.R_reads' h).2.1,(Kd.R_reads' h).2.2⟩
 ·exact ⟨A,c,rfl,hc,hC⟩
theorem spec_l12Add.calls (k:Nat) (A0:Option Addr) (c0:Nat) (l0:List (S44)) (a1_0:Int) (a1_1:Int) (a1_2:Int) (a1_3:Int) (a1_4:Int) (a1_5:Int) (a1_6:ByteArray) (r1:List (S44)) (r2:Int) (w:World) (hr0:Kd.C k44 w A0 l0.length l0) (hc0:l0.length≤c0) (h:spec_l12Add.f k l0 a1_0 a1_1 a1_2 a1_3 a1_4 a1_5 a1_6=some (r1,r2)) :
  Calls Tryd.prog 91 #[.slice A0 l0.length c0,.agg #[.int .i64 a1_0,.int .i64 a1_1,.int .i64 a1_2,.int .i64 a1_3,.int .i64 a1_4,.int .i64 a1_5,.string a1_6]] w fun e w'=>∃ v0_:Value,e=.returned (.tuple #[v0_,.int .i64 r2])∧Out12 w.heap.size w' A0 c0 l0 v0_ r1 r2∧Below w.heap.size w w':=by
 have hu44:=Tryd.underlying44
 have HR0:=a_ hr0
 have HC0:=a_ hc0
 clear hr0 hc0
 have HB:=a_ (Below.refl w.heap.size w)
 unfold spec_l12Add.f at h
 have H:=h
 clear h
 replace H:=bs_ H
 obtain ⟨t149,A30,H⟩:=H
 try dsimp only at H
 have A3:=a_ A30
 clear A30
 replace H:=bs_ H
 obtain ⟨t150,A40,H⟩:=H
 try dsimp only at H
 have A4:=a_ A40
 clear A40
 by_cases c5:t150=true
 ·subst c5
  have H1:(some (l0,0))=some (r1,r2):=by rw [if_pos rfl] at H;exact H
  clear H
  have H:=H1
  clear H1
  simp only [Option.some.injEq,Prod.mk.injEq] at H
  obtain ⟨rfl,rfl⟩:=H
  go_enter Tryd.func91,Tryd.ntmps91
  go_wp2_with (first|((with_reducible refine gD_ (N:=3) rfl ?_);refine bx_ 3 (#[.int .i64 a1_0,.int .i64 a1_1,.int .i64 a1_2,.int .i64 a1_3,.int .i64 a1_4,.int .i64 a1_5,.string a1_6]) 44 ?_;intro gb148 hg w6 hbox hb;have n0_:=a_ (bS_ (bel_) hb);have n1_:=a_ (hbox);have n2_:=a_ ((by rw [hg];exact (below_size (bel_)):w.heap.size≤gb148));have n3_:=a_ ((by rw [hg];exact (below_size (bel_)):w.heap.size≤gb148));clear HB;have HB:=n0_;have BK148:=n1_;have GW148:=n2_;have GE148:=n3_;clear n0_ n1_ n2_ n3_;clear hb hbox hg;obtain ⟨Z7_0,Z7_1,Z7_2,Z7_3,Z7_4,Z7_5,Z7_6,Y7_0,Y7_1,Y7_2,Y7_3,Y7_4,Y7_5,Y7_6⟩:=op7_ BK148.out)|((with_reducible refine gC_ (f:=90) rfl ?_);refine gl_ 10 Tryd.func90 #[.slice A0 l0.length c0,.int .i64 a1_0] ?_;(with_reducible refine (spec_l12Seq.calls k _ _ l0 a1_0 t149 _ ?side1 ?side2 A3.out).mono ?_);(case side1=>exact cp_ HR0.out);(case side2=>exact HC0.out);rintro e w' ⟨rfl,⟨nd,rfl⟩⟩;refine ⟨_,rfl,?_⟩)|((with_reducible refine gC_ (f:=126) rfl ?_);refine gl_ 14 Tryd.func126 #[.slice A0 l0.length c0,.agg #[.int .i64 a1_0,.int .i64 a1_1,.int .i64 a1_2,.int .i64 a1_3,.int .i64 a1_4,.int .i64 a1_5,.string a1_6]] ?_;(with_reducible refine (spec_l12Has.calls k _ _ l0 a1_0 a1_1 a1_2 a1_3 a1_4 a1_5 a1_6 true _ ?side1 ?side2 A4.out).mono ?_);(case side1=>repeat (first|exact (Kd.C_below HR0.out (bel_))|(with_reducible refine Kd.C_alloc ?_ _)|(with_reducible refine Kd.C_drewN ?_ _)|(with_reducible refine Kd.C_drew ?_)));(case side2=>exact HC0.out);rintro e w8 ⟨rfl,hb⟩;refine ⟨_,rfl,?_⟩;replace HB:=a_ (bS_ (bel_) hb);replace BK148:=a_ (bb_ BK148.out hb);(try clear hb)))
  go_ret2
  exact ⟨_,fi_,Or.inr ⟨by decide,rfl,rfl⟩,bel_⟩
 ·replace c5:=Bool.eq_false_iff.mpr c5
  subst c5
  have H1:(if a1_1=(wrap64 (t149+1)) then (if (l0.length:Int)≥40 then (some (l0,(-1))) else ((some (([]:List (S44)):List (S44))).bind fun y151=>(if y151.length+l0.length < 2199023255552 then ((some (y151++l0:List (S44))).bind fun y154=>((some (([(⟨a1_0,a1_1,(⟨a1_2,a1_3,a1_4,a1_5,a1_6⟩:S42)⟩:S44)]:List (S44)):List (S44))).bind fun y157=>(if y154.length+y157.length < 2199023255552 then (some ((y154++y157),1)) else (none)))) else (none)))) else (some (l0,(-1))))=some (r1,r2):=by rw [if_neg (show ¬ (false=true) by decide)] at H;exact H
  clear H
  have H:=H1
  clear H1
  by_cases c9:a1_1=(wrap64 (t149+1))
  ·rw [if_pos c9] at H
   have c9b0:(a1_1==(wrap64 (t149+1)))=true:=beq_iff_eq.mpr c9
   have c9b1:(a1_1 != (wrap64 (t149+1)))=false:=be_ c9
   clear c9
   by_cases c10:(l0.length:Int)≥40
   ·rw [if_pos c10] at H
    have c10b0:decide (40≤(l0.length:Int))=true:=dt_ c10
    have c10b1:decide (40≤l0.length)=true:=dt_ (by omega)
    clear c10
    simp only [Option.some.injEq,Prod.mk.injEq] at H
    obtain ⟨rfl,rfl⟩:=H
    go_enter Tryd.func91,Tryd.ntmps91
    go_wp2_with (first|((with_reducible refine gD_ (N:=3) rfl ?_);refine bx_ 3 (#[.int .i64 a1_0,.int .i64 a1_1,.int .i64 a1_2,.int .i64 a1_3,.int .i64 a1_4,.int .i64 a1_5,.string a1_6]) 44 ?_;intro gb148 hg w11 hbox hb;have n0_:=a_ (bS_ (bel_) hb);have n1_:=a_ (hbox);have n2_:=a_ ((by rw [hg];exact (below_size (bel_)):w.heap.size≤gb148));have n3_:=a_ ((by rw [hg];exact (below_size (bel_)):w.heap.size≤gb148));clear HB;have HB:=n0_;have BK148:=n1_;have GW148:=n2_;have GE148:=n3_;clear n0_ n1_ n2_ n3_;clear hb hbox hg;obtain ⟨Z12_0,Z12_1,Z12_2,Z12_3,Z12_4,Z12_5,Z12_6,Y12_0,Y12_1,Y12_2,Y12_3,Y12_4,Y12_5,Y12_6⟩:=op7_ BK148.out)|((with_reducible refine gC_ (f:=90) rfl ?_);refine gl_ 10 Tryd.func90 #[.slice A0 l0.length c0,.int .i64 a1_0] ?_;(with_reducible refine (spec_l12Seq.calls k _ _ l0 a1_0 t149 _ ?side1 ?side2 A3.out).mono ?_);(case side1=>exact cp_ HR0.out);(case side2=>exact HC0.out);rintro e w' ⟨rfl,⟨nd,rfl⟩⟩;refine ⟨_,rfl,?_⟩)|((with_reducible refine gC_ (f:=126) rfl ?_);refine gl_ 14 Tryd.func126 #[.slice A0 l0.length c0,.agg #[.int .i64 a1_0,.int .i64 a1_1,.int .i64 a1_2,.int .i64 a1_3,.int .i64 a1_4,.int .i64 a1_5,.string a1_6]] ?_;(with_reducible refine (spec_l12Has.calls k _ _ l0 a1_0 a1_1 a1_2 a1_3 a1_4 a1_5 a1_6 false _ ?side1 ?side2 A4.out).mono ?_);(case side1=>repeat (first|exact (Kd.C_below HR0.out (bel_))|(with_reducible refine Kd.C_alloc ?_ _)|(with_reducible refine Kd.C_drewN ?_ _)|(with_reducible refine Kd.C_drew ?_)));(case side2=>exact HC0.out);rintro e w13 ⟨rfl,hb⟩;refine ⟨_,rfl,?_⟩;replace HB:=a_ (bS_ (bel_) hb);replace BK148:=a_ (bb_ BK148.out hb);(try clear hb);obtain ⟨Z14_0,Z14_1,Z14_2,Z14_3,Z14_4,Z14_5,Z14_6,Y14_0,Y14_1,Y14_2,Y14_3,Y14_4,Y14_5,Y14_6⟩:=op7_ BK148.out))
    go_ret2
    exact ⟨_,fi_,Or.inr ⟨by decide,rfl,rfl⟩,bel_⟩
   ·rw [if_neg c10] at H
    have c10b0:decide (40≤(l0.length:Int))=false:=df_ c10
    have c10b1:decide (40≤l0.length)=false:=df_ (by omega)
    clear c10
    obtain ⟨y151,hy151⟩:∃ y_:List (S44),y_=(([]:List (S44))):=⟨_,rfl⟩
    replace H:(if y151.length+l0.length < 2199023255552 then ((some (y151++l0:List (S44))).bind fun y154=>((some (([(⟨a1_0,a1_1,(⟨a1_2,a1_3,a1_4,a1_5,a1_6⟩:S42)⟩:S44)]:List (S44)):List (S44))).bind fun y157=>(if y154.length+y157.length < 2199023255552 then (some ((y154++y157),1)) else (none)))) else (none))=some (r1,r2):=by first|(rw [hy151];with_reducible exact H)|(have H2_:=(Option.bind_some _ _).symm.trans H;rw [hy151];with_reducible exact H2_)|(have H2_:=(Option.bind_some _ _).symm.trans H;with_reducible exact H2_)|with_reducible exact H|(rw [hy151];exact H)|exact H
    have Ny151:=a_ hy151
    clear hy151
    by_cases c15:y151.length+l0.length < 2199023255552
    ·rw [if_pos c15] at H
     have LMc15:=a_ c15
     clear c15
     obtain ⟨y154,hy154⟩:∃ y_:List (S44),y_=(y151++l0):=⟨_,rfl⟩
     replace H:((some (([(⟨a1_0,a1_1,(⟨a1_2,a1_3,a1_4,a1_5,a1_6⟩:S42)⟩:S44)]:List (S44)):List (S44))).bind fun y157=>(if y154.length+y157.length < 2199023255552 then (some ((y154++y157),1)) else (none)))=some (r1,r2):=by first|(rw [hy154];with_reducible exact H)|(have H2_:=(Option.bind_some _ _).symm.trans H;rw [hy154];with_reducible exact H2_)|(have H2_:=(Option.bind_some _ _).symm.trans H;with_reducible exact H2_)|with_reducible exact H|(rw [hy154];exact H)|exact H
     have Ny154:=a_ hy154
     clear hy154
     obtain ⟨y157,hy157⟩:∃ y_:List (S44),y_=(([(⟨a1_0,a1_1,(⟨a1_2,a1_3,a1_4,a1_5,a1_6⟩:S42)⟩:S44)]:List (S44))):=⟨_,rfl⟩
     replace H:(if y154.length+y157.length < 2199023255552 then (some ((y154++y157),1)) else (none))=some (r1,r2):=by first|(rw [hy157];with_reducible exact H)|(have H2_:=(Option.bind_some _ _).symm.trans H;rw [hy157];with_reducible exact H2_)|(have H2_:=(Option.bind_some _ _).symm.trans H;with_reducible exact H2_)|with_reducible exact H|(rw [hy157];exact H)|exact H
     have Ny157:=a_ hy157
     clear hy157
     by_cases c16:y154.length+y157.length < 2199023255552
     ·rw [if_pos c16] at H
      have LMc16:=a_ c16
      clear c16
      obtain ⟨y160,hy160⟩:∃ y_:List (S44),y_=(y154++y157):=⟨_,rfl⟩
      replace H:(some (y160,1))=some (r1,r2):=by first|(rw [hy160];with_reducible exact H)|(have H2_:=(Option.bind_some _ _).symm.trans H;rw [hy160];with_reducible exact H2_)|(have H2_:=(Option.bind_some _ _).symm.trans H;with_reducible exact H2_)|with_reducible exact H|(rw [hy160];exact H)|exact H
      have Ny160:=a_ hy160
      clear hy160
      simp only [Option.some.injEq,Prod.mk.injEq] at H
      obtain ⟨rfl,rfl⟩:=H
      go_enter Tryd.func91,Tryd.ntmps91
      try go_wp2_with (first|((with_reducible refine gD_ (N:=3) rfl ?_);refine bx_ 3 (#[.int .i64 a1_0,.int .i64 a1_1,.int .i64 a1_2,.int .i64 a1_3,.int .i64 a1_4,.int .i64 a1_5,.string a1_6]) 44 ?_;intro gb148 hg w17 hbox hb;have n0_:=a_ (bS_ (bel_) hb);have n1_:=a_ (hbox);have n2_:=a_ ((by rw [hg];exact (below_size (bel_)):w.heap.size≤gb148));have n3_:=a_ ((by rw [hg];exact (below_size (bel_)):w.heap.size≤gb148));clear HB;have HB:=n0_;have BK148:=n1_;have GW148:=n2_;have GE148:=n3_;clear n0_ n1_ n2_ n3_;clear hb hbox hg;obtain ⟨Z18_0,Z18_1,Z18_2,Z18_3,Z18_4,Z18_5,Z18_6,Y18_0,Y18_1,Y18_2,Y18_3,Y18_4,Y18_5,Y18_6⟩:=op7_ BK148.out)|((with_reducible refine gC_ (f:=90) rfl ?_);refine gl_ 10 Tryd.func90 #[.slice A0 l0.length c0,.int .i64 a1_0] ?_;(with_reducible refine (spec_l12Seq.calls k _ _ l0 a1_0 t149 _ ?side1 ?side2 A3.out).mono ?_);(case side1=>exact cp_ HR0.out);(case side2=>exact HC0.out);rintro e w' ⟨rfl,⟨nd,rfl⟩⟩;refine ⟨_,rfl,?_⟩)|((with_reducible refine gC_ (f:=126) rfl ?_);refine gl_ 14 Tryd.func126 #[.slice A0 l0.length c0,.agg #[.int .i64 a1_0,.int .i64 a1_1,.int .i64 a1_2,.int .i64 a1_3,.int .i64 a1_4,.int .i64 a1_5,.string a1_6]] ?_;(with_reducible refine (spec_l12Has.calls k _ _ l0 a1_0 a1_1 a1_2 a1_3 a1_4 a1_5 a1_6 false _ ?side1 ?side2 A4.out).mono ?_);(case side1=>repeat (first|exact (Kd.C_below HR0.out (bel_))|(with_reducible refine Kd.C_alloc ?_ _)|(with_reducible refine Kd.C_drewN ?_ _)|(with_reducible refine Kd.C_drew ?_)));(case side2=>exact HC0.out);rintro e w19 ⟨rfl,hb⟩;refine ⟨_,rfl,?_⟩;replace HB:=a_ (bS_ (bel_) hb);replace BK148:=a_ (bb_ BK148.out hb);(try clear hb);obtain ⟨Z20_0,Z20_1,Z20_2,Z20_3,Z20_4,Z20_5,Z20_6,Y20_0,Y20_1,Y20_2,Y20_3,Y20_4,Y20_5,Y20_6⟩:=op7_ BK148.out))
      have n0_:=a_ (bD_ BK148.out)
      have n1_:=a_ (below_drew1 HB.out)
      clear BK148
      clear HB
      have BK148:=n0_
      have HB:=n1_
      clear n0_ n1_
      refine start_ (n:=8) (S:=fun w'=>w'.cell? ⟨gb148,0,none⟩=some (.int .i64 a1_0)∧w'.cell? ⟨gb148,1,none⟩=some (.int .i64 a1_1)∧w'.cell? ⟨gb148,2,none⟩=some (.int .i64 a1_2)∧w'.cell? ⟨gb148,3,none⟩=some (.int .i64 a1_3)∧w'.cell? ⟨gb148,4,none⟩=some (.int .i64 a1_4)∧w'.cell? ⟨gb148,5,none⟩=some (.int .i64 a1_5)∧w'.cell? ⟨gb148,6,none⟩=some (.string a1_6)) (ds:=[]) #[false,false,false,false,false,false,false,false] (by kernel_rfl) rfl rfl ⟨(bC_ BK148.out 0).trans rfl,(bC_ BK148.out 1).trans rfl,(bC_ BK148.out 2).trans rfl,(bC_ BK148.out 3).trans rfl,(bC_ BK148.out 4).trans rfl,(bC_ BK148.out 5).trans rfl,(bC_ BK148.out 6).trans rfl⟩ (fun hHeld=>?_);refine with_tabW spec_l12Add.tab6 spec_l12Add.bits6 (fun HT_ HW_=>?_)
      generalize w19.drew=w21 at BK148 HB hHeld ⊢
      refine pa_ 1 29 ?_
      refine ta7_ 3 31 hHeld ?_
      refine join_ (σ:=Value×Value×Value) 3 #[true,true,true,true,true,false,false,false] (fun s_=>[(28,s_.1),(30,s_.2.1),(32,s_.2.2)]) (fun s_ w'=>(w'.cell? ⟨gb148,0,none⟩=some (.int .i64 a1_0)∧w'.cell? ⟨gb148,1,none⟩=some (.int .i64 a1_1)∧w'.cell? ⟨gb148,2,none⟩=some (.int .i64 a1_2)∧w'.cell? ⟨gb148,3,none⟩=some (.int .i64 a1_3)∧w'.cell? ⟨gb148,4,none⟩=some (.int .i64 a1_4)∧w'.cell? ⟨gb148,5,none⟩=some (.int .i64 a1_5)∧w'.cell? ⟨gb148,6,none⟩=some (.string a1_6))∧(Kd.R k44 44 w' w.heap.size (fun k_=>some k_≠(s_.2.2:Value).ownBlock∧k_≠gb148) s_.2.1 y154)∧(Kd.R k44 44 w' w.heap.size (fun k_=>some k_≠(s_.2.1:Value).ownBlock∧k_≠gb148) s_.2.2 y157)∧(w'.heap[gb148]?=some (.cells #[.int .i64 a1_0,.int .i64 a1_1,.int .i64 a1_2,.int .i64 a1_3,.int .i64 a1_4,.int .i64 a1_5,.string a1_6] 44 (0,0)))∧(Below w.heap.size w w')) ?_ ?_
      rotate_left
      ·intro hCont
       refine two_ (i:=0) (j:=4) (Ni:=some 28) (Nj:=some 32) #[true,true,false,true,false,false,false,false] #[false,true,false,true,true,false,false,false] rfl rfl rfl rfl (two_of HT_.out (by kernel_rfl)) (by decide) (by decide) (fun K hK=>?_) (fun K hK=>?_)
       ·skip
        refine Kd.R_lit_step k44 _ 44 ?hg (N:=28) ?hd (xs:=([]:List (S44))) (inner:=[]) (ok:=fun _=>True) (okp:=fun _=>True) ?hr ?hp (fun _ hk=>hk) trivial (Below.refl _ _) (Nat.le_refl _) (by simp) ?_;(case hd=>rfl);(case hg=>rfl);(case hr=>first|(go_simp;done)|(go_simp;rfl));(case hp=>exact (Reps.none _ _))
        intro v152 w22 ho23 hb hg_ hnew_
        clear hg_ hnew_
        (first|rw [←Ny151.out] at ho23|(simp only [Int.reduceToNat] at ho23;rw [←Ny151.out] at ho23))
        have n0_:=a_ (Kd.R_lower (Kd.R_newB ho23 (g:=gb148) (o:=.cells #[.int .i64 a1_0,.int .i64 a1_1,.int .i64 a1_2,.int .i64 a1_3,.int .i64 a1_4,.int .i64 a1_5,.string a1_6] 44 (0,0)) (bp_ BK148.out)) (below_size (bel_)))
        have n1_:=a_ (bb_ BK148.out hb)
        have n2_:=a_ (bS_ (bel_) hb)
        clear BK148
        clear HB
        have HO153:=n0_
        have BK148:=n1_
        have HB:=n2_
        clear n0_ n1_ n2_
        clear hb ho23
        refine hK.out _ _ ⟨(bC_ BK148.out 0).trans rfl,(bC_ BK148.out 1).trans rfl,(bC_ BK148.out 2).trans rfl,(bC_ BK148.out 3).trans rfl,(bC_ BK148.out 4).trans rfl,(bC_ BK148.out 5).trans rfl,(bC_ BK148.out 6).trans rfl⟩ (fun hHeld=>?_)
        clear hK K
        refine no_ 28 ?_
        refine two_ (i:=2) (j:=4) (Ni:=some 30) (Nj:=some 32) #[true,true,true,true,false,false,false,false] #[true,true,false,true,true,false,false,false] rfl rfl rfl rfl (two_of HT_.out (by kernel_rfl)) (by decide) (by decide) (fun K hK=>?_) (fun K hK=>?_)
        ·skip
         refine Kd.R_append_rows_step k44 (w0:=w) w.heap.size (by rfl) (.tmp 28) (.tmp 29) 23 44 (.agg #[(.int .i64 0),(.int .i64 0),(.int .i64 0),(.int .i64 0),(.int .i64 0),(.int .i64 0),(.string ⟨#[]⟩)]) 64 rfl Tryd.underlying23 info44 rfl (by decide) (by omega) v152 y151 l0 _ _ _ (fun k_=>k_≠gb148) (fun _=>False) rfl rfl ?aO ?aR (fun _ _ h=>h) (fun _ h=>h.elim) ?aF ?aB ?aS ?aL ?_
         (case aR=>exact cx_ (Kd.C_below HR0.out HB.out))
         (case aB=>exact (bel_))
         (case aF=>exact (fun k_ hk=>Kd.freshB (g:=gb148) (o:=.cells #[.int .i64 a1_0,.int .i64 a1_1,.int .i64 a1_2,.int .i64 a1_3,.int .i64 a1_4,.int .i64 a1_5,.string a1_6] 44 (0,0)) (bp_ BK148.out) k_ hk))
         (case aO=>exact (by (with_reducible repeat (first|apply Kd.R_alloc|apply Kd.R_drewN|apply Kd.R_drew));exact Kd.R_mono HO153.out (fun _ hk=>hk.2)))
         (case aS=>exact (below_size (bel_)))
         (case aL=>have:=LMc15.out;omega)
         intro v155 w24 ho hb hg hat
         rw [←Ny154.out] at ho
         have n0_:=a_ (blk_grown (g:=gb148) (o:=.cells #[.int .i64 a1_0,.int .i64 a1_1,.int .i64 a1_2,.int .i64 a1_3,.int .i64 a1_4,.int .i64 a1_5,.string a1_6] 44 (0,0)) (bp_ BK148.out) hg (Kd.R_away HO153.out (fun _ hk=>hk.2)))
         have n1_:=a_ (hb)
         have n2_:=a_ (ho)
         clear BK148
         clear HB
         clear HO153
         have BK148:=n0_
         have HB:=n1_
         have HO156:=n2_
         clear n0_ n1_ n2_
         clear ho hb hg hat
         refine hK.out _ _ ⟨(bC_ BK148.out 0).trans rfl,(bC_ BK148.out 1).trans rfl,(bC_ BK148.out 2).trans rfl,(bC_ BK148.out 3).trans rfl,(bC_ BK148.out 4).trans rfl,(bC_ BK148.out 5).trans rfl,(bC_ BK148.out 6).trans rfl⟩ (fun hHeld=>?_)
         clear hK K
         refine no_ 30 ?_
         refine on_ 4 32 (fun K hK=>?_)
         refine Kd.R_lit_step k44 _ 44 ?hg (N:=32) ?hd (xs:=([(⟨a1_0,a1_1,(⟨a1_2,a1_3,a1_4,a1_5,a1_6⟩:S42)⟩:S44)]:List (S44))) (inner:=[.int .i64 a1_0,.int .i64 a1_1,.int .i64 a1_2,.int .i64 a1_3,.int .i64 a1_4,.int .i64 a1_5,.string a1_6]) (ok:=fun _=>True) (okp:=fun _=>True) ?hr ?hp (fun _ hk=>hk) trivial (Below.refl _ _) (Nat.le_refl _) (by simp) ?_;(case hd=>rfl);(case hg=>rfl);(case hr=>first|(go_simp;done)|(go_simp;rfl));(case hp=>exact (Reps.c7 (show Kd.M k44 _ _ _ (⟨a1_0,a1_1,(⟨a1_2,a1_3,a1_4,a1_5,a1_6⟩:S42)⟩:S44) [.int .i64 a1_0,.int .i64 a1_1,.int .i64 a1_2,.int .i64 a1_3,.int .i64 a1_4,.int .i64 a1_5,.string a1_6] from (k44_mkM _ _ _ (⟨a1_0,a1_1,(⟨a1_2,a1_3,a1_4,a1_5,a1_6⟩:S42)⟩:S44) )) (Reps.none _ _)))
         intro v158 w25 ho26 hb hg_ hnew_
         clear hg_ hnew_
         (first|rw [←Ny157.out] at ho26|(simp only [Int.reduceToNat] at ho26;rw [←Ny157.out] at ho26))
         have n0_:=a_ (Kd.R_elder' (rp_ HO156.out) (Kd.R_base ho26) hb)
         have n1_:=a_ (Kd.R_lower (Kd.R_newB (Kd.R_new' ho26 (Kd.R_lt (rp_ HO156.out))) (g:=gb148) (o:=.cells #[.int .i64 a1_0,.int .i64 a1_1,.int .i64 a1_2,.int .i64 a1_3,.int .i64 a1_4,.int .i64 a1_5,.string a1_6] 44 (0,0)) (bp_ BK148.out)) (below_size (bel_)))
         have n2_:=a_ (bb_ BK148.out hb)
         have n3_:=a_ (bS_ (bel_) hb)
         clear HO156
         clear BK148
         clear HB
         have HO156:=n0_
         have HO159:=n1_
         have BK148:=n2_
         have HB:=n3_
         clear n0_ n1_ n2_ n3_
         clear hb ho26
         refine hK.out _ _ ⟨(bC_ BK148.out 0).trans rfl,(bC_ BK148.out 1).trans rfl,(bC_ BK148.out 2).trans rfl,(bC_ BK148.out 3).trans rfl,(bC_ BK148.out 4).trans rfl,(bC_ BK148.out 5).trans rfl,(bC_ BK148.out 6).trans rfl⟩ (fun hHeld=>?_)
         clear hK K
         refine no_ 32 ?_
         exact norm_ (by simp only [putAll,Act.put,List.setIfInBounds_toArray,List.set_cons_zero,List.set_cons_succ]) (hCont (v152,v155,v158) _ ⟨hHeld,(by (with_reducible repeat (first|apply Kd.R_alloc|apply Kd.R_drewN|apply Kd.R_drew));exact Kd.R_mono HO156.out (fun _ hk=>⟨hk.2,hk.1⟩)),(by (with_reducible repeat (first|apply Kd.R_alloc|apply Kd.R_drewN|apply Kd.R_drew));exact Kd.R_mono HO159.out (fun _ hk=>⟨hk.1.2,hk.2⟩)),(bp_ BK148.out),(bel_)⟩)
        ·skip
         refine Kd.R_lit_step k44 _ 44 ?hg (N:=32) ?hd (xs:=([(⟨a1_0,a1_1,(⟨a1_2,a1_3,a1_4,a1_5,a1_6⟩:S42)⟩:S44)]:List (S44))) (inner:=[.int .i64 a1_0,.int .i64 a1_1,.int .i64 a1_2,.int .i64 a1_3,.int .i64 a1_4,.int .i64 a1_5,.string a1_6]) (ok:=fun _=>True) (okp:=fun _=>True) ?hr ?hp (fun _ hk=>hk) trivial (Below.refl _ _) (Nat.le_refl _) (by simp) ?_;(case hd=>rfl);(case hg=>rfl);(case hr=>first|(go_simp;done)|(go_simp;rfl));(case hp=>exact (Reps.c7 (show Kd.M k44 _ _ _ (⟨a1_0,a1_1,(⟨a1_2,a1_3,a1_4,a1_5,a1_6⟩:S42)⟩:S44) [.int .i64 a1_0,.int .i64 a1_1,.int .i64 a1_2,.int .i64 a1_3,.int .i64 a1_4,.int .i64 a1_5,.string a1_6] from (k44_mkM _ _ _ (⟨a1_0,a1_1,(⟨a1_2,a1_3,a1_4,a1_5,a1_6⟩:S42)⟩:S44) )) (Reps.none _ _)))
         intro v158 w24 ho25 hb hg_ hnew_
         clear hg_ hnew_
         (first|rw [←Ny157.out] at ho25|(simp only [Int.reduceToNat] at ho25;rw [←Ny157.out] at ho25))
         have n0_:=a_ (Kd.R_elder' (rp_ HO153.out) (Kd.R_base ho25) hb)
         have n1_:=a_ (Kd.R_lower (Kd.R_newB (Kd.R_new' ho25 (Kd.R_lt (rp_ HO153.out))) (g:=gb148) (o:=.cells #[.int .i64 a1_0,.int .i64 a1_1,.int .i64 a1_2,.int .i64 a1_3,.int .i64 a1_4,.int .i64 a1_5,.string a1_6] 44 (0,0)) (bp_ BK148.out)) (below_size (bel_)))
         have n2_:=a_ (bb_ BK148.out hb)
         have n3_:=a_ (bS_ (bel_) hb)
         clear HO153
         clear BK148
         clear HB
         have HO153:=n0_
         have HO159:=n1_
         have BK148:=n2_
         have HB:=n3_
         clear n0_ n1_ n2_ n3_
         clear hb ho25
         refine hK.out _ _ ⟨(bC_ BK148.out 0).trans rfl,(bC_ BK148.out 1).trans rfl,(bC_ BK148.out 2).trans rfl,(bC_ BK148.out 3).trans rfl,(bC_ BK148.out 4).trans rfl,(bC_ BK148.out 5).trans rfl,(bC_ BK148.out 6).trans rfl⟩ (fun hHeld=>?_)
         clear hK K
         refine no_ 32 ?_
         refine on_ 2 30 (fun K hK=>?_)
         refine Kd.R_append_rows_step k44 (w0:=w) w.heap.size (by rfl) (.tmp 28) (.tmp 29) 23 44 (.agg #[(.int .i64 0),(.int .i64 0),(.int .i64 0),(.int .i64 0),(.int .i64 0),(.int .i64 0),(.string ⟨#[]⟩)]) 64 rfl Tryd.underlying23 info44 rfl (by decide) (by omega) v152 y151 l0 _ _ _ (fun k_=>some k_≠(v158:Value).ownBlock∧k_≠gb148) (fun _=>False) rfl rfl ?aO ?aR (fun _ _ h=>h) (fun _ h=>h.elim) ?aF ?aB ?aS ?aL ?_
         (case aR=>exact cx_ (Kd.C_below HR0.out HB.out))
         (case aB=>exact (bel_))
         (case aF=>exact (fun k_ hk=>⟨Kd.fresh' (Kd.R_lt (rp_ HO159.out)) k_ hk,Kd.freshB (g:=gb148) (o:=.cells #[.int .i64 a1_0,.int .i64 a1_1,.int .i64 a1_2,.int .i64 a1_3,.int .i64 a1_4,.int .i64 a1_5,.string a1_6] 44 (0,0)) (bp_ BK148.out) k_ hk⟩))
         (case aO=>exact (by (with_reducible repeat (first|apply Kd.R_alloc|apply Kd.R_drewN|apply Kd.R_drew));exact Kd.R_mono HO153.out (fun _ hk=>⟨hk.2,hk.1.2⟩)))
         (case aS=>exact (below_size (bel_)))
         (case aL=>have:=LMc15.out;omega)
         intro v155 w26 ho hb hg hat
         rw [←Ny154.out] at ho
         have n0_:=a_ (blk_grown (g:=gb148) (o:=.cells #[.int .i64 a1_0,.int .i64 a1_1,.int .i64 a1_2,.int .i64 a1_3,.int .i64 a1_4,.int .i64 a1_5,.string a1_6] 44 (0,0)) (bp_ BK148.out) hg (Kd.R_away HO153.out (fun _ hk=>hk.1.2)))
         have n1_:=a_ (Kd.R_after (ok:=(fun k_=>k_≠gb148)) (by (with_reducible repeat (first|apply Kd.R_alloc|apply Kd.R_drewN|apply Kd.R_drew));exact Kd.R_mono HO159.out (fun _ hk=>⟨hk.2,hk.1.2⟩)) hg hat)
         have n2_:=a_ (hb)
         have n3_:=a_ (ho)
         clear BK148
         clear HO159
         clear HB
         clear HO153
         have BK148:=n0_
         have HO159:=n1_
         have HB:=n2_
         have HO156:=n3_
         clear n0_ n1_ n2_ n3_
         clear ho hb hg hat
         refine hK.out _ _ ⟨(bC_ BK148.out 0).trans rfl,(bC_ BK148.out 1).trans rfl,(bC_ BK148.out 2).trans rfl,(bC_ BK148.out 3).trans rfl,(bC_ BK148.out 4).trans rfl,(bC_ BK148.out 5).trans rfl,(bC_ BK148.out 6).trans rfl⟩ (fun hHeld=>?_)
         clear hK K
         refine no_ 30 ?_
         exact norm_ (by simp only [putAll,Act.put,List.setIfInBounds_toArray,List.set_cons_zero,List.set_cons_succ]) (hCont (v152,v155,v158) _ ⟨hHeld,(rp_ HO156.out),(by (with_reducible repeat (first|apply Kd.R_alloc|apply Kd.R_drewN|apply Kd.R_drew));exact Kd.R_mono HO159.out (fun _ hk=>⟨hk.2,hk.1⟩)),(bp_ BK148.out),(bel_)⟩)
       ·skip
        refine Kd.R_lit_step k44 _ 44 ?hg (N:=32) ?hd (xs:=([(⟨a1_0,a1_1,(⟨a1_2,a1_3,a1_4,a1_5,a1_6⟩:S42)⟩:S44)]:List (S44))) (inner:=[.int .i64 a1_0,.int .i64 a1_1,.int .i64 a1_2,.int .i64 a1_3,.int .i64 a1_4,.int .i64 a1_5,.string a1_6]) (ok:=fun _=>True) (okp:=fun _=>True) ?hr ?hp (fun _ hk=>hk) trivial (Below.refl _ _) (Nat.le_refl _) (by simp) ?_;(case hd=>rfl);(case hg=>rfl);(case hr=>first|(go_simp;done)|(go_simp;rfl));(case hp=>exact (Reps.c7 (show Kd.M k44 _ _ _ (⟨a1_0,a1_1,(⟨a1_2,a1_3,a1_4,a1_5,a1_6⟩:S42)⟩:S44) [.int .i64 a1_0,.int .i64 a1_1,.int .i64 a1_2,.int .i64 a1_3,.int .i64 a1_4,.int .i64 a1_5,.string a1_6] from (k44_mkM _ _ _ (⟨a1_0,a1_1,(⟨a1_2,a1_3,a1_4,a1_5,a1_6⟩:S42)⟩:S44) )) (Reps.none _ _)))
        intro v158 w22 ho23 hb hg_ hnew_
        clear hg_ hnew_
        (first|rw [←Ny157.out] at ho23|(simp only [Int.reduceToNat] at ho23;rw [←Ny157.out] at ho23))
        have n0_:=a_ (Kd.R_lower (Kd.R_newB ho23 (g:=gb148) (o:=.cells #[.int .i64 a1_0,.int .i64 a1_1,.int .i64 a1_2,.int .i64 a1_3,.int .i64 a1_4,.int .i64 a1_5,.string a1_6] 44 (0,0)) (bp_ BK148.out)) (below_size (bel_)))
        have n1_:=a_ (bb_ BK148.out hb)
        have n2_:=a_ (bS_ (bel_) hb)
        clear BK148
        clear HB
        have HO159:=n0_
        have BK148:=n1_
        have HB:=n2_
        clear n0_ n1_ n2_
        clear hb ho23
        refine hK.out _ _ ⟨(bC_ BK148.out 0).trans rfl,(bC_ BK148.out 1).trans rfl,(bC_ BK148.out 2).trans rfl,(bC_ BK148.out 3).trans rfl,(bC_ BK148.out 4).trans rfl,(bC_ BK148.out 5).trans rfl,(bC_ BK148.out 6).trans rfl⟩ (fun hHeld=>?_)
        clear hK K
        refine no_ 32 ?_
        refine on_ 0 28 (fun K hK=>?_)
        refine Kd.R_lit_step k44 _ 44 ?hg (N:=28) ?hd (xs:=([]:List (S44))) (inner:=[]) (ok:=fun _=>True) (okp:=fun _=>True) ?hr ?hp (fun _ hk=>hk) trivial (Below.refl _ _) (Nat.le_refl _) (by simp) ?_;(case hd=>rfl);(case hg=>rfl);(case hr=>first|(go_simp;done)|(go_simp;rfl));(case hp=>exact (Reps.none _ _))
        intro v152 w24 ho25 hb hg_ hnew_
        clear hg_ hnew_
        (first|rw [←Ny151.out] at ho25|(simp only [Int.reduceToNat] at ho25;rw [←Ny151.out] at ho25))
        have n0_:=a_ (Kd.R_elder' (rp_ HO159.out) (Kd.R_base ho25) hb)
        have n1_:=a_ (Kd.R_lower (Kd.R_newB (Kd.R_new' ho25 (Kd.R_lt (rp_ HO159.out))) (g:=gb148) (o:=.cells #[.int .i64 a1_0,.int .i64 a1_1,.int .i64 a1_2,.int .i64 a1_3,.int .i64 a1_4,.int .i64 a1_5,.string a1_6] 44 (0,0)) (bp_ BK148.out)) (below_size (bel_)))
        have n2_:=a_ (bb_ BK148.out hb)
        have n3_:=a_ (bS_ (bel_) hb)
        clear HO159
        clear BK148
        clear HB
        have HO159:=n0_
        have HO153:=n1_
        have BK148:=n2_
        have HB:=n3_
        clear n0_ n1_ n2_ n3_
        clear hb ho25
        refine hK.out _ _ ⟨(bC_ BK148.out 0).trans rfl,(bC_ BK148.out 1).trans rfl,(bC_ BK148.out 2).trans rfl,(bC_ BK148.out 3).trans rfl,(bC_ BK148.out 4).trans rfl,(bC_ BK148.out 5).trans rfl,(bC_ BK148.out 6).trans rfl⟩ (fun hHeld=>?_)
        clear hK K
        refine no_ 28 ?_
        refine on_ 2 30 (fun K hK=>?_)
        refine Kd.R_append_rows_step k44 (w0:=w) w.heap.size (by rfl) (.tmp 28) (.tmp 29) 23 44 (.agg #[(.int .i64 0),(.int .i64 0),(.int .i64 0),(.int .i64 0),(.int .i64 0),(.int .i64 0),(.string ⟨#[]⟩)]) 64 rfl Tryd.underlying23 info44 rfl (by decide) (by omega) v152 y151 l0 _ _ _ (fun k_=>some k_≠(v158:Value).ownBlock∧k_≠gb148) (fun _=>False) rfl rfl ?aO ?aR (fun _ _ h=>h) (fun _ h=>h.elim) ?aF ?aB ?aS ?aL ?_
        (case aR=>exact cx_ (Kd.C_below HR0.out HB.out))
        (case aB=>exact (bel_))
        (case aF=>exact (fun k_ hk=>⟨Kd.fresh' (Kd.R_lt (rp_ HO159.out)) k_ hk,Kd.freshB (g:=gb148) (o:=.cells #[.int .i64 a1_0,.int .i64 a1_1,.int .i64 a1_2,.int .i64 a1_3,.int .i64 a1_4,.int .i64 a1_5,.string a1_6] 44 (0,0)) (bp_ BK148.out) k_ hk⟩))
        (case aO=>exact (by (with_reducible repeat (first|apply Kd.R_alloc|apply Kd.R_drewN|apply Kd.R_drew));exact Kd.R_mono HO153.out (fun _ hk=>⟨hk.1.2,hk.2⟩)))
        (case aS=>exact (below_size (bel_)))
        (case aL=>have:=LMc15.out;omega)
        intro v155 w26 ho hb hg hat
        rw [←Ny154.out] at ho
        have n0_:=a_ (blk_grown (g:=gb148) (o:=.cells #[.int .i64 a1_0,.int .i64 a1_1,.int .i64 a1_2,.int .i64 a1_3,.int .i64 a1_4,.int .i64 a1_5,.string a1_6] 44 (0,0)) (bp_ BK148.out) hg (Kd.R_away HO153.out (fun _ hk=>hk.2)))
        have n1_:=a_ (Kd.R_after (ok:=(fun k_=>k_≠gb148)) (by (with_reducible repeat (first|apply Kd.R_alloc|apply Kd.R_drewN|apply Kd.R_drew));exact Kd.R_mono HO159.out (fun _ hk=>⟨hk.1.2,hk.2⟩)) hg hat)
        have n2_:=a_ (hb)
        have n3_:=a_ (ho)
        clear BK148
        clear HO159
        clear HB
        clear HO153
        have BK148:=n0_
        have HO159:=n1_
        have HB:=n2_
        have HO156:=n3_
        clear n0_ n1_ n2_ n3_
        clear ho hb hg hat
        refine hK.out _ _ ⟨(bC_ BK148.out 0).trans rfl,(bC_ BK148.out 1).trans rfl,(bC_ BK148.out 2).trans rfl,(bC_ BK148.out 3).trans rfl,(bC_ BK148.out 4).trans rfl,(bC_ BK148.out 5).trans rfl,(bC_ BK148.out 6).trans rfl⟩ (fun hHeld=>?_)
        clear hK K
        refine no_ 30 ?_
        exact norm_ (by simp only [putAll,Act.put,List.setIfInBounds_toArray,List.set_cons_zero,List.set_cons_succ]) (hCont (v152,v155,v158) _ ⟨hHeld,(rp_ HO156.out),(by (with_reducible repeat (first|apply Kd.R_alloc|apply Kd.R_drewN|apply Kd.R_drew));exact Kd.R_mono HO159.out (fun _ hk=>⟨hk.2,hk.1⟩)),(bp_ BK148.out),(bel_)⟩)
      rintro ⟨v152,v155,v158⟩ w27 ⟨hS_,h0_,h1_,h2_,h3_⟩
      have n0_:Aside0 (Kd.R k44 44 w27 w.heap.size (fun k_=>some k_≠(v158:Value).ownBlock∧k_≠gb148) v155 y154):=⟨h0_⟩
      have n1_:Aside0 (Kd.R k44 44 w27 w.heap.size (fun k_=>some k_≠(v155:Value).ownBlock∧k_≠gb148) v158 y157):=⟨h1_⟩
      have n2_:Aside0 (w27.heap[gb148]?=some (.cells #[.int .i64 a1_0,.int .i64 a1_1,.int .i64 a1_2,.int .i64 a1_3,.int .i64 a1_4,.int .i64 a1_5,.string a1_6] 44 (0,0))):=⟨h2_⟩
      have n3_:Aside0 (Below w.heap.size w w27):=⟨h3_⟩
      clear BK148
      clear HB
      clear h0_ h1_ h2_ h3_
      have HO156:=n0_
      have HO159:=n1_
      have BK148:=n2_
      have HB:=n3_
      clear n0_ n1_ n2_ n3_
      have hHeld:w27.cell? ⟨gb148,0,none⟩=some (.int .i64 a1_0)∧w27.cell? ⟨gb148,1,none⟩=some (.int .i64 a1_1)∧w27.cell? ⟨gb148,2,none⟩=some (.int .i64 a1_2)∧w27.cell? ⟨gb148,3,none⟩=some (.int .i64 a1_3)∧w27.cell? ⟨gb148,4,none⟩=some (.int .i64 a1_4)∧w27.cell? ⟨gb148,5,none⟩=some (.int .i64 a1_5)∧w27.cell? ⟨gb148,6,none⟩=some (.string a1_6):=hS_
      obtain ⟨Ao29,co29,eo29⟩:=Kd.R_slice HO159.out
      (first|subst eo29|(injection eo29 with f1_ f2_ f3_;have f4_:=f1_.symm;have f5_:=f3_.symm;clear f1_ f2_ f3_;subst f4_;subst f5_))
      refine norm_ (a':=?_) ?_ ?_
      rotate_left
      ·simp only [putAll,Act.put,List.setIfInBounds_toArray,List.set_cons_zero,List.set_cons_succ]
       rfl
      refine on_ 5 33 (fun K hK=>?_)
      refine Kd.R_append_rows_step k44 (w0:=w) w.heap.size (by rfl) (.tmp 30) (.tmp 32) 23 44 (.agg #[(.int .i64 0),(.int .i64 0),(.int .i64 0),(.int .i64 0),(.int .i64 0),(.int .i64 0),(.string ⟨#[]⟩)]) 64 rfl Tryd.underlying23 info44 rfl (by decide) (by omega) v155 y154 y157 _ _ _ (fun k_=>some k_≠(.slice Ao29 y157.length co29:Value).ownBlock∧k_≠gb148) (fun _=>False) rfl rfl ?aO ?aR (fun _ _ h=>h) (fun _ h=>h.elim) ?aF ?aB ?aS ?aL ?_
      (case aR=>exact cx_ (Kd.R_reads' HO159.out).2.2)
      (case aB=>exact (bel_))
      (case aF=>exact (fun k_ hk=>⟨Kd.fresh' (Kd.R_lt (rp_ HO159.out)) k_ hk,Kd.freshB (g:=gb148) (o:=.cells #[.int .i64 a1_0,.int .i64 a1_1,.int .i64 a1_2,.int .i64 a1_3,.int .i64 a1_4,.int .i64 a1_5,.string a1_6] 44 (0,0)) (bp_ BK148.out) k_ hk⟩))
      (case aO=>exact (rp_ HO156.out))
      (case aS=>exact (below_size (bel_)))
      (case aL=>have:=LMc16.out;omega)
      intro v161 w28 ho hb hg hat
      rw [←Ny160.out] at ho
      have n0_:=a_ (blk_grown (g:=gb148) (o:=.cells #[.int .i64 a1_0,.int .i64 a1_1,.int .i64 a1_2,.int .i64 a1_3,.int .i64 a1_4,.int .i64 a1_5,.string a1_6] 44 (0,0)) (bp_ BK148.out) hg (Kd.R_away HO156.out (fun _ hk=>hk.2)))
      have n1_:=a_ (Kd.R_after (ok:=(fun k_=>k_≠gb148)) (by (with_reducible repeat (first|apply Kd.R_alloc|apply Kd.R_drewN|apply Kd.R_drew));exact Kd.R_mono HO159.out (fun _ hk=>⟨hk.2,hk.1⟩)) hg hat)
      have n2_:=a_ (hb)
      have n3_:=a_ (ho)
      clear BK148
      clear HO159
      clear HB
      clear HO156
      have BK148:=n0_
      have HO159:=n1_
      have HB:=n2_
      have HO162:=n3_
      clear n0_ n1_ n2_ n3_
      clear ho hb hg hat
      refine hK.out _ _ ⟨(bC_ BK148.out 0).trans rfl,(bC_ BK148.out 1).trans rfl,(bC_ BK148.out 2).trans rfl,(bC_ BK148.out 3).trans rfl,(bC_ BK148.out 4).trans rfl,(bC_ BK148.out 5).trans rfl,(bC_ BK148.out 6).trans rfl⟩ (fun hHeld=>?_)
      clear hK K
      refine no_ 33 ?_
      refine pa_ 6 4 ?_
      refine pa_ 7 5 ?_
      refine done_ (done_of HT_.out (by kernel_rfl)) ?_
      try go_wp2
      go_ret2
      exact ⟨_,fi_,Or.inl ⟨rfl,by (with_reducible repeat (first|apply Kd.R_alloc|apply Kd.R_drewN|apply Kd.R_drew));exact Kd.R_mono HO162.out (fun _ hk=>trivial)⟩,bel_⟩
     ·rw [if_neg c16] at H
      exact absurd H (by simp)
    ·rw [if_neg c15] at H
     exact absurd H (by simp)
  ·rw [if_neg c9] at H
   have c9b0:(a1_1==(wrap64 (t149+1)))=false:=bn_ c9
   have c9b1:(a1_1 != (wrap64 (t149+1)))=true:=bne_iff_ne.mpr c9
   simp only [Option.some.injEq,Prod.mk.injEq] at H
   obtain ⟨rfl,rfl⟩:=H
   go_enter Tryd.func91,Tryd.ntmps91
   go_wp2_with (first|((with_reducible refine gD_ (N:=3) rfl ?_);refine bx_ 3 (#[.int .i64 a1_0,.int .i64 a1_1,.int .i64 a1_2,.int .i64 a1_3,.int .i64 a1_4,.int .i64 a1_5,.string a1_6]) 44 ?_;intro gb148 hg w30 hbox hb;have n0_:=a_ (bS_ (bel_) hb);have n1_:=a_ (hbox);have n2_:=a_ ((by rw [hg];exact (below_size (bel_)):w.heap.size≤gb148));have n3_:=a_ ((by rw [hg];exact (below_size (bel_)):w.heap.size≤gb148));clear HB;have HB:=n0_;have BK148:=n1_;have GW148:=n2_;have GE148:=n3_;clear n0_ n1_ n2_ n3_;clear hb hbox hg;obtain ⟨Z31_0,Z31_1,Z31_2,Z31_3,Z31_4,Z31_5,Z31_6,Y31_0,Y31_1,Y31_2,Y31_3,Y31_4,Y31_5,Y31_6⟩:=op7_ BK148.out)|((with_reducible refine gC_ (f:=90) rfl ?_);refine gl_ 10 Tryd.func90 #[.slice A0 l0.length c0,.int .i64 a1_0] ?_;(with_reducible refine (spec_l12Seq.calls k _ _ l0 a1_0 t149 _ ?side1 ?side2 A3.out).mono ?_);(case side1=>exact cp_ HR0.out);(case side2=>exact HC0.out);rintro e w' ⟨rfl,⟨nd,rfl⟩⟩;refine ⟨_,rfl,?_⟩)|((with_reducible refine gC_ (f:=126) rfl ?_);refine gl_ 14 Tryd.func126 #[.slice A0 l0.length c0,.agg #[.int .i64 a1_0,.int .i64 a1_1,.int .i64 a1_2,.int .i64 a1_3,.int .i64 a1_4,.int .i64 a1_5,.string a1_6]] ?_;(with_reducible refine (spec_l12Has.calls k _ _ l0 a1_0 a1_1 a1_2 a1_3 a1_4 a1_5 a1_6 false _ ?side1 ?side2 A4.out).mono ?_);(case side1=>repeat (first|exact (Kd.C_below HR0.out (bel_))|(with_reducible refine Kd.C_alloc ?_ _)|(with_reducible refine Kd.C_drewN ?_ _)|(with_reducible refine Kd.C_drew ?_)));(case side2=>exact HC0.out);rintro e w32 ⟨rfl,hb⟩;refine ⟨_,rfl,?_⟩;replace HB:=a_ (bS_ (bel_) hb);replace BK148:=a_ (bb_ BK148.out hb);(try clear hb);obtain ⟨Z33_0,Z33_1,Z33_2,Z33_3,Z33_4,Z33_5,Z33_6,Y33_0,Y33_1,Y33_2,Y33_3,Y33_4,Y33_5,Y33_6⟩:=op7_ BK148.out))
   go_ret2
   exact ⟨_,fi_,Or.inr ⟨by decide,rfl,rfl⟩,bel_⟩
attribute [local go_sem high] eqA69

def spec_LogAdd.f (k:Nat) (l0:List (S44)) (a1_0:Int) (a1_1:Int) (a1_2:Int) (a1_3:Int) (a1_4:Int) (a1_5:Int) (a1_6:ByteArray):Option ((List (S44))×Int):=(spec_LogOk.f k l0).bind fun t614=>(if t614=true then ((spec_EntryOk.f k a1_0 a1_1 a1_2 a1_3 a1_4 a1_5 a1_6).bind fun t615=>(if t615=true then ((spec_l12Add.f k l0 a1_0 a1_1 a1_2 a1_3 a1_4 a1_5 a1_6).bind fun bt616=>((some (([]:List (S44)):List (S44))).bind fun y620=>(if y620.length+bt616.1.length < 2199023255552 then (some ((y620++bt616.1),bt616.2)) else (none)))) else (some ((([]:List (S44))),(-1))))) else (some ((([]:List (S44))),(-1))))
theorem spec_LogAdd.mono:∀ a0 a1 a2 a3 a4 a5 a6 a7 k,LeO (spec_LogAdd.f k a0 a1 a2 a3 a4 a5 a6 a7) (spec_LogAdd.f (k+1) a0 a1 a2 a3 a4 a5 a6 a7):=by
 intro a0 a1 a2 a3 a4 a5 a6 a7 k
 unfold spec_LogAdd.f
 repeat' first
   | (with_reducible exact spec_EntryOk.mono _ _ _ _ _ _ _ _)
   | (with_reducible exact spec_LogOk.mono _ _)
   | (with_reducible exact spec_l12Add.mono _ _ _ _ _ _ _ _ _)
   | (with_reducible exact LeO.refl _)
   | (with_reducible exact LeO.none _)
   | (with_reducible refine LeO.ite ?_ ?_)
   | (with_reducible refine LeO.bind ?_ (fun _=>?_))
theorem spec_LogAdd.calls (k:Nat) (A0:Option Addr) (c0:Nat) (l0:List (S44)) (a1_0:Int) (a1_1:Int) (a1_2:Int) (a1_3:Int) (a1_4:Int) (a1_5:Int) (a1_6:ByteArray) (r1:List (S44)) (r2:Int) (w:World) (hr0:Kd.C k44 w A0 l0.length l0) (hc0:l0.length≤c0) (h:spec_LogAdd.f k l0 a1_0 a1_1 a1_2 a1_3 a1_4 a1_5 a1_6=some (r1,r2)) :
  Calls Tryd.prog 37 #[.slice A0 l0.length c0,.agg #[.int .i64 a1_0,.int .i64 a1_1,.int .i64 a1_2,.int .i64 a1_3,.int .i64 a1_4,.int .i64 a1_5,.string a1_6]] w fun e w'=>∃ v0_:Value,e=.returned (.tuple #[v0_,.int .i64 r2])∧Kd.R k44 44 w' w.heap.size (fun _=>True) v0_ r1∧Below w.heap.size w w':=by
 have hu44:=Tryd.underlying44
 have HR0:=a_ hr0
 have HC0:=a_ hc0
 clear hr0 hc0
 have HB:=a_ (Below.refl w.heap.size w)
 unfold spec_LogAdd.f at h
 have H:=h
 clear h
 replace H:=bs_ H
 obtain ⟨t614,A30,H⟩:=H
 try dsimp only at H
 have A3:=a_ A30
 clear A30
 by_cases c4:t614=true
 ·subst c4
  have H1:((spec_EntryOk.f k a1_0 a1_1 a1_2 a1_3 a1_4 a1_5 a1_6).bind fun t615=>(if t615=true then ((spec_l12Add.f k l0 a1_0 a1_1 a1_2 a1_3 a1_4 a1_5 a1_6).bind fun bt616=>((some (([]:List (S44)):List (S44))).bind fun y620=>(if y620.length+bt616.1.length < 2199023255552 then (some ((y620++bt616.1),bt616.2)) else (none)))) else (some ((([]:List (S44))),(-1)))))=some (r1,r2):=by rw [if_pos rfl] at H;exact H
  clear H
  have H:=H1
  clear H1
  replace H:=bs_ H
  obtain ⟨t615,A50,H⟩:=H
  try dsimp only at H
  have A5:=a_ A50
  clear A50
  by_cases c6:t615=true
  ·subst c6
   have H1:((spec_l12Add.f k l0 a1_0 a1_1 a1_2 a1_3 a1_4 a1_5 a1_6).bind fun bt616=>((some (([]:List (S44)):List (S44))).bind fun y620=>(if y620.length+bt616.1.length < 2199023255552 then (some ((y620++bt616.1),bt616.2)) else (none))))=some (r1,r2):=by rw [if_pos rfl] at H;exact H
   clear H
   have H:=H1
   clear H1
   replace H:=bs_ H
   obtain ⟨⟨t616,t619⟩,A70,H⟩:=H
   try dsimp only at H
   have A7:=a_ A70
   clear A70
   obtain ⟨y620,hy620⟩:∃ y_:List (S44),y_=(([]:List (S44))):=⟨_,rfl⟩
   replace H:(if y620.length+t616.length < 2199023255552 then (some ((y620++t616),t619)) else (none))=some (r1,r2):=by first|(rw [hy620];with_reducible exact H)|(have H2_:=(Option.bind_some _ _).symm.trans H;rw [hy620];with_reducible exact H2_)|(have H2_:=(Option.bind_some _ _).symm.trans H;with_reducible exact H2_)|with_reducible exact H|(rw [hy620];exact H)|exact H
   have Ny620:=a_ hy620
   clear hy620
   by_cases c8:y620.length+t616.length < 2199023255552
   ·rw [if_pos c8] at H
    have LMc8:=a_ c8
    clear c8
    obtain ⟨y623,hy623⟩:∃ y_:List (S44),y_=(y620++t616):=⟨_,rfl⟩
    replace H:(some (y623,t619))=some (r1,r2):=by first|(rw [hy623];with_reducible exact H)|(have H2_:=(Option.bind_some _ _).symm.trans H;rw [hy623];with_reducible exact H2_)|(have H2_:=(Option.bind_some _ _).symm.trans H;with_reducible exact H2_)|with_reducible exact H|(rw [hy623];exact H)|exact H
    have Ny623:=a_ hy623
    clear hy623
    simp only [Option.some.injEq,Prod.mk.injEq] at H
    obtain ⟨rfl,rfl⟩:=H
    go_enter Tryd.func37,Tryd.ntmps37
    go_wp2_with (first|((with_reducible refine gD_ (N:=3) rfl ?_);refine bx_ 3 (#[.int .i64 a1_0,.int .i64 a1_1,.int .i64 a1_2,.int .i64 a1_3,.int .i64 a1_4,.int .i64 a1_5,.string a1_6]) 44 ?_;intro gb613 hg w9 hbox hb;have n0_:=a_ (bS_ (bel_) hb);have n1_:=a_ (hbox);have n2_:=a_ ((by rw [hg];exact (below_size (bel_)):w.heap.size≤gb613));have n3_:=a_ ((by rw [hg];exact (below_size (bel_)):w.heap.size≤gb613));clear HB;have HB:=n0_;have BK613:=n1_;have GW613:=n2_;have GE613:=n3_;clear n0_ n1_ n2_ n3_;clear hb hbox hg)|((with_reducible refine gC_ (f:=43) rfl ?_);refine gl_ 9 Tryd.func43 #[.slice A0 l0.length c0] ?_;(with_reducible refine (spec_LogOk.calls k _ _ l0 true _ ?side1 ?side2 A3.out).mono ?_);(case side1=>exact cp_ HR0.out);(case side2=>exact HC0.out);rintro e w10 ⟨rfl,hb⟩;refine ⟨_,rfl,?_⟩;replace HB:=a_ (bS_ (bel_) hb);replace BK613:=a_ (bb_ BK613.out hb);(try clear hb);obtain ⟨Z11_0,Z11_1,Z11_2,Z11_3,Z11_4,Z11_5,Z11_6,Y11_0,Y11_1,Y11_2,Y11_3,Y11_4,Y11_5,Y11_6⟩:=op7_ BK613.out)|(go_at_call 30;(with_reducible refine (spec_EntryOk.calls k a1_0 a1_1 a1_2 a1_3 a1_4 a1_5 a1_6 true _ A5.out).mono ?_);rintro e w12 ⟨rfl,hb⟩;replace HB:=a_ (bS_ (bel_) hb);replace BK613:=a_ (bb_ BK613.out hb);(try clear hb);obtain ⟨Z13_0,Z13_1,Z13_2,Z13_3,Z13_4,Z13_5,Z13_6,Y13_0,Y13_1,Y13_2,Y13_3,Y13_4,Y13_5,Y13_6⟩:=op7_ BK613.out)|((with_reducible refine gC_ (f:=91) rfl ?_);refine gl_ 20 Tryd.func91 #[.slice A0 l0.length c0,.agg #[.int .i64 a1_0,.int .i64 a1_1,.int .i64 a1_2,.int .i64 a1_3,.int .i64 a1_4,.int .i64 a1_5,.string a1_6]] ?_;(with_reducible refine (spec_l12Add.calls k _ _ l0 a1_0 a1_1 a1_2 a1_3 a1_4 a1_5 a1_6 t616 t619 _ ?side1 ?side2 A7.out).mono ?_);(case side1=>exact cp_ HR0.out);(case side2=>exact HC0.out);rintro e w14 ⟨v617,rfl,ho0,hb⟩;refine ⟨_,rfl,?_⟩;obtain ⟨Ao18,co18,rfl,hc_,hC_⟩:=ho0.reads (Kd.C_below (Kd.C_below HR0.out HB.out) hb) HC0.out;have HO618:=a_ hC_;replace HB:=a_ (bS_ (bel_) hb);replace BK613:=a_ (bb_ BK613.out hb);(try clear hb ho0))|((with_reducible refine gD_ (N:=23) rfl ?_);refine Kd.R_lit k44 _ 44 ?hg (N:=23) ?hd (xs:=([]:List (S44))) (inner:=[]) (ok:=fun _=>True) (okp:=fun _=>True) ?hr ?hp (fun _ hk=>hk) trivial (Below.refl _ _) (Nat.le_refl _) (by simp) ?_;(case hd=>rfl);(case hg=>rfl);(case hr=>first|(go_simp;done)|(go_simp;rfl));(case hp=>exact (Reps.none _ _));intro v621 w15 ho16 hb hg_ hnew_;clear hg_ hnew_;(first|rw [←Ny620.out] at ho16|(simp only [Int.reduceToNat] at ho16;rw [←Ny620.out] at ho16));have n0_:=a_ (Kd.C_below (by (with_reducible repeat (first|refine Kd.C_alloc ?_ _|refine Kd.C_drewN ?_ _|refine Kd.C_drew ?_));exact HO618.out) hb);have n1_:=a_ (Kd.R_lower (Kd.R_newB ho16 (g:=gb613) (o:=.cells #[.int .i64 a1_0,.int .i64 a1_1,.int .i64 a1_2,.int .i64 a1_3,.int .i64 a1_4,.int .i64 a1_5,.string a1_6] 44 (0,0)) (bp_ BK613.out)) (below_size (bel_)));have n2_:=a_ (bb_ BK613.out hb);have n3_:=a_ (bS_ (bel_) hb);clear HO618;clear BK613;clear HB;have HO618:=n0_;have HO622:=n1_;have BK613:=n2_;have HB:=n3_;clear n0_ n1_ n2_ n3_;clear hb ho16)|((with_reducible refine gate_builtin (b:=.append) (xs:=#[.tmp 23,.tmp 24]) rfl ?_);at_builtin;refine Kd.R_append_rows k44 (w0:=w) w.heap.size rfl (.tmp 23) (.tmp 24) 23 44 (.agg #[(.int .i64 0),(.int .i64 0),(.int .i64 0),(.int .i64 0),(.int .i64 0),(.int .i64 0),(.string ⟨#[]⟩)]) 64 rfl Tryd.underlying23 info44 rfl (by decide) (by omega) v621 y620 t616 _ _ _ (fun k_=>k_≠gb613) (fun _=>False) rfl rfl ?aO ?aR (fun _ _ h=>h) (fun _ h=>h.elim) ?aF ?aB ?aS ?aL ?_;(case aR=>exact cx_ HO618.out);(case aB=>exact (bel_));(case aF=>exact (fun k_ hk=>Kd.freshB (g:=gb613) (o:=.cells #[.int .i64 a1_0,.int .i64 a1_1,.int .i64 a1_2,.int .i64 a1_3,.int .i64 a1_4,.int .i64 a1_5,.string a1_6] 44 (0,0)) (bp_ BK613.out) k_ hk));(case aO=>exact (by (with_reducible repeat (first|apply Kd.R_alloc|apply Kd.R_drewN|apply Kd.R_drew));exact Kd.R_mono HO622.out (fun _ hk=>hk.2)));(case aS=>exact (below_size (bel_)));(case aL=>have:=LMc8.out;omega);intro v624 w17 ho hb hg hat;rw [←Ny623.out] at ho;replace BK613:=a_ (blk_grown (g:=gb613) (o:=.cells #[.int .i64 a1_0,.int .i64 a1_1,.int .i64 a1_2,.int .i64 a1_3,.int .i64 a1_4,.int .i64 a1_5,.string a1_6] 44 (0,0)) (bp_ BK613.out) hg (Kd.R_away HO622.out (fun _ hk=>hk.2)));replace HO618:=a_ True.intro;replace HB:=a_ (hb);have HO625:=a_ (ho);clear HO622;clear ho hb hg hat))
    go_ret2
    exact ⟨_,fi_,by (with_reducible repeat (first|apply Kd.R_alloc|apply Kd.R_drewN|apply Kd.R_drew));exact Kd.R_mono HO625.out (fun _ hk=>trivial),bel_⟩
   ·rw [if_neg c8] at H
    exact absurd H (by simp)
  ·replace c6:=Bool.eq_false_iff.mpr c6
   subst c6
   have H1:(some ((([]:List (S44))),(-1)))=some (r1,r2):=by rw [if_neg (show ¬ (false=true) by decide)] at H;exact H
   clear H
   have H:=H1
   clear H1
   obtain ⟨y626,hy626⟩:∃ y_:List (S44),y_=(([]:List (S44))):=⟨_,rfl⟩
   replace H:(some (y626,(-1)))=some (r1,r2):=by first|(rw [hy626];with_reducible exact H)|(have H2_:=(Option.bind_some _ _).symm.trans H;rw [hy626];with_reducible exact H2_)|(have H2_:=(Option.bind_some _ _).symm.trans H;with_reducible exact H2_)|with_reducible exact H|(rw [hy626];exact H)|exact H
   have Ny626:=a_ hy626
   clear hy626
   simp only [Option.some.injEq,Prod.mk.injEq] at H
   obtain ⟨rfl,rfl⟩:=H
   go_enter Tryd.func37,Tryd.ntmps37
   go_wp2_with (first|((with_reducible refine gD_ (N:=3) rfl ?_);refine bx_ 3 (#[.int .i64 a1_0,.int .i64 a1_1,.int .i64 a1_2,.int .i64 a1_3,.int .i64 a1_4,.int .i64 a1_5,.string a1_6]) 44 ?_;intro gb613 hg w19 hbox hb;have n0_:=a_ (bS_ (bel_) hb);have n1_:=a_ (hbox);have n2_:=a_ ((by rw [hg];exact (below_size (bel_)):w.heap.size≤gb613));have n3_:=a_ ((by rw [hg];exact (below_size (bel_)):w.heap.size≤gb613));clear HB;have HB:=n0_;have BK613:=n1_;have GW613:=n2_;have GE613:=n3_;clear n0_ n1_ n2_ n3_;clear hb hbox hg)|((with_reducible refine gC_ (f:=43) rfl ?_);refine gl_ 9 Tryd.func43 #[.slice A0 l0.length c0] ?_;(with_reducible refine (spec_LogOk.calls k _ _ l0 true _ ?side1 ?side2 A3.out).mono ?_);(case side1=>exact cp_ HR0.out);(case side2=>exact HC0.out);rintro e w20 ⟨rfl,hb⟩;refine ⟨_,rfl,?_⟩;replace HB:=a_ (bS_ (bel_) hb);replace BK613:=a_ (bb_ BK613.out hb);(try clear hb);obtain ⟨Z21_0,Z21_1,Z21_2,Z21_3,Z21_4,Z21_5,Z21_6,Y21_0,Y21_1,Y21_2,Y21_3,Y21_4,Y21_5,Y21_6⟩:=op7_ BK613.out)|(go_at_call 30;(with_reducible refine (spec_EntryOk.calls k a1_0 a1_1 a1_2 a1_3 a1_4 a1_5 a1_6 false _ A5.out).mono ?_);rintro e w22 ⟨rfl,hb⟩;replace HB:=a_ (bS_ (bel_) hb);replace BK613:=a_ (bb_ BK613.out hb);(try clear hb))|((with_reducible refine gD_ (N:=16) rfl ?_);refine Kd.R_lit k44 _ 44 ?hg (N:=16) ?hd (xs:=([]:List (S44))) (inner:=[]) (ok:=fun _=>True) (okp:=fun _=>True) ?hr ?hp (fun _ hk=>hk) trivial (Below.refl _ _) (Nat.le_refl _) (by simp) ?_;(case hd=>rfl);(case hg=>rfl);(case hr=>first|(go_simp;done)|(go_simp;rfl));(case hp=>exact (Reps.none _ _));intro v627 w23 ho24 hb hg_ hnew_;clear hg_ hnew_;(first|rw [←Ny626.out] at ho24|(simp only [Int.reduceToNat] at ho24;rw [←Ny626.out] at ho24));have HO628:=a_ (Kd.R_lower (Kd.R_newB ho24 (g:=gb613) (o:=.cells #[.int .i64 a1_0,.int .i64 a1_1,.int .i64 a1_2,.int .i64 a1_3,.int .i64 a1_4,.int .i64 a1_5,.string a1_6] 44 (0,0)) (bp_ BK613.out)) (below_size (bel_)));replace HB:=a_ (bS_ (bel_) hb);replace BK613:=a_ (bb_ BK613.out hb);clear hb ho24))
   go_ret2
   exact ⟨_,fi_,by (with_reducible repeat (first|apply Kd.R_alloc|apply Kd.R_drewN|apply Kd.R_drew));exact Kd.R_mono HO628.out (fun _ hk=>trivial),bel_⟩
 ·replace c4:=Bool.eq_false_iff.mpr c4
  subst c4
  have H1:(some ((([]:List (S44))),(-1)))=some (r1,r2):=by rw [if_neg (show ¬ (false=true) by decide)] at H;exact H
  clear H
  have H:=H1
  clear H1
  obtain ⟨y629,hy629⟩:∃ y_:List (S44),y_=(([]:List (S44))):=⟨_,rfl⟩
  replace H:(some (y629,(-1)))=some (r1,r2):=by first|(rw [hy629];with_reducible exact H)|(have H2_:=(Option.bind_some _ _).symm.trans H;rw [hy629];with_reducible exact H2_)|(have H2_:=(Option.bind_some _ _).symm.trans H;with_reducible exact H2_)|with_reducible exact H|(rw [hy629];exact H)|exact H
  have Ny629:=a_ hy629
  clear hy629
  simp only [Option.some.injEq,Prod.mk.injEq] at H
  obtain ⟨rfl,rfl⟩:=H
  go_enter Tryd.func37,Tryd.ntmps37
  go_wp2_with (first|((with_reducible refine gD_ (N:=3) rfl ?_);refine bx_ 3 (#[.int .i64 a1_0,.int .i64 a1_1,.int .i64 a1_2,.int .i64 a1_3,.int .i64 a1_4,.int .i64 a1_5,.string a1_6]) 44 ?_;intro gb613 hg w25 hbox hb;have n0_:=a_ (bS_ (bel_) hb);have n1_:=a_ (hbox);have n2_:=a_ ((by rw [hg];exact (below_size (bel_)):w.heap.size≤gb613));have n3_:=a_ ((by rw [hg];exact (below_size (bel_)):w.heap.size≤gb613));clear HB;have HB:=n0_;have BK613:=n1_;have GW613:=n2_;have GE613:=n3_;clear n0_ n1_ n2_ n3_;clear hb hbox hg)|((with_reducible refine gC_ (f:=43) rfl ?_);refine gl_ 9 Tryd.func43 #[.slice A0 l0.length c0] ?_;(with_reducible refine (spec_LogOk.calls k _ _ l0 false _ ?side1 ?side2 A3.out).mono ?_);(case side1=>exact cp_ HR0.out);(case side2=>exact HC0.out);rintro e w26 ⟨rfl,hb⟩;refine ⟨_,rfl,?_⟩;replace HB:=a_ (bS_ (bel_) hb);replace BK613:=a_ (bb_ BK613.out hb);(try clear hb))|((with_reducible refine gD_ (N:=16) rfl ?_);refine Kd.R_lit k44 _ 44 ?hg (N:=16) ?hd (xs:=([]:List (S44))) (inner:=[]) (ok:=fun _=>True) (okp:=fun _=>True) ?hr ?hp (fun _ hk=>hk) trivial (Below.refl _ _) (Nat.le_refl _) (by simp) ?_;(case hd=>rfl);(case hg=>rfl);(case hr=>first|(go_simp;done)|(go_simp;rfl));(case hp=>exact (Reps.none _ _));intro v630 w27 ho28 hb hg_ hnew_;clear hg_ hnew_;(first|rw [←Ny629.out] at ho28|(simp only [Int.reduceToNat] at ho28;rw [←Ny629.out] at ho28));have HO631:=a_ (Kd.R_lower (Kd.R_newB ho28 (g:=gb613) (o:=.cells #[.int .i64 a1_0,.int .i64 a1_1,.int .i64 a1_2,.int .i64 a1_3,.int .i64 a1_4,.int .i64 a1_5,.string a1_6] 44 (0,0)) (bp_ BK613.out)) (below_size (bel_)));replace HB:=a_ (bS_ (bel_) hb);replace BK613:=a_ (bb_ BK613.out hb);clear hb ho28))
  go_ret2
  exact ⟨_,fi_,by (with_reducible repeat (first|apply Kd.R_alloc|apply Kd.R_drewN|apply Kd.R_drew));exact Kd.R_mono HO631.out (fun _ hk=>trivial),bel_⟩
def laws_lpRows.l0:Nat→List (S69)→List (S69)→Int→Option (Bool)
 | 0,_,_,_=>none
 | k+1,x0,x1,x5=>if x5 < (x0.length:Int) then (if 0≤x5 then (if x5 < (x1.length:Int) then (if (!(((rd_T69 x0 x5).f0)==((rd_T69 x1 x5).f0)) || (!(((rd_T69 x0 x5).f1)==((rd_T69 x1 x5).f1)) || (!((((rd_T69 x0 x5).f2).toList)==(((rd_T69 x1 x5).f2).toList)))))=true then (some false) else (laws_lpRows.l0 k x0 x1 (wrap64 (x5+1)))) else (none)) else (none)) else (some true)
def laws_lpRows.f (k:Nat) (l0:List (S69)) (l1:List (S69)):Option (Bool):=if (l0.length:Int)=(l1.length:Int) then (laws_lpRows.l0 k l0 l1 0) else (some false)
theorem laws_lpRows.mono_l:∀ k,(∀ y0 y1 y2,LeO (laws_lpRows.l0 k y0 y1 y2) (laws_lpRows.l0 (k+1) y0 y1 y2))
 | 0=>fun _ _ _ r h=>by simp [laws_lpRows.l0] at h
 | k+1=>by
  have ih0:=laws_lpRows.mono_l k
  ·intro y0 y1 y2
   unfold laws_lpRows.l0
   repeat' first
   | (with_reducible exact ih0 _ _ _)
   | (with_reducible exact LeO.refl _)
   | (with_reducible exact LeO.none _)
   | (with_reducible refine LeO.ite ?_ ?_)
   | (with_reducible refine LeO.bind ?_ (fun _=>?_))
theorem laws_lpRows.mono:∀ a0 a1 k,LeO (laws_lpRows.f k a0 a1) (laws_lpRows.f (k+1) a0 a1):=by
 intro a0 a1 k
 have ih0:=laws_lpRows.mono_l k
 unfold laws_lpRows.f
 repeat' first
   | (with_reducible exact ih0 _ _ _)
   | (with_reducible exact LeO.refl _)
   | (with_reducible exact LeO.none _)
   | (with_reducible refine LeO.ite ?_ ?_)
   | (with_reducible refine LeO.bind ?_ (fun _=>?_))
theorem laws_lpRows.calls (k:Nat) (A0:Option Addr) (c0:Nat) (l0:List (S69)) (A1:Option Addr) (c1:Nat) (l1:List (S69)) (r:Bool) (w:World) (hr0:Kd.C k69 w A0 l0.length l0) (hc0:l0.length≤c0) (hr1:Kd.C k69 w A1 l1.length l1) (hc1:l1.length≤c1) (h:laws_lpRows.f k l0 l1=some r) :
  Calls Tryd.prog 38 #[.slice A0 l0.length c0,.slice A1 l1.length c1] w fun e w'=>e=.returned (.bool r)∧Drawn0 w w':=by
 have hu69:=Tryd.underlying69
 have HR0:=a_ hr0
 have HC0:=a_ hc0
 clear hr0 hc0
 have HR1:=a_ hr1
 have HC1:=a_ hc1
 clear hr1 hc1
 unfold laws_lpRows.f at h
 have H:=h
 clear h
 by_cases c3:(l0.length:Int)=(l1.length:Int)
 ·rw [if_pos c3] at H
  have c3b0:((l0.length:Int)==(l1.length:Int))=true:=beq_iff_eq.mpr c3
  have c3b1:((l0.length:Int) != (l1.length:Int))=false:=be_ c3
  have c3b2:(l0.length==l1.length)=true:=by first|simpa using c3|(simp at c3 ⊢;omega)
  clear c3
  have H':=a_ H
  clear H
  go_enter Tryd.func38,Tryd.ntmps38
  go_wp2
  repeat (go_quiet (fail);try go_wp2)
  go_loopg [5] k (fun kq v5 w'=>∃ (x5_1:Int),v5=.int .i64 x5_1∧Aside0 (laws_lpRows.l0 kq l0 l1 x5_1=some r)∧Aside0 (kq≤k)∧Drawn0 w w')
  case atStart=>exact ⟨(0),(si_),H',⟨Nat.le_refl _⟩,by repeat (first|exact Drawn0.refl _|apply Drawn0.step)⟩
  case round =>
   clear H'
   try clear c1
   try clear p2
   try clear c3
   try clear c3b0
   try clear c3b1
   try clear c3b2
   obtain ⟨x5_1,rfl,HA,HK1,⟨m1,rfl⟩⟩:=hrel
   cases gk with
   | zero=>exact absurd HA.out (by simp [laws_lpRows.l0])
   | succ k1 =>
    have H:=HA.out
    clear HA
    simp only [laws_lpRows.l0] at H
    by_cases c4:x5_1 < (l0.length:Int)
    ·rw [if_pos c4] at H
     have c4b0:decide (x5_1 < (l0.length:Int))=true:=dt_ c4
     clear c4
     by_cases c5:0≤x5_1
     ·rw [if_pos c5] at H
      have c5b0:decide (0≤x5_1)=true:=dt_ c5
      clear c5
      by_cases c6:x5_1 < (l1.length:Int)
      ·rw [if_pos c6] at H
       have c6b0:decide (x5_1 < (l1.length:Int))=true:=dt_ c6
       clear c6
       by_cases c7:(!(((rd_T69 l0 x5_1).f0)==((rd_T69 l1 x5_1).f0)) || (!(((rd_T69 l0 x5_1).f1)==((rd_T69 l1 x5_1).f1)) || (!((((rd_T69 l0 x5_1).f2).toList)==(((rd_T69 l1 x5_1).f2).toList)))))=true
       ·rw [if_pos c7] at H
        have c7b0:(!(((rd_T69 l0 x5_1).f0)==((rd_T69 l1 x5_1).f0)) || (!(((rd_T69 l0 x5_1).f1)==((rd_T69 l1 x5_1).f1)) || (!((((rd_T69 l0 x5_1).f2).toList)==(((rd_T69 l1 x5_1).f2).toList)))))=true:=c7
        clear c7
        obtain rfl:=sj_ H
        have p934:0≤(x5_1:Int):=od_
        have q934:x5_1 < (l0.length:Int):=od_
        obtain ⟨ad934,e934,hx934_0,hx934_1,hx934_2⟩:=at_T69 HR0.out x5_1 p934 q934
        cases e934
        replace p934:=eq_true p934
        replace q934:=eq_true q934
        have p935:0≤(x5_1:Int):=od_
        have q935:x5_1 < (l1.length:Int):=od_
        obtain ⟨ad935,e935,hx935_0,hx935_1,hx935_2⟩:=at_T69 HR1.out x5_1 p935 q935
        cases e935
        replace p935:=eq_true p935
        replace q935:=eq_true q935
        go_wp2
        repeat (go_quiet (fail);try go_wp2)
        go_ret
        exact ⟨si_,by repeat (first|exact Drawn0.refl _|apply Drawn0.step)⟩
       ·rw [if_neg c7] at H
        have c7b0:(!(((rd_T69 l0 x5_1).f0)==((rd_T69 l1 x5_1).f0)) || (!(((rd_T69 l0 x5_1).f1)==((rd_T69 l1 x5_1).f1)) || (!((((rd_T69 l0 x5_1).f2).toList)==(((rd_T69 l1 x5_1).f2).toList)))))=false:=by simpa using c7
        clear c7
        have H':=a_ H
        clear H
        have p934:0≤(x5_1:Int):=od_
        have q934:x5_1 < (l0.length:Int):=od_
        obtain ⟨ad934,e934,hx934_0,hx934_1,hx934_2⟩:=at_T69 HR0.out x5_1 p934 q934
        cases e934
        replace p934:=eq_true p934
        replace q934:=eq_true q934
        have p935:0≤(x5_1:Int):=od_
        have q935:x5_1 < (l1.length:Int):=od_
        obtain ⟨ad935,e935,hx935_0,hx935_1,hx935_2⟩:=at_T69 HR1.out x5_1 p935 q935
        cases e935
        replace p935:=eq_true p935
        replace q935:=eq_true q935
        go_wp2
        repeat (go_quiet (fail);try go_wp2)
        go_roundg k1
        case measure=>have:=HK1.out;omega
        case rel=>exact ⟨(wrap64 (x5_1+1)),(si_),H',⟨by have:=HK1.out;omega⟩,by repeat (first|exact Drawn0.refl _|apply Drawn0.step)⟩
      ·rw [if_neg c6] at H
       exact absurd H (by simp)
     ·rw [if_neg c5] at H
      exact absurd H (by simp)
    ·rw [if_neg c4] at H
     have c4b0:decide (x5_1 < (l0.length:Int))=false:=df_ c4
     clear c4
     obtain rfl:=sj_ H
     go_wp2
     repeat (go_quiet (fail);try go_wp2)
     go_ret
     exact ⟨si_,by repeat (first|exact Drawn0.refl _|apply Drawn0.step)⟩
 ·rw [if_neg c3] at H
  have c3b0:((l0.length:Int)==(l1.length:Int))=false:=bn_ c3
  have c3b1:((l0.length:Int) != (l1.length:Int))=true:=bne_iff_ne.mpr c3
  have c3b2:(l0.length==l1.length)=false:=by first|simpa using c3|(simp at c3 ⊢;omega)
  obtain rfl:=sj_ H
  go_enter Tryd.func38,Tryd.ntmps38
  go_wp2
  repeat (go_quiet (fail);try go_wp2)
  go_ret
  exact ⟨si_,by repeat (first|exact Drawn0.refl _|apply Drawn0.step)⟩

def impl_RowOk.f (k:Nat) (a0_0:Int) (a0_1:Int) (a0_2:ByteArray):Option (Bool):=(impl_isRoot.f a0_0).bind fun t937=>(if t937=true then (if a0_1=0 then (some (a0_2.toList==([]:List UInt8))) else (some false)) else ((impl_isMade.f a0_0).bind fun t938=>(if t938=true then (if a0_1≥1 then (if a0_1≤18 then ((impl_textOk.f k a0_2).bind fun t939=>(some t939)) else (some false)) else (some false)) else (some false))))
theorem impl_RowOk.mono:∀ a0 a1 a2 k,LeO (impl_RowOk.f k a0 a1 a2) (impl_RowOk.f (k+1) a0 a1 a2):=by
 intro a0 a1 a2 k
 unfold impl_RowOk.f
 repeat' first
   | (with_reducible exact impl_textOk.mono _ _)
   | (with_reducible exact LeO.refl _)
   | (with_reducible exact LeO.none _)
   | (with_reducible refine LeO.ite ?_ ?_)
   | (with_reducible refine LeO.bind ?_ (fun _=>?_))
theorem impl_RowOk.calls (k:Nat) (a0_0:Int) (a0_1:Int) (a0_2:ByteArray) (r:Bool) (w:World) (h:impl_RowOk.f k a0_0 a0_1 a0_2=some r) (hG:Glob w) :
  Calls Tryd.prog 97 #[.agg #[.int .i64 a0_0,.int .i64 a0_1,.string a0_2]] w fun e w'=>e=.returned (.bool r)∧Below w.heap.size w w':=by
 have hu69:=Tryd.underlying69
 have HB:=a_ (Below.refl w.heap.size w)
 have HG:=a_ hG
 clear hG
 unfold impl_RowOk.f at h
 have H:=h
 clear h
 replace H:=bs_ H
 obtain ⟨t937,A20,H⟩:=H
 try dsimp only at H
 have A2:=a_ A20
 clear A20
 by_cases c3:t937=true
 ·subst c3
  have H1:(if a0_1=0 then (some (a0_2.toList==([]:List UInt8))) else (some false))=some r:=by rw [if_pos rfl] at H;exact H
  clear H
  have H:=H1
  clear H1
  by_cases c4:a0_1=0
  ·rw [if_pos c4] at H
   have c4b0:(a0_1==0)=true:=beq_iff_eq.mpr c4
   have c4b1:(a0_1 != 0)=false:=be_ c4
   clear c4
   obtain rfl:=sj_ H
   go_enter Tryd.func97,Tryd.ntmps97
   go_wp2_with (first|((with_reducible refine gD_ (N:=1) rfl ?_);refine bx_ 1 (#[.int .i64 a0_0,.int .i64 a0_1,.string a0_2]) 69 ?_;intro gb936 hg w5 hbox hb;have n0_:=a_ (bS_ (bel_) hb);have n1_:=a_ (hbox);have n2_:=a_ ((by rw [hg];exact (below_size (bel_)):w.heap.size≤gb936));have n3_:=a_ ((by rw [hg];exact (below_size (bel_)):w.heap.size≤gb936));clear HB;have HB:=n0_;have BK936:=n1_;have GW936:=n2_;have GE936:=n3_;clear n0_ n1_ n2_ n3_;clear hb hbox hg;obtain ⟨Z6_0,Z6_1,Z6_2,Y6_0,Y6_1,Y6_2⟩:=op3_ BK936.out)|((with_reducible refine gC_ (f:=98) rfl ?_);refine gl_ 5 Tryd.func98 #[.int .i64 a0_0] ?_;(with_reducible refine (impl_isRoot.calls a0_0 true _ A2.out ?side1).mono ?_);(case side1=>exact Glob.below HG.out (bel_));rintro e w' ⟨rfl,⟨nd,rfl⟩⟩;refine ⟨_,rfl,?_⟩))
   go_ret
   exact ⟨fi_,bel_⟩
  ·rw [if_neg c4] at H
   have c4b0:(a0_1==0)=false:=bn_ c4
   have c4b1:(a0_1 != 0)=true:=bne_iff_ne.mpr c4
   obtain rfl:=sj_ H
   go_enter Tryd.func97,Tryd.ntmps97
   go_wp2_with (first|((with_reducible refine gD_ (N:=1) rfl ?_);refine bx_ 1 (#[.int .i64 a0_0,.int .i64 a0_1,.string a0_2]) 69 ?_;intro gb936 hg w7 hbox hb;have n0_:=a_ (bS_ (bel_) hb);have n1_:=a_ (hbox);have n2_:=a_ ((by rw [hg];exact (below_size (bel_)):w.heap.size≤gb936));have n3_:=a_ ((by rw [hg];exact (below_size (bel_)):w.heap.size≤gb936));clear HB;have HB:=n0_;have BK936:=n1_;have GW936:=n2_;have GE936:=n3_;clear n0_ n1_ n2_ n3_;clear hb hbox hg;obtain ⟨Z8_0,Z8_1,Z8_2,Y8_0,Y8_1,Y8_2⟩:=op3_ BK936.out)|((with_reducible refine gC_ (f:=98) rfl ?_);refine gl_ 5 Tryd.func98 #[.int .i64 a0_0] ?_;(with_reducible refine (impl_isRoot.calls a0_0 true _ A2.out ?side1).mono ?_);(case side1=>exact Glob.below HG.out (bel_));rintro e w' ⟨rfl,⟨nd,rfl⟩⟩;refine ⟨_,rfl,?_⟩))
   go_ret
   exact ⟨fi_,bel_⟩
 ·replace c3:=Bool.eq_false_iff.mpr c3
  subst c3
  have H1:((impl_isMade.f a0_0).bind fun t938=>(if t938=true then (if a0_1≥1 then (if a0_1≤18 then ((impl_textOk.f k a0_2).bind fun t939=>(some t939)) else (some false)) else (some false)) else (some false)))=some r:=by rw [if_neg (show ¬ (false=true) by decide)] at H;exact H
  clear H
  have H:=H1
  clear H1
  replace H:=bs_ H
  obtain ⟨t938,A90,H⟩:=H
  try dsimp only at H
  have A9:=a_ A90
  clear A90
  by_cases c10:t938=true
  ·subst c10
   have H1:(if a0_1≥1 then (if a0_1≤18 then ((impl_textOk.f k a0_2).bind fun t939=>(some t939)) else (some false)) else (some false))=some r:=by rw [if_pos rfl] at H;exact H
   clear H
   have H:=H1
   clear H1
   by_cases c11:a0_1≥1
   ·rw [if_pos c11] at H
    have c11b0:decide (1≤a0_1)=true:=dt_ c11
    clear c11
    by_cases c12:a0_1≤18
    ·rw [if_pos c12] at H
     have c12b0:decide (a0_1≤18)=true:=dt_ c12
     clear c12
     replace H:=bs_ H
     obtain ⟨t939,A130,H⟩:=H
     try dsimp only at H
     have A13:=a_ A130
     clear A130
     obtain rfl:=sj_ H
     go_enter Tryd.func97,Tryd.ntmps97
     go_wp2_with (first|((with_reducible refine gD_ (N:=1) rfl ?_);refine bx_ 1 (#[.int .i64 a0_0,.int .i64 a0_1,.string a0_2]) 69 ?_;intro gb936 hg w14 hbox hb;have n0_:=a_ (bS_ (bel_) hb);have n1_:=a_ (hbox);have n2_:=a_ ((by rw [hg];exact (below_size (bel_)):w.heap.size≤gb936));have n3_:=a_ ((by rw [hg];exact (below_size (bel_)):w.heap.size≤gb936));clear HB;have HB:=n0_;have BK936:=n1_;have GW936:=n2_;have GE936:=n3_;clear n0_ n1_ n2_ n3_;clear hb hbox hg;obtain ⟨Z15_0,Z15_1,Z15_2,Y15_0,Y15_1,Y15_2⟩:=op3_ BK936.out)|((with_reducible refine gC_ (f:=98) rfl ?_);refine gl_ 5 Tryd.func98 #[.int .i64 a0_0] ?_;(with_reducible refine (impl_isRoot.calls a0_0 false _ A2.out ?side1).mono ?_);(case side1=>exact Glob.below HG.out (bel_));rintro e w' ⟨rfl,⟨nd,rfl⟩⟩;refine ⟨_,rfl,?_⟩)|((with_reducible refine gC_ (f:=127) rfl ?_);refine gl_ 16 Tryd.func127 #[.int .i64 a0_0] ?_;(with_reducible refine (impl_isMade.calls a0_0 true _ A9.out ?side1).mono ?_);(case side1=>exact Glob.below HG.out (bel_));rintro e w' ⟨rfl,⟨nd,rfl⟩⟩;refine ⟨_,rfl,?_⟩)|(go_at_call 129;(with_reducible refine (impl_textOk.calls k a0_2 t939 _ A13.out).mono ?_);rintro e w' ⟨rfl,⟨nd,rfl⟩⟩))
     go_ret
     exact ⟨fi_,bel_⟩
    ·rw [if_neg c12] at H
     have c12b0:decide (a0_1≤18)=false:=df_ c12
     clear c12
     obtain rfl:=sj_ H
     go_enter Tryd.func97,Tryd.ntmps97
     go_wp2_with (first|((with_reducible refine gD_ (N:=1) rfl ?_);refine bx_ 1 (#[.int .i64 a0_0,.int .i64 a0_1,.string a0_2]) 69 ?_;intro gb936 hg w16 hbox hb;have n0_:=a_ (bS_ (bel_) hb);have n1_:=a_ (hbox);have n2_:=a_ ((by rw [hg];exact (below_size (bel_)):w.heap.size≤gb936));have n3_:=a_ ((by rw [hg];exact (below_size (bel_)):w.heap.size≤gb936));clear HB;have HB:=n0_;have BK936:=n1_;have GW936:=n2_;have GE936:=n3_;clear n0_ n1_ n2_ n3_;clear hb hbox hg;obtain ⟨Z17_0,Z17_1,Z17_2,Y17_0,Y17_1,Y17_2⟩:=op3_ BK936.out)|((with_reducible refine gC_ (f:=98) rfl ?_);refine gl_ 5 Tryd.func98 #[.int .i64 a0_0] ?_;(with_reducible refine (impl_isRoot.calls a0_0 false _ A2.out ?side1).mono ?_);(case side1=>exact Glob.below HG.out (bel_));rintro e w' ⟨rfl,⟨nd,rfl⟩⟩;refine ⟨_,rfl,?_⟩)|((with_reducible refine gC_ (f:=127) rfl ?_);refine gl_ 16 Tryd.func127 #[.int .i64 a0_0] ?_;(with_reducible refine (impl_isMade.calls a0_0 true _ A9.out ?side1).mono ?_);(case side1=>exact Glob.below HG.out (bel_));rintro e w' ⟨rfl,⟨nd,rfl⟩⟩;refine ⟨_,rfl,?_⟩))
     go_ret
     exact ⟨fi_,bel_⟩
   ·rw [if_neg c11] at H
    have c11b0:decide (1≤a0_1)=false:=df_ c11
    clear c11
    obtain rfl:=sj_ H
    go_enter Tryd.func97,Tryd.ntmps97
    go_wp2_with (first|((with_reducible refine gD_ (N:=1) rfl ?_);refine bx_ 1 (#[.int .i64 a0_0,.int .i64 a0_1,.string a0_2]) 69 ?_;intro gb936 hg w18 hbox hb;have n0_:=a_ (bS_ (bel_) hb);have n1_:=a_ (hbox);have n2_:=a_ ((by rw [hg];exact (below_size (bel_)):w.heap.size≤gb936));have n3_:=a_ ((by rw [hg];exact (below_size (bel_)):w.heap.size≤gb936));clear HB;have HB:=n0_;have BK936:=n1_;have GW936:=n2_;have GE936:=n3_;clear n0_ n1_ n2_ n3_;clear hb hbox hg;obtain ⟨Z19_0,Z19_1,Z19_2,Y19_0,Y19_1,Y19_2⟩:=op3_ BK936.out)|((with_reducible refine gC_ (f:=98) rfl ?_);refine gl_ 5 Tryd.func98 #[.int .i64 a0_0] ?_;(with_reducible refine (impl_isRoot.calls a0_0 false _ A2.out ?side1).mono ?_);(case side1=>exact Glob.below HG.out (bel_));rintro e w' ⟨rfl,⟨nd,rfl⟩⟩;refine ⟨_,rfl,?_⟩)|((with_reducible refine gC_ (f:=127) rfl ?_);refine gl_ 16 Tryd.func127 #[.int .i64 a0_0] ?_;(with_reducible refine (impl_isMade.calls a0_0 true _ A9.out ?side1).mono ?_);(case side1=>exact Glob.below HG.out (bel_));rintro e w' ⟨rfl,⟨nd,rfl⟩⟩;refine ⟨_,rfl,?_⟩))
    go_ret
    exact ⟨fi_,bel_⟩
  ·replace c10:=Bool.eq_false_iff.mpr c10
   subst c10
   have H1:(some false)=some r:=by rw [if_neg (show ¬ (false=true) by decide)] at H;exact H
   clear H
   have H:=H1
   clear H1
   obtain rfl:=sj_ H
   go_enter Tryd.func97,Tryd.ntmps97
   go_wp2_with (first|((with_reducible refine gD_ (N:=1) rfl ?_);refine bx_ 1 (#[.int .i64 a0_0,.int .i64 a0_1,.string a0_2]) 69 ?_;intro gb936 hg w20 hbox hb;have n0_:=a_ (bS_ (bel_) hb);have n1_:=a_ (hbox);have n2_:=a_ ((by rw [hg];exact (below_size (bel_)):w.heap.size≤gb936));have n3_:=a_ ((by rw [hg];exact (below_size (bel_)):w.heap.size≤gb936));clear HB;have HB:=n0_;have BK936:=n1_;have GW936:=n2_;have GE936:=n3_;clear n0_ n1_ n2_ n3_;clear hb hbox hg;obtain ⟨Z21_0,Z21_1,Z21_2,Y21_0,Y21_1,Y21_2⟩:=op3_ BK936.out)|((with_reducible refine gC_ (f:=98) rfl ?_);refine gl_ 5 Tryd.func98 #[.int .i64 a0_0] ?_;(with_reducible refine (impl_isRoot.calls a0_0 false _ A2.out ?side1).mono ?_);(case side1=>exact Glob.below HG.out (bel_));rintro e w' ⟨rfl,⟨nd,rfl⟩⟩;refine ⟨_,rfl,?_⟩)|((with_reducible refine gC_ (f:=127) rfl ?_);refine gl_ 16 Tryd.func127 #[.int .i64 a0_0] ?_;(with_reducible refine (impl_isMade.calls a0_0 false _ A9.out ?side1).mono ?_);(case side1=>exact Glob.below HG.out (bel_));rintro e w' ⟨rfl,⟨nd,rfl⟩⟩;refine ⟨_,rfl,?_⟩))
   go_ret
   exact ⟨fi_,bel_⟩

end Go.Proofs.YtdpklbomhdpimaaDoor.P
namespace Go.Proofs.YtdpklbomhdpimaaDoor.PL
open Go.RowKit Go.Proofs.YtdpklbomhdpimaaDoor.P Go.Proofs.YtdpklbomhdpimaaDoorW.PrintWords Go.Proofs.YtdpklbomhdpimaaDoorW.PrintLast
theorem evnow {α:Type} (a:α):Ev (fun _=>some a) a:=⟨0,fun _ _=>rfl⟩
theorem ev_neg {α:Type} {c:Prop} [Decidable c] {f g:Nat→Option α} {r:α} (h:¬ c) (k:Ev g r):Ev (fun n=>if c then f n else g n) r:=Ev.congr (fun _=>if_neg h) k
theorem ev_pos {α:Type} {c:Prop} [Decidable c] {f g:Nat→Option α} {r:α} (h:c) (k:Ev f r):Ev (fun n=>if c then f n else g n) r:=Ev.congr (fun _=>if_pos h) k
theorem wrapS (i:Int) (h0:0≤i) (h:i≤4611686018427387904):wrap64 (i+1)=i+1:=by unfold wrap64;omega
theorem wrapT (i:Int) (h0:0≤i) (h:i+1≤9223372036854775807):wrap64 (i+1)=i+1:=by unfold wrap64;omega
def I64 (a:Int):Prop:=-9223372036854775808≤a∧a≤9223372036854775807

def madeB (a:Int):Bool:=decide (ownI a≠0)&&decide (ownI a≠1)
def rootB (a:Int):Bool:=decide (1≤a)&&decide (a≤3)
theorem in_f (a b c:Int):spec_l6In.f a b c=some (decide (b≤a)&&decide (a≤c)):=by
 unfold spec_l6In.f
 by_cases h:a≥b
 ·rw [if_pos h];simp [h]
 ·rw [if_neg h];simp [show ¬ b≤a from h]
theorem ownI_out (a:Int) (h:a < 0∨37≤a):ownI a=0:=by
 unfold ownI
 rw [if_neg (by omega)]
theorem small_made:∀ n:Nat,n < 37→(decide (1≤Int.tdiv (n:Int) 10)&&decide (Int.tdiv (n:Int) 10≤3))=true→(decide (1≤Int.tmod (n:Int) 10)&&decide (Int.tmod (n:Int) 10≤6))=madeB n:=by decide
theorem small_unmade:∀ n:Nat,n < 37→(decide (1≤Int.tdiv (n:Int) 10)&&decide (Int.tdiv (n:Int) 10≤3))=false→madeB n=false:=by decide
theorem small_who:∀ n:Nat,n < 37→madeB n=true→ownI n - 1=Int.tdiv (n:Int) 10:=by decide
theorem small_root:∀ n:Nat,n < 37→(decide (ownI n≠0)&&decide (ownI n - 1=0))=rootB n:=by decide
theorem tdiv_wrap (a:Int) (h:I64 a):wrap64 (Int.tdiv a 10)=Int.tdiv a 10:=by
 obtain ⟨h1,h2⟩:=h
 have:Int.tdiv a 10≤9223372036854775807∧-9223372036854775808≤Int.tdiv a 10:=by
  rcases Int.le_total 0 a with h0|h0
  ·rw [Int.tdiv_eq_ediv_of_nonneg h0];omega
  ·have e:Int.tdiv a 10=-(Int.tdiv (-a) 10):=by rw [Int.neg_tdiv,Int.neg_neg]
   rw [e,Int.tdiv_eq_ediv_of_nonneg (by omega)];omega
 unfold wrap64;omega
theorem made_f (a:Int) (h:I64 a):spec_l1Made.f a=some (madeB a):=by
 unfold spec_l1Made.f
 rw [in_f,in_f,tdiv_wrap a h]
 simp only [Option.bind_some]
 by_cases hs:0≤a∧a < 37
 ·obtain ⟨n,rfl⟩:∃ n:Nat,a=n:=⟨a.toNat,by omega⟩
  have hn:n < 37:=by omega
  cases hd:(decide (1≤Int.tdiv (n:Int) 10)&&decide (Int.tdiv (n:Int) 10≤3)) with
  | true=>rw [if_pos rfl,small_made n hn hd]
  | false=>rw [if_neg (by decide),small_unmade n hn hd]
 ·have ho:madeB a=false:=by unfold madeB;rw [ownI_out a (by omega)];rfl
  rw [ho]
  rcases Int.lt_or_le a 0 with h0|h0
  ·have e:Int.tdiv a 10=-(Int.tdiv (-a) 10):=by rw [Int.neg_tdiv,Int.neg_neg]
   have h1:Int.tdiv a 10≤0:=by rw [e,Int.tdiv_eq_ediv_of_nonneg (by omega)];omega
   have h2:decide (1≤Int.tdiv a 10)=false:=df_ (by omega)
   rw [h2]
   simp
  ·have e1:=Int.tdiv_eq_ediv_of_nonneg (b:=10) h0
   have e2:Int.tmod a 10=a % 10:=Int.tmod_eq_emod_of_nonneg h0
   rw [e1,e2]
   by_cases h3:a / 10≤3
   ·have h4:decide (a % 10≤6)=false:=df_ (by omega)
    rw [h4]
    simp
   ·have h4:decide (a / 10≤3)=false:=df_ h3
    rw [h4]
    simp
theorem isMade_f (a:Int):impl_isMade.f a=some (madeB a):=by
 unfold impl_isMade.f impl_RowWho.f madeB
 simp only [Option.bind_some]
 by_cases h0:ownI a=0
 ·rw [if_pos h0];simp [h0]
 ·rw [if_neg h0]
  by_cases h1:ownI a=1
  ·simp [h1]
  ·simp [h0,h1]
   omega
theorem isRoot_f (a:Int):impl_isRoot.f a=some (rootB a):=by
 unfold impl_isRoot.f impl_RowWho.f
 simp only [Option.bind_some]
 by_cases hs:0≤a∧a < 37
 ·obtain ⟨n,rfl⟩:∃ n:Nat,a=n:=⟨a.toNat,by omega⟩
  have:=small_root n (by omega)
  rw [←this]
  by_cases h0:ownI (n:Int)=0
  ·rw [if_pos h0];simp [h0]
  ·rw [if_neg h0]
   by_cases h1:ownI (n:Int) - 1=0 <;> simp [h0,h1]
 ·rw [if_pos (ownI_out a (by omega))]
  have:rootB a=false:=by unfold rootB;simp;omega
  rw [this]
  simp
theorem root_f (a:Int):spec_l1Root.f a=some (rootB a):=by
 unfold spec_l1Root.f
 rw [in_f]
 rfl
def idB (a:Int):Bool:=rootB a || madeB a
theorem id_f (a:Int) (h:I64 a):spec_l3Id.f a=some (idB a):=by
 unfold spec_l3Id.f idB
 rw [root_f,made_f a h]
 simp only [Option.bind_some]
 cases rootB a <;> simp
def placeB (u a:Int):Bool:=idB u&&(decide (a=0) || madeB a)
theorem place_f (u a:Int):impl_placeOk.f u a=some (placeB u a):=by
 unfold impl_placeOk.f placeB idB
 rw [isMade_f,isMade_f,isRoot_f]
 simp only [Option.bind_some]
 by_cases h:a=0
 ·simp only [h,if_true]
  cases madeB u <;> cases rootB u <;> simp
 ·simp only [h,if_false]
  cases madeB u <;> cases rootB u <;> simp
def textFrom (s:ByteArray) (i:Nat):Nat→Bool
 | 0=>true
 | n+1=>decide (97≤bt s i)&&decide (bt s i≤100)&&textFrom s (i+1) n
def textB (s:ByteArray):Bool:=textFrom s 0 s.size&&decide (s.size≤4)
theorem bt_range (s:ByteArray) (i:Int):0≤bt s i∧bt s i≤255:=by
 unfold bt
 split
 ·rename_i h
  have:=(s[i.toNat]'h).toNat_lt
  omega
 ·omega
theorem text_l0 (s:ByteArray) (hs:s.size≤9223372036854775807):∀ (n:Nat) (i:Nat),i+n=s.size→Ev (fun k=>spec_l1Text.l0 k s i) (textFrom s i n&&decide (s.size≤4))
 | 0,i,h=>by
  refine Ev.step (f:=fun _=>some (decide ((s.size:Int)≤4))) (fun k=>?_) ?_
  ·simp only [spec_l1Text.l0];rw [if_neg (by omega)]
  ·have:decide ((s.size:Int)≤4)=(textFrom s i 0&&decide (s.size≤4)):=by simp [textFrom];omega
   rw [this];exact evnow _
 | n+1,i,h=>by
  have hw:wrap64 (bt s i)=bt s i:=by have:=bt_range s i;unfold wrap64;omega
  unfold textFrom
  cases ht:(decide (97≤bt s i)&&decide (bt s i≤100)) with
  | true =>
   rw [Bool.true_and]
   refine Ev.step (fun k=>?_) (text_l0 s hs n (i+1) (by omega))
   simp only [spec_l1Text.l0]
   rw [if_pos (by omega),if_pos (by omega),hw,in_f,ht,Option.bind_some,if_pos rfl,wrapT i (by omega) (by omega)]
   rfl
  | false =>
   rw [Bool.false_and,Bool.false_and]
   refine Ev.step (f:=fun _=>some false) (fun k=>?_) (evnow _)
   simp only [spec_l1Text.l0]
   rw [if_pos (by omega),if_pos (by omega),hw,in_f,ht,Option.bind_some,if_neg (by decide)]
theorem text_f (s:ByteArray) (hs:s.size≤9223372036854775807):Ev (fun k=>spec_l1Text.f k s) (textB s):=text_l0 s hs s.size 0 (by omega)
theorem itext_l0 (s:ByteArray) (hs:s.size≤9223372036854775807):∀ (n:Nat) (i:Nat),i+n=s.size→Ev (fun k=>impl_textOk.l0 k s i) (textFrom s i n)
 | 0,i,h=>by
  refine Ev.step (f:=fun _=>some true) (fun k=>?_) (evnow _)
  simp only [impl_textOk.l0];rw [if_neg (by omega)]
 | n+1,i,h=>by
  unfold textFrom
  by_cases h1:bt s i < 97
  ·have:decide (97≤bt s i)=false:=df_ (by omega)
   rw [this,Bool.false_and,Bool.false_and]
   refine Ev.step (f:=fun _=>some false) (fun k=>?_) (evnow _)
   simp only [impl_textOk.l0]
   rw [if_pos (by omega),if_pos (by omega),if_pos h1]
  ·by_cases h2:bt s i > 100
   ·have:decide (bt s i≤100)=false:=df_ (by omega)
    rw [this,Bool.and_false,Bool.false_and]
    refine Ev.step (f:=fun _=>some false) (fun k=>?_) (evnow _)
    simp only [impl_textOk.l0]
    rw [if_pos (by omega),if_pos (by omega),if_neg h1,if_pos h2]
   ·have e1:decide (97≤bt s i)=true:=dt_ (by omega)
    have e2:decide (bt s i≤100)=true:=dt_ (by omega)
    rw [e1,e2,Bool.true_and,Bool.true_and]
    refine Ev.step (fun k=>?_) (itext_l0 s hs n (i+1) (by omega))
    simp only [impl_textOk.l0]
    rw [if_pos (by omega),if_pos (by omega),if_neg h1,if_neg h2,wrapT i (by omega) (by omega)]
    rfl
theorem itext_f (s:ByteArray) (hs:s.size≤9223372036854775807):Ev (fun k=>impl_textOk.f k s) (textB s):=by
 unfold impl_textOk.f textB
 by_cases h:(s.size:Int) > 4
 ·refine ev_pos h ?_
  have:decide (s.size≤4)=false:=df_ (by omega)
  rw [this,Bool.and_false]
  exact evnow _
 ·refine ev_neg h ?_
  have:decide (s.size≤4)=true:=dt_ (by omega)
  rw [this,Bool.and_true]
  exact itext_l0 s hs s.size 0 (by omega)
theorem text_nil (s:ByteArray) (h:s.toList.isEmpty=true):textB s=true:=by
 have:s.size=0:=by
  have h2:=List.isEmpty_iff.1 h
  have h3:s.toList.length=s.size:=by rw [Go.ByteArray.toList_eq];exact Array.length_toList
  rw [←h3,h2];rfl
 unfold textB
 rw [this]
 rfl
def opB (k i u a:Int) (s:ByteArray):Bool :=
 madeB i&&(if k=1 then placeB u a&&textB s else if k=2 then decide (u=0)&&decide (a=0)&&textB s else if k=3 then placeB u a&&s.toList.isEmpty else false)
theorem opOk_f (k i u a:Int) (s:ByteArray) (hs:s.size≤9223372036854775807):Ev (fun n=>impl_OpOk.f n k i u a s) (opB k i u a s):=by
 unfold impl_OpOk.f impl_changeOf.f opB
 rw [isMade_f]
 simp only [Option.bind_some]
 cases madeB i with
 | false=>simp only [Bool.false_eq_true,if_false,Bool.false_and];exact evnow _
 | true =>
  simp only [if_true,Bool.true_and,place_f,Option.bind_some]
  by_cases h1:k=1
  ·simp only [h1,if_true]
   cases placeB u a with
   | true=>simp only [if_true,Bool.true_and];exact itext_f s hs
   | false=>simp only [Bool.false_eq_true,if_false,Bool.false_and];exact evnow _
  ·simp only [h1,if_false]
   by_cases h2:k=2
   ·simp only [h2,if_true]
    by_cases h3:u=0
    ·by_cases h4:a=0
     ·simp only [h3,h4,if_true,decide_true,Bool.true_and];exact itext_f s hs
     ·simp only [h3,h4,if_true,if_false,decide_true,decide_false,Bool.true_and,Bool.false_and];exact evnow _
    ·simp only [h3,if_false,decide_false,Bool.false_and];exact evnow _
   ·simp only [h2,if_false]
    by_cases h3:k=3
    ·simp only [h3,if_true]
     cases placeB u a with
     | true=>simp only [if_true,Bool.true_and];exact evnow _
     | false=>simp only [Bool.false_eq_true,if_false,Bool.false_and];exact evnow _
    ·simp only [h3,if_false];exact evnow _
theorem sop_f (k i u a:Int) (s:ByteArray) (hi:I64 i) (hu:I64 u) (ha:I64 a) (hs:s.size≤9223372036854775807):Ev (fun n=>spec_OpOk.f n k i u a s) (opB k i u a s):=by
 unfold spec_OpOk.f opB
 rw [made_f i hi]
 simp only [Option.bind_some]
 cases madeB i with
 | false =>
  simp only [Bool.false_eq_true,if_false,Bool.false_and]
  refine Ev.step (f:=fun _=>some false) (fun n=>?_) (evnow _)
  simp only [spec_OpOk.j0,if_true]
 | true =>
  simp only [if_true,Bool.true_and]
  refine Ev.bind (text_f s hs) ?_
  have hp:(idB u&&(decide (a=0) || madeB a))=placeB u a:=rfl
  cases ht:textB s with
  | false =>
   have hne:s.toList.isEmpty=false:=by
    cases he:s.toList.isEmpty with
    | false=>rfl
    | true=>rw [text_nil s he] at ht;cases ht
   refine Ev.step (f:=fun _=>some false) (fun n=>?_) ?_
   ·simp only [spec_OpOk.j0,Bool.not_false,if_true]
   ·simp only [hne,Bool.and_false,ite_self]
    exact evnow _
  | true =>
   refine Ev.step (f:=fun _=>some (if k=1 then placeB u a&&true else if k=2 then decide (u=0)&&decide (a=0)&&true else if k=3 then placeB u a&&s.toList.isEmpty else false)) (fun n=>?_) (evnow _)
   simp only [spec_OpOk.j0,Bool.not_true,Bool.false_eq_true,if_false]
   rw [id_f u hu,made_f a ha]
   simp only [Option.bind_some,Bool.and_true]
   rw [←hp]
   have hnil:(s.toList==([]:List UInt8))=s.toList.isEmpty:=by cases s.toList <;> rfl
   rw [hnil]
   by_cases h1:k=1
   ·simp only [h1,if_true]
    by_cases h4:a=0
    ·simp only [h4,if_true,decide_true,Bool.true_or,Bool.and_true];cases idB u <;> simp
    ·simp only [h4,if_false,decide_false,Bool.false_or];cases idB u <;> simp
   ·simp only [h1,if_false]
    by_cases h2:k=2
    ·simp only [h2,if_true]
     by_cases h3:u=0
     ·simp [h3];by_cases h4:a=0 <;> simp [h4]
     ·simp [h3]
    ·simp only [h2,if_false]
     by_cases h3:k=3
     ·simp only [h3,if_true]
      by_cases h4:a=0
      ·simp only [h4,if_true,decide_true,Bool.true_or,Bool.and_true];cases idB u <;> simp
      ·simp only [h4,if_false,decide_false,Bool.false_or];cases idB u <;> cases madeB a <;> simp
     ·simp only [h3,if_false]
theorem made_small (a:Int) (h:madeB a=true):0≤a∧a < 37:=by
 rcases Int.lt_or_le a 0 with h0|h0
 ·unfold madeB at h;rw [ownI_out a (by omega)] at h;simp at h
 ·rcases Int.lt_or_le a 37 with h1|h1
  ·exact ⟨h0,h1⟩
  ·unfold madeB at h;rw [ownI_out a (by omega)] at h;simp at h
theorem opB_made (k i u a:Int) (s:ByteArray) (h:opB k i u a s=true):madeB i=true:=by
 unfold opB at h
 simp only [Bool.and_eq_true] at h
 exact h.1
def rowB (r:S69):Bool:=if rootB r.f0 then decide (r.f1=0)&&(r.f2.toList==([]:List UInt8)) else madeB r.f0&&(decide (1≤r.f1)&&(decide (r.f1≤18)&&textB r.f2))
theorem itext_any (s:ByteArray):Ev (fun k=>impl_textOk.f k s) (textB s):=by
 by_cases hs:s.size≤9223372036854775807
 ·exact itext_f s hs
 ·have e:textB s=false:=by unfold textB;simp;omega
  rw [e]
  refine Ev.congr (fun k=>?_) (evnow false)
  unfold impl_textOk.f
  exact if_pos (by omega)
theorem row_f (r:S69):Ev (fun k=>impl_RowOk.f k r.f0 r.f1 r.f2) (rowB r):=by
 unfold impl_RowOk.f rowB
 rw [isRoot_f,isMade_f]
 simp only [Option.bind_some]
 cases rootB r.f0 with
 | true =>
  simp only [if_true]
  by_cases h:r.f1=0
  ·simp only [h,if_true,decide_true,Bool.true_and];exact evnow _
  ·simp only [h,if_false,decide_false,Bool.false_and];exact evnow _
 | false =>
  cases madeB r.f0 with
  | false=>simp only [Bool.false_eq_true,if_false,Bool.false_and];exact evnow _
  | true =>
   simp only [Bool.false_eq_true,if_false,if_true,Bool.true_and]
   by_cases h1:1≤r.f1
   ·refine ev_pos h1 ?_
    by_cases h2:r.f1≤18
    ·refine ev_pos h2 ?_
     simp only [h1,h2,decide_true,Bool.true_and]
     exact Ev.bind (itext_any r.f2) (evnow _)
    ·refine ev_neg h2 ?_
     simp only [h1,h2,decide_true,decide_false,Bool.true_and,Bool.false_and]
     exact evnow _
   ·refine ev_neg h1 ?_
    simp only [h1,decide_false,Bool.false_and]
    exact evnow _
end Go.Proofs.YtdpklbomhdpimaaDoor.PL
namespace Go.Proofs.YtdpklbomhdpimaaDoor.P
open Go.RowKit Go.Proofs.YtdpklbomhdpimaaDoorW.PrintWords Go.Proofs.YtdpklbomhdpimaaDoorW.PrintLast Go.Proofs.YtdpklbomhdpimaaDoorW.PrintMore Go.Proofs.YtdpklbomhdpimaaDoor.PL
def treeGo (seen:List Int) (roots depth:Int):List S69→Bool
 | []=>decide (roots=3)
 | r::rest=>rowB r&&(decide (r.f0∉seen)&&(decide (r.f1≤depth+1) &&
   (if rootB r.f0 then decide (r.f0=roots+1)&&treeGo (r.f0::seen) (roots+1) r.f1 rest else treeGo (r.f0::seen) roots r.f1 rest)))
def treeB (l:List S69):Bool:=treeGo [] 0 (-1) l
def impl_TreeOk.f (k:Nat) (l0:List S69):Option Bool:=some (treeB l0)
theorem impl_TreeOk.mono (l0:List S69) (k:Nat):LeO (impl_TreeOk.f k l0) (impl_TreeOk.f (k+1) l0):=LeO.refl _
def timesC (seen:List Int):Array Value:=((List.range 37).map fun i:Nat=>Value.int .i64 (if (i:Int)∈seen then 1 else 0)).toArray
theorem timesC_get (seen:List Int) (i:Nat) (hi:i < 37):(timesC seen)[i]?=some (.int .i64 (if (i:Int)∈seen then 1 else 0)):=by
 simp [timesC,hi]
theorem timesC_set (seen:List Int) (i:Nat) (hi:i < 37) (hs:(i:Int)∉seen):(timesC seen).setIfInBounds i (.int .i64 1)=timesC ((i:Int)::seen):=by
 unfold timesC
 rw [List.setIfInBounds_toArray]
 congr 1
 apply List.ext_getElem (by simp)
 intro k h1 h2
 simp only [List.getElem_set,List.getElem_map,List.getElem_range,List.mem_cons]
 by_cases hk:i=k
 ·subst hk;simp
 ·have:¬ ((k:Int)=(i:Int)):=fun e=>hk (by omega)
  rw [if_neg hk]
  simp [this]
theorem rowB_id {r:S69} (h:rowB r=true):0≤r.f0∧r.f0 < 37∧0≤r.f1∧r.f1≤18:=by
 unfold rowB at h
 by_cases hr:rootB r.f0=true
 ·rw [if_pos hr] at h
  unfold rootB at hr
  simp only [Bool.and_eq_true,decide_eq_true_eq] at hr h
  omega
 ·rw [if_neg hr] at h
  simp only [Bool.and_eq_true,decide_eq_true_eq] at h
  have:=made_small _ h.1
  omega
def TreeRel (l0:List S69) (r:Bool) (w:World) (ro dp i:Value) (wr:World):Prop :=
 ∃ (j roots depth:Int) (seen:List Int),0≤j∧j≤l0.length∧i=.int .i64 j∧ro=.int .i64 roots∧dp=.int .i64 depth∧(0≤roots∧roots≤3)∧(-1≤depth∧depth≤18)∧Aside0 (treeGo seen roots depth (l0.drop j.toNat)=r) ∧
  Aside0 (wr.heap[w.heap.size]?=some (.cells (timesC seen) 126 (0,0)))∧Aside0 (Below w.heap.size w wr)
theorem impl_TreeOk.calls (k:Nat) (A0:Option Addr) (c0:Nat) (l0:List S69) (r:Bool) (w:World) (hr0:Kd.C k69 w A0 l0.length l0) (hc0:l0.length≤c0) (h:impl_TreeOk.f k l0=some r) (hG:Glob w) :
  Calls Tryd.prog 45 #[.slice A0 l0.length c0] w fun e w'=>e=.returned (.bool r)∧Below w.heap.size w w':=by
 have hlen:=hr0.2.1
 have HR0:=a_ hr0
 have HG:=a_ hG
 have HH:=a_ (sj_ h)
 clear hr0 hG h
 go_enter Tryd.func45,Tryd.ntmps45
 go_wp2
 go_loopw [4,5,10] (fun ro dp i wr=>TreeRel l0 r w ro dp i wr) (fun _ _ i _=>l0.length - (intOf i).toNat)
 case atStart=>exact ⟨0,0,-1,[],Int.le_refl _,by omega,rfl,rfl,rfl,by omega,by omega,HH,⟨heap_alloc_new w (.cells (timesC []) 126)⟩,⟨below_box0 w _⟩⟩
 case round =>
  obtain ⟨j,roots,depth,seen,hj0,hj,rfl,rfl,rfl,hro,hdp,HGO,HT,HB⟩:=hrel
  clear HH
  by_cases hlt:j < l0.length
  ·have hd1:decide (j < (l0.length:Int))=true:=dt_ hlt
   obtain ⟨ad,e,hx0,hx1,hx2⟩:=at_T69 HR0.out j hj0 hlt
   cases e
   replace hx0:=(cb_ HB.out hx0 :)
   replace hx1:=(cb_ HB.out hx1 :)
   replace hx2:=(cb_ HB.out hx2 :)
   have hu:=Tryd.underlying69
   have hxe:rd_T69 l0 j=l0[j.toNat]'(by omega):=by
    unfold rd_T69
    rw [List.getD_eq_getElem?_getD,List.getElem?_eq_getElem (by omega)]
    rfl
   have htd:=List.drop_eq_getElem_cons (l:=l0) (i:=j.toNat) (by omega)
   rw [←hxe] at htd
   have hgo:=HGO.out
   rw [htd] at hgo
   clear HGO hxe
   generalize rd_T69 l0 j=x at hx0 hx1 hx2 htd hgo
   rw [show j.toNat+1=(j+1).toNat by omega] at htd hgo
   unfold treeGo at hgo
   obtain ⟨kr,hkr⟩:=row_f x
   have HKR:=a_ (hkr kr (Nat.le_refl _))
   have p1:=eq_true hj0
   have q1:=eq_true hlt
   have HGO:=a_ hgo
   have HTD:=a_ htd
   have HJ:=a_ (And.intro hj0 (And.intro hlt (And.intro hro hdp)))
   have HL:=a_ (show w.heap.size < wr.heap.size from blk_lt HT.out)
   have HB1:=a_ (wA_ HB.out (.cells #[.int .i64 x.f0,.int .i64 x.f1,.string x.f2] 69))
   have HT1:=a_ (bA_ HT.out (.cells #[.int .i64 x.f0,.int .i64 x.f1,.string x.f2] 69))
   clear hj0 hlt htd hgo hkr HB HT hro hdp
   by_cases hrow:rowB x=true
   ·have hid:=rowB_id hrow
    rw [hrow] at HKR
    have hgo:=HGO.out
    rw [hrow,Bool.true_and] at hgo
    clear HGO hrow
    obtain ⟨i,hi⟩:=Int.eq_ofNat_of_zero_le hid.1
    have hi37:i < 37:=by omega
    have hne:w.heap.size≠wr.heap.size:=by have:=HL.out;omega
    have hne':wr.heap.size≠w.heap.size:=fun e=>hne e.symm
    have i0:0≤(i:Int):=by omega
    have i37:(i:Int) < 37:=by omega
    have hf1:0≤x.f1:=hid.2.2.1
    have hf18:x.f1≤18:=hid.2.2.2
    have hdp0:-1≤depth:=HJ.out.2.2.2.1
    have hdp1:depth≤18:=HJ.out.2.2.2.2
    rw [hi] at hgo HKR HB1 HT1 hx0
    have HXI:=a_ hi
    clear hi hid
    by_cases hs:(i:Int)∈seen
    ·have HTG:=a_ (show (timesC seen)[i]?=some (.int .i64 1) by rw [timesC_get seen i hi37,if_pos hs])
     have hr:r=false:=by rw [←hgo,df_ (fun h=>h hs)];rfl
     clear hgo hs
     subst hr
     go_wp2_with (go_at_call 97;refine (impl_RowOk.calls kr (i:Int) x.f1 x.f2 true _ HKR.out (HG.out.below HB1.out)).mono ?_;rintro e W2 ⟨rfl,hb⟩;have HB2:=a_ (bS_ HB1.out hb);have HT2:=a_ (blk_below HT1.out hb);have HX2:=a_ (blk_below (blk_new wr _) hb);clear hb;have d0:=(bC_ HX2.out 0).trans rfl;have d1:=(bC_ HX2.out 1).trans rfl;have t0:=(bC_ HT2.out i).trans HTG.out;have tf:=bF_ HT2.out i)
     go_ret
     exact ⟨rfl,HB2.out⟩
    ·have HTG:=a_ (show (timesC seen)[i]?=some (.int .i64 0) by rw [timesC_get seen i hi37,if_neg hs])
     have HTS:=a_ (timesC_set seen i hi37 hs)
     rw [dt_ hs,Bool.true_and] at hgo
     clear hs
     by_cases hdep:x.f1≤depth+1
     ·have hdb:decide (depth+1 < x.f1)=false:=df_ (by omega)
      rw [dt_ hdep,Bool.true_and] at hgo
      clear hdep
      by_cases hroot:rootB (i:Int)=true
      ·have HRF:=a_ (isRoot_f (i:Int))
       rw [hroot] at HRF
       rw [if_pos hroot] at hgo
       have hr3:1≤i∧i≤3:=by unfold rootB at hroot;simp at hroot;omega
       have hro0:0≤roots:=HJ.out.2.2.1.1
       have hro3:roots≤3:=HJ.out.2.2.1.2
       clear hroot
       by_cases hn:(i:Int)=roots+1
       ·have hb1:((i:Int) != roots+1)=false:=bne_eq_false_iff_eq.2 hn
        rw [dt_ hn,Bool.true_and] at hgo
        have HN:=a_ hn
        have HGO:=a_ hgo
        clear hn hgo
        go_wp2_with (first|(go_at_call 97;refine (impl_RowOk.calls kr (i:Int) x.f1 x.f2 true _ HKR.out (HG.out.below HB1.out)).mono ?_;rintro e W2 ⟨rfl,hb⟩;have HB2:=a_ (bS_ HB1.out hb);have HT2:=a_ (blk_below HT1.out hb);have HX2:=a_ (blk_below (blk_new wr _) hb);clear hb;have d0:=(bC_ HX2.out 0).trans rfl;have d1:=(bC_ HX2.out 1).trans rfl;have t0:=(bC_ HT2.out i).trans HTG.out;have tf:=bF_ HT2.out i)|(go_at_call 98;refine (impl_isRoot.calls (i:Int) true _ HRF.out (HG.out.below (wS_ HB2.out (Nat.le_refl _)))).mono ?_;rintro e w' ⟨rfl,⟨nd,rfl⟩⟩))
        have hjj:=HJ.out
        have hww:wrap64 (j+1)=j+1:=by unfold wrap64;omega
        refine ⟨⟨j+1,roots+1,x.f1,(i:Int)::seen,by omega,by omega,by first|rfl|rw [hww],rfl,rfl,by have:=HN.out;omega,by omega,HGO,⟨?_⟩,⟨pw_below_drewN (wS_ HB2.out (Nat.le_refl _)) _⟩⟩,?_⟩
        ·have:=blk_set HT2.out i (.int .i64 1)
         rw [HTS.out] at this
         exact this
        ·first|(show l0.length - (j+1).toNat < l0.length - j.toNat;omega)|(rw [hww];show l0.length - (j+1).toNat < l0.length - j.toNat;omega)
       ·have hb1:((i:Int) != roots+1)=true:=bne_iff_ne.2 hn
        rw [df_ hn,Bool.false_and] at hgo
        subst hgo
        clear hn
        go_wp2_with (first|(go_at_call 97;refine (impl_RowOk.calls kr (i:Int) x.f1 x.f2 true _ HKR.out (HG.out.below HB1.out)).mono ?_;rintro e W2 ⟨rfl,hb⟩;have HB2:=a_ (bS_ HB1.out hb);have HT2:=a_ (blk_below HT1.out hb);have HX2:=a_ (blk_below (blk_new wr _) hb);clear hb;have d0:=(bC_ HX2.out 0).trans rfl;have d1:=(bC_ HX2.out 1).trans rfl;have t0:=(bC_ HT2.out i).trans HTG.out;have tf:=bF_ HT2.out i)|(go_at_call 98;refine (impl_isRoot.calls (i:Int) true _ HRF.out (HG.out.below (wS_ HB2.out (Nat.le_refl _)))).mono ?_;rintro e w' ⟨rfl,⟨nd,rfl⟩⟩))
        go_ret
        exact ⟨rfl,pw_below_drewN (wS_ HB2.out (Nat.le_refl _)) _⟩
      ·have hroot:rootB (i:Int)=false:=by simpa using hroot
       have HRF:=a_ (isRoot_f (i:Int))
       rw [hroot] at HRF
       rw [if_neg (by rw [hroot];decide)] at hgo
       have HGO:=a_ hgo
       clear hroot hgo
       go_wp2_with (first|(go_at_call 97;refine (impl_RowOk.calls kr (i:Int) x.f1 x.f2 true _ HKR.out (HG.out.below HB1.out)).mono ?_;rintro e W2 ⟨rfl,hb⟩;have HB2:=a_ (bS_ HB1.out hb);have HT2:=a_ (blk_below HT1.out hb);have HX2:=a_ (blk_below (blk_new wr _) hb);clear hb;have d0:=(bC_ HX2.out 0).trans rfl;have d1:=(bC_ HX2.out 1).trans rfl;have t0:=(bC_ HT2.out i).trans HTG.out;have tf:=bF_ HT2.out i)|(go_at_call 98;refine (impl_isRoot.calls (i:Int) false _ HRF.out (HG.out.below (wS_ HB2.out (Nat.le_refl _)))).mono ?_;rintro e w' ⟨rfl,⟨nd,rfl⟩⟩))
       have hjj:=HJ.out
       have hww:wrap64 (j+1)=j+1:=by unfold wrap64;omega
       refine ⟨⟨j+1,roots,x.f1,(i:Int)::seen,by omega,by omega,by first|rfl|rw [hww],rfl,rfl,by omega,by omega,HGO,⟨?_⟩,⟨pw_below_drewN (wS_ HB2.out (Nat.le_refl _)) _⟩⟩,?_⟩
       ·have:=blk_set HT2.out i (.int .i64 1)
        rw [HTS.out] at this
        exact this
       ·first|(show l0.length - (j+1).toNat < l0.length - j.toNat;omega)|(rw [hww];show l0.length - (j+1).toNat < l0.length - j.toNat;omega)
     ·have hdb:decide (depth+1 < x.f1)=true:=dt_ (by omega)
      rw [df_ hdep,Bool.false_and] at hgo
      subst hgo
      clear hdep
      go_wp2_with (go_at_call 97;refine (impl_RowOk.calls kr (i:Int) x.f1 x.f2 true _ HKR.out (HG.out.below HB1.out)).mono ?_;rintro e W2 ⟨rfl,hb⟩;have HB2:=a_ (bS_ HB1.out hb);have HT2:=a_ (blk_below HT1.out hb);have HX2:=a_ (blk_below (blk_new wr _) hb);clear hb;have d0:=(bC_ HX2.out 0).trans rfl;have d1:=(bC_ HX2.out 1).trans rfl;have t0:=(bC_ HT2.out i).trans HTG.out;have tf:=bF_ HT2.out i)
      go_ret
      exact ⟨rfl,HB2.out⟩
   ·have hrow:rowB x=false:=by simpa using hrow
    rw [hrow] at HKR
    have hgo:=HGO.out
    rw [hrow,Bool.false_and] at hgo
    subst hgo
    clear hrow HGO
    go_wp2_with (go_at_call 97;refine (impl_RowOk.calls kr x.f0 x.f1 x.f2 false _ HKR.out (HG.out.below HB1.out)).mono ?_;rintro e W2 ⟨rfl,hb⟩;have HB2:=a_ (bS_ HB1.out hb);have HT2:=a_ (blk_below HT1.out hb);have HX2:=a_ (blk_below (blk_new wr _) hb);clear hb;have d0:=(bC_ HX2.out 0).trans rfl;have d1:=(bC_ HX2.out 1).trans rfl)
    go_ret
    exact ⟨rfl,HB2.out⟩
  ·have hd1:decide (j < (l0.length:Int))=false:=df_ hlt
   have hgo:=HGO.out
   rw [List.drop_eq_nil_of_le (by omega)] at hgo
   unfold treeGo at hgo
   have HGO2:=a_ hgo
   clear hgo HGO hlt
   by_cases h3:roots=3
   ·subst h3
    go_wp2
    go_ret
    exact ⟨by rw [←HGO2.out];rfl,HB.out⟩
   ·have hb3:(roots==3)=false:=beq_eq_false_iff_ne.2 h3
    have HGO3:=a_ (df_ h3)
    clear h3
    go_wp2
    go_ret
    exact ⟨by rw [←HGO2.out,HGO3.out];rfl,HB.out⟩
end Go.Proofs.YtdpklbomhdpimaaDoor.P
namespace Go.Proofs.YtdpklbomhdpimaaDoor.P
open Go.RowKit Go.Proofs.YtdpklbomhdpimaaDoorW.PrintWords Go.Proofs.YtdpklbomhdpimaaDoorW.PrintLast Go.Proofs.YtdpklbomhdpimaaDoorW.PrintMore Go.Proofs.YtdpklbomhdpimaaDoor.PL Go.Proofs.YtdpklbomhdpimaaDoor.FP
structure PlantOk (G:Fo) (A:Nat→Option Nat) (h:Nat→Nd) (la:Nat→Nat) (seen:List Int) (roots:Int):Prop where
 rep:RepTop h G
 nd:G.ids.Nodup
 dom:∀ x,A x≠none↔x∈G.ids
 seen:∀ x:Int,x∈seen↔∃ i∈G.ids,x=(i:Int)
 tops:∃ n:Nat,roots=n∧G.tops=List.range' 1 n
 edge:∀ d,d < dpth G→la d=sp d G
 stale:∀ d,dpth G≤d→la d=0∨(la d∈G.ids∧(d=dpth G→(h (la d)).up≠sp (d - 1) G))
def upL (la:Nat→Nat) (e i:Nat):Nat→Nat:=fun d=>if d=e then i else la d
theorem upN_out {h:Nat→Nd} {i j:Nat} {x:Nd} (e:j≠i):upN h i x j=h j:=if_neg e
theorem up_in {h:Nat→Nd} {G:Fo} (hr:RepTop h G) (hn:G.ids.Nodup) {x:Nat} (hx:x∈G.ids):(h x).up=0∨(h x).up∈G.ids:=by
 by_cases ht:x∈G.tops
 ·exact Or.inl (reptop_root hr ht)
 ·exact Or.inr (reptop_up hr hn hx ht).1
theorem plant_common {G:Fo} {A:Nat→Option Nat} {h h':Nat→Nd} {la:Nat→Nat} {seen:List Int} {roots roots':Int} (p:PlantOk G A h la seen roots) {i e b:Nat} {t:ByteArray} (hi0:i≠0) (hi:i∉G.ids) (he:e≤dpth G)
  (hrep:RepTop h' (snoc i t e G)) (hup:∀ x∈G.ids,(h' x).up=(h x).up) (htops:∃ n:Nat,roots'=n∧(snoc i t e G).tops=List.range' 1 n) :
  PlantOk (snoc i t e G) (upA A i b) h' (upL la e i) ((i:Int)::seen) roots' where
 rep:=hrep
 nd:=by
  rw [snoc_ids]
  exact List.nodup_append.2 ⟨p.nd,by simp,fun x hx y hy e=>by rw [List.mem_singleton.1 hy] at e;exact hi (e ▸ hx)⟩
 dom:=fun x=>by
  rw [snoc_ids]
  unfold upA
  by_cases hx:x=i
  ·simp [hx]
  ·simp only [if_neg hx,List.mem_append,List.mem_singleton,hx,or_false]
   exact p.dom x
 seen:=fun x=>by
  rw [snoc_ids]
  simp only [List.mem_cons,List.mem_append,List.not_mem_nil,or_false]
  constructor
  ·rintro (rfl|hx)
   ·exact ⟨i,Or.inr rfl,rfl⟩
   ·obtain ⟨j,hj,e⟩:=(p.seen x).1 hx
    exact ⟨j,Or.inl hj,e⟩
  ·rintro ⟨j,hj|rfl,e⟩
   ·exact Or.inr ((p.seen x).2 ⟨j,hj,e⟩)
   ·exact Or.inl e
 tops:=htops
 edge:=fun d hd=>by
  rw [snoc_dpth i t G e he] at hd
  obtain ⟨h1,h2⟩:=snoc_sp i t G e he
  unfold upL
  by_cases hde:d=e
  ·rw [if_pos hde,hde,h1]
  ·rw [if_neg hde,h2 d (by omega)]
   exact p.edge d (by omega)
 stale:=fun d hd=>by
  rw [snoc_dpth i t G e he] at hd ⊢
  unfold upL
  rw [if_neg (by omega),snoc_ids]
  have key:la d∈G.ids→la d=0∨(la d∈G.ids++[i]∧(d=e+1→(h' (la d)).up≠sp (d - 1) (snoc i t e G))):=fun hm=>by
   refine Or.inr ⟨List.mem_append_left _ hm,fun hde=>?_⟩
   subst hde
   rw [Nat.add_sub_cancel,(snoc_sp i t G e he).1,hup _ hm]
   rcases up_in p.rep p.nd hm with e1|e1
   ·rw [e1];exact fun e2=>hi0 e2.symm
   ·intro e2;exact hi (e2 ▸ e1)
  rcases Nat.lt_or_ge d (dpth G) with hdd|hdd
  ·exact key (by rw [p.edge d hdd];exact sp_mem G d hdd)
  ·rcases p.stale d hdd with h1|⟨h1,_⟩
   ·exact Or.inl h1
   ·exact key h1
theorem plant_root {G:Fo} {A:Nat→Option Nat} {h:Nat→Nd} {la:Nat→Nat} {seen:List Int} {roots:Int} (p:PlantOk G A h la seen roots) {i b:Nat} {t:ByteArray} (hi0:i≠0) (hi:i∉G.ids) (hr:(i:Int)=roots+1) :
  PlantOk (snoc i t 0 G) (upA A i b) (upN h i ⟨t,0,0,0⟩) (upL la 0 i) ((i:Int)::seen) (roots+1):=by
 refine plant_common p hi0 hi (Nat.zero_le _) (reptop_snoc0 hi0 (if_pos rfl) G (p.rep.ext fun x hx=>upN_out (fun e=>hi (e ▸ hx)))) (fun x hx=>by rw [upN_out (show x≠i from fun e=>hi (e ▸ hx))]) ?_
 obtain ⟨n,hn,ht⟩:=p.tops
 refine ⟨n+1,by omega,?_⟩
 rw [snoc_tops i t G 0 (Nat.zero_le _),if_pos rfl,ht,List.range'_concat]
 have:i=1+1 * n:=by omega
 rw [this]
theorem plant_made {G:Fo} {A:Nat→Option Nat} {h:Nat→Nd} {la:Nat→Nat} {seen:List Int} {roots:Int} (p:PlantOk G A h la seen roots) {i e b:Nat} {t:ByteArray} (hi0:i≠0) (hi:i∉G.ids) (he:e+1≤dpth G) :
  PlantOk (snoc i t (e+1) G) (upA A i b) (attachH (upN h i ⟨t,0,0,0⟩) i (sp e G) (if e+1 < dpth G then sp (e+1) G else 0)) (upL la (e+1) i) ((i:Int)::seen) roots:=by
 have hext:RepTop (upN h i ⟨t,0,0,0⟩) G:=p.rep.ext fun x hx=>upN_out (fun e=>hi (e ▸ hx))
 have hfree:Free (upN h i ⟨t,0,0,0⟩) i t .nil:=⟨hi0,by rw [show upN h i ⟨t,0,0,0⟩ i=⟨t,0,0,0⟩ from if_pos rfl],by rw [show upN h i ⟨t,0,0,0⟩ i=⟨t,0,0,0⟩ from if_pos rfl];rfl,trivial,by simp [Fo.ids]⟩
 have hup:=sp_mem G e (by omega)
 have hupi:sp e G≠i:=fun e2=>hi (e2 ▸ hup)
 have htops:∃ n:Nat,roots=n∧(snoc i t (e+1) G).tops=List.range' 1 n:=by
  obtain ⟨n,hn,ht⟩:=p.tops
  exact ⟨n,hn,by rw [snoc_tops i t G (e+1) he,if_neg (by omega),ht]⟩
 by_cases hlt:e+1 < dpth G
 ·rw [if_pos hlt]
  have hm:=sp_mem G (e+1) hlt
  have hmi:sp (e+1) G≠i:=fun e2=>hi (e2 ▸ hm)
  have hm0:sp (e+1) G≠0:=p.rep.ne0 _ hm
  have hat:=attachH_pos (upN h i ⟨t,0,0,0⟩) i (sp e G) (sp (e+1) G) hm0
  refine plant_common p hi0 hi he ?_ (fun x hx=>?_) htops
  ·rw [snoc_after i t G (e+1) p.nd hlt]
   exact reptop_insAfter hfree hm0 (by rw [upN_out hmi];exact reptop_sp G e p.rep hlt) hext p.nd hi (sp_not_top G e p.nd hlt) (by simp [Fo.ids]) hmi (fun j hj=>by simp [Fo.ids] at hj)
  ·have hxi:x≠i:=fun e2=>hi (e2 ▸ hx)
   rw [hat x]
   by_cases hxa:x=sp (e+1) G
   ·subst hxa;rw [if_pos rfl,upN_out hmi]
   ·rw [if_neg hxa,if_neg hxi,upN_out hxi]
 ·rw [if_neg hlt]
  have hat:=attachH_zero (upN h i ⟨t,0,0,0⟩) i (sp e G)
  refine plant_common p hi0 hi he ?_ (fun x hx=>?_) htops
  ·rw [snoc_first i t G e p.nd (by omega)]
   exact reptop_insFirst hfree hext p.nd hi (by simp [Fo.ids]) hupi (fun j hj=>by simp [Fo.ids] at hj)
  ·have hxi:x≠i:=fun e2=>hi (e2 ▸ hx)
   rw [hat x]
   by_cases hxa:x=sp e G
   ·subst hxa;rw [if_pos rfl,upN_out hupi]
   ·rw [if_neg hxa,if_neg hxi,upN_out hxi]
def lastC (A:Nat→Option Nat) (la:Nat→Nat):Array Value:=((List.range 19).map fun d:Nat=>Value.pointer (pa (A (la d)))).toArray
theorem lastC_get (A:Nat→Option Nat) (la:Nat→Nat) (d:Nat) (hd:d < 19):(lastC A la)[d]?=some (.pointer (pa (A (la d)))):=by simp [lastC,hd]
theorem lastC_set (A:Nat→Option Nat) (la:Nat→Nat) (e i b:Nat) (he:e < 19) (hla:∀ d,la d≠i):(lastC A la).setIfInBounds e (.pointer (some ⟨b,0,none⟩))=lastC (upA A i b) (upL la e i):=by
 unfold lastC
 rw [List.setIfInBounds_toArray]
 congr 1
 apply List.ext_getElem (by simp)
 intro k h1 h2
 simp only [List.getElem_set,List.getElem_map,List.getElem_range,upA,upL]
 by_cases hk:e=k
 ·subst hk;simp;rfl
 ·have:¬ (k=e):=fun e2=>hk e2.symm
  simp [hk,this,hla k]
def PlantRel (l0:List S69) (w:World) (Fb Lb:Nat) (i:Value) (wr:World):Prop :=
 ∃ (j:Nat) (G:Fo) (A:Nat→Option Nat) (h:Nat→Nd) (la:Nat→Nat) (seen:List Int) (roots:Int),j≤l0.length∧i=.int .i64 (j:Int)∧Aside0 (Mem wr w.heap.size Fb A h)∧Aside0 (wr.heap[Lb]?=some (.cells (lastC A la) 166 (0,0))) ∧
  Aside0 (PlantOk G A h la seen roots)∧Aside0 (G.fl 0=l0.take j)∧Aside0 (treeGo seen roots ((dpth G:Int) - 1) (l0.drop j)=true)∧Aside0 (Below w.heap.size w wr)
def Planted (l0:List S69) (w:World) (e:Ending) (w':World):Prop :=
 ∃ (Fb:Nat) (G:Fo) (A:Nat→Option Nat) (h:Nat→Nd),e=.returned (.tuple #[.pointer (some ⟨Fb,0,none⟩),.bool true])∧Mem w' w.heap.size Fb A h∧RepTop h G∧G.ids.Nodup∧(∀ x,A x≠none↔x∈G.ids)∧G.tops=[1,2,3]∧G.fl 0=l0∧Below w.heap.size w w'
theorem neZ (b:Addr) (w:World):(binOp .neq 162 (.pointer none) (.pointer (some b))).run Tryd.prog w=.ok (.bool true) w:=by
 have h:∀ d:Nat,(Op.equalIn (d+1) 162 (.pointer none) (.pointer (some b))).run Tryd.prog w=.ok false w:=fun d=>by
  simp [Op.equalIn,run_underlying Tryd.underlying162]
 have h2:(Op.equal 162 (.pointer none) (.pointer (some b))).run Tryd.prog w=.ok false w:=by simp [Op.equal,Op.maxDepth,h 9999]
 simp only [binOp];simp [h2]
theorem Mem.far {w:World} {n0 F:Nat} {A:Nat→Option Nat} {h:Nat→Nd} (m:Mem w n0 F A h) {p:Addr} (hF:F≠p.block) (hA:∀ i,A i≠some p.block) (v:Value):Mem (w.setCell p v) n0 F A h :=
 { m with tab:=blk_far m.tab hF v,nod:=fun i b e=>blk_far (m.nod i b e) (fun e2=>hA i (e2 ▸ e)) v }
theorem Mem.no_last {w:World} {n0 F:Nat} {A:Nat→Option Nat} {h:Nat→Nd} (m:Mem w n0 F A h) {L:Nat} {cs:Array Value} (hL:w.heap[L]?=some (.cells cs 166 (0,0))) (y:Nat):A y≠some L:=fun hy=>by
 have h1:=m.nod y L hy
 rw [hL] at h1
 injection h1 with h1
 injection h1 with _ h2
 exact absurd h2 (by decide)
theorem plant_next {l0:List S69} {w wr:World} {F L g i e j:Nat} {x:S69} {G:Fo} {A:Nat→Option Nat} {h':Nat→Nd} {la:Nat→Nat} {seen:List Int} {roots':Int}
  (hx:x.f0=(i:Int)∧x.f1=(e:Int)) (he:e≤dpth G) (he18:e < 19) (hlt:j < l0.length) (hla:∀ d,la d≠i) (hLF:F≠L) (hwL:w.heap.size≤L)
  (m:Mem wr w.heap.size F (upA A i (g+1)) h') (hL:wr.heap[L]?=some (.cells (lastC A la) 166 (0,0)))
  (p:PlantOk (snoc i x.f2 e G) (upA A i (g+1)) h' (upL la e i) ((i:Int)::seen) roots')
  (hfl:G.fl 0=l0.take j) (htk:l0.take (j+1)=l0.take j++[x])
  (hgo:treeGo ((i:Int)::seen) roots' (e:Int) (l0.drop (j+1))=true) (hb:Below w.heap.size w wr) :
  PlantRel l0 w F L (.int .i64 ((j+1:Nat):Int)) (wr.setCell ⟨L,e,none⟩ (.pointer (some ⟨g+1,0,none⟩))):=by
 refine ⟨j+1,snoc i x.f2 e G,upA A i (g+1),h',upL la e i,(i:Int)::seen,roots',hlt,rfl,⟨m.far hLF (fun y=>m.no_last hL y) _⟩,⟨?_⟩,⟨p⟩,⟨?_⟩,⟨?_⟩,⟨hb.setCell hwL _⟩⟩
 ·have:=blk_set hL e (.pointer (some ⟨g+1,0,none⟩))
  rw [lastC_set A la e i (g+1) he18 hla] at this
  exact this
 ·rw [snoc_fl i x.f2 G e 0 he,hfl,htk]
  obtain ⟨x0,x1,x2⟩:=x
  obtain ⟨e0,e1⟩:=hx
  simp only at e0 e1
  subst e0 e1
  simp
 ·rw [snoc_dpth i x.f2 G e he,show (((e+1:Nat):Int) - 1)=(e:Int) by omega]
  exact hgo
theorem plant_no (A0:Option Addr) (c0:Nat) (l0:List S69) (w:World) (hr0:Kd.C k69 w A0 l0.length l0) (hc0:l0.length≤c0) (h:treeB l0=false) (hG:Glob w) :
  Calls Tryd.prog 93 #[.slice A0 l0.length c0] w fun e w'=>e=.returned (.tuple #[.pointer none,.bool false])∧Below w.heap.size w w':=by
 have HC:=a_ (impl_TreeOk.calls 0 A0 c0 l0 false w hr0 hc0 (by unfold impl_TreeOk.f;rw [h]) hG)
 clear hr0 hG h
 go_enter Tryd.func93,Tryd.ntmps93
 go_wp2_with (go_at_call 45;refine (HC.out).mono ?_;clear HC;rintro e w1 ⟨rfl,hb⟩;have HB:=a_ hb;clear hb)
 go_ret2
 exact ⟨rfl,HB.out⟩
theorem mem_none {w:World} {n0 F:Nat} (h:n0≤F) (ht:w.heap[F]?=some (.cells (tabC fun _=>none) 165 (0,0))) (hh:Nat→Nd):Mem w n0 F (fun _=>none) hh where
 z:=rfl
 rng:=fun _ _ e=>by cases e
 inj:=fun _ _ _ e=>by cases e
 ne:=fun _ _ e=>by cases e
 lo:=fun _ _ e=>by cases e
 loF:=h
 tab:=ht
 nod:=fun _ _ e=>by cases e
 cu:=fun _ e=>absurd rfl e
 cf:=fun _ e=>absurd rfl e
 cn:=fun _ e=>absurd rfl e
theorem plant_none (hh:Nat→Nd):PlantOk .nil (fun _=>none) hh (fun _=>0) [] 0 where
 rep:=trivial
 nd:=List.nodup_nil
 dom:=fun x=>by simp [Fo.ids]
 seen:=fun x=>by simp [Fo.ids]
 tops:=⟨0,rfl,rfl⟩
 edge:=fun d hd=>by simp [dpth] at hd
 stale:=fun d _=>Or.inl rfl
end Go.Proofs.YtdpklbomhdpimaaDoor.P
