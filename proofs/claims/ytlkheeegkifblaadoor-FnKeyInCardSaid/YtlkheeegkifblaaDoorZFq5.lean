/- Joined by a program (wip/shake.py): the declarations that 'YtlkheeegkifblaaDoorCardFnKeyIn' reaches. -/
import Derived.Test.YtlkheeegkifblaaDoorZFq4
set_option linter.unusedVariables false
set_option linter.unusedSimpArgs false
set_option linter.unusedSectionVars false
set_option maxHeartbeats 8000000
set_option maxRecDepth 100000
namespace Go.Proofs.YtlkheeegkifblaaDoor.P
open Go.RowKit Go.Proofs.YtlkheeegkifblaaDoorW.PrintWords Go.Proofs.YtlkheeegkifblaaDoorW.PrintLast
attribute [local go_sem] Oper.semAt_some
theorem spec_TreeOk.calls (k:Nat) (A0:Option Addr) (c0:Nat) (l0:List (S37)) (r:Bool) (w:World) (hr0:Kd.C k37 w A0 l0.length l0) (hc0:l0.length≤c0) (h:spec_TreeOk.f k l0=some r) :
  Calls Tryd.prog 19 #[.slice A0 l0.length c0] w fun e w'=>e=.returned (.bool r)∧Below w.heap.size w w':=by
 have hu37:=Tryd.underlying37
 have HR0:=a_ hr0
 have HC0:=a_ hc0
 clear hr0 hc0
 have HB:=a_ (Below.refl w.heap.size w)
 unfold spec_TreeOk.f at h
 have H:=h
 clear h
 have H':=a_ H
 clear H
 go_enter Tryd.func19,Tryd.ntmps19
 go_wp2
 go_loopg [3,4] k (fun kq v3 v4 w'=>∃ (x3_1:Int) (x4_1:Int),v3=.int .i64 x3_1∧v4=.int .i64 x4_1∧Aside0 (spec_TreeOk.l0 kq l0 x3_1 x4_1=some r)∧Aside0 (kq≤k)∧Aside0 (Below w.heap.size w w'))
 case atStart=>exact ⟨(0),(0),(si_),(si_),H',⟨Nat.le_refl _⟩,⟨bel_⟩⟩
 case round =>
  clear H'
  try clear c1
  obtain ⟨x3_1,x4_1,rfl,rfl,HA,HK1,HB⟩:=hrel
  cases gk with
  | zero=>exact absurd HA.out (by simp [spec_TreeOk.l0])
  | succ k1 =>
   have H:=HA.out
   clear HA
   simp only [spec_TreeOk.l0] at H
   by_cases c2:x4_1 < (l0.length:Int)
   ·rw [if_pos c2] at H
    have c2b0:decide (x4_1 < (l0.length:Int))=true:=dt_ c2
    clear c2
    have HC3:=a_ H
    clear H
    go_upto_region 5 with (fail)
    go_cut [36] (fun v36 wc=>∃ (kq:Nat) (x36_2:Bool),v36=.bool x36_2∧Aside0 (spec_TreeOk.j1 kq l0 x3_1 x4_1 x36_2=some r)∧Aside0 (kq≤k1)∧Aside0 (Below w.heap.size w wc))
    case first =>
     have H:=HC3.out
     clear HC3
     by_cases c4:0≤x4_1
     ·rw [if_pos c4] at H
      have c4b0:decide (0≤x4_1)=true:=dt_ c4
      clear c4
      (first|rw [c4b0]|(simp only [i64_w,i32_w];rw [c4b0])|skip)
      replace H:=bs_ H
      obtain ⟨t333,A50,H⟩:=H
      try dsimp only at H
      have A5:=a_ A50
      clear A50
      by_cases c6:t333=true
      ·subst c6
       have H1:(if x4_1 > 0 then (if 0≤(wrap64 (x4_1 - 1)) then (if (wrap64 (x4_1 - 1)) < (l0.length:Int) then (spec_TreeOk.j1 k1 l0 x3_1 x4_1 (decide (((rd_T37 l0 x4_1).f1) > (wrap64 (((rd_T37 l0 (wrap64 (x4_1 - 1))).f1)+1))))) else (none)) else (none)) else (spec_TreeOk.j1 k1 l0 x3_1 x4_1 false))=some r:=by rw [if_pos rfl] at H;exact H
       clear H
       have H:=H1
       clear H1
       by_cases c7:x4_1 > 0
       ·rw [if_pos c7] at H
        have c7b0:decide (0 < x4_1)=true:=dt_ c7
        clear c7
        obtain ⟨ji8,hji8⟩:∃ j_:Int,(wrap64 (x4_1 - 1))=j_:=⟨_,rfl⟩
        replace H:(if 0≤(ji8) then (if (ji8) < (l0.length:Int) then (spec_TreeOk.j1 k1 l0 x3_1 x4_1 (decide (((rd_T37 l0 x4_1).f1) > (wrap64 (((rd_T37 l0 (ji8)).f1)+1))))) else (none)) else (none))=some r:=by first|(rw [hji8] at H;exact H)|(simp only [hji8] at H ⊢;exact H)
        (try rw [hji8] at A5)
        have hji8w:(IntKind.i64.wrap (x4_1 - 1))=ji8:=(i64_w _).trans hji8
        by_cases c9:0≤(ji8)
        ·rw [if_pos c9] at H
         have c9b0:decide (0≤(ji8))=true:=dt_ c9
         clear c9
         by_cases c10:(ji8) < (l0.length:Int)
         ·rw [if_pos c10] at H
          have c10b0:decide ((ji8) < (l0.length:Int))=true:=dt_ c10
          clear c10
          have H':=a_ H
          clear H
          try go_wp2
          have n0_:=a_ (below_drew1 HB.out)
          clear HB
          have HB:=n0_
          clear n0_
          have p332:0≤(x4_1:Int):=od_
          have q332:x4_1 < (l0.length:Int):=od_
          obtain ⟨ad332,e332,hx332_0,hx332_1,hx332_2⟩:=at_T37 HR0.out x4_1 p332 q332
          have hw332_2:=hx332_2
          have hw332_1:=hx332_1
          have hw332_0:=hx332_0
          cases e332
          replace hx332_0:=(cb_ HB.out hx332_0 :)
          replace hx332_1:=(cb_ HB.out hx332_1 :)
          replace hx332_2:=(cb_ HB.out hx332_2 :)
          replace p332:=eq_true p332
          replace q332:=eq_true q332
          have p334:0≤(x4_1:Int):=od_
          have q334:x4_1 < (l0.length:Int):=od_
          obtain ⟨ad334,e334,hx334_0,hx334_1,hx334_2⟩:=at_T37 HR0.out x4_1 p334 q334
          have hw334_2:=hx334_2
          have hw334_1:=hx334_1
          have hw334_0:=hx334_0
          obtain rfl:ad332=ad334:=(by injection e334)
          replace hx334_0:=(cb_ HB.out hx334_0 :)
          replace hx334_1:=(cb_ HB.out hx334_1 :)
          replace hx334_2:=(cb_ HB.out hx334_2 :)
          replace p334:=eq_true p334
          replace q334:=eq_true q334
          have p335:0≤((ji8):Int):=od_
          have q335:(ji8) < (l0.length:Int):=od_
          obtain ⟨ad335,e335,hx335_0,hx335_1,hx335_2⟩:=at_T37 HR0.out (ji8) p335 q335
          have hw335_2:=hx335_2
          have hw335_1:=hx335_1
          have hw335_0:=hx335_0
          obtain rfl:ad332=ad335:=(by injection e335)
          replace hx335_0:=(cb_ HB.out hx335_0 :)
          replace hx335_1:=(cb_ HB.out hx335_1 :)
          replace hx335_2:=(cb_ HB.out hx335_2 :)
          replace p335:=eq_true p335
          replace q335:=eq_true q335
          refine start_ (n:=25) (S:=fun w'=>w'.cell? (ad332.add ((x4_1).toNat * 3))=some (.int .i64 ((rd_T37 l0 x4_1).f0))∧w'.cell? ⟨(ad332.add ((x4_1).toNat * 3)).block,(ad332.add ((x4_1).toNat * 3)).off+1,none⟩=some (.int .i64 ((rd_T37 l0 x4_1).f1))∧w'.cell? ⟨(ad332.add ((x4_1).toNat * 3)).block,(ad332.add ((x4_1).toNat * 3)).off+2,none⟩=some (.string ((rd_T37 l0 x4_1).f2))∧w'.cell? (ad332.add ((x4_1).toNat * 3))=some (.int .i64 ((rd_T37 l0 x4_1).f0))∧w'.cell? ⟨(ad332.add ((x4_1).toNat * 3)).block,(ad332.add ((x4_1).toNat * 3)).off+1,none⟩=some (.int .i64 ((rd_T37 l0 x4_1).f1))∧w'.cell? ⟨(ad332.add ((x4_1).toNat * 3)).block,(ad332.add ((x4_1).toNat * 3)).off+2,none⟩=some (.string ((rd_T37 l0 x4_1).f2))∧w'.cell? (ad332.add (((ji8)).toNat * 3))=some (.int .i64 ((rd_T37 l0 (ji8)).f0))∧w'.cell? ⟨(ad332.add (((ji8)).toNat * 3)).block,(ad332.add (((ji8)).toNat * 3)).off+1,none⟩=some (.int .i64 ((rd_T37 l0 (ji8)).f1))∧w'.cell? ⟨(ad332.add (((ji8)).toNat * 3)).block,(ad332.add (((ji8)).toNat * 3)).off+2,none⟩=some (.string ((rd_T37 l0 (ji8)).f2))) (ds:=[]) #[false,false,false,false,false,false,false,false,false,false,false,false,false,false,false,false,false,false,false,false,false,false,false,false,false] (by kernel_rfl) rfl rfl ⟨((cb_ HB.out hw332_0 :)),((cb_ HB.out hw332_1 :)),((cb_ HB.out hw332_2 :)),((cb_ HB.out hw334_0 :)),((cb_ HB.out hw334_1 :)),((cb_ HB.out hw334_2 :)),((cb_ HB.out hw335_0 :)),((cb_ HB.out hw335_1 :)),((cb_ HB.out hw335_2 :))⟩ (fun hHeld=>?_);refine with_tabW spec_TreeOk.tab5 spec_TreeOk.bits5 (fun HT_ HW_=>?_)
          generalize wr.drew=w11 at HB hx332_0 hx332_1 hx332_2 hx334_0 hx334_1 hx334_2 hx335_0 hx335_1 hx335_2 hHeld ⊢
          refine pa_ 0 12 ?_
          refine pa_ 1 13 ?_
          refine pa_ 2 14 ?_
          refine ta9_ 3 15 hHeld ?_
          refine on_ 4 16 (fun K hK=>?_)
          refine goes_ Tryd.func58 (by kernel_rfl) rfl #[.agg #[.int .i64 ((rd_T37 l0 x4_1).f0),.int .i64 ((rd_T37 l0 x4_1).f1),.string ((rd_T37 l0 x4_1).f2)]] (by rfl) rfl rfl ar_ ?_
          with_reducible refine (spec_RowOk.calls k1 ((rd_T37 l0 x4_1).f0) ((rd_T37 l0 x4_1).f1) ((rd_T37 l0 x4_1).f2) true _ A5.out).mono ?_
          rintro e w12 ⟨rfl,hb⟩
          refine ⟨_,rfl,?_⟩
          have n0_:=a_ (bS_ (bel_) hb)
          clear HB
          have HB:=n0_
          clear n0_
          (try clear hb)
          (try clear hb2)
          (try clear hk)
          (try clear hi)
          refine hK.out _ _ ⟨((cb_ HB.out hw332_0 :)),((cb_ HB.out hw332_1 :)),((cb_ HB.out hw332_2 :)),((cb_ HB.out hw334_0 :)),((cb_ HB.out hw334_1 :)),((cb_ HB.out hw334_2 :)),((cb_ HB.out hw335_0 :)),((cb_ HB.out hw335_1 :)),((cb_ HB.out hw335_2 :))⟩ (fun hHeld=>?_)
          clear hK K
          refine no_ 16 ?_
          refine pa_ 5 17 ?_
          refine pa_ 6 18 ?_
          refine pa_ 7 19 ?_
          refine pa_ 8 20 ?_
          refine pa_ 9 21 ?_
          refine pa_ 10 22 ?_
          refine pa_ 11 23 ?_
          refine pa_ 12 24 ?_
          refine pa_ 13 25 ?_
          refine pa_ 15 27 ?_
          refine pa_ 16 28 ?_
          refine pa_ 17 29 ?_
          refine pa_ 18 30 ?_
          refine pa_ 19 31 ?_
          refine ta9_ 14 26 hHeld ?_
          refine ta9_ 20 32 hHeld ?_
          refine pa_ 21 33 ?_
          refine pa_ 22 34 ?_
          refine pa_ 23 35 ?_
          refine pa_ 24 36 ?_
          refine done_ (done_of HT_.out (by kernel_rfl)) ?_
          try go_wp2
          go_meet
          case rel=>exact ⟨_,(decide (((rd_T37 l0 x4_1).f1) > (wrap64 (((rd_T37 l0 (ji8)).f1)+1)))),(by first|rfl|(simp;done)|(simp only [←hji8] <;> (first|rfl|simp))|(simp [*];done)),H',⟨by have:=HK1.out;first|omega|exact Nat.le_refl _⟩,⟨bel_⟩⟩
         ·rw [if_neg c10] at H
          exact absurd H (by simp)
        ·rw [if_neg c9] at H
         exact absurd H (by simp)
       ·rw [if_neg c7] at H
        have c7b0:decide (0 < x4_1)=false:=df_ c7
        clear c7
        have H':=a_ H
        clear H
        try go_wp2
        have n0_:=a_ (below_drew1 HB.out)
        clear HB
        have HB:=n0_
        clear n0_
        have p332:0≤(x4_1:Int):=od_
        have q332:x4_1 < (l0.length:Int):=od_
        obtain ⟨ad332,e332,hx332_0,hx332_1,hx332_2⟩:=at_T37 HR0.out x4_1 p332 q332
        have hw332_2:=hx332_2
        have hw332_1:=hx332_1
        have hw332_0:=hx332_0
        cases e332
        replace hx332_0:=(cb_ HB.out hx332_0 :)
        replace hx332_1:=(cb_ HB.out hx332_1 :)
        replace hx332_2:=(cb_ HB.out hx332_2 :)
        replace p332:=eq_true p332
        replace q332:=eq_true q332
        refine start_ (n:=25) (S:=fun w'=>w'.cell? (ad332.add ((x4_1).toNat * 3))=some (.int .i64 ((rd_T37 l0 x4_1).f0))∧w'.cell? ⟨(ad332.add ((x4_1).toNat * 3)).block,(ad332.add ((x4_1).toNat * 3)).off+1,none⟩=some (.int .i64 ((rd_T37 l0 x4_1).f1))∧w'.cell? ⟨(ad332.add ((x4_1).toNat * 3)).block,(ad332.add ((x4_1).toNat * 3)).off+2,none⟩=some (.string ((rd_T37 l0 x4_1).f2))) (ds:=[]) #[false,false,false,false,false,false,false,false,false,false,false,false,false,false,false,false,false,false,false,false,false,false,false,false,false] (by kernel_rfl) rfl rfl ⟨((cb_ HB.out hw332_0 :)),((cb_ HB.out hw332_1 :)),((cb_ HB.out hw332_2 :))⟩ (fun hHeld=>?_);refine with_tabW spec_TreeOk.tab5 spec_TreeOk.bits5 (fun HT_ HW_=>?_)
        generalize wr.drew=w13 at HB hx332_0 hx332_1 hx332_2 hHeld ⊢
        refine pa_ 0 12 ?_
        refine pa_ 1 13 ?_
        refine pa_ 2 14 ?_
        refine ta3_ 3 15 hHeld ?_
        refine on_ 4 16 (fun K hK=>?_)
        refine goes_ Tryd.func58 (by kernel_rfl) rfl #[.agg #[.int .i64 ((rd_T37 l0 x4_1).f0),.int .i64 ((rd_T37 l0 x4_1).f1),.string ((rd_T37 l0 x4_1).f2)]] (by rfl) rfl rfl ar_ ?_
        with_reducible refine (spec_RowOk.calls k1 ((rd_T37 l0 x4_1).f0) ((rd_T37 l0 x4_1).f1) ((rd_T37 l0 x4_1).f2) true _ A5.out).mono ?_
        rintro e w14 ⟨rfl,hb⟩
        refine ⟨_,rfl,?_⟩
        have n0_:=a_ (bS_ (bel_) hb)
        clear HB
        have HB:=n0_
        clear n0_
        (try clear hb)
        (try clear hb2)
        (try clear hk)
        (try clear hi)
        refine hK.out _ _ ⟨((cb_ HB.out hw332_0 :)),((cb_ HB.out hw332_1 :)),((cb_ HB.out hw332_2 :))⟩ (fun hHeld=>?_)
        clear hK K
        refine no_ 16 ?_
        refine pa_ 5 17 ?_
        refine pa_ 6 18 ?_
        refine pa_ 7 19 ?_
        refine pa_ 8 20 ?_
        refine pa_ 9 21 ?_
        refine po_ 10 22 ?_
        refine po_ 11 23 ?_
        refine po_ 12 24 ?_
        refine po_ 13 25 ?_
        refine po_ 14 26 ?_
        refine po_ 15 27 ?_
        refine po_ 16 28 ?_
        refine po_ 17 29 ?_
        refine po_ 18 30 ?_
        refine po_ 19 31 ?_
        refine po_ 20 32 ?_
        refine po_ 21 33 ?_
        refine po_ 22 34 ?_
        refine pa_ 23 35 ?_
        refine pa_ 24 36 ?_
        refine done_ (done_of HT_.out (by kernel_rfl)) ?_
        try go_wp2
        go_meet
        case rel=>exact ⟨_,(false),(si_),H',⟨by have:=HK1.out;first|omega|exact Nat.le_refl _⟩,⟨bel_⟩⟩
      ·replace c6:=Bool.eq_false_iff.mpr c6
       subst c6
       have H1:(spec_TreeOk.j1 k1 l0 x3_1 x4_1 true)=some r:=by rw [if_neg (show ¬ (false=true) by decide)] at H;exact H
       clear H
       have H:=H1
       clear H1
       have H':=a_ H
       clear H
       try go_wp2
       have n0_:=a_ (below_drew1 HB.out)
       clear HB
       have HB:=n0_
       clear n0_
       have p332:0≤(x4_1:Int):=od_
       have q332:x4_1 < (l0.length:Int):=od_
       obtain ⟨ad332,e332,hx332_0,hx332_1,hx332_2⟩:=at_T37 HR0.out x4_1 p332 q332
       have hw332_2:=hx332_2
       have hw332_1:=hx332_1
       have hw332_0:=hx332_0
       cases e332
       replace hx332_0:=(cb_ HB.out hx332_0 :)
       replace hx332_1:=(cb_ HB.out hx332_1 :)
       replace hx332_2:=(cb_ HB.out hx332_2 :)
       replace p332:=eq_true p332
       replace q332:=eq_true q332
       refine start_ (n:=25) (S:=fun w'=>w'.cell? (ad332.add ((x4_1).toNat * 3))=some (.int .i64 ((rd_T37 l0 x4_1).f0))∧w'.cell? ⟨(ad332.add ((x4_1).toNat * 3)).block,(ad332.add ((x4_1).toNat * 3)).off+1,none⟩=some (.int .i64 ((rd_T37 l0 x4_1).f1))∧w'.cell? ⟨(ad332.add ((x4_1).toNat * 3)).block,(ad332.add ((x4_1).toNat * 3)).off+2,none⟩=some (.string ((rd_T37 l0 x4_1).f2))) (ds:=[]) #[false,false,false,false,false,false,false,false,false,false,false,false,false,false,false,false,false,false,false,false,false,false,false,false,false] (by kernel_rfl) rfl rfl ⟨((cb_ HB.out hw332_0 :)),((cb_ HB.out hw332_1 :)),((cb_ HB.out hw332_2 :))⟩ (fun hHeld=>?_);refine with_tabW spec_TreeOk.tab5 spec_TreeOk.bits5 (fun HT_ HW_=>?_)
       generalize wr.drew=w15 at HB hx332_0 hx332_1 hx332_2 hHeld ⊢
       refine pa_ 0 12 ?_
       refine pa_ 1 13 ?_
       refine pa_ 2 14 ?_
       refine ta3_ 3 15 hHeld ?_
       refine on_ 4 16 (fun K hK=>?_)
       refine goes_ Tryd.func58 (by kernel_rfl) rfl #[.agg #[.int .i64 ((rd_T37 l0 x4_1).f0),.int .i64 ((rd_T37 l0 x4_1).f1),.string ((rd_T37 l0 x4_1).f2)]] (by rfl) rfl rfl ar_ ?_
       with_reducible refine (spec_RowOk.calls k1 ((rd_T37 l0 x4_1).f0) ((rd_T37 l0 x4_1).f1) ((rd_T37 l0 x4_1).f2) false _ A5.out).mono ?_
       rintro e w16 ⟨rfl,hb⟩
       refine ⟨_,rfl,?_⟩
       have n0_:=a_ (bS_ (bel_) hb)
       clear HB
       have HB:=n0_
       clear n0_
       (try clear hb)
       (try clear hb2)
       (try clear hk)
       (try clear hi)
       refine hK.out _ _ ⟨((cb_ HB.out hw332_0 :)),((cb_ HB.out hw332_1 :)),((cb_ HB.out hw332_2 :))⟩ (fun hHeld=>?_)
       clear hK K
       refine no_ 16 ?_
       refine pa_ 5 17 ?_
       refine pa_ 6 18 ?_
       refine po_ 7 19 ?_
       refine po_ 8 20 ?_
       refine po_ 9 21 ?_
       refine po_ 10 22 ?_
       refine po_ 11 23 ?_
       refine po_ 12 24 ?_
       refine po_ 13 25 ?_
       refine po_ 14 26 ?_
       refine po_ 15 27 ?_
       refine po_ 16 28 ?_
       refine po_ 17 29 ?_
       refine po_ 18 30 ?_
       refine po_ 19 31 ?_
       refine po_ 20 32 ?_
       refine po_ 21 33 ?_
       refine po_ 22 34 ?_
       refine po_ 23 35 ?_
       refine pa_ 24 36 ?_
       refine done_ (done_of HT_.out (by kernel_rfl)) ?_
       try go_wp2
       go_meet
       case rel=>exact ⟨_,(true),(si_),H',⟨by have:=HK1.out;first|omega|exact Nat.le_refl _⟩,⟨bel_⟩⟩
     ·rw [if_neg c4] at H
      exact absurd H (by simp)
    case rest =>
     clear HC3
     try clear c1
     try clear p2
     try clear p3
     try clear q3
     try clear hx3
     try clear c4
     try clear c5
     try clear c6
     try clear p6
     try clear c7
     try clear c7b0
     try clear c9
     try clear c10
     try clear hx332_0
     try clear hx332_1
     try clear hx332_2
     try clear hx334_0
     try clear hx334_1
     try clear hx334_2
     try clear hx335_0
     try clear hx335_1
     try clear hx335_2
     try clear p332
     try clear p335
     try clear q332
     try clear q335
     obtain ⟨kq,x36_2,rfl,HA,HJ2,HB⟩:=hcut
     cases kq with
     | zero=>exact absurd HA.out (by simp [spec_TreeOk.j1])
     | succ kj2 =>
      have H:=HA.out
      clear HA
      simp only [spec_TreeOk.j1] at H
      by_cases c17:x36_2=true
      ·subst c17
       have H1:(some false)=some r:=by rw [if_pos rfl] at H;exact H
       clear H
       have H:=H1
       clear H1
       obtain rfl:=sj_ H
       go_wp2
       go_ret
       exact ⟨fi_,bel_⟩
      ·replace c17:=Bool.eq_false_iff.mpr c17
       subst c17
       have H1:(if 0≤x4_1 then (if x4_1 < (l0.length:Int) then ((spec_l1Root.f ((rd_T37 l0 x4_1).f0)).bind fun t337=>(if t337=true then (if ((rd_T37 l0 x4_1).f0)=(wrap64 (x3_1+1)) then (spec_TreeOk.j2 kj2 l0 (wrap64 (x3_1+1)) x4_1) else (some false)) else (spec_TreeOk.j2 kj2 l0 x3_1 x4_1))) else (none)) else (none))=some r:=by rw [if_neg (show ¬ (false=true) by decide)] at H;exact H
       clear H
       have H:=H1
       clear H1
       by_cases c18:0≤x4_1
       ·rw [if_pos c18] at H
        have c18b0:decide (0≤x4_1)=true:=dt_ c18
        clear c18
        by_cases c19:x4_1 < (l0.length:Int)
        ·rw [if_pos c19] at H
         have c19b0:decide (x4_1 < (l0.length:Int))=true:=dt_ c19
         clear c19
         replace H:=bs_ H
         obtain ⟨t337,A200,H⟩:=H
         try dsimp only at H
         have A20:=a_ A200
         clear A200
         have HC21:=a_ H
         clear H
         have p336:0≤(x4_1:Int):=od_
         have q336:x4_1 < (l0.length:Int):=od_
         obtain ⟨ad336,e336,hx336_0,hx336_1,hx336_2⟩:=at_T37 HR0.out x4_1 p336 q336
         cases e336
         replace hx336_0:=(cb_ HB.out hx336_0 :)
         replace hx336_1:=(cb_ HB.out hx336_1 :)
         replace hx336_2:=(cb_ HB.out hx336_2 :)
         replace p336:=eq_true p336
         replace q336:=eq_true q336
         go_upto_if 42 with (first|((with_reducible refine gC_ (f:=59) rfl ?_);refine gl_ 42 Tryd.func59 #[.int .i64 ((rd_T37 l0 x4_1).f0)] ?_;(with_reducible refine (spec_l1Root.calls ((rd_T37 l0 x4_1).f0) t337 _ A20.out).mono ?_);rintro e w' ⟨rfl,⟨nd,rfl⟩⟩;refine ⟨_,rfl,?_⟩))
         (try simp only [Act.put,List.setIfInBounds_toArray,List.set_cons_zero,List.set_cons_succ])
         go_cut [3] (fun v3 wc=>∃ (kq:Nat) (x3_20:Int),v3=.int .i64 x3_20∧Aside0 (spec_TreeOk.j2 kq l0 x3_20 x4_1=some r)∧Aside0 (kq≤kj2)∧Aside0 (Below w.heap.size w wc))
         case first =>
          have H:=HC21.out
          clear HC21
          by_cases c22:t337=true
          ·subst c22
           have H1:(if ((rd_T37 l0 x4_1).f0)=(wrap64 (x3_1+1)) then (spec_TreeOk.j2 kj2 l0 (wrap64 (x3_1+1)) x4_1) else (some false))=some r:=by rw [if_pos rfl] at H;exact H
           clear H
           have H:=H1
           clear H1
           by_cases c23:((rd_T37 l0 x4_1).f0)=(wrap64 (x3_1+1))
           ·rw [if_pos c23] at H
            have c23b0:(((rd_T37 l0 x4_1).f0)==(wrap64 (x3_1+1)))=true:=beq_iff_eq.mpr c23
            have c23b1:(((rd_T37 l0 x4_1).f0) != (wrap64 (x3_1+1)))=false:=be_ c23
            clear c23
            (first|rw [c23b0]|(simp only [i64_w,i32_w];rw [c23b0])|skip)
            have H':=a_ H
            clear H
            have p338:0≤(x4_1:Int):=od_
            have q338:x4_1 < (l0.length:Int):=od_
            obtain ⟨ad338,e338,hx338_0,hx338_1,hx338_2⟩:=at_T37 HR0.out x4_1 p338 q338
            obtain rfl:ad336=ad338:=(by injection e338)
            replace hx338_0:=(cb_ HB.out hx338_0 :)
            replace hx338_1:=(cb_ HB.out hx338_1 :)
            replace hx338_2:=(cb_ HB.out hx338_2 :)
            replace p338:=eq_true p338
            replace q338:=eq_true q338
            go_wp2
            go_meet
            case rel=>exact ⟨_,(wrap64 (x3_1+1)),(si_),H',⟨by have:=HK1.out;have:=HJ2.out;first|omega|exact Nat.le_refl _⟩,⟨bel_⟩⟩
           ·rw [if_neg c23] at H
            have c23b0:(((rd_T37 l0 x4_1).f0)==(wrap64 (x3_1+1)))=false:=bn_ c23
            have c23b1:(((rd_T37 l0 x4_1).f0) != (wrap64 (x3_1+1)))=true:=bne_iff_ne.mpr c23
            (first|rw [c23b0]|(simp only [i64_w,i32_w];rw [c23b0])|skip)
            obtain rfl:=sj_ H
            have p338:0≤(x4_1:Int):=od_
            have q338:x4_1 < (l0.length:Int):=od_
            obtain ⟨ad338,e338,hx338_0,hx338_1,hx338_2⟩:=at_T37 HR0.out x4_1 p338 q338
            obtain rfl:ad336=ad338:=(by injection e338)
            replace hx338_0:=(cb_ HB.out hx338_0 :)
            replace hx338_1:=(cb_ HB.out hx338_1 :)
            replace hx338_2:=(cb_ HB.out hx338_2 :)
            replace p338:=eq_true p338
            replace q338:=eq_true q338
            go_wp2
            go_ret
            exact ⟨fi_,bel_⟩
          ·replace c22:=Bool.eq_false_iff.mpr c22
           subst c22
           have H1:(spec_TreeOk.j2 kj2 l0 x3_1 x4_1)=some r:=by rw [if_neg (show ¬ (false=true) by decide)] at H;exact H
           clear H
           have H:=H1
           clear H1
           have H':=a_ H
           clear H
           go_wp2
           go_meet
           case rel=>exact ⟨_,(x3_1),(si_),H',⟨by have:=HK1.out;have:=HJ2.out;first|omega|exact Nat.le_refl _⟩,⟨bel_⟩⟩
         case rest =>
          clear HC21
          try clear c1
          try clear c2
          try clear p2
          try clear p3
          try clear q3
          try clear hx3
          try clear c4
          try clear c5
          try clear c6
          try clear p6
          try clear c7
          try clear c7b0
          try clear c9
          try clear c10
          try clear c17
          try clear c18
          try clear c18b0
          try clear c19
          try clear c19b0
          try clear c22
          try clear c23
          try clear c23b0
          try clear c23b1
          try clear hx332_0
          try clear hx332_1
          try clear hx332_2
          try clear hx334_0
          try clear hx334_1
          try clear hx334_2
          try clear hx335_0
          try clear hx335_1
          try clear hx335_2
          try clear hx336_0
          try clear hx336_1
          try clear hx336_2
          try clear hx338_0
          try clear hx338_1
          try clear hx338_2
          try clear p2
          try clear p3
          try clear p332
          try clear p335
          try clear p336
          try clear p338
          try clear p6
          try clear q3
          try clear q332
          try clear q335
          try clear q336
          try clear q338
          obtain ⟨kq,x3_20,rfl,HA,HJ20,HB⟩:=hcut
          cases kq with
          | zero=>exact absurd HA.out (by simp [spec_TreeOk.j2])
          | succ kj20 =>
           have H:=HA.out
           clear HA
           simp only [spec_TreeOk.j2] at H
           have H':=a_ H
           clear H
           go_wp2
           go_loopg [5] kj20 (fun kq v5 w'=>∃ (x5_4:Int),v5=.int .i64 x5_4∧Aside0 (spec_TreeOk.l1 kq l0 x3_20 x4_1 x5_4=some r)∧Aside0 (kq≤kj20)∧Aside0 (Below w.heap.size w w'))
           case atStart=>exact ⟨(0),(si_),H',⟨Nat.le_refl _⟩,⟨bel_⟩⟩
           case round =>
            clear H'
            try clear c1
            try clear c2
            try clear p2
            try clear p3
            try clear q3
            try clear hx3
            try clear c4
            try clear c5
            try clear c6
            try clear p6
            try clear c7
            try clear c7b0
            try clear c9
            try clear c10
            try clear c17
            try clear c18
            try clear c18b0
            try clear c19
            try clear c19b0
            try clear c22
            try clear c23
            try clear c23b0
            try clear c23b1
            try clear hx332_0
            try clear hx332_1
            try clear hx332_2
            try clear hx334_0
            try clear hx334_1
            try clear hx334_2
            try clear hx335_0
            try clear hx335_1
            try clear hx335_2
            try clear hx336_0
            try clear hx336_1
            try clear hx336_2
            try clear hx338_0
            try clear hx338_1
            try clear hx338_2
            try clear p2
            try clear p3
            try clear p332
            try clear p335
            try clear p336
            try clear p338
            try clear p6
            try clear q3
            try clear q332
            try clear q335
            try clear q336
            try clear q338
            obtain ⟨x5_4,rfl,HA,HK4,HB⟩:=hrel
            cases gk with
            | zero=>exact absurd HA.out (by simp [spec_TreeOk.l1])
            | succ k4 =>
             have H:=HA.out
             clear HA
             simp only [spec_TreeOk.l1] at H
             by_cases c24:x5_4 < x4_1
             ·rw [if_pos c24] at H
              have c24b0:decide (x5_4 < x4_1)=true:=dt_ c24
              clear c24
              by_cases c25:0≤x5_4
              ·rw [if_pos c25] at H
               have c25b0:decide (0≤x5_4)=true:=dt_ c25
               clear c25
               by_cases c26:x5_4 < (l0.length:Int)
               ·rw [if_pos c26] at H
                have c26b0:decide (x5_4 < (l0.length:Int))=true:=dt_ c26
                clear c26
                by_cases c27:0≤x4_1
                ·rw [if_pos c27] at H
                 have c27b0:decide (0≤x4_1)=true:=dt_ c27
                 clear c27
                 by_cases c28:x4_1 < (l0.length:Int)
                 ·rw [if_pos c28] at H
                  have c28b0:decide (x4_1 < (l0.length:Int))=true:=dt_ c28
                  clear c28
                  by_cases c29:((rd_T37 l0 x5_4).f0)=((rd_T37 l0 x4_1).f0)
                  ·rw [if_pos c29] at H
                   have c29b0:(((rd_T37 l0 x5_4).f0)==((rd_T37 l0 x4_1).f0))=true:=beq_iff_eq.mpr c29
                   have c29b1:(((rd_T37 l0 x5_4).f0) != ((rd_T37 l0 x4_1).f0))=false:=be_ c29
                   clear c29
                   obtain rfl:=sj_ H
                   try go_wp2
                   have n0_:=a_ (below_drew1 HB.out)
                   clear HB
                   have HB:=n0_
                   clear n0_
                   have p339:0≤(x5_4:Int):=od_
                   have q339:x5_4 < (l0.length:Int):=od_
                   obtain ⟨ad339,e339,hx339_0,hx339_1,hx339_2⟩:=at_T37 HR0.out x5_4 p339 q339
                   have hw339_2:=hx339_2
                   have hw339_1:=hx339_1
                   have hw339_0:=hx339_0
                   obtain rfl:ad336=ad339:=(by injection e339)
                   replace hx339_0:=(cb_ HB.out hx339_0 :)
                   replace hx339_1:=(cb_ HB.out hx339_1 :)
                   replace hx339_2:=(cb_ HB.out hx339_2 :)
                   replace p339:=eq_true p339
                   replace q339:=eq_true q339
                   have p340:0≤(x4_1:Int):=od_
                   have q340:x4_1 < (l0.length:Int):=od_
                   obtain ⟨ad340,e340,hx340_0,hx340_1,hx340_2⟩:=at_T37 HR0.out x4_1 p340 q340
                   have hw340_2:=hx340_2
                   have hw340_1:=hx340_1
                   have hw340_0:=hx340_0
                   obtain rfl:ad336=ad340:=(by injection e340)
                   replace hx340_0:=(cb_ HB.out hx340_0 :)
                   replace hx340_1:=(cb_ HB.out hx340_1 :)
                   replace hx340_2:=(cb_ HB.out hx340_2 :)
                   replace p340:=eq_true p340
                   replace q340:=eq_true q340
                   refine start_ (n:=11) (S:=fun w'=>w'.cell? (ad336.add ((x5_4).toNat * 3))=some (.int .i64 ((rd_T37 l0 x5_4).f0))∧w'.cell? ⟨(ad336.add ((x5_4).toNat * 3)).block,(ad336.add ((x5_4).toNat * 3)).off+1,none⟩=some (.int .i64 ((rd_T37 l0 x5_4).f1))∧w'.cell? ⟨(ad336.add ((x5_4).toNat * 3)).block,(ad336.add ((x5_4).toNat * 3)).off+2,none⟩=some (.string ((rd_T37 l0 x5_4).f2))∧w'.cell? (ad336.add ((x4_1).toNat * 3))=some (.int .i64 ((rd_T37 l0 x4_1).f0))∧w'.cell? ⟨(ad336.add ((x4_1).toNat * 3)).block,(ad336.add ((x4_1).toNat * 3)).off+1,none⟩=some (.int .i64 ((rd_T37 l0 x4_1).f1))∧w'.cell? ⟨(ad336.add ((x4_1).toNat * 3)).block,(ad336.add ((x4_1).toNat * 3)).off+2,none⟩=some (.string ((rd_T37 l0 x4_1).f2))) (ds:=[]) #[false,false,false,false,false,false,false,false,false,false,false] (by kernel_rfl) rfl rfl ⟨((cb_ HB.out hw339_0 :)),((cb_ HB.out hw339_1 :)),((cb_ HB.out hw339_2 :)),((cb_ HB.out hw340_0 :)),((cb_ HB.out hw340_1 :)),((cb_ HB.out hw340_2 :))⟩ (fun hHeld=>?_);refine with_tabW spec_TreeOk.tab14 spec_TreeOk.bits14 (fun HT_ HW_=>?_)
                   generalize wr.drew=w30 at HB hx339_0 hx339_1 hx339_2 hx340_0 hx340_1 hx340_2 hHeld ⊢
                   refine pa_ 0 57 ?_
                   refine pa_ 1 58 ?_
                   refine pa_ 2 59 ?_
                   refine pa_ 3 60 ?_
                   refine pa_ 5 62 ?_
                   refine pa_ 6 63 ?_
                   refine pa_ 7 64 ?_
                   refine pa_ 8 65 ?_
                   refine ta6_ 4 61 hHeld ?_
                   refine ta6_ 9 66 hHeld ?_
                   refine pa_ 10 67 ?_
                   refine done_ (done_of HT_.out (by kernel_rfl)) ?_
                   try go_wp2
                   go_ret
                   exact ⟨fi_,bel_⟩
                  ·rw [if_neg c29] at H
                   have c29b0:(((rd_T37 l0 x5_4).f0)==((rd_T37 l0 x4_1).f0))=false:=bn_ c29
                   have c29b1:(((rd_T37 l0 x5_4).f0) != ((rd_T37 l0 x4_1).f0))=true:=bne_iff_ne.mpr c29
                   have H':=a_ H
                   clear H
                   try go_wp2
                   have n0_:=a_ (below_drew1 HB.out)
                   clear HB
                   have HB:=n0_
                   clear n0_
                   have p339:0≤(x5_4:Int):=od_
                   have q339:x5_4 < (l0.length:Int):=od_
                   obtain ⟨ad339,e339,hx339_0,hx339_1,hx339_2⟩:=at_T37 HR0.out x5_4 p339 q339
                   have hw339_2:=hx339_2
                   have hw339_1:=hx339_1
                   have hw339_0:=hx339_0
                   obtain rfl:ad336=ad339:=(by injection e339)
                   replace hx339_0:=(cb_ HB.out hx339_0 :)
                   replace hx339_1:=(cb_ HB.out hx339_1 :)
                   replace hx339_2:=(cb_ HB.out hx339_2 :)
                   replace p339:=eq_true p339
                   replace q339:=eq_true q339
                   have p340:0≤(x4_1:Int):=od_
                   have q340:x4_1 < (l0.length:Int):=od_
                   obtain ⟨ad340,e340,hx340_0,hx340_1,hx340_2⟩:=at_T37 HR0.out x4_1 p340 q340
                   have hw340_2:=hx340_2
                   have hw340_1:=hx340_1
                   have hw340_0:=hx340_0
                   obtain rfl:ad336=ad340:=(by injection e340)
                   replace hx340_0:=(cb_ HB.out hx340_0 :)
                   replace hx340_1:=(cb_ HB.out hx340_1 :)
                   replace hx340_2:=(cb_ HB.out hx340_2 :)
                   replace p340:=eq_true p340
                   replace q340:=eq_true q340
                   refine start_ (n:=11) (S:=fun w'=>w'.cell? (ad336.add ((x5_4).toNat * 3))=some (.int .i64 ((rd_T37 l0 x5_4).f0))∧w'.cell? ⟨(ad336.add ((x5_4).toNat * 3)).block,(ad336.add ((x5_4).toNat * 3)).off+1,none⟩=some (.int .i64 ((rd_T37 l0 x5_4).f1))∧w'.cell? ⟨(ad336.add ((x5_4).toNat * 3)).block,(ad336.add ((x5_4).toNat * 3)).off+2,none⟩=some (.string ((rd_T37 l0 x5_4).f2))∧w'.cell? (ad336.add ((x4_1).toNat * 3))=some (.int .i64 ((rd_T37 l0 x4_1).f0))∧w'.cell? ⟨(ad336.add ((x4_1).toNat * 3)).block,(ad336.add ((x4_1).toNat * 3)).off+1,none⟩=some (.int .i64 ((rd_T37 l0 x4_1).f1))∧w'.cell? ⟨(ad336.add ((x4_1).toNat * 3)).block,(ad336.add ((x4_1).toNat * 3)).off+2,none⟩=some (.string ((rd_T37 l0 x4_1).f2))) (ds:=[]) #[false,false,false,false,false,false,false,false,false,false,false] (by kernel_rfl) rfl rfl ⟨((cb_ HB.out hw339_0 :)),((cb_ HB.out hw339_1 :)),((cb_ HB.out hw339_2 :)),((cb_ HB.out hw340_0 :)),((cb_ HB.out hw340_1 :)),((cb_ HB.out hw340_2 :))⟩ (fun hHeld=>?_);refine with_tabW spec_TreeOk.tab14 spec_TreeOk.bits14 (fun HT_ HW_=>?_)
                   generalize wr.drew=w31 at HB hx339_0 hx339_1 hx339_2 hx340_0 hx340_1 hx340_2 hHeld ⊢
                   refine pa_ 0 57 ?_
                   refine pa_ 1 58 ?_
                   refine pa_ 2 59 ?_
                   refine pa_ 3 60 ?_
                   refine pa_ 5 62 ?_
                   refine pa_ 6 63 ?_
                   refine pa_ 7 64 ?_
                   refine pa_ 8 65 ?_
                   refine ta6_ 4 61 hHeld ?_
                   refine ta6_ 9 66 hHeld ?_
                   refine pa_ 10 67 ?_
                   refine done_ (done_of HT_.out (by kernel_rfl)) ?_
                   try go_wp2
                   go_roundg k4
                   case measure=>have:=HK1.out;have:=HJ2.out;have:=HJ20.out;have:=HK4.out;omega
                   case rel=>exact ⟨(wrap64 (x5_4+1)),(si_),H',⟨by have:=HK1.out;have:=HJ2.out;have:=HJ20.out;have:=HK4.out;omega⟩,⟨bel_⟩⟩
                 ·rw [if_neg c28] at H
                  exact absurd H (by simp)
                ·rw [if_neg c27] at H
                 exact absurd H (by simp)
               ·rw [if_neg c26] at H
                exact absurd H (by simp)
              ·rw [if_neg c25] at H
               exact absurd H (by simp)
             ·rw [if_neg c24] at H
              have c24b0:decide (x5_4 < x4_1)=false:=df_ c24
              clear c24
              have H':=a_ H
              clear H
              go_wp2
              go_roundg k4
              case measure=>have:=HK1.out;have:=HJ2.out;have:=HJ20.out;have:=HK4.out;omega
              case rel=>exact ⟨(x3_20),(wrap64 (x4_1+1)),(si_),(si_),H',⟨by have:=HK1.out;have:=HJ2.out;have:=HJ20.out;have:=HK4.out;omega⟩,⟨bel_⟩⟩
        ·rw [if_neg c19] at H
         exact absurd H (by simp)
       ·rw [if_neg c18] at H
        exact absurd H (by simp)
   ·rw [if_neg c2] at H
    have c2b0:decide (x4_1 < (l0.length:Int))=false:=df_ c2
    clear c2
    by_cases c32:x3_1=3
    ·rw [if_pos c32] at H
     have c32b0:(x3_1==3)=true:=beq_iff_eq.mpr c32
     have c32b1:(x3_1 != 3)=false:=be_ c32
     clear c32
     by_cases c33:0 < (l0.length:Int)
     ·rw [if_pos c33] at H
      have c33b0:decide (0 < (l0.length:Int))=true:=dt_ c33
      have c33b1:decide (0 < l0.length)=true:=dt_ (by omega)
      clear c33
      obtain rfl:=sj_ H
      have p331:0≤(0:Int):=(by omega)
      have q331:0 < (l0.length:Int):=od_
      obtain ⟨ad331,e331,hx331_0,hx331_1,hx331_2⟩:=at_T37 HR0.out 0 p331 q331
      cases e331
      have qi331:(0 < l0.length)=True:=eq_true (by omega)
      (try rw [show ((0:Int)).toNat=0 from rfl] at hx331_0)
      (try rw [show 0 * 3=0 from rfl] at hx331_0)
      (try rw [Addr.add_zero'] at hx331_0)
      (try rw [show ((0:Int)).toNat=0 from rfl] at hx331_1)
      (try rw [show 0 * 3=0 from rfl] at hx331_1)
      (try rw [Addr.add_zero'] at hx331_1)
      (try rw [show ((0:Int)).toNat=0 from rfl] at hx331_2)
      (try rw [show 0 * 3=0 from rfl] at hx331_2)
      (try rw [Addr.add_zero'] at hx331_2)
      replace hx331_0:=(cb_ HB.out hx331_0 :)
      replace hx331_1:=(cb_ HB.out hx331_1 :)
      replace hx331_2:=(cb_ HB.out hx331_2 :)
      replace p331:=eq_true p331
      replace q331:=eq_true q331
      go_wp2
      go_ret
      exact ⟨fi_,bel_⟩
     ·rw [if_neg c33] at H
      exact absurd H (by simp)
    ·rw [if_neg c32] at H
     have c32b0:(x3_1==3)=false:=bn_ c32
     have c32b1:(x3_1 != 3)=true:=bne_iff_ne.mpr c32
     obtain rfl:=sj_ H
     go_wp2
     go_ret
     exact ⟨fi_,bel_⟩

end Go.Proofs.YtlkheeegkifblaaDoor.P
namespace Go.Proofs.YtlkheeegkifblaaDoor.PL
open Go.RowKit Go.Proofs.YtlkheeegkifblaaDoor.P Go.Proofs.YtlkheeegkifblaaDoorW.PrintWords Go.Proofs.YtlkheeegkifblaaDoorW.PrintLast Go.Proofs.YtlkheeegkifblaaDoor.FP
def wfR (r:S37):Prop:=I64 r.f0∧r.f2.size≤9223372036854775807
theorem treeGo_congr:∀ (l:List S37) (s s':List Int) (roots d:Int),(∀ x,x∈s↔x∈s')→treeGo s roots d l=treeGo s' roots d l
 | [],_,_,_,_,_=>rfl
 | r::rest,s,s',roots,d,h=>by
  have hc:∀ x,x∈r.f0::s↔x∈r.f0::s':=fun x=>by simp only [List.mem_cons,h x]
  have hd:decide (r.f0∉s)=decide (r.f0∉s'):=by simp only [h r.f0]
  unfold treeGo
  rw [hd,treeGo_congr rest _ _ (roots+1) r.f1 hc,treeGo_congr rest _ _ roots r.f1 hc]
theorem rowB_deep {r:S37} (h:rowB r=true):0≤r.f1∧r.f1≤18:=by
 obtain ⟨_,_,d0,d18⟩:=rowB_id h
 exact ⟨d0,d18⟩
theorem st_l1 (t:List S37) (hl:t.length≤1000000000) (roots:Int) (i:Nat) (hi:i < t.length) (b:Bool) (hnext:Ev (fun k=>spec_TreeOk.l0 k t roots ((i:Int)+1)) b):∀ (n j:Nat),j+n=i→Ev (fun k=>spec_TreeOk.l1 k t roots i j) (decide (t[i].f0∉((t.take i).drop j).map (·.f0))&&b)
 | 0,j,h=>by
  have hji:j=i:=by omega
  subst hji
  rw [List.drop_eq_nil_of_le (by rw [List.length_take];omega)]
  refine Ev.step (fun k=>by simp only [spec_TreeOk.l1];rfl) ?_
  refine ev_neg (by omega) ?_
  rw [wrapS j (by omega) (by omega)]
  simpa using hnext
 | n+1,j,h=>by
  have hj:j < (t.take i).length:=by rw [List.length_take];omega
  have hjt:j < t.length:=by omega
  rw [List.drop_eq_getElem_cons hj,List.map_cons,List.getElem_take]
  refine Ev.step (fun k=>by simp only [spec_TreeOk.l1];rfl) ?_
  refine ev_pos (by omega) (ev_pos (by omega) (ev_pos (by omega) (ev_pos (by omega) (ev_pos (by omega) ?_))))
  rw [rdR_get t j hjt,rdR_get t i hi,wrapS j (by omega) (by omega)]
  by_cases hq:t[j].f0=t[i].f0
  ·refine ev_pos hq ?_
   rw [df_ (by simp [hq]),Bool.false_and]
   exact evnow _
  ·refine ev_neg hq ?_
   have ih:=st_l1 t hl roots i hi b hnext n (j+1) (by omega)
   have e:decide (t[i].f0∉t[j].f0::((t.take i).drop (j+1)).map (·.f0))=decide (t[i].f0∉((t.take i).drop (j+1)).map (·.f0)):=by
    rw [decide_eq_decide,List.mem_cons,not_or]
    exact ⟨fun q=>q.2,fun q=>⟨fun e=>hq e.symm,q⟩⟩
   rw [e]
   exact ih
theorem st_l0 (t:List S37) (hl:t.length≤1000000000) (hw:∀ r∈t,wfR r):∀ (n i:Nat) (roots:Int) (h:i+n=t.length) (h1:0 < i) (h2:i≤t.length),0≤roots→roots≤i→rowB (t[i - 1]'(by omega))=true →
  Ev (fun k=>spec_TreeOk.l0 k t roots i) (treeGo ((t.take i).map (·.f0)) roots (t[i - 1]'(by omega)).f1 (t.drop i)&&((t[0]'(by omega)).f0==1))
 | 0,i,roots,h,h1,h2,r0,r1,hp=>by
  rw [List.drop_eq_nil_of_le (by omega)]
  refine Ev.step (fun k=>by simp only [spec_TreeOk.l0];rfl) ?_
  refine ev_neg (by omega) ?_
  unfold treeGo
  by_cases hr:roots=3
  ·refine ev_pos hr (ev_pos (by omega) ?_)
   rw [dt_ hr,Bool.true_and,show rd_T37 t 0=t[0]'(by omega) from rdR_get t 0 (by omega)]
   exact evnow _
  ·refine ev_neg hr ?_
   rw [df_ hr,Bool.false_and]
   exact evnow _
 | n+1,i,roots,h,h1,h2,r0,r1,hp=>by
  have hi:i < t.length:=by omega
  have hi1:i - 1 < t.length:=by omega
  obtain ⟨w0,w1⟩:=hw t[i] (List.getElem_mem hi)
  obtain ⟨d0,d18⟩:=rowB_deep hp
  rw [List.drop_eq_getElem_cons hi]
  refine Ev.step (fun k=>by simp only [spec_TreeOk.l0];rfl) ?_
  refine ev_pos (by omega) (ev_pos (by omega) ?_)
  rw [rdR_get t i hi]
  refine Ev.bind (srow_f t[i] w0 w1) ?_
  unfold treeGo
  cases hrow:rowB t[i] with
  | false =>
   simp only [Bool.false_eq_true,if_false,Bool.false_and]
   refine Ev.step (fun k=>by simp only [spec_TreeOk.j1];rfl) ?_
   exact ev_pos trivial (evnow _)
  | true =>
   simp only [if_true,Bool.true_and]
   have hw1:wrap64 ((i:Int) - 1)=((i - 1:Nat):Int):=by rw [wrap_id _ (by omega) (by omega)];omega
   rw [hw1]
   refine ev_pos (by omega) (ev_pos (by omega) (ev_pos (by omega) ?_))
   rw [rdR_get t (i - 1) hi1,wrap_id (t[i - 1].f1+1) (by omega) (by omega)]
   refine Ev.step (fun k=>by simp only [spec_TreeOk.j1];rfl) ?_
   by_cases hd:t[i].f1 > t[i - 1].f1+1
   ·refine ev_pos (by simpa using hd) ?_
    rw [df_ (show ¬ t[i].f1≤t[i - 1].f1+1 by omega),Bool.false_and,Bool.and_false,Bool.false_and]
    exact evnow _
   ·refine ev_neg (by simpa using hd) (ev_pos (by omega) (ev_pos (by omega) ?_))
    rw [dt_ (show t[i].f1≤t[i - 1].f1+1 by omega),Bool.true_and,rdR_get t i hi,root_f]
    simp only [Option.bind_some]
    have hseen:∀ x,x∈(t.take (i+1)).map (·.f0)↔x∈t[i].f0::(t.take i).map (·.f0):=fun x=>by
     rw [List.take_succ_eq_append_getElem hi,List.map_append,List.mem_append,List.mem_cons]
     simp [or_comm]
    have hstep:∀ (roots':Int),0≤roots'→roots'≤(i+1:Nat)→Ev (fun k=>spec_TreeOk.j2 k t roots' i) (decide (t[i].f0∉(t.take i).map (·.f0))&&(treeGo (t[i].f0::(t.take i).map (·.f0)) roots' t[i].f1 (t.drop (i+1))&&((t[0]'(by omega)).f0==1))):=fun roots' q0 q1=>by
     refine Ev.step (fun k=>by simp only [spec_TreeOk.j2];rfl) ?_
     have ih:=st_l0 t hl hw n (i+1) roots' (by omega) (by omega) (by omega) q0 q1 hrow
     have ih2:Ev (fun k=>spec_TreeOk.l0 k t roots' ((i:Int)+1)) (treeGo (t[i].f0::(t.take i).map (·.f0)) roots' t[i].f1 (t.drop (i+1))&&((t[0]'(by omega)).f0==1)):=by
      rw [←treeGo_congr (t.drop (i+1)) _ _ roots' t[i].f1 hseen]
      exact ih
     have:=st_l1 t hl roots' i hi _ ih2 i 0 (by omega)
     rw [List.drop_zero] at this
     exact this
    cases hroot:rootB t[i].f0 with
    | true =>
     simp only [if_true]
     have hw2:wrap64 (roots+1)=roots+1:=wrap_id _ (by omega) (by omega)
     rw [hw2]
     by_cases he:t[i].f0=roots+1
     ·refine ev_pos he ?_
      rw [dt_ he,Bool.true_and,Bool.and_assoc]
      exact hstep (roots+1) (by omega) (by omega)
     ·refine ev_neg he ?_
      rw [df_ he,Bool.false_and,Bool.and_false,Bool.false_and]
      exact evnow _
    | false =>
     simp only [Bool.false_eq_true,if_false]
     rw [Bool.and_assoc]
     exact hstep roots r0 (by omega)
theorem stree_f (t:List S37) (hl:t.length≤1000000000) (hw:∀ r∈t,wfR r):Ev (fun k=>spec_TreeOk.f k t) (treeB t):=by
 unfold spec_TreeOk.f treeB
 cases t with
 | nil =>
  refine Ev.step (fun k=>by simp only [spec_TreeOk.l0];rfl) ?_
  exact ev_neg (by simp) (ev_neg (by decide) (evnow _))
 | cons r rest =>
  obtain ⟨w0,w1⟩:=hw r List.mem_cons_self
  have hr0:rd_T37 (r::rest) 0=r:=rdR_get (r::rest) 0 (by simp)
  refine Ev.step (fun k=>by simp only [spec_TreeOk.l0];rfl) ?_
  refine ev_pos (by simp) (ev_pos (by omega) ?_)
  rw [hr0]
  refine Ev.bind (srow_f r w0 w1) ?_
  unfold treeGo
  cases hrow:rowB r with
  | false =>
   simp only [Bool.false_eq_true,if_false,Bool.false_and]
   refine Ev.step (fun k=>by simp only [spec_TreeOk.j1];rfl) ?_
   exact ev_pos trivial (evnow _)
  | true =>
   simp only [if_true,Bool.true_and]
   refine ev_neg (by omega) ?_
   refine Ev.step (fun k=>by simp only [spec_TreeOk.j1];rfl) ?_
   refine ev_neg (by decide) (ev_pos (by omega) (ev_pos (by simp) ?_))
   rw [hr0,root_f]
   simp only [Option.bind_some]
   have hstep:∀ (roots':Int),0≤roots'→roots'≤1→Ev (fun k=>spec_TreeOk.j2 k (r::rest) roots' 0) (treeGo [r.f0] roots' r.f1 rest&&(r.f0==1)):=fun roots' q0 q1=>by
    refine Ev.step (fun k=>by simp only [spec_TreeOk.j2];rfl) ?_
    have ih:=st_l0 (r::rest) hl hw rest.length 1 roots' (by simp;omega) (by omega) (by simp) q0 (by omega) hrow
    have:=st_l1 (r::rest) hl roots' 0 (by simp) _ ih 0 0 rfl
    simpa using this
   have hdp:=rowB_deep hrow
   cases hroot:rootB r.f0 with
   | true =>
    simp only [if_true]
    have hd:r.f1=0:=by
     unfold rowB at hrow
     rw [if_pos hroot] at hrow
     simp only [Bool.and_eq_true,decide_eq_true_eq] at hrow
     exact hrow.1
    rw [dt_ (show r.f1≤-1+1 by omega),Bool.true_and,show wrap64 (0+1)=1 from wrap_id (0+1) (by omega) (by omega)]
    by_cases he:r.f0=1
    ·refine ev_pos he ?_
     have:=hstep 1 (by omega) (by omega)
     have e1:(r.f0==1)=true:=beq_iff_eq.2 he
     rw [e1,Bool.and_true] at this
     simpa [he] using this
    ·refine ev_neg he ?_
     rw [df_ (show ¬ r.f0=0+1 by omega),Bool.false_and,Bool.and_false]
     exact evnow _
   | false =>
    simp only [Bool.false_eq_true,if_false]
    have hd:1≤r.f1:=by
     unfold rowB at hrow
     rw [if_neg (by rw [hroot];decide)] at hrow
     simp only [Bool.and_eq_true,decide_eq_true_eq] at hrow
     exact hrow.2.1
    have hne:(r.f0==1)=false:=beq_eq_false_iff_ne.2 fun e=>by rw [e] at hroot;exact absurd hroot (by decide)
    rw [df_ (show ¬ r.f1≤-1+1 by omega),Bool.false_and,Bool.and_false]
    have:=hstep 0 (by omega) (by omega)
    rwa [hne,Bool.and_false] at this
theorem good_fold:∀ (l:List S37) (G:Fo) (seen:List Int) (roots:Nat),treeGo seen (roots:Int) ((dpth G:Int) - 1) l=true→G.ids.Nodup→(∀ x∈G.ids,x≠0∧x < 37∧(x:Int)∈seen)→G.tops=List.range' 1 roots →
  (l.foldl (fun G x=>snoc x.f0.toNat x.f2 x.f1.toNat G) G).ids.Nodup∧(∀ x∈(l.foldl (fun G x=>snoc x.f0.toNat x.f2 x.f1.toNat G) G).ids,x≠0∧x < 37)∧(l.foldl (fun G x=>snoc x.f0.toNat x.f2 x.f1.toNat G) G).tops=[1,2,3]
 | [],G,seen,roots,h,hn,hs,ht=>by
  unfold treeGo at h
  have h3:=of_decide_eq_true h
  refine ⟨hn,fun x hx=>⟨(hs x hx).1,(hs x hx).2.1⟩,?_⟩
  show G.tops=_
  rw [ht,show roots=3 by omega];rfl
 | x::l,G,seen,roots,h,hn,hs,ht=>by
  unfold treeGo at h
  simp only [Bool.and_eq_true,decide_eq_true_eq] at h
  obtain ⟨hrow,hns,hdep,hrest⟩:=h
  obtain ⟨b0,b37,d0,d18⟩:=rowB_id hrow
  have he:x.f1.toNat≤dpth G:=by omega
  have hd:((dpth (snoc x.f0.toNat x.f2 x.f1.toNat G):Int) - 1)=x.f1:=by rw [snoc_dpth _ _ G _ he];omega
  have hx0:x.f0.toNat≠0:=by
   intro e
   have e2:x.f0=0:=by omega
   unfold rowB at hrow
   rw [e2] at hrow
   have r0:rootB (0:Int)=false:=by decide
   have m0:madeB (0:Int)=false:=by decide
   simp [r0,m0] at hrow
  have hi:x.f0.toNat∉G.ids:=fun hc=>hns (by have:=(hs _ hc).2.2;rwa [show ((x.f0.toNat:Nat):Int)=x.f0 by omega] at this)
  have hn2:(snoc x.f0.toNat x.f2 x.f1.toNat G).ids.Nodup:=by
   rw [snoc_ids]
   exact List.nodup_append.2 ⟨hn,by simp,fun a ha b hb e=>by rw [List.mem_singleton.1 hb] at e;exact hi (e ▸ ha)⟩
  have hs2:∀ y∈(snoc x.f0.toNat x.f2 x.f1.toNat G).ids,y≠0∧y < 37∧(y:Int)∈x.f0::seen:=fun y hy=>by
   rw [snoc_ids] at hy
   rcases List.mem_append.1 hy with hy|hy
   ·obtain ⟨q1,q2,q3⟩:=hs y hy;exact ⟨q1,q2,List.mem_cons_of_mem _ q3⟩
   ·rw [List.mem_singleton.1 hy]
    exact ⟨hx0,by omega,by rw [show ((x.f0.toNat:Nat):Int)=x.f0 by omega];exact List.mem_cons_self⟩
  rw [List.foldl_cons]
  by_cases hroot:rootB x.f0=true
  ·rw [if_pos hroot,Bool.and_eq_true,decide_eq_true_eq] at hrest
   have hd0:x.f1=0:=by
    unfold rowB at hrow
    rw [if_pos hroot] at hrow
    simp only [Bool.and_eq_true,decide_eq_true_eq] at hrow
    exact hrow.1
   refine good_fold l _ (x.f0::seen) (roots+1) ?_ hn2 hs2 ?_
   ·rw [hd];exact hrest.2
   ·rw [snoc_tops _ _ G _ he,if_pos (by omega),ht,List.range'_concat]
    rw [show x.f0.toNat=1+1 * roots by omega]
  ·rw [if_neg hroot] at hrest
   have hd1:1≤x.f1:=by
    unfold rowB at hrow
    rw [if_neg hroot] at hrow
    simp only [Bool.and_eq_true,decide_eq_true_eq] at hrow
    exact hrow.2.1
   refine good_fold l _ (x.f0::seen) roots ?_ hn2 hs2 ?_
   ·rw [hd];exact hrest
   ·rw [snoc_tops _ _ G _ he,if_neg (by omega),ht]
theorem good_of {l:List S37} (h:treeB l=true):Good (toFo l):=by
 obtain ⟨h1,h2,h3⟩:=good_fold l .nil [] 0 h (by simp [Fo.ids]) (by simp [Fo.ids]) rfl
 exact ⟨h1,fun x hx=>(h2 x hx).1,h3,by have:=nodup_len 37 _ h1 (fun x hx=>(h2 x hx).2);unfold toFo;omega⟩
theorem opB_kind {k i u a:Int} {s:ByteArray} (h:opB k i u a s=true):k=1∨k=2∨k=3:=by
 unfold opB at h
 by_cases h1:k=1
 ·exact Or.inl h1
 ·by_cases h2:k=2
  ·exact Or.inr (Or.inl h2)
  ·by_cases h3:k=3
   ·exact Or.inr (Or.inr h3)
   ·rw [if_neg h1,if_neg h2,if_neg h3] at h;simp at h
def opDoR (l:List S37) (k i u a:Int) (s:ByteArray):List S37:=if opB k i u a s=true then (if treeB l=true then (doF (toFo l) k i u a s).fl 0 else []) else []
theorem iopDo_f (l:List S37) (k i u a:Int) (s:ByteArray) (hs:s.size≤9223372036854775807):Ev (fun n=>impl_OpDo.f n l k i u a s) (opDoR l k i u a s):=by
 unfold impl_OpDo.f opDoR
 exact Ev.bind (opOk_f k i u a s hs) (evnow _)
def okT (x:Nat) (t:ByteArray):Bool:=if rootB (x:Int) then (t.toList==([]:List UInt8)) else madeB (x:Int)&&textB t
structure Val (G:Fo):Prop where
 nd:G.ids.Nodup
 tops:G.tops=[1,2,3]
 ok:∀ x∈G.ids,okT x (txtF x G)=true
theorem okT_ne {x:Nat} {t:ByteArray} (h:okT x t=true):1≤x∧x < 37:=by
 unfold okT at h
 by_cases hr:rootB (x:Int)=true
 ·unfold rootB at hr;simp only [Bool.and_eq_true,decide_eq_true_eq] at hr;omega
 ·rw [if_neg hr,Bool.and_eq_true] at h
  have:=made_small _ h.1
  obtain ⟨m,hm,h4,h37⟩:=made_num h.1
  omega
theorem Val.ne0 {G:Fo} (v:Val G):∀ x∈G.ids,x≠0:=fun x hx=>by have:=okT_ne (v.ok x hx);omega
theorem Val.three {G:Fo} (v:Val G):3∈G.tops:=by rw [v.tops];simp
theorem made_not_root {x:Int} (h:madeB x=true):rootB x=false:=by
 obtain ⟨m,rfl,h4,h37⟩:=made_num h
 unfold rootB;simp;omega
theorem Val.top {G:Fo} (v:Val G) {x:Nat} (hm:madeB (x:Int)=true):x∉G.tops:=by
 have:=made_not_root hm
 rw [v.tops]
 intro h
 simp only [List.mem_cons,List.not_mem_nil,or_false] at h
 rcases h with rfl|rfl|rfl <;> exact absurd this (by decide)
theorem sub_len:∀ (l m:List Nat),l.Nodup→(∀ x∈l,x∈m)→l.length≤m.length
 | [],m,_,_=>Nat.zero_le _
 | x::l,m,hn,h=>by
  obtain ⟨h1,h2⟩:=List.nodup_cons.1 hn
  have:=sub_len l (m.erase x) h2 fun y hy=>(List.mem_erase_of_ne (fun (e:y=x)=>h1 (e ▸ hy))).2 (h y (List.mem_cons_of_mem _ hy))
  rw [List.length_erase_of_mem (h x List.mem_cons_self)] at this
  have:=List.length_pos_of_mem (h x List.mem_cons_self)
  simp only [List.length_cons];omega
theorem made_list:∀ n:Nat,n < 37→madeB (n:Int)=true→n∈[11,12,13,14,15,16,21,22,23,24,25,26,31,32,33,34,35,36]:=by decide
theorem all_list:∀ n:Nat,n < 37→(rootB (n:Int) || madeB (n:Int))=true→n∈[1,2,3,11,12,13,14,15,16,21,22,23,24,25,26,31,32,33,34,35,36]:=by decide
theorem Val.len {G:Fo} (v:Val G):G.ids.length≤21:=sub_len _ [1,2,3,11,12,13,14,15,16,21,22,23,24,25,26,31,32,33,34,35,36] v.nd fun x hx=>by
 have h:=v.ok x hx
 have h2:=okT_ne h
 refine all_list x h2.2 ?_
 unfold okT at h
 by_cases hr:rootB (x:Int)=true
 ·rw [hr];rfl
 ·rw [if_neg hr,Bool.and_eq_true] at h
  rw [h.1,Bool.or_true]
theorem Val.good {G:Fo} (v:Val G):Good G:=⟨v.nd,v.ne0,v.tops,by have:=v.len;omega⟩
theorem made_of_ok {x:Nat} {t:ByteArray} (h:okT x t=true) (h3:4≤x):madeB (x:Int)=true∧textB t=true:=by
 unfold okT at h
 have hr:¬ rootB (x:Int)=true:=by unfold rootB;simp;omega
 rwa [if_neg hr,Bool.and_eq_true] at h
theorem treeGo_rows:∀ (l:List S37) (seen:List Int) (roots d:Int),treeGo seen roots d l=true→∀ r∈l,rowB r=true
 | [],_,_,_,_,r,hr=>by cases hr
 | x::l,seen,roots,d,h,r,hr=>by
  unfold treeGo at h
  simp only [Bool.and_eq_true] at h
  obtain ⟨h1,_,_,h2⟩:=h
  rcases List.mem_cons.1 hr with rfl|hr
  ·exact h1
  ·split at h2
   ·simp only [Bool.and_eq_true] at h2;exact treeGo_rows l _ _ _ h2.2 r hr
   ·exact treeGo_rows l _ _ _ h2 r hr
theorem row_fl {G:Fo} (hn:G.ids.Nodup) {x d:Nat} (hx:x∈G.ids):(⟨(x:Int),(dep x d G:Int),txtF x G⟩:S37)∈G.fl d:=by
 obtain ⟨pre,post,s⟩:=spot x G d hn hx
 rw [s.all];simp
theorem val_of {l:List S37} (h:treeB l=true):Val (toFo l):=by
 have g:=good_of h
 refine ⟨g.nd,g.tops,fun x hx=>?_⟩
 have hr:=row_fl g.nd (d:=0) hx
 rw [toFo_fl h] at hr
 have:=treeGo_rows l _ _ _ h _ hr
 unfold rowB at this
 unfold okT
 simp only at this
 split
 ·rename_i e;rw [if_pos e,Bool.and_eq_true] at this;exact this.2
 ·rename_i e;rw [if_neg e] at this;simp only [Bool.and_eq_true] at this;rw [this.1,this.2.2.2];rfl
theorem go_in:∀ (F:Fo) (d:Nat) (seen:List Int) (roots prev:Int) (rest:List S37),1≤d→(d:Int)≤prev+1→F.ids.Nodup→(∀ x∈F.ids,(x:Int)∉seen)→(∀ r∈F.fl d,rowB r=true∧rootB r.f0=false) →
  (∀ (seen':List Int) (prev':Int),(d:Int)≤prev'+1→(∀ y,y∈seen'↔y∈seen∨∃ x∈F.ids,y=(x:Int))→treeGo seen' roots prev' rest=true)→treeGo seen roots prev (F.fl d++rest)=true
 | .nil,d,seen,roots,prev,rest,h1,hd,hn,hs,hr,k=>k seen prev hd fun y=>by simp [Fo.ids]
 | .nd j t k n,d,seen,roots,prev,rest,h1,hd,hn,hs,hr,kk=>by
  obtain ⟨n1,n2,n3,n4,n5⟩:=nodup_nd hn
  obtain ⟨q1,q2⟩:=hr ⟨(j:Int),(d:Int),t⟩ (by simp [Fo.fl])
  simp only at q2
  rw [Fo.fl,List.cons_append,List.append_assoc]
  unfold treeGo
  simp only [q1,q2,Bool.true_and,Bool.false_eq_true,if_false]
  rw [dt_ (hs j (by simp [Fo.ids])),dt_ hd,Bool.true_and,Bool.true_and]
  refine go_in k (d+1) _ roots d _ (by omega) (by omega) n3 (fun x hx=>?_) (fun r hr'=>hr r (by simp [Fo.fl,hr'])) fun seen1 prev1 hp1 hs1=>?_
  ·rw [List.mem_cons,not_or]
   exact ⟨fun e=>n1 (by rw [show j=x by omega];exact hx),hs x (by simp [Fo.ids,hx])⟩
  ·refine go_in n d seen1 roots prev1 rest h1 (by omega) n4 (fun x hx=>?_) (fun r hr'=>hr r (by simp [Fo.fl,hr'])) fun seen2 prev2 hp2 hs2=>?_
   ·rw [hs1,List.mem_cons]
    rintro ((e|e)|⟨z,hz,e⟩)
    ·exact n2 (by rw [show j=x by omega];exact hx)
    ·exact hs x (by simp [Fo.ids,hx]) e
    ·exact n5 z hz (by rw [show z=x by omega];exact hx)
   ·refine kk seen2 prev2 hp2 fun y=>?_
    rw [hs2,hs1]
    simp only [Fo.ids,List.mem_cons,List.mem_append]
    constructor
    ·rintro (((e|e)|⟨x,hx,e⟩)|⟨x,hx,e⟩)
     ·exact Or.inr ⟨j,Or.inl rfl,e⟩
     ·exact Or.inl e
     ·exact Or.inr ⟨x,Or.inr (Or.inl hx),e⟩
     ·exact Or.inr ⟨x,Or.inr (Or.inr hx),e⟩
    ·rintro (e|⟨x,rfl|hx|hx,e⟩)
     ·exact Or.inl (Or.inl (Or.inr e))
     ·exact Or.inl (Or.inl (Or.inl e))
     ·exact Or.inl (Or.inr ⟨x,hx,e⟩)
     ·exact Or.inr ⟨x,hx,e⟩
theorem fl_get {F:Fo} {d:Nat} {r:S37} (hn:F.ids.Nodup) (h:r∈F.fl d):∃ x∈F.ids,r=⟨(x:Int),(dep x d F:Int),txtF x F⟩:=by
 obtain ⟨x,hx,e⟩:=fl_ids F d h
 obtain ⟨pre,post,s⟩:=spot x F d hn hx
 refine ⟨x,hx,?_⟩
 have hm:=fl_map F d
 have hnd:((F.fl d).map (·.f0)).Nodup:=by
  rw [hm]
  exact (List.pairwise_map.2 (List.Pairwise.imp (fun {a b} (hne:a≠b)=>(by intro e2;exact hne (Int.ofNat.inj e2):Int.ofNat a≠Int.ofNat b)) hn))
 rw [s.all] at h hnd
 rw [List.map_append,List.map_cons,List.nodup_append] at hnd
 obtain ⟨_,h2,h3⟩:=hnd
 rcases List.mem_append.1 h with h|h
 ·exact absurd e (s.out r h)
 ·rcases List.mem_cons.1 h with h|h
  ·exact h
  ·exfalso
   refine (List.nodup_cons.1 h2).1 ?_
   rw [←e]
   exact List.mem_map.2 ⟨r,h,rfl⟩
theorem three_shape {G:Fo} (h:G.tops=[1,2,3]):∃ t1 k1 t2 k2 t3 k3,G=.nd 1 t1 k1 (.nd 2 t2 k2 (.nd 3 t3 k3 .nil)):=by
 match G,h with
 | .nd a t1 k1 (.nd b t2 k2 (.nd c t3 k3 .nil)),h =>
  simp only [Fo.tops,List.cons.injEq,and_true] at h
  obtain ⟨rfl,rfl,rfl⟩:=h
  exact ⟨t1,k1,t2,k2,t3,k3,rfl⟩
theorem treeB_fl {G:Fo} (v:Val G):treeB (G.fl 0)=true:=by
 have hok:=v.ok
 have hnd:=v.nd
 obtain ⟨t1,k1,t2,k2,t3,k3,rfl⟩:=three_shape v.tops
 obtain ⟨a1,a2,a3,a4,a5⟩:=nodup_nd hnd
 obtain ⟨b1,b2,b3,b4,b5⟩:=nodup_nd a4
 obtain ⟨c1,c2,c3,c4,c5⟩:=nodup_nd b4
 simp only [Fo.ids,List.mem_cons,List.mem_append,not_or,List.not_mem_nil,or_false,not_false_eq_true,and_true] at a2 a5 b2 b5
 replace a5:∀ x∈k1.ids,(x=2∨x∈k2.ids∨x=3∨x∈k3.ids)→False:=fun x hx g=>by have:=a5 x hx;grind
 replace b5:∀ x∈k2.ids,(x=3∨x∈k3.ids)→False:=fun x hx g=>by have:=b5 x hx;grind
 have big:∀ k:Fo,k.ids.Nodup→(∀ x∈k.ids,x≠1∧x≠2∧x≠3)→(∀ x∈k.ids,okT x (txtF x k)=true)→∀ r∈k.fl 1,rowB r=true∧rootB r.f0=false:=by
  intro k hn hne hk r hr
  obtain ⟨x,hx,rfl⟩:=fl_get hn hr
  have h4:=hne x hx
  have h5:=okT_ne (hk x hx)
  obtain ⟨m1,m2⟩:=made_of_ok (hk x hx) (by omega)
  have mr:=made_not_root m1
  have hd:=fl_deep k 1 hr
  have hl:=fl_le k 1 hr
  have hlen:k.ids.length≤18:=sub_len _ [11,12,13,14,15,16,21,22,23,24,25,26,31,32,33,34,35,36] hn fun y hy=>by
   have g4:=hne y hy
   have g5:=okT_ne (hk y hy)
   exact made_list y g5.2 (made_of_ok (hk y hy) (by omega)).1
  simp only at hd hl
  refine ⟨?_,mr⟩
  unfold rowB
  simp only [mr,Bool.false_eq_true,if_false,m1,m2,Bool.true_and,Bool.and_true]
  rw [dt_ (by omega),dt_ (by omega)];rfl
 have root:∀ (x:Nat) (t:ByteArray),rootB (x:Int)=true→okT x t=true→rowB ⟨(x:Int),0,t⟩=true:=by
  intro x t hr h
  unfold okT at h
  rw [if_pos hr] at h
  unfold rowB
  simp only [hr,if_true,h];rfl
 have o1:okT 1 t1=true:=by have:=hok 1 (by simp [Fo.ids]);rwa [txtF,if_pos rfl] at this
 have o2:okT 2 t2=true:=by have:=hok 2 (by simp [Fo.ids]);rwa [txtF,if_neg (by decide),if_neg (fun g=>a5 2 g (Or.inl rfl)),txtF,if_pos rfl] at this
 have o3:okT 3 t3=true:=by have:=hok 3 (by simp [Fo.ids]);rwa [txtF,if_neg (by decide),if_neg (fun g=>a5 3 g (Or.inr (Or.inr (Or.inl rfl)))),txtF,if_neg (by decide),if_neg (fun g=>b5 3 g (Or.inl rfl)),txtF,if_pos rfl] at this
 have i1:∀ x∈k1.ids,okT x (txtF x k1)=true:=fun x hx=>by
  have:=hok x (by simp [Fo.ids,hx])
  rwa [txtF,if_neg (fun e=>a1 (by rw [e];exact hx)),if_pos hx] at this
 have i2:∀ x∈k2.ids,okT x (txtF x k2)=true:=fun x hx=>by
  have:=hok x (by simp [Fo.ids,hx])
  rwa [txtF,if_neg (fun e=>a2.2.1 (by rw [e];exact hx)),if_neg (fun g=>a5 x g (by grind)),txtF,if_neg (fun e=>b1 (by rw [e];exact hx)),if_pos hx] at this
 have i3:∀ x∈k3.ids,okT x (txtF x k3)=true:=fun x hx=>by
  have:=hok x (by simp [Fo.ids,hx])
  rwa [txtF,if_neg (fun e=>a2.2.2.2 (by rw [e];exact hx)),if_neg (fun g=>a5 x g (by grind)),txtF,if_neg (fun e=>b2.2 (by rw [e];exact hx)),if_neg (fun g=>b5 x g (by grind)),txtF,if_neg (fun e=>c1 (by rw [e];exact hx)),if_pos hx] at this
 have e1:=big k1 a3 (fun x hx=>⟨fun e=>a1 (e ▸ hx),fun e=>a5 x hx (Or.inl e),fun e=>a5 x hx (Or.inr (Or.inr (Or.inl e)))⟩) i1
 have e2:=big k2 b3 (fun x hx=>⟨fun e=>a2.2.1 (e ▸ hx),fun e=>b1 (e ▸ hx),fun e=>b5 x hx (Or.inl e)⟩) i2
 have e3:=big k3 c3 (fun x hx=>⟨fun e=>a2.2.2.2 (e ▸ hx),fun e=>b2.2 (e ▸ hx),fun e=>c1 (e ▸ hx)⟩) i3
 have r1:=root 1 t1 (by decide) o1
 have r2:=root 2 t2 (by decide) o2
 have r3:=root 3 t3 (by decide) o3
 simp only [Fo.fl,Nat.zero_add,List.append_nil]
 unfold treeB
 have q1:rootB ((1:Nat):Int)=true:=by decide
 have q2:rootB ((2:Nat):Int)=true:=by decide
 have q3:rootB ((3:Nat):Int)=true:=by decide
 unfold treeGo
 simp only [Int.natCast_zero] at r1 r2 r3 ⊢
 rw [r1,Bool.true_and,dt_ (by simp),Bool.true_and,dt_ (by omega),Bool.true_and,if_pos q1,dt_ (by omega),Bool.true_and]
 refine go_in k1 1 _ _ _ _ (by omega) (by omega) a3 (fun x hx=>?_) e1 fun s1 p1 hp1 hs1=>?_
 ·simp only [List.mem_cons,List.not_mem_nil,or_false]
  intro e;exact a1 (by rw [show 1=x by omega];exact hx)
 unfold treeGo
 have z2:((2:Nat):Int)∉s1:=by
  rw [hs1];simp only [List.mem_cons,List.not_mem_nil,or_false]
  rintro (e|⟨x,hx,e⟩)
  ·omega
  ·exact a5 x hx (Or.inl (by omega))
 simp only
 rw [r2,Bool.true_and,dt_ z2,Bool.true_and,dt_ (by omega),Bool.true_and,if_pos q2,dt_ (by omega),Bool.true_and]
 refine go_in k2 1 _ _ _ _ (by omega) (by omega) b3 (fun x hx=>?_) e2 fun s2 p2 hp2 hs2=>?_
 ·rw [List.mem_cons,hs1];simp only [List.mem_cons,List.not_mem_nil,or_false]
  rintro (e|e|⟨y,hy,e⟩)
  ·exact b1 (by rw [show 2=x by omega];exact hx)
  ·exact a2.2.1 (by rw [show 1=x by omega];exact hx)
  ·exact a5 y hy (by rw [show y=x by omega];exact Or.inr (Or.inl hx))
 unfold treeGo
 have z3:((3:Nat):Int)∉s2:=by
  rw [hs2,List.mem_cons,hs1];simp only [List.mem_cons,List.not_mem_nil,or_false]
  rintro ((e|e|⟨x,hx,e⟩)|⟨x,hx,e⟩)
  ·omega
  ·omega
  ·exact a5 x hx (Or.inr (Or.inr (Or.inl (by omega))))
  ·exact b5 x hx (Or.inl (by omega))
 simp only
 rw [r3,Bool.true_and,dt_ z3,Bool.true_and,dt_ (by omega),Bool.true_and,if_pos q3,dt_ (by omega),Bool.true_and]
 rw [←List.append_nil (k3.fl 1)]
 refine go_in k3 1 _ _ _ _ (by omega) (by omega) c3 (fun x hx=>?_) e3 fun s3 p3 hp3 hs3=>?_
 ·rw [List.mem_cons,hs2,List.mem_cons,hs1];simp only [List.mem_cons,List.not_mem_nil,or_false]
  rintro (e|(e|e|⟨y,hy,e⟩)|⟨y,hy,e⟩)
  ·exact c1 (by rw [show 3=x by omega];exact hx)
  ·exact b2.2 (by rw [show 2=x by omega];exact hx)
  ·exact a2.2.2.2 (by rw [show 1=x by omega];exact hx)
  ·exact a5 y hy (by rw [show y=x by omega];exact Or.inr (Or.inr (Or.inr hx)))
  ·exact b5 y hy (by rw [show y=x by omega];exact Or.inr hx)
 unfold treeGo
 exact dt_ (by omega)
theorem Val.does {G:Fo} (v:Val G) {k u a:Int} {i:Nat} {s:ByteArray} (h:opB k (i:Int) u a s=true):Does G k i u a s (doF G k i u a s) :=
 FP.does v.nd v.ne0 v.three k i (v.top (opB_made _ _ _ _ _ h)) u a s (opB_kind h)
theorem opB_text {k i u a:Int} {s:ByteArray} (h:opB k i u a s=true) (hk:k=1∨k=2):textB s=true:=by
 unfold opB at h
 simp only [Bool.and_eq_true] at h
 rcases hk with rfl|rfl
 ·rw [if_pos rfl,Bool.and_eq_true] at h;exact h.2.2
 ·rw [if_neg (by decide),if_pos rfl] at h;simp only [Bool.and_eq_true] at h;exact h.2.2
theorem okT_made {x:Nat} {t:ByteArray} (h:madeB (x:Int)=true) (ht:textB t=true):okT x t=true:=by
 unfold okT;rw [made_not_root h,h,ht];rfl
theorem Val.done {G:Fo} (v:Val G) {k u a:Int} {i:Nat} {s:ByteArray} (h:opB k (i:Int) u a s=true) {G':Fo} (hd:Does G k i u a s G'):Val G':=by
 have hm:=opB_made _ _ _ _ _ h
 have hi0:i≠0:=by rintro rfl;exact absurd hm (by decide)
 obtain ⟨h1,h2,h3⟩:=do_tops v.nd v.ne0 hi0 (v.top hm) hd
 refine ⟨h2,h1.trans v.tops,fun x hx=>?_⟩
 cases hd with
 | text hk hi =>
  rw [setF_ids] at hx
  by_cases e:x=i
  ·subst e;rw [set_txt_eq _ _ hi];exact okT_made hm (opB_text h (Or.inr hk))
  ·rw [set_txt_ne _ _ e];exact v.ok x hx
 | make hk hi o =>
  rcases (o.mem x).1 hx with rfl|g|g
  ·rw [o.txt];exact okT_made hm (opB_text h (Or.inl hk))
  ·simp [Fo.ids] at g
  ·rw [o.txt_old g];exact v.ok x g
 | move hk hi hw o=>rw [o.txt ((o.ids x).1 hx)];exact v.ok x ((o.ids x).1 hx)
 | none hk=>exact v.ok x hx
theorem Val.doF {G:Fo} (v:Val G) {k u a:Int} {i:Nat} {s:ByteArray} (h:opB k (i:Int) u a s=true):Val (doF G k i u a s):=v.done h (v.does h)
theorem opDo_val {l:List S37} {k u a:Int} {i:Nat} {s:ByteArray} (ho:opB k (i:Int) u a s=true) (ht:treeB l=true) :
  opDoR l k i u a s=(FP.doF (toFo l) k i u a s).fl 0∧treeB (opDoR l k i u a s)=true∧toFo (opDoR l k i u a s)=FP.doF (toFo l) k i u a s∧Val (FP.doF (toFo l) k i u a s):=by
 have e:opDoR l k i u a s=(FP.doF (toFo l) k i u a s).fl 0:=by unfold opDoR;rw [if_pos ho,if_pos ht]
 have v:=(val_of ht).doF ho
 have ht2:treeB (opDoR l k i u a s)=true:=by rw [e];exact treeB_fl v
 exact ⟨e,ht2,toFo_of ht2 e.symm,v⟩
end Go.Proofs.YtlkheeegkifblaaDoor.PL
namespace Go.Proofs.YtlkheeegkifblaaDoor.FP
open Go.Proofs.YtlkheeegkifblaaDoor.P
theorem hd_shape {F:Fo} {x:Nat} (h:F.hd=x) (hx:x≠0):∃ t k n,F=.nd x t k n:=by
 cases F with
 | nil=>exact absurd h.symm hx
 | nd j t k n=>exact ⟨t,k,n,by rw [←h];rfl⟩
structure Back (x up p:Nat) (F:Fo):Prop where
 mem:sib x p F=0∨sib x p F∈F.ids
 aft:sib x p F≠0→insAfter (sib x p F) x (txtF x F) (sub x F) (del x F)=F
 fst:sib x p F=0→par x up F∈F.ids∧insFirst (par x up F) x (txtF x F) (sub x F) (del x F)=F
 upr:sib x p F≠0→par (sib x p F) up F=par x up F∧sib x p F≠x
theorem back_in {x:Nat} (hx0:x≠0):∀ (F:Fo) (up p:Nat),F.ids.Nodup→(∀ y∈F.ids,y≠0)→x∈F.ids→F.hd≠x→Back x up p F
 | .nil,up,p,_,_,hx,_=>by simp [Fo.ids] at hx
 | .nd j u k n,up,p,hn,h0,hx,hh=>by
  obtain ⟨n1,n2,n3,n4,n5⟩:=nodup_nd hn
  have hj0:j≠0:=h0 j (by simp [Fo.ids])
  have e:¬ j=x:=hh
  simp only [Fo.ids,List.mem_cons,List.mem_append] at hx
  by_cases hk:x∈k.ids
  ·have hxn:=n5 x hk
   have es:sib x p (.nd j u k n)=sib x 0 k:=by rw [sib,if_neg e,if_pos hk]
   have et:txtF x (.nd j u k n)=txtF x k:=by rw [txtF,if_neg e,if_pos hk]
   have eb:sub x (.nd j u k n)=sub x k:=by rw [sub,if_neg e,if_pos hk]
   have ep:par x up (.nd j u k n)=par x j k:=by rw [par,if_neg e,if_pos hk]
   have ed:FP.del x (.nd j u k n)=.nd j u (FP.del x k) n:=by rw [FP.del,if_neg e,del_id x hxn]
   by_cases hkx:k.hd=x
   ·obtain ⟨t,s,m,rfl⟩:=hd_shape hkx hx0
    have s0:sib x 0 (.nd x t s m)=0:=by rw [sib,if_pos rfl]
    refine ⟨Or.inl (es.trans s0),fun h=>absurd (es.trans s0) h,fun _=>?_,fun h=>absurd (es.trans s0) h⟩
    rw [ep,et,eb,ed,par,if_pos rfl,txtF,if_pos rfl,sub,if_pos rfl,FP.del,if_pos rfl,insFirst,if_pos rfl]
    exact ⟨by simp [Fo.ids],rfl⟩
   ·have b:=back_in hx0 k j 0 n3 (fun y hy=>h0 y (by simp [Fo.ids,hy])) hk hkx
    refine ⟨?_,fun h=>?_,fun h=>?_,fun h=>?_⟩
    ·rw [es];exact b.mem.imp id fun h=>by simp [Fo.ids,h]
    ·rw [es] at h
     have hm:=b.mem.resolve_left h
     rw [es,et,eb,ed,insAfter,if_neg (fun g=>n1 (by rw [g];exact hm)),b.aft h,insAfter_id _ _ _ _ (n5 _ hm)]
    ·rw [es] at h
     obtain ⟨q1,q2⟩:=b.fst h
     refine ⟨by rw [ep];simp [Fo.ids,q1],?_⟩
     rw [et,eb,ed,ep,insFirst,if_neg (fun g=>n1 (by rw [g];exact q1)),q2,insFirst_id _ _ _ _ (n5 _ q1)]
    ·rw [es] at h ⊢
     have hm:=b.mem.resolve_left h
     obtain ⟨q1,q2⟩:=b.upr h
     refine ⟨?_,q2⟩
     rw [ep,par,if_neg (fun g=>n1 (by rw [g];exact hm)),if_pos hm,q1]
  ·have hxn:x∈n.ids:=by grind
   have es:sib x p (.nd j u k n)=sib x j n:=by rw [sib,if_neg e,if_neg hk]
   have et:txtF x (.nd j u k n)=txtF x n:=by rw [txtF,if_neg e,if_neg hk]
   have eb:sub x (.nd j u k n)=sub x n:=by rw [sub,if_neg e,if_neg hk]
   have ep:par x up (.nd j u k n)=par x up n:=by rw [par,if_neg e,if_neg hk]
   have ed:FP.del x (.nd j u k n)=.nd j u k (FP.del x n):=by rw [FP.del,if_neg e,del_id x hk]
   by_cases hnx:n.hd=x
   ·obtain ⟨t,s,m,rfl⟩:=hd_shape hnx hx0
    have s0:sib x j (.nd x t s m)=j:=by rw [sib,if_pos rfl]
    refine ⟨?_,fun h=>?_,fun h=>absurd (h.symm.trans (es.trans s0)).symm hj0,fun h=>?_⟩
    ·rw [es,s0];exact Or.inr (by simp [Fo.ids])
    ·rw [es,s0,et,eb,ed,txtF,if_pos rfl,sub,if_pos rfl,FP.del,if_pos rfl,insAfter,if_pos rfl]
    ·rw [es,s0,ep,par,if_pos rfl,par,if_pos rfl];exact ⟨rfl,e⟩
   ·have b:=back_in hx0 n up j n4 (fun y hy=>h0 y (by simp [Fo.ids,hy])) hxn hnx
    refine ⟨?_,fun h=>?_,fun h=>?_,fun h=>?_⟩
    ·rw [es];exact b.mem.imp id fun h=>by simp [Fo.ids,h]
    ·rw [es] at h
     have hm:=b.mem.resolve_left h
     rw [es,et,eb,ed,insAfter,if_neg (fun g=>n2 (by rw [g];exact hm)),b.aft h,insAfter_id _ _ _ _ (fun g=>n5 _ g hm)]
    ·rw [es] at h
     obtain ⟨q1,q2⟩:=b.fst h
     refine ⟨by rw [ep];simp [Fo.ids,q1],?_⟩
     rw [et,eb,ed,ep,insFirst,if_neg (fun g=>n2 (by rw [g];exact q1)),q2,insFirst_id _ _ _ _ (fun g=>n5 _ g q1)]
    ·rw [es] at h ⊢
     have hm:=b.mem.resolve_left h
     obtain ⟨q1,q2⟩:=b.upr h
     refine ⟨?_,q2⟩
     rw [ep,par,if_neg (fun g=>n2 (by rw [g];exact hm)),if_neg (fun g=>n5 _ g hm),q1]
structure BackT (x:Nat) (F:Fo):Prop where
 mem:sibT x F=0∨sibT x F∈F.ids
 aft:sibT x F≠0→insAfter (sibT x F) x (txtF x F) (sub x F) (del x F)=F
 fst:sibT x F=0→insFirst (par x 0 F) x (txtF x F) (sub x F) (del x F)=F
 up:par x 0 F∈F.ids
 upr:sibT x F≠0→par (sibT x F) 0 F=par x 0 F∧sibT x F≠x
theorem back_top {x:Nat} (hx0:x≠0):∀ (F:Fo),F.ids.Nodup→(∀ y∈F.ids,y≠0)→x∈F.ids→x∉F.tops→BackT x F
 | .nil,_,_,hx,_=>by simp [Fo.ids] at hx
 | .nd j u k n,hn,h0,hx,ht=>by
  have hpar:par x 0 (.nd j u k n)∈(Fo.nd j u k n).ids:=by
   rcases dep_par x (.nd j u k n) 0 0 hn hx with ⟨h,_⟩|⟨h,_⟩
   ·exact absurd h ht
   ·exact h
  obtain ⟨n1,n2,n3,n4,n5⟩:=nodup_nd hn
  have hj0:j≠0:=h0 j (by simp [Fo.ids])
  simp only [Fo.tops,List.mem_cons,not_or] at ht
  have e:¬ j=x:=fun g=>ht.1 g.symm
  simp only [Fo.ids,List.mem_cons,List.mem_append] at hx
  by_cases hk:x∈k.ids
  ·have hxn:=n5 x hk
   have es:sibT x (.nd j u k n)=sib x 0 k:=by rw [sibT,if_pos hk]
   have et:txtF x (.nd j u k n)=txtF x k:=by rw [txtF,if_neg e,if_pos hk]
   have eb:sub x (.nd j u k n)=sub x k:=by rw [sub,if_neg e,if_pos hk]
   have ep:par x 0 (.nd j u k n)=par x j k:=by rw [par,if_neg e,if_pos hk]
   have ed:FP.del x (.nd j u k n)=.nd j u (FP.del x k) n:=by rw [FP.del,if_neg e,del_id x hxn]
   by_cases hkx:k.hd=x
   ·obtain ⟨t,s,m,rfl⟩:=hd_shape hkx hx0
    have s0:sib x 0 (.nd x t s m)=0:=by rw [sib,if_pos rfl]
    refine ⟨Or.inl (es.trans s0),fun h=>absurd (es.trans s0) h,fun _=>?_,hpar,fun h=>absurd (es.trans s0) h⟩
    rw [ep,et,eb,ed,par,if_pos rfl,txtF,if_pos rfl,sub,if_pos rfl,FP.del,if_pos rfl,insFirst,if_pos rfl]
   ·have b:=back_in hx0 k j 0 n3 (fun y hy=>h0 y (by simp [Fo.ids,hy])) hk hkx
    refine ⟨?_,fun h=>?_,fun h=>?_,hpar,fun h=>?_⟩
    ·rw [es];exact b.mem.imp id fun h=>by simp [Fo.ids,h]
    ·rw [es] at h
     have hm:=b.mem.resolve_left h
     rw [es,et,eb,ed,insAfter,if_neg (fun g=>n1 (by rw [g];exact hm)),b.aft h,insAfter_id _ _ _ _ (n5 _ hm)]
    ·rw [es] at h
     obtain ⟨q1,q2⟩:=b.fst h
     rw [et,eb,ed,ep,insFirst,if_neg (fun g=>n1 (by rw [g];exact q1)),q2,insFirst_id _ _ _ _ (n5 _ q1)]
    ·rw [es] at h ⊢
     have hm:=b.mem.resolve_left h
     obtain ⟨q1,q2⟩:=b.upr h
     refine ⟨?_,q2⟩
     rw [ep,par,if_neg (fun g=>n1 (by rw [g];exact hm)),if_pos hm,q1]
  ·have hxn:x∈n.ids:=by grind
   have es:sibT x (.nd j u k n)=sibT x n:=by rw [sibT,if_neg hk]
   have et:txtF x (.nd j u k n)=txtF x n:=by rw [txtF,if_neg e,if_neg hk]
   have eb:sub x (.nd j u k n)=sub x n:=by rw [sub,if_neg e,if_neg hk]
   have ep:par x 0 (.nd j u k n)=par x 0 n:=by rw [par,if_neg e,if_neg hk]
   have ed:FP.del x (.nd j u k n)=.nd j u k (FP.del x n):=by rw [FP.del,if_neg e,del_id x hk]
   have b:=back_top hx0 n n4 (fun y hy=>h0 y (by simp [Fo.ids,hy])) hxn ht.2
   refine ⟨?_,fun h=>?_,fun h=>?_,hpar,fun h=>?_⟩
   ·rw [es];exact b.mem.imp id fun h=>by simp [Fo.ids,h]
   ·rw [es] at h
    have hm:=b.mem.resolve_left h
    rw [es,et,eb,ed,insAfter,if_neg (fun g=>n2 (by rw [g];exact hm)),b.aft h,insAfter_id _ _ _ _ (fun g=>n5 _ g hm)]
   ·rw [es] at h
    have q1:=b.up
    rw [et,eb,ed,ep,insFirst,if_neg (fun g=>n2 (by rw [g];exact q1)),b.fst h,insFirst_id _ _ _ _ (fun g=>n5 _ g q1)]
   ·rw [es] at h ⊢
    have hm:=b.mem.resolve_left h
    obtain ⟨q1,q2⟩:=b.upr h
    refine ⟨?_,q2⟩
    rw [ep,par,if_neg (fun g=>n2 (by rw [g];exact hm)),if_neg (fun g=>n5 _ g hm),q1]
theorem sib_insFirst_new (p i:Nat) (t:ByteArray) (s:Fo):∀ {F:Fo} (q:Nat),i∉F.ids→p∈F.ids→sib i q (insFirst p i t s F)=0
 | .nil,_,_,h=>by simp [Fo.ids] at h
 | .nd j u k n,q,h,hp=>by
  simp only [Fo.ids,List.mem_cons,List.mem_append,not_or] at h hp
  have hj:¬ j=i:=fun e=>h.1 e.symm
  rw [insFirst]
  by_cases e:j=p
  ·rw [if_pos e,sib,if_neg hj,if_pos (by simp [Fo.ids]),sib,if_pos rfl]
  ·rw [if_neg e,sib,if_neg hj]
   by_cases hk:p∈k.ids
   ·rw [if_pos ((mem_insFirst p i t s i k).2 (Or.inr ⟨hk,Or.inl rfl⟩)),sib_insFirst_new p i t s 0 h.2.1 hk]
   ·rw [if_neg (by rw [mem_insFirst];grind),sib_insFirst_new p i t s j h.2.2 (by grind)]
theorem sib_insAfter_new (a i:Nat) (t:ByteArray) (s:Fo):∀ {F:Fo} (q:Nat),i∉F.ids→a∈F.ids→sib i q (insAfter a i t s F)=a
 | .nil,_,_,h=>by simp [Fo.ids] at h
 | .nd j u k n,q,h,hp=>by
  simp only [Fo.ids,List.mem_cons,List.mem_append,not_or] at h hp
  have hj:¬ j=i:=fun e=>h.1 e.symm
  rw [insAfter]
  by_cases e:j=a
  ·rw [if_pos e,sib,if_neg hj,if_neg h.2.1,sib,if_pos rfl,e]
  ·rw [if_neg e,sib,if_neg hj]
   by_cases hk:a∈k.ids
   ·rw [if_pos ((mem_insAfter a i t s i k).2 (Or.inr ⟨hk,Or.inl rfl⟩)),sib_insAfter_new a i t s 0 h.2.1 hk]
   ·rw [if_neg (by rw [mem_insAfter];grind),sib_insAfter_new a i t s j h.2.2 (by grind)]
theorem sibT_insFirst_new (p i:Nat) (t:ByteArray) (s:Fo):∀ {F:Fo},i∉F.ids→p∈F.ids→sibT i (insFirst p i t s F)=0
 | .nil,_,h=>by simp [Fo.ids] at h
 | .nd j u k n,h,hp=>by
  simp only [Fo.ids,List.mem_cons,List.mem_append,not_or] at h hp
  rw [insFirst]
  by_cases e:j=p
  ·rw [if_pos e,sibT,if_pos (by simp [Fo.ids]),sib,if_pos rfl]
  ·rw [if_neg e,sibT]
   by_cases hk:p∈k.ids
   ·rw [if_pos ((mem_insFirst p i t s i k).2 (Or.inr ⟨hk,Or.inl rfl⟩)),sib_insFirst_new p i t s 0 h.2.1 hk]
   ·rw [if_neg (by rw [mem_insFirst];grind),sibT_insFirst_new p i t s h.2.2 (by grind)]
theorem sibT_insAfter_new (a i:Nat) (t:ByteArray) (s:Fo):∀ {F:Fo},i∉F.ids→a∈F.ids→a∉F.tops→sibT i (insAfter a i t s F)=a
 | .nil,_,h,_=>by simp [Fo.ids] at h
 | .nd j u k n,h,hp,ht=>by
  simp only [Fo.ids,Fo.tops,List.mem_cons,List.mem_append,not_or] at h hp ht
  have e:¬ j=a:=fun g=>ht.1 g.symm
  rw [insAfter,if_neg e,sibT]
  by_cases hk:a∈k.ids
  ·rw [if_pos ((mem_insAfter a i t s i k).2 (Or.inr ⟨hk,Or.inl rfl⟩)),sib_insAfter_new a i t s 0 h.2.1 hk]
  ·rw [if_neg (by rw [mem_insAfter];grind),sibT_insAfter_new a i t s h.2.2 (by grind) ht.2]
theorem PutOk.sib {H:Fo} {q:Nat×Nat} {i:Nat} {s:Fo} {t:ByteArray} (o:PutOk H q i s) (h0:∀ x∈H.ids,x≠0):sibT i (putF H q i t s)=q.2:=by
 have ht:=near_at_top (G:=H) o.nd h0 o h0
 unfold putF
 by_cases h:q.2=0
 ·rw [if_pos h,sibT_insFirst_new _ _ _ _ o.iH o.up,h]
 ·rw [if_neg h,sibT_insAfter_new _ _ _ _ o.iH (o.at_.resolve_left h).1 (ht.resolve_left h)]
theorem MvOk.sib {G:Fo} {q:Nat×Nat} {i:Nat} (o:MvOk G i q) (h0:∀ x∈G.ids,x≠0):sibT i (mvF G q i)=q.2:=o.put.sib fun x hx=>h0 x (del_ids_sub i hx)
theorem MvOk.par_new {G:Fo} {q:Nat×Nat} {i:Nat} (o:MvOk G i q):par i 0 (mvF G q i)=q.1:=o.put.par
theorem par_not_under {G:Fo} (hn:G.ids.Nodup) (h0:∀ x∈G.ids,x≠0) {i:Nat} (hi:i∈G.ids) (hit:i∉G.tops):¬ under i (par i 0 G) G:=by
 obtain ⟨h,hr⟩:=reptop_ex G hn h0
 have hp:=reptop_par hr hn hi
 obtain ⟨q1,q2⟩:=reptop_up hr hn hi hit
 rintro ⟨_,e|hs⟩
 ·exact q2 (hp.trans e)
 ·exact upT_out hr hn hi hit (hp ▸ hs)
def upO (D:Int):List S37→Option Int
 | []=>none
 | r::l=>if r.f1 < D then some r.f0 else upO D l
def aheadO (D:Int):List S37→Option Int
 | []=>none
 | r::l=>if r.f1 < D then some 0 else if r.f1=D then some r.f0 else aheadO D l
theorem upO_append (D:Int):∀ (a b:List S37),upO D (a++b)=match upO D a with|some v=>some v|none=>upO D b
 | [],b=>rfl
 | r::a,b=>by
  rw [List.cons_append,upO,upO]
  split
  ·rfl
  ·exact upO_append D a b
theorem aheadO_append (D:Int):∀ (a b:List S37),aheadO D (a++b)=match aheadO D a with|some v=>some v|none=>aheadO D b
 | [],b=>rfl
 | r::a,b=>by
  rw [List.cons_append,aheadO,aheadO]
  split
  ·rfl
  ·split
   ·rfl
   ·exact aheadO_append D a b
theorem upO_none {D:Int}:∀ {l:List S37},(∀ r∈l,D≤r.f1)→upO D l=none
 | [],_=>rfl
 | r::l,h=>by
  rw [upO,if_neg (by have:=h r List.mem_cons_self;omega)]
  exact upO_none fun q hq=>h q (List.mem_cons_of_mem _ hq)
theorem aheadO_none {D:Int}:∀ {l:List S37},(∀ r∈l,D < r.f1)→aheadO D l=none
 | [],_=>rfl
 | r::l,h=>by
  have:=h r List.mem_cons_self
  rw [aheadO,if_neg (by omega),if_neg (by omega)]
  exact aheadO_none fun q hq=>h q (List.mem_cons_of_mem _ hq)
def preF (x:Nat) (d:Nat):Fo→List S37
 | .nil=>[]
 | .nd j u k n=>if j=x then [] else ⟨(j:Int),(d:Int),u⟩::(if x∈k.ids then preF x (d+1) k else k.fl (d+1)++preF x d n)
theorem pre_split (x:Nat):∀ (F:Fo) (d:Nat),x∈F.ids→∃ rest,F.fl d=preF x d F++⟨(x:Int),(dep x d F:Int),txtF x F⟩::rest
 | .nil,d,h=>by simp [Fo.ids] at h
 | .nd j u k n,d,h=>by
  simp only [Fo.ids,List.mem_cons,List.mem_append] at h
  by_cases e:j=x
  ·subst e
   exact ⟨k.fl (d+1)++n.fl d,by rw [preF,if_pos rfl,dep,if_pos rfl,txtF,if_pos rfl,Fo.fl];rfl⟩
  ·by_cases hk:x∈k.ids
   ·obtain ⟨rest,hr⟩:=pre_split x k (d+1) hk
    refine ⟨rest++n.fl d,?_⟩
    rw [preF,if_neg e,if_pos hk,dep,if_neg e,if_pos hk,txtF,if_neg e,if_pos hk,Fo.fl,hr]
    simp
   ·obtain ⟨rest,hr⟩:=pre_split x n d (by grind)
    refine ⟨rest,?_⟩
    rw [preF,if_neg e,if_neg hk,dep,if_neg e,if_neg hk,txtF,if_neg e,if_neg hk,Fo.fl,hr]
    simp
theorem preF_out (x:Nat):∀ (F:Fo) (d:Nat),F.ids.Nodup→∀ r∈preF x d F,r.f0≠(x:Int)
 | .nil,d,_,r,h=>by simp [preF] at h
 | .nd j u k n,d,hn,r,h=>by
  obtain ⟨n1,n2,n3,n4,n5⟩:=nodup_nd hn
  rw [preF] at h
  by_cases e:j=x
  ·rw [if_pos e] at h;cases h
  ·rw [if_neg e] at h
   rcases List.mem_cons.1 h with rfl|h
   ·show (j:Int)≠(x:Int);omega
   ·by_cases hk:x∈k.ids
    ·rw [if_pos hk] at h;exact preF_out x k (d+1) n3 r h
    ·rw [if_neg hk] at h
     rcases List.mem_append.1 h with h|h
     ·obtain ⟨i,hi,e2⟩:=fl_ids k (d+1) h
      intro e3
      rw [e2] at e3
      exact hk (by rw [show x=i by omega];exact hi)
     ·exact preF_out x n d n4 r h
theorem split_one {x:Int}:∀ {a a' b b':List S37} {r r':S37},(∀ q∈a,q.f0≠x)→(∀ q∈a',q.f0≠x)→r.f0=x→r'.f0=x→a++r::b=a'++r'::b'→a=a'
 | [],[],_,_,_,_,_,_,_,_,_=>rfl
 | [],q::a',_,_,r,r',_,h2,h3,_,e=>by
  simp only [List.nil_append,List.cons_append,List.cons.injEq] at e
  exact absurd h3 (by rw [e.1];exact h2 q List.mem_cons_self)
 | q::a,[],_,_,r,r',h1,_,_,h4,e=>by
  simp only [List.nil_append,List.cons_append,List.cons.injEq] at e
  exact absurd h4 (by rw [←e.1];exact h1 q List.mem_cons_self)
 | q::a,q'::a',b,b',r,r',h1,h2,h3,h4,e=>by
  simp only [List.cons_append,List.cons.injEq] at e
  rw [e.1,split_one (fun y hy=>h1 y (List.mem_cons_of_mem _ hy)) (fun y hy=>h2 y (List.mem_cons_of_mem _ hy)) h3 h4 e.2]
theorem spot_pre {x d:Nat} {G:Fo} {pre post:List S37} (hn:G.ids.Nodup) (hx:x∈G.ids) (s:Spot x d G pre post):pre=preF x d G:=by
 obtain ⟨rest,hr⟩:=pre_split x G d hx
 have:=s.all
 rw [hr] at this
 exact (split_one (x:=(x:Int)) (preF_out x G d hn) s.out rfl rfl this).symm
theorem up_pre (x:Nat):∀ (F:Fo) (d up:Nat),F.ids.Nodup→x∈F.ids→upO (dep x d F) (preF x d F).reverse=if x∈F.tops then none else some (par x up F:Int)
 | .nil,d,up,_,h=>by simp [Fo.ids] at h
 | .nd j u k n,d,up,hn,h=>by
  obtain ⟨n1,n2,n3,n4,n5⟩:=nodup_nd hn
  simp only [Fo.ids,List.mem_cons,List.mem_append] at h
  by_cases e:j=x
  ·rw [preF,if_pos e,if_pos (by simp [Fo.tops,e])];rfl
  ·have e':x≠j:=fun g=>e g.symm
   by_cases hk:x∈k.ids
   ·have ht:x∉(Fo.nd j u k n).tops:=by
     simp only [Fo.tops,List.mem_cons,not_or]
     exact ⟨e',fun g=>n5 x hk (tops_ids g)⟩
    rw [if_neg ht,preF,if_neg e,if_pos hk,dep,if_neg e,if_pos hk,par,if_neg e,if_pos hk,List.reverse_cons,upO_append,up_pre x k (d+1) j n3 hk]
    by_cases hkt:x∈k.tops
    ·rw [if_pos hkt]
     have hd:dep x (d+1) k=d+1∧par x j k=j:=by
      rcases dep_par x k (d+1) j n3 hk with ⟨_,h2,h3⟩|⟨h2,h3⟩
      ·exact ⟨h2,h3⟩
      ·exfalso
       have:=up_top x k j n3 hkt
       rw [this] at h2
       exact n1 h2
     show upO _ [_]=_
     rw [upO,if_pos (by rw [hd.1];simp only;omega),hd.2]
    ·rw [if_neg hkt]
   ·have hxn:x∈n.ids:=by grind
    rw [preF,if_neg e,if_neg hk,dep,if_neg e,if_neg hk,par,if_neg e,if_neg hk,List.reverse_cons,List.reverse_append,upO_append,upO_append,up_pre x n d up n4 hxn]
    by_cases hnt:x∈n.tops
    ·have hd:=dep_top x n d n4 hnt
     rw [if_pos hnt,if_pos (by simp [Fo.tops,hnt])]
     simp only
     rw [upO_none (l:=(k.fl (d+1)).reverse) (fun r hr=>by have:=fl_deep k (d+1) (List.mem_reverse.1 hr);rw [hd];omega)]
     simp only
     rw [upO,if_neg (by rw [hd];simp only;omega)];rfl
    ·rw [if_neg hnt,if_neg (by simp only [Fo.tops,List.mem_cons,not_or];exact ⟨e',hnt⟩)];try rfl
where
 up_top (x:Nat):∀ (F:Fo) (up:Nat),F.ids.Nodup→x∈F.tops→par x up F=up
  | .nil,_,_,h=>by simp [Fo.tops] at h
  | .nd j u k n,up,hn,h=>by
   obtain ⟨n1,n2,n3,n4,n5⟩:=nodup_nd hn
   simp only [Fo.tops,List.mem_cons] at h
   rw [par]
   by_cases e:j=x
   ·rw [if_pos e]
   ·have hx:x∈n.tops:=by grind
    rw [if_neg e,if_neg (fun g=>n5 x g (tops_ids hx)),up_top x n up n4 hx]
 dep_top (x:Nat):∀ (F:Fo) (d:Nat),F.ids.Nodup→x∈F.tops→dep x d F=d
  | .nil,_,_,h=>by simp [Fo.tops] at h
  | .nd j u k n,d,hn,h=>by
   obtain ⟨n1,n2,n3,n4,n5⟩:=nodup_nd hn
   simp only [Fo.tops,List.mem_cons] at h
   rw [dep]
   by_cases e:j=x
   ·rw [if_pos e]
   ·have hx:x∈n.tops:=by grind
    rw [if_neg e,if_neg (fun g=>n5 x g (tops_ids hx)),dep_top x n d n4 hx]
theorem dep_ge (x:Nat):∀ (F:Fo) (d:Nat),x∈F.ids→d≤dep x d F
 | .nil,d,h=>by simp [Fo.ids] at h
 | .nd j u k n,d,h=>by
  simp only [Fo.ids,List.mem_cons,List.mem_append] at h
  rw [dep]
  by_cases e:j=x
  ·rw [if_pos e];exact Nat.le_refl _
  ·rw [if_neg e]
   by_cases hk:x∈k.ids
   ·rw [if_pos hk];have:=dep_ge x k (d+1) hk;omega
   ·rw [if_neg hk];exact dep_ge x n d (by grind)
theorem hd_top {x:Nat} (hx:x≠0) {F:Fo} (h:F.hd=x):x∈F.tops:=by
 obtain ⟨t,k,n,rfl⟩:=hd_shape h hx
 simp [Fo.tops]
theorem ahead_in {x:Nat} (hx0:x≠0):∀ (F:Fo) (d p:Nat),F.ids.Nodup→x∈F.ids→aheadO (dep x d F) (preF x d F).reverse=if F.hd=x then none else some (sib x p F:Int)
 | .nil,d,p,_,h=>by simp [Fo.ids] at h
 | .nd j u k n,d,p,hn,h=>by
  obtain ⟨n1,n2,n3,n4,n5⟩:=nodup_nd hn
  simp only [Fo.ids,List.mem_cons,List.mem_append] at h
  by_cases e:j=x
  ·rw [preF,if_pos e,if_pos (by exact e)];rfl
  ·rw [if_neg (show ¬ (Fo.nd j u k n).hd=x from e)]
   by_cases hk:x∈k.ids
   ·rw [preF,if_neg e,if_pos hk,dep,if_neg e,if_pos hk,sib,if_neg e,if_pos hk,List.reverse_cons,aheadO_append,ahead_in hx0 k (d+1) 0 n3 hk]
    by_cases hkx:k.hd=x
    ·rw [if_pos hkx]
     simp only
     have:=dep_ge x k (d+1) hk
     rw [aheadO,if_pos (by simp only;omega)]
     obtain ⟨t,s,m,rfl⟩:=hd_shape hkx hx0
     rw [sib,if_pos rfl];rfl
    ·rw [if_neg hkx]
   ·have hxn:x∈n.ids:=by grind
    rw [preF,if_neg e,if_neg hk,dep,if_neg e,if_neg hk,sib,if_neg e,if_neg hk,List.reverse_cons,List.reverse_append,aheadO_append,aheadO_append,ahead_in hx0 n d j n4 hxn]
    by_cases hnx:n.hd=x
    ·rw [if_pos hnx]
     have hd:=up_pre.dep_top x n d n4 (hd_top hx0 hnx)
     simp only
     rw [aheadO_none (l:=(k.fl (d+1)).reverse) (fun r hr=>by have:=fl_deep k (d+1) (List.mem_reverse.1 hr);rw [hd];omega)]
     simp only
     rw [aheadO,if_neg (by rw [hd];simp),if_pos (by rw [hd])]
     obtain ⟨t,s,m,rfl⟩:=hd_shape hnx hx0
     rw [sib,if_pos rfl]
    ·rw [if_neg hnx]
theorem ahead_top {x:Nat} (hx0:x≠0):∀ (F:Fo) (d:Nat),F.ids.Nodup→x∈F.ids→x∉F.tops→aheadO (dep x d F) (preF x d F).reverse=some (sibT x F:Int)
 | .nil,d,_,h,_=>by simp [Fo.ids] at h
 | .nd j u k n,d,hn,h,ht=>by
  obtain ⟨n1,n2,n3,n4,n5⟩:=nodup_nd hn
  simp only [Fo.ids,List.mem_cons,List.mem_append] at h
  simp only [Fo.tops,List.mem_cons,not_or] at ht
  have e:¬ j=x:=fun g=>ht.1 g.symm
  by_cases hk:x∈k.ids
  ·rw [preF,if_neg e,if_pos hk,dep,if_neg e,if_pos hk,sibT,if_pos hk,List.reverse_cons,aheadO_append,ahead_in hx0 k (d+1) 0 n3 hk]
   by_cases hkx:k.hd=x
   ·rw [if_pos hkx]
    simp only
    have:=dep_ge x k (d+1) hk
    rw [aheadO,if_pos (by simp only;omega)]
    obtain ⟨t,s,m,rfl⟩:=hd_shape hkx hx0
    rw [sib,if_pos rfl];rfl
   ·rw [if_neg hkx]
  ·have hxn:x∈n.ids:=by grind
   rw [preF,if_neg e,if_neg hk,dep,if_neg e,if_neg hk,sibT,if_neg hk,List.reverse_cons,List.reverse_append,aheadO_append,aheadO_append,ahead_top hx0 n d n4 hxn ht.2]
theorem dep_insFirst_old (p i:Nat) (t:ByteArray) (s:Fo) {x:Nat} (hx:x∉s.ids) (hxi:x≠i):∀ (F:Fo) (d:Nat),dep x d (insFirst p i t s F)=dep x d F
 | .nil,_=>rfl
 | .nd j u k n,d=>by
  have m1:x∈(insFirst p i t s k).ids↔x∈k.ids:=by rw [mem_insFirst];grind
  have m2:x∈(Fo.nd i t s k).ids↔x∈k.ids:=by simp only [Fo.ids,List.mem_cons,List.mem_append];grind
  rw [insFirst]
  by_cases e:j=p
  ·rw [if_pos e]
   simp only [dep,m2,if_neg (fun e:i=x=>hxi e.symm),if_neg hx]
  ·rw [if_neg e]
   simp only [dep,m1,dep_insFirst_old p i t s hx hxi k,dep_insFirst_old p i t s hx hxi n]
theorem dep_insAfter_old (a i:Nat) (t:ByteArray) (s:Fo) {x:Nat} (hx:x∉s.ids) (hxi:x≠i):∀ (F:Fo) (d:Nat),dep x d (insAfter a i t s F)=dep x d F
 | .nil,_=>rfl
 | .nd j u k n,d=>by
  have m1:x∈(insAfter a i t s k).ids↔x∈k.ids:=by rw [mem_insAfter];grind
  rw [insAfter]
  by_cases e:j=a
  ·rw [if_pos e]
   simp only [dep,if_neg (fun e:i=x=>hxi e.symm),if_neg hx]
  ·rw [if_neg e]
   simp only [dep,m1,dep_insAfter_old a i t s hx hxi k,dep_insAfter_old a i t s hx hxi n]
theorem dep_del (i a:Nat):∀ (G:Fo) (d:Nat),G.ids.Nodup→a∈(del i G).ids→dep a d (del i G)=dep a d G
 | .nil,_,_,h=>rfl
 | .nd j u k n,d,hn,h=>by
  obtain ⟨n1,n2,n3,n4,n5⟩:=nodup_nd hn
  rw [FP.del] at h ⊢
  by_cases e:j=i
  ·rw [if_pos e] at h ⊢
   rw [dep,if_neg (fun (g:j=a)=>n2 (by rw [g];exact h)),if_neg (fun g=>n5 a g h)]
  ·rw [if_neg e] at h ⊢
   simp only [Fo.ids,List.mem_cons,List.mem_append] at h
   rw [dep,dep]
   by_cases e2:j=a
   ·rw [if_pos e2,if_pos e2]
   ·rw [if_neg e2,if_neg e2]
    by_cases hk:a∈(FP.del i k).ids
    ·rw [if_pos hk,if_pos (del_ids_sub i hk)];exact dep_del i a k (d+1) n3 hk
    ·have hn':a∈(FP.del i n).ids:=by rcases h with g|g|g;exact absurd g.symm e2;exact absurd g hk;exact g
     rw [if_neg hk,if_neg (fun g=>n5 a g (del_ids_sub i hn'))];exact dep_del i a n d n4 hn'
theorem MvOk.dep_old {G:Fo} {q:Nat×Nat} {i:Nat} (o:MvOk G i q) {x:Nat} (hx:x∈(FP.del i G).ids):dep x 0 (mvF G q i)=dep x 0 G:=by
 obtain ⟨h1,h2⟩:=o.put.ne hx
 rw [←dep_del i x G 0 o.nd hx]
 unfold mvF putF
 split
 ·exact dep_insFirst_old _ _ _ _ h2 h1 _ _
 ·exact dep_insAfter_old _ _ _ _ h2 h1 _ _
theorem MvOk.dep_new {G:Fo} {q:Nat×Nat} {i:Nat} (o:MvOk G i q) (h0:∀ x∈G.ids,x≠0):dep i 0 (mvF G q i)=dep q.1 0 G+1:=by
 have hp:=o.par_new
 rcases dep_par i (mvF G q i) 0 0 o.nodup ((o.ids i).2 o.mem) with ⟨_,_,h3⟩|⟨_,h3⟩
 ·rw [hp] at h3
  exact absurd h3 (h0 _ (del_ids_sub i o.put.up))
 ·rw [h3,hp,o.dep_old o.put.up]
def lastK (x:Nat) (G:Fo):Nat:=lastN 0 (sub x G).tops
theorem lastN_cases (l:List Nat):(l=[]∧lastN 0 l=0)∨∃ l',l=l'++[lastN 0 l]:=by
 rcases List.eq_nil_or_concat l with rfl|⟨l',b,rfl⟩
 ·exact Or.inl ⟨rfl,rfl⟩
 ·rw [List.concat_eq_append,lastN_snoc];exact Or.inr ⟨l',rfl⟩
theorem tops_insAfter_last (a i:Nat) (t:ByteArray) (s:Fo):∀ {F:Fo} {l:List Nat},F.ids.Nodup→F.tops=l++[a]→(insAfter a i t s F).tops=l++[a,i]
 | .nil,l,_,h=>by simp [Fo.tops] at h
 | .nd j u k n,l,hn,h=>by
  obtain ⟨n1,n2,n3,n4,n5⟩:=nodup_nd hn
  simp only [Fo.tops] at h
  rw [insAfter]
  cases l with
  | nil =>
   simp only [List.nil_append,List.cons.injEq] at h
   obtain ⟨rfl,h2⟩:=h
   rw [if_pos rfl]
   simp [Fo.tops,h2]
  | cons b l =>
   simp only [List.cons_append,List.cons.injEq] at h
   obtain ⟨rfl,h2⟩:=h
   have ha:a∈n.tops:=by rw [h2];simp
   rw [if_neg (fun e=>n2 (by rw [e];exact tops_ids ha))]
   simp only [Fo.tops,tops_insAfter_last a i t s n4 h2,List.cons_append]
structure SibOk (G:Fo) (m a:Nat):Prop where
 mem:a∈G.ids
 par:FP.par a 0 G=FP.par m 0 G
 ne:a≠m
 out:¬ under m a G
 in_:¬ under a m G
 top:a∉G.tops
theorem not_under_sib {G:Fo} (hn:G.ids.Nodup) (h0:∀ x∈G.ids,x≠0) {m a:Nat} (hm:m∈G.ids) (hmt:m∉G.tops) (hp:par a 0 G=par m 0 G) (hne:a≠m):¬ under m a G:=by
 rintro ⟨_,e|hs⟩
 ·exact hne e
 ·obtain ⟨h,hr⟩:=reptop_ex G hn h0
  obtain ⟨r1,_⟩:=reptop_sub hr hn hm
  have h1:=rep_par r1 (sub_nodup m hn) hs
  rw [←par_sub m a G 0 hn hs,hp] at h1
  have h2:=par_not_under hn h0 hm hmt
  rcases rep_up r1 (sub_nodup m hn) hs with g|g
  ·rw [h1] at g;exact h2 ⟨hm,Or.inl g⟩
  ·rw [h1] at g;exact h2 ⟨hm,Or.inr g⟩
theorem sib_ok {G:Fo} (hn:G.ids.Nodup) (h0:∀ x∈G.ids,x≠0) {m:Nat} (hm:m∈G.ids) (hmt:m∉G.tops) (hs:sibT m G≠0):SibOk G m (sibT m G):=by
 have b:=back_top (h0 m hm) G hn h0 hm hmt
 have hmem:=b.mem.resolve_left hs
 obtain ⟨q1,q2⟩:=b.upr hs
 have hat:sibT m G∉G.tops:=fun ht=>by
  have:=par_top0 (G:=G) hn ht
  rw [q1] at this
  exact h0 _ b.up this
 exact ⟨hmem,q1,q2,not_under_sib hn h0 hm hmt q1 q2,not_under_sib hn h0 hmem hat q1.symm (fun e=>q2 e.symm),hat⟩
theorem lastK_par {G:Fo} (hn:G.ids.Nodup) (h0:∀ x∈G.ids,x≠0) {a:Nat} (ha:a∈G.ids):(lastK a G=0∧(sub a G).tops=[])∨(lastK a G∈G.ids∧par (lastK a G) 0 G=a∧∃ l,(sub a G).tops=l++[lastK a G]):=by
 rcases lastN_cases (sub a G).tops with ⟨h1,h2⟩|⟨l,h⟩
 ·exact Or.inl ⟨h2,h1⟩
 ·right
  have hmem:lastK a G∈(sub a G).tops:=by unfold lastK;rw [h,lastN_snoc];simp
  obtain ⟨q1,q2⟩:=(kids_par hn h0 ha).1 hmem
  exact ⟨q1,q2,l,h⟩
structure InOk (G:Fo) (m a last:Nat):Prop where
 sib:SibOk G m a
 near:nearF G (m:Int) (a:Int) (last:Int)=(a,last)
 mv:MvOk G m (a,last)
 kids:(sub a (mvF G (a,last) m)).tops=(sub a G).tops++[m]
 deep:dep m 0 (mvF G (a,last) m)=dep m 0 G+1
theorem in_ok {G:Fo} (hn:G.ids.Nodup) (h0:∀ x∈G.ids,x≠0) (h3:3∈G.tops) {m:Nat} (hm:m∈G.ids) (hmt:m∉G.tops) (hs:sibT m G≠0):InOk G m (sibT m G) (lastK (sibT m G) G):=by
 have so:=sib_ok hn h0 hm hmt hs
 have b:=back_top (h0 m hm) G hn h0 hm hmt
 obtain ⟨a,ha⟩:∃ a,a=sibT m G:=⟨_,rfl⟩
 rw [←ha] at so hs ⊢
 have hl:=lastK_par hn h0 so.mem
 have hnear:nearF G (m:Int) (a:Int) (lastK a G:Nat)=(a,lastK a G):=by
  unfold nearF
  rw [fnd_nat so.mem,if_neg hs]
  rcases hl with ⟨e,_⟩|⟨e1,e2,_⟩
  ·rw [e,show fndF G ((0:Nat):Int)=0 from fnd_not (y:=0) (fun g=>h0 0 g rfl),if_pos rfl]
  ·have hlm:lastK a G≠m:=fun e=>by
    rw [e] at e2
    have:=so.par
    rw [e2] at this
    exact par_not_under hn h0 so.mem so.top ⟨so.mem,Or.inl this⟩
   rw [fnd_nat e1,if_neg (h0 _ e1),if_neg (fun g=>g e2),if_neg (by omega)]
 have o:=move_ok hn h0 h3 hm hmt (up:=(a:Int)) (at_:=(lastK a G:Nat)) (by rw [fnd_nat so.mem];exact so.out)
 rw [hnear] at o
 refine ⟨so,hnear,o,?_,?_⟩
 ·have had:a∈(del m G).ids:=o.put.up
  have hms:m∉(sub a G).ids:=fun g=>so.in_ ⟨so.mem,Or.inr g⟩
  have hsub:sub a (del m G)=sub a G:=by rw [sub_del m a G hn had,del_id m hms]
  obtain ⟨n1,n2⟩:=o.put.ne had
  unfold mvF putF
  rcases hl with ⟨e,e2⟩|⟨e1,e2,l,e3⟩
  ·rw [if_pos e,sub_insFirst_old _ _ _ _ n2 n1 _ o.put.nd had,if_pos rfl,hsub,Fo.tops,e2];rfl
  ·rw [if_neg (show ¬ lastK a G=0 from h0 _ e1),sub_insAfter_old _ _ _ _ n2 n1 _ o.put.nd had,hsub]
   rw [tops_insAfter_last _ _ _ _ (sub_nodup a hn) e3,e3];simp
 ·rw [o.dep_new h0]
  show dep a 0 G+1=_
  have d1:=dep_par a G 0 0 hn so.mem
  have d2:=dep_par m G 0 0 hn hm
  rcases d1 with ⟨g,_⟩|⟨_,g1⟩
  ·exact absurd g so.top
  ·rcases d2 with ⟨g,_⟩|⟨_,g2⟩
   ·exact absurd g hmt
   ·rw [g1,g2,so.par]
end Go.Proofs.YtlkheeegkifblaaDoor.FP
namespace Go.Proofs.YtlkheeegkifblaaDoor.P
open Go.RowKit Go.Proofs.YtlkheeegkifblaaDoorW.PrintWords Go.Proofs.YtlkheeegkifblaaDoorW.PrintLast
theorem eqA37 (d:Nat) (w:World) (x0 y0:Int) (x1 y1:Int) (x2 y2:ByteArray) :
  (Op.equalIn (d+2) 37 (.agg #[.int .i64 x0,.int .i64 x1,.string x2]) (.agg #[.int .i64 y0,.int .i64 y1,.string y2])).run Tryd.prog w=.ok (x0==y0&&(x1==y1&&(x2.toList==y2.toList))) w:=by
 refine eqA_of Tryd.underlying37 (by kernel_rfl) ?_
 refine eqf_cons (by rfl) (by go_simp;rfl) (by go_simp;rfl) (by go_simp) ?_
 refine eqf_cons (by rfl) (by go_simp;rfl) (by go_simp;rfl) (by go_simp) ?_
 exact eqf_last (by rfl) (by go_simp;rfl) (by go_simp;rfl) (by go_simp)
attribute [local go_sem high] eqA37
end Go.Proofs.YtlkheeegkifblaaDoor.P
namespace Go.Proofs.YtlkheeegkifblaaDoor.PL
open Go.RowKit Go.Proofs.YtlkheeegkifblaaDoor.P Go.Proofs.YtlkheeegkifblaaDoorW.PrintWords Go.Proofs.YtlkheeegkifblaaDoorW.PrintLast Go.Proofs.YtlkheeegkifblaaDoor.FP
instance rowEq:DecidableEq S37:=fun a b =>
 decidable_of_iff (a.f0=b.f0∧a.f1=b.f1∧a.f2=b.f2) ⟨fun h=>by cases a;cases b;simp_all,fun h=>by rw [h];exact ⟨rfl,rfl,rfl⟩⟩
def kNo:Int×Int×Int×Int×ByteArray×Bool:=(0,0,0,0,⟨#[]⟩,false)
def kMv (i u a:Int):Int×Int×Int×Int×ByteArray×Bool:=(3,i,u,a,⟨#[]⟩,true)
def keyInF (G:Fo) (m:Nat):Int×Int×Int×Int×ByteArray×Bool:=if sibT m G=0 then kNo else kMv m (sibT m G:Nat) (lastK (sibT m G) G:Nat)
def keyR (K:Fo→Nat→Int×Int×Int×Int×ByteArray×Bool) (l:List S37) (id:Int):Int×Int×Int×Int×ByteArray×Bool :=
 if treeB l=true then (if madeB id=true then (if fndF (toFo l) id=0 then kNo else K (toFo l) (fndF (toFo l) id)) else kNo) else kNo
end Go.Proofs.YtlkheeegkifblaaDoor.PL
namespace Go.Proofs.YtlkheeegkifblaaDoor.P
open Go.RowKit Go.Shelf Go.Proofs.YtlkheeegkifblaaDoorW.PrintWords Go.Proofs.YtlkheeegkifblaaDoorW.PrintLast Go.Proofs.YtlkheeegkifblaaDoorW.PrintMore Go.Proofs.YtlkheeegkifblaaDoor.PL Go.Proofs.YtlkheeegkifblaaDoor.FP
attribute [local go_sem] Oper.semAt_some

def KeyPost (w:World) (r:Int×Int×Int×Int×ByteArray×Bool) (e:Ending) (w':World):Prop :=
 e=.returned (.tuple #[.agg #[.int .i64 r.1,.int .i64 r.2.1,.int .i64 r.2.2.1,.int .i64 r.2.2.2.1,.string r.2.2.2.2.1],.bool r.2.2.2.2.2])∧Below w.heap.size w w'
theorem At.lastOk {w:World} {n0 F:Nat} {A:Nat→Option Nat} {h:Nat→Nd} {G:Fo} (t:At w n0 F A h G) (u:Nat):lastN 0 (sub u G).tops=0∨A (lastN 0 (sub u G).tops)≠none:=by
 rcases lastN_cases (sub u G).tops with ⟨_,e⟩|⟨l,e⟩
 ·exact Or.inl e
 ·refine Or.inr ((t.dom _).2 (sub_ids u (tops_ids ?_)))
  have:=List.mem_append_right l (List.mem_singleton.2 (rfl:lastN 0 (sub u G).tops=lastN 0 (sub u G).tops))
  rwa [←e] at this
theorem key1_any {w:World} {n0 Fb:Nat} {A:Nat→Option Nat} {h:Nat→Nd} {G:Fo} (t:At w n0 Fb A h G) {i b:Nat} (hi:A i=some b) (hp:FP.par i 0 G≠0) :
  Calls Tryd.prog 113 #[.pointer (some ⟨Fb,0,none⟩),.pointer (some ⟨b,0,none⟩)] w (KeyPost w (keyInF G i)):=by
 unfold keyInF KeyPost
 have hu27:=Tryd.underlying27
 by_cases h0:sibT i G=0
 ·rw [if_pos h0]
  unfold kNo
  have T1:=a_ t
  have HI:=a_ hi
  have HP:=a_ hp
  have H0:=a_ h0
  clear t hi hp h0
  go_enter Tryd.func113,Tryd.ntmps113
  go_wp2_with (first
   | ((with_reducible refine gD_ (N:=4) rfl ?_);refine bx_ 4 (#[.int .i64 0,.int .i64 0,.int .i64 0,.int .i64 0,.string (⟨#[]⟩:ByteArray)]) 27 ?_;intro gb hg W1 hbox hb;have X1:=a_ (Bx.mk hbox (by rw [hg];exact Nat.le_refl _) (hb));have hb1:=a_ hb;clear hbox hb hg;have T2:=a_ (T1.out.kept (T1.out.m.below hb1.out)))
   | (go_at_call 76;(with_reducible refine (T2.out.ahead HI.out HP.out).mono ?_);rw [H0.out,T1.out.m.z,pa_none];rintro en W2 ⟨rfl,hb⟩;have X2:=a_ (X1.out.step hb);clear hb;have za_0:=X2.out.c0;have ya_0:=X2.out.f 0;have za_1:=X2.out.c1;have ya_1:=X2.out.f 1;have za_2:=X2.out.c2;have ya_2:=X2.out.f 2;have za_3:=X2.out.c3;have ya_3:=X2.out.f 3;have za_4:=X2.out.c4;have ya_4:=X2.out.f 4))
  refine bodyPost_ret (results_ct rfl _ _ gb 27 #[.int .i64 0,.int .i64 0,.int .i64 0,.int .i64 0,.string (⟨#[]⟩:ByteArray)] (0,0) _ rfl (by (with_reducible repeat (first|refine bN_ ?_ _|refine bD_ ?_));exact X2.out.put _ _ _ _ _) hu27 rfl (by kernel_rfl)) rfl ?_
  exact ⟨rfl,(by (with_reducible repeat (first|apply pw_below_drewN|apply below_drew1));exact X2.out.put_below _ _ _ _ _)⟩
 ·rw [if_neg h0]
  unfold kMv
  obtain ⟨ba,hba⟩:=Option.ne_none_iff_exists'.1 ((t.sibOk i).resolve_left h0)
  have HL:=a_ (t.lastOk (sibT i G))
  have T1:=a_ t
  have HI:=a_ hi
  have HP:=a_ hp
  have H0:=a_ h0
  have HA:=a_ hba
  clear t hi hp h0 hba
  unfold lastK
  go_enter Tryd.func113,Tryd.ntmps113
  go_wp2_with (first
   | ((with_reducible refine gD_ (N:=4) rfl ?_);refine bx_ 4 (#[.int .i64 0,.int .i64 0,.int .i64 0,.int .i64 0,.string (⟨#[]⟩:ByteArray)]) 27 ?_;intro gb hg W1 hbox hb;have X1:=a_ (Bx.mk hbox (by rw [hg];exact Nat.le_refl _) (hb));have hb1:=a_ hb;clear hbox hb hg;have T2:=a_ (T1.out.kept (T1.out.m.below hb1.out)))
   | (go_at_call 76;(with_reducible refine (T2.out.ahead HI.out HP.out).mono ?_);rw [HA.out,pa_some];rintro en W2 ⟨rfl,hb⟩;have X2:=a_ (X1.out.step hb);have T3:=a_ (T2.out.kept (T2.out.m.below hb));clear hb)
   | (go_at_call 114;(with_reducible refine (T3.out.lastKid HA.out).mono ?_);rintro en W3 ⟨rfl,hb⟩;have X3:=a_ (X2.out.step hb);have T4:=a_ (T3.out.kept (T3.out.m.below hb));clear hb)
   | (go_at_call 104;(with_reducible refine (moveTo_any T4.out.m HI.out HA.out HL.out).mono ?_);rintro en W4 ⟨rfl,hb⟩;have X4:=a_ (X3.out.step hb);clear hb;have za_0:=X4.out.c0;have ya_0:=X4.out.f 0;have za_1:=X4.out.c1;have ya_1:=X4.out.f 1;have za_2:=X4.out.c2;have ya_2:=X4.out.f 2;have za_3:=X4.out.c3;have ya_3:=X4.out.f 3;have za_4:=X4.out.c4;have ya_4:=X4.out.f 4))
  refine bodyPost_ret (results_ct rfl _ _ gb 27 #[.int .i64 3,.int .i64 (i:Int),.int .i64 (sibT i G:Nat),.int .i64 (lastN 0 (sub (sibT i G) G).tops:Nat),.string (⟨#[]⟩:ByteArray)] (0,0) _ rfl (by (with_reducible repeat (first|refine bN_ ?_ _|refine bD_ ?_));exact X4.out.put _ _ _ _ _) hu27 rfl (by kernel_rfl)) rfl ?_
  exact ⟨rfl,(by (with_reducible repeat (first|apply pw_below_drewN|apply below_drew1));exact X4.out.put_below _ _ _ _ _)⟩
attribute [local go_sem] Oper.semAt_some

theorem keyCommands_any (w:World):Calls Tryd.prog 95 #[] w fun e w'=>∃ g,e=.returned (.slice (some ⟨g,0,none⟩) 3 3)∧w'.cell? ⟨g,0,none⟩=some (.func (.func 113) #[] #[])∧w'.cell? ⟨g,1,none⟩=some (.func (.func 115) #[] #[])∧w'.cell? ⟨g,2,none⟩=some (.func (.func 116) #[] #[])∧Below w.heap.size w w':=by
 go_enter Tryd.func95,Tryd.ntmps95
 go_wp2
 go_ret
 have hn:=heap_alloc_new w (.cells #[.func (.func 113) #[] #[],.func (.func 115) #[] #[],.func (.func 116) #[] #[]] 105)
 exact ⟨_,rfl,(bC_ hn 0).trans rfl,(bC_ hn 1).trans rfl,(bC_ hn 2).trans rfl,(Below.refl _ w).alloc (Nat.le_refl _) _⟩
theorem At.parMade {w:World} {n0 F:Nat} {A:Nat→Option Nat} {h:Nat→Nd} {G:Fo} (t:At w n0 F A h G) {u:Nat} (hu:u∈G.ids) (hr:madeB (u:Int)=true):FP.par u 0 G≠0:=by
 have hut:u∉G.tops:=fun g=>by
  rw [t.tops] at g
  simp only [List.mem_cons,List.not_mem_nil,or_false] at g
  rcases g with rfl|rfl|rfl <;> exact absurd hr (by decide)
 have:=(reptop_up t.rep t.nd hu hut).1
 rw [t.par hu] at this
 exact t.rep.ne0 _ this
theorem runKey0 (A0:Option Addr) (c0:Nat) (l0:List S37) (id:Int) (w:World) (hr0:Kd.C k37 w A0 l0.length l0) (hc0:l0.length≤c0) (hG:Glob w) :
  Calls Tryd.prog 57 #[.slice A0 l0.length c0,.int .i64 id,.int .i64 0] w (KeyPost w (keyR keyInF l0 id)):=by
 unfold keyR KeyPost
 have hu27:=Tryd.underlying27
 have HR:=a_ hr0
 have HC:=a_ hc0
 have HG:=a_ hG
 clear hr0 hc0 hG
 cases ht:treeB l0 with
 | false =>
  rw [if_neg (by decide)]
  unfold kNo
  have HT:=a_ ht
  clear ht
  go_enter Tryd.func57,Tryd.ntmps57
  go_wp2_with (first
   | ((with_reducible refine gD_ (N:=6) rfl ?_);refine bx_ 6 (#[.int .i64 0,.int .i64 0,.int .i64 0,.int .i64 0,.string (⟨#[]⟩:ByteArray)]) 27 ?_;intro gb hg W1 hbox hb;have X1:=a_ (Bx.mk hbox (by rw [hg];exact Nat.le_refl _) (hb));have hb1:=a_ hb;clear hbox hb hg)
   | (go_at_call 60;(with_reducible refine (plant_no A0 c0 l0 _ (Kd.C_below HR.out hb1.out) HC.out HT.out (HG.out.below hb1.out)).mono ?_);rintro en W2 ⟨rfl,hb⟩;have X2:=a_ (X1.out.step hb);clear hb;have za_0:=X2.out.c0;have ya_0:=X2.out.f 0;have za_1:=X2.out.c1;have ya_1:=X2.out.f 1;have za_2:=X2.out.c2;have ya_2:=X2.out.f 2;have za_3:=X2.out.c3;have ya_3:=X2.out.f 3;have za_4:=X2.out.c4;have ya_4:=X2.out.f 4))
  refine bodyPost_ret (results_ct rfl _ _ gb 27 #[.int .i64 0,.int .i64 0,.int .i64 0,.int .i64 0,.string (⟨#[]⟩:ByteArray)] (0,0) _ rfl (by (with_reducible repeat (first|refine bN_ ?_ _|refine bD_ ?_));exact X2.out.put _ _ _ _ _) hu27 rfl (by kernel_rfl)) rfl ?_
  exact ⟨rfl,(by (with_reducible repeat (first|apply pw_below_drewN|apply below_drew1));exact X2.out.put_below _ _ _ _ _)⟩
 | true =>
  rw [if_pos rfl]
  have HT:=a_ ht
  clear ht
  have HM:=a_ (isMade_f id)
  cases hm:madeB id with
  | false =>
   rw [if_neg (by decide)]
   rw [hm] at HM
   clear hm
   unfold kNo
   go_enter Tryd.func57,Tryd.ntmps57
   go_wp2_with (first
    | ((with_reducible refine gD_ (N:=6) rfl ?_);refine bx_ 6 (#[.int .i64 0,.int .i64 0,.int .i64 0,.int .i64 0,.string (⟨#[]⟩:ByteArray)]) 27 ?_;intro gb hg W1 hbox hb;have X1:=a_ (Bx.mk hbox (by rw [hg];exact Nat.le_refl _) (hb));have hb1:=a_ hb;clear hbox hb hg)
    | (go_at_call 60;(with_reducible refine (plant_at A0 c0 l0 _ (Kd.C_below HR.out hb1.out) HC.out HT.out (HG.out.below hb1.out)).mono ?_);rintro en W2 ⟨Fb,A,h,rfl,hat,hb⟩;have X2:=a_ (X1.out.step hb);clear hb hat)
    | (go_at_call 94;(with_reducible refine (impl_isMade.calls _ _ _ HM.out (HG.out.below X2.out.below)).mono ?_);rintro en W3 ⟨rfl,hb0⟩;have hb:=hb0.below;have X3:=a_ (X2.out.step hb);clear hb hb0;have za_0:=X3.out.c0;have ya_0:=X3.out.f 0;have za_1:=X3.out.c1;have ya_1:=X3.out.f 1;have za_2:=X3.out.c2;have ya_2:=X3.out.f 2;have za_3:=X3.out.c3;have ya_3:=X3.out.f 3;have za_4:=X3.out.c4;have ya_4:=X3.out.f 4))
   refine bodyPost_ret (results_ct rfl _ _ gb 27 #[.int .i64 0,.int .i64 0,.int .i64 0,.int .i64 0,.string (⟨#[]⟩:ByteArray)] (0,0) _ rfl (by (with_reducible repeat (first|refine bN_ ?_ _|refine bD_ ?_));exact X3.out.put _ _ _ _ _) hu27 rfl (by kernel_rfl)) rfl ?_
   exact ⟨rfl,(by (with_reducible repeat (first|apply pw_below_drewN|apply below_drew1));exact X3.out.put_below _ _ _ _ _)⟩
  | true =>
   rw [if_pos rfl]
   rw [hm] at HM
   by_cases h0:fndF (toFo l0) id=0
   ·rw [if_pos h0]
    have H0:=a_ h0
    clear h0 hm
    unfold kNo
    go_enter Tryd.func57,Tryd.ntmps57
    go_wp2_with (first
     | ((with_reducible refine gD_ (N:=6) rfl ?_);refine bx_ 6 (#[.int .i64 0,.int .i64 0,.int .i64 0,.int .i64 0,.string (⟨#[]⟩:ByteArray)]) 27 ?_;intro gb hg W1 hbox hb;have X1:=a_ (Bx.mk hbox (by rw [hg];exact Nat.le_refl _) (hb));have hb1:=a_ hb;clear hbox hb hg)
     | (go_at_call 60;(with_reducible refine (plant_at A0 c0 l0 _ (Kd.C_below HR.out hb1.out) HC.out HT.out (HG.out.below hb1.out)).mono ?_);rintro en W2 ⟨Fb,A,h,rfl,hat,hb⟩;have X2:=a_ (X1.out.step hb);have T2:=a_ hat;clear hb hat)
     | (go_at_call 94;(with_reducible refine (impl_isMade.calls _ _ _ HM.out (HG.out.below X2.out.below)).mono ?_);rintro en W3 ⟨rfl,hb0⟩;have hb:=hb0.below;have X3:=a_ (X2.out.step hb);have T3:=a_ (T2.out.kept (T2.out.m.below hb));clear hb hb0;have za_0:=X3.out.c0;have ya_0:=X3.out.f 0;have za_1:=X3.out.c1;have ya_1:=X3.out.f 1;have za_2:=X3.out.c2;have ya_2:=X3.out.f 2;have za_3:=X3.out.c3;have ya_3:=X3.out.f 3;have za_4:=X3.out.c4;have ya_4:=X3.out.f 4)
     | (go_at_call 61;(with_reducible refine (find_any T3.out.m id).mono ?_);rw [T3.out.lost H0.out,pa_none];rintro en W4 ⟨rfl,rfl⟩))
    refine bodyPost_ret (results_ct rfl _ _ gb 27 #[.int .i64 0,.int .i64 0,.int .i64 0,.int .i64 0,.string (⟨#[]⟩:ByteArray)] (0,0) _ rfl (by (with_reducible repeat (first|refine bN_ ?_ _|refine bD_ ?_));exact X3.out.put _ _ _ _ _) hu27 rfl (by kernel_rfl)) rfl ?_
    exact ⟨rfl,(by (with_reducible repeat (first|apply pw_below_drewN|apply below_drew1));exact X3.out.put_below _ _ _ _ _)⟩
   ·rw [if_neg h0]
    obtain ⟨i,hi⟩:∃ i,i=fndF (toFo l0) id:=⟨_,rfl⟩
    have hmem:=fndF_mem h0
    rw [←hi] at hmem
    have HMM:=a_ (show madeB (i:Int)=true by rw [hmem.2];exact hm)
    have HME:=a_ hmem.1
    have H0:=a_ h0
    have HI:=a_ hi
    rw [←hi]
    clear h0 hm hmem hi
    obtain ⟨r,hr⟩:∃ r,r=keyInF (toFo l0) i:=⟨_,rfl⟩
    have HRR:=a_ hr
    rw [←hr]
    clear hr
    go_enter Tryd.func57,Tryd.ntmps57
    go_wp2_with (first
     | ((with_reducible refine gD_ (N:=6) rfl ?_);refine bx_ 6 (#[.int .i64 0,.int .i64 0,.int .i64 0,.int .i64 0,.string (⟨#[]⟩:ByteArray)]) 27 ?_;intro gb hg W1 hbox hb;have X1:=a_ (Bx.mk hbox (by rw [hg];exact Nat.le_refl _) (hb));have hb1:=a_ hb;clear hbox hb hg)
     | (go_at_call 60;(with_reducible refine (plant_at A0 c0 l0 _ (Kd.C_below HR.out hb1.out) HC.out HT.out (HG.out.below hb1.out)).mono ?_);rintro en W2 ⟨Fb,A,h,rfl,hat,hb⟩;have X2:=a_ (X1.out.step hb);have T2:=a_ hat;obtain ⟨b,hb1_,hb2_⟩:=hat.found H0.out;rw [←HI.out] at hb2_;have F1:=a_ hb1_;have F2:=a_ hb2_;have HPM:=a_ (hat.parMade HME.out HMM.out);clear hb hat hb1_ hb2_)
     | (go_at_call 94;(with_reducible refine (impl_isMade.calls _ _ _ HM.out (HG.out.below X2.out.below)).mono ?_);rintro en W3 ⟨rfl,hb0⟩;have hb:=hb0.below;have X3:=a_ (X2.out.step hb);have T3:=a_ (T2.out.kept (T2.out.m.below hb));clear hb hb0)
     | (go_at_call 61;(with_reducible refine (find_any T3.out.m id).mono ?_);rw [F1.out,pa_some];rintro en W4 ⟨rfl,rfl⟩)
     | (go_at_call 95;(with_reducible refine (keyCommands_any _).mono ?_);rintro en W5 ⟨g,rfl,g0,g1,g2,hb⟩;have X4:=a_ (X3.out.step hb);have T4:=a_ (T3.out.kept (T3.out.m.below hb));clear hb)
     | (go_at_call 113;(with_reducible refine (key1_any T4.out F2.out HPM.out).mono ?_);rw [←HRR.out];rintro en W6 ⟨rfl,hb⟩;have X5:=a_ (X4.out.step hb);clear hb;have za_0:=X5.out.c0;have ya_0:=X5.out.f 0;have za_1:=X5.out.c1;have ya_1:=X5.out.f 1;have za_2:=X5.out.c2;have ya_2:=X5.out.f 2;have za_3:=X5.out.c3;have ya_3:=X5.out.f 3;have za_4:=X5.out.c4;have ya_4:=X5.out.f 4))
    refine bodyPost_ret (results_ct rfl _ _ gb 27 #[.int .i64 r.1,.int .i64 r.2.1,.int .i64 r.2.2.1,.int .i64 r.2.2.2.1,.string r.2.2.2.2.1] (0,0) _ rfl (by (with_reducible repeat (first|refine bN_ ?_ _|refine bD_ ?_));exact X5.out.put _ _ _ _ _) hu27 rfl (by kernel_rfl)) rfl ?_
    exact ⟨rfl,(by (with_reducible repeat (first|apply pw_below_drewN|apply below_drew1));exact X5.out.put_below _ _ _ _ _)⟩
attribute [local go_sem] Oper.semAt_some

def impl_KeyIn.f (k:Nat) (l0:List S37) (a1:Int):Option (Int×Int×Int×Int×ByteArray×Bool):=some (keyR keyInF l0 a1)
theorem impl_KeyIn.mono (l0:List S37) (a1:Int) (k:Nat):LeO (impl_KeyIn.f k l0 a1) (impl_KeyIn.f (k+1) l0 a1):=LeO.refl _
theorem impl_KeyIn.calls (k:Nat) (A0:Option Addr) (c0:Nat) (l0:List S37) (a1:Int) (r1 r2 r3 r4:Int) (r5:ByteArray) (r6:Bool) (w:World) (hr0:Kd.C k37 w A0 l0.length l0) (hc0:l0.length≤c0) (h:impl_KeyIn.f k l0 a1=some (r1,r2,r3,r4,r5,r6)) (hG:Glob w) :
  Calls Tryd.prog 28 #[.slice A0 l0.length c0,.int .i64 a1] w fun e w'=>e=.returned (.tuple #[.agg #[.int .i64 r1,.int .i64 r2,.int .i64 r3,.int .i64 r4,.string r5],.bool r6])∧Below w.heap.size w w':=by
 have hu27:=Tryd.underlying27
 have HR:=a_ hr0
 have HC:=a_ hc0
 have HG:=a_ hG
 have HRR:=a_ (sj_ h)
 clear hr0 hc0 hG h
 go_enter Tryd.func28,Tryd.ntmps28
 go_wp2_with (first
  | ((with_reducible refine gD_ (N:=4) rfl ?_);refine bx_ 4 (#[.int .i64 0,.int .i64 0,.int .i64 0,.int .i64 0,.string (⟨#[]⟩:ByteArray)]) 27 ?_;intro gb hg W1 hbox hb;have X1:=a_ (Bx.mk hbox (by rw [hg];exact Nat.le_refl _) (hb));have hb1:=a_ hb;clear hbox hb hg)
  | (go_at_call 57;(with_reducible refine (runKey0 A0 c0 l0 a1 _ (Kd.C_below HR.out hb1.out) HC.out (HG.out.below hb1.out)).mono ?_);rw [HRR.out];unfold KeyPost;rintro en W2 ⟨rfl,hb⟩;have X2:=a_ (X1.out.step hb);clear hb;have za_0:=X2.out.c0;have ya_0:=X2.out.f 0;have za_1:=X2.out.c1;have ya_1:=X2.out.f 1;have za_2:=X2.out.c2;have ya_2:=X2.out.f 2;have za_3:=X2.out.c3;have ya_3:=X2.out.f 3;have za_4:=X2.out.c4;have ya_4:=X2.out.f 4))
 refine bodyPost_ret (results_ct rfl _ _ gb 27 #[.int .i64 r1,.int .i64 r2,.int .i64 r3,.int .i64 r4,.string r5] (0,0) _ rfl (by (with_reducible repeat (first|refine bN_ ?_ _|refine bD_ ?_));exact X2.out.put _ _ _ _ _) hu27 rfl (by kernel_rfl)) rfl ?_
 exact ⟨rfl,(by (with_reducible repeat (first|apply pw_below_drewN|apply below_drew1));exact X2.out.put_below _ _ _ _ _)⟩
end Go.Proofs.YtlkheeegkifblaaDoor.P
namespace Go.Proofs.YtlkheeegkifblaaDoor.P
open Go.RowKit Go.Proofs.YtlkheeegkifblaaDoorW.PrintWords Go.Proofs.YtlkheeegkifblaaDoorW.PrintLast
theorem eqA27 (d:Nat) (w:World) (x0 y0:Int) (x1 y1:Int) (x2 y2:Int) (x3 y3:Int) (x4 y4:ByteArray) :
  (Op.equalIn (d+2) 27 (.agg #[.int .i64 x0,.int .i64 x1,.int .i64 x2,.int .i64 x3,.string x4]) (.agg #[.int .i64 y0,.int .i64 y1,.int .i64 y2,.int .i64 y3,.string y4])).run Tryd.prog w=.ok (x0==y0&&(x1==y1&&(x2==y2&&(x3==y3&&(x4.toList==y4.toList))))) w:=by
 refine eqA_of Tryd.underlying27 (by kernel_rfl) ?_
 refine eqf_cons (by rfl) (by go_simp;rfl) (by go_simp;rfl) (by go_simp) ?_
 refine eqf_cons (by rfl) (by go_simp;rfl) (by go_simp;rfl) (by go_simp) ?_
 refine eqf_cons (by rfl) (by go_simp;rfl) (by go_simp;rfl) (by go_simp) ?_
 refine eqf_cons (by rfl) (by go_simp;rfl) (by go_simp;rfl) (by go_simp) ?_
 exact eqf_last (by rfl) (by go_simp;rfl) (by go_simp;rfl) (by go_simp)
def laws_lpAt.l0:Nat→List (S37)→Int→Int→Option (Int)
 | 0,_,_,_=>none
 | k+1,x0,x1,x5=>if x5 < (x0.length:Int) then (if 0≤x5 then (if ((rd_T37 x0 x5).f0)=x1 then (some x5) else (laws_lpAt.l0 k x0 x1 (wrap64 (x5+1)))) else (none)) else (some (-1))
def laws_lpAt.f (k:Nat) (l0:List (S37)) (a1:Int):Option (Int):=laws_lpAt.l0 k l0 a1 0
theorem laws_lpAt.mono_l:∀ k,(∀ y0 y1 y2,LeO (laws_lpAt.l0 k y0 y1 y2) (laws_lpAt.l0 (k+1) y0 y1 y2))
 | 0=>fun _ _ _ r h=>by simp [laws_lpAt.l0] at h
 | k+1=>by
  have ih0:=laws_lpAt.mono_l k
  ·intro y0 y1 y2
   unfold laws_lpAt.l0
   repeat' first
   | (with_reducible exact ih0 _ _ _)
   | (with_reducible exact LeO.refl _)
   | (with_reducible exact LeO.none _)
   | (with_reducible refine LeO.ite ?_ ?_)
   | (with_reducible refine LeO.bind ?_ (fun _=>?_))
theorem laws_lpAt.mono:∀ a0 a1 k,LeO (laws_lpAt.f k a0 a1) (laws_lpAt.f (k+1) a0 a1):=by
 intro a0 a1 k
 have ih0:=laws_lpAt.mono_l k
 unfold laws_lpAt.f
 repeat' first
   | (with_reducible exact ih0 _ _ _)
   | (with_reducible exact LeO.refl _)
   | (with_reducible exact LeO.none _)
   | (with_reducible refine LeO.ite ?_ ?_)
   | (with_reducible refine LeO.bind ?_ (fun _=>?_))
theorem laws_lpAt.calls (k:Nat) (A0:Option Addr) (c0:Nat) (l0:List (S37)) (a1:Int) (r:Int) (w:World) (hr0:Kd.C k37 w A0 l0.length l0) (hc0:l0.length≤c0) (h:laws_lpAt.f k l0 a1=some r) :
  Calls Tryd.prog 21 #[.slice A0 l0.length c0,.int .i64 a1] w fun e w'=>e=.returned (.int .i64 r)∧Drawn0 w w':=by
 have HR0:=a_ hr0
 have HC0:=a_ hc0
 clear hr0 hc0
 unfold laws_lpAt.f at h
 have H:=h
 clear h
 have H':=a_ H
 clear H
 go_enter Tryd.func21,Tryd.ntmps21
 go_wp2
 go_loopg [5] k (fun kq v5 w'=>∃ (x5_1:Int),v5=.int .i64 x5_1∧Aside0 (laws_lpAt.l0 kq l0 a1 x5_1=some r)∧Aside0 (kq≤k)∧Drawn0 w w')
 case atStart=>exact ⟨(0),(si_),H',⟨Nat.le_refl _⟩,by repeat (first|exact Drawn0.refl _|apply Drawn0.step)⟩
 case round =>
  clear H'
  try clear c2
  try clear p2
  obtain ⟨x5_1,rfl,HA,HK1,⟨m1,rfl⟩⟩:=hrel
  cases gk with
  | zero=>exact absurd HA.out (by simp [laws_lpAt.l0])
  | succ k1 =>
   have H:=HA.out
   clear HA
   simp only [laws_lpAt.l0] at H
   by_cases c3:x5_1 < (l0.length:Int)
   ·rw [if_pos c3] at H
    have c3b0:decide (x5_1 < (l0.length:Int))=true:=dt_ c3
    clear c3
    by_cases c4:0≤x5_1
    ·rw [if_pos c4] at H
     have c4b0:decide (0≤x5_1)=true:=dt_ c4
     clear c4
     by_cases c5:((rd_T37 l0 x5_1).f0)=a1
     ·rw [if_pos c5] at H
      have c5b0:(((rd_T37 l0 x5_1).f0)==a1)=true:=beq_iff_eq.mpr c5
      have c5b1:(((rd_T37 l0 x5_1).f0) != a1)=false:=be_ c5
      clear c5
      obtain rfl:=sj_ H
      have p361:0≤(x5_1:Int):=od_
      have q361:x5_1 < (l0.length:Int):=od_
      obtain ⟨ad361,e361,hx361_0,hx361_1,hx361_2⟩:=at_T37 HR0.out x5_1 p361 q361
      cases e361
      replace p361:=eq_true p361
      replace q361:=eq_true q361
      go_wp2
      go_ret
      exact ⟨si_,by repeat (first|exact Drawn0.refl _|apply Drawn0.step)⟩
     ·rw [if_neg c5] at H
      have c5b0:(((rd_T37 l0 x5_1).f0)==a1)=false:=bn_ c5
      have c5b1:(((rd_T37 l0 x5_1).f0) != a1)=true:=bne_iff_ne.mpr c5
      have H':=a_ H
      clear H
      have p361:0≤(x5_1:Int):=od_
      have q361:x5_1 < (l0.length:Int):=od_
      obtain ⟨ad361,e361,hx361_0,hx361_1,hx361_2⟩:=at_T37 HR0.out x5_1 p361 q361
      cases e361
      replace p361:=eq_true p361
      replace q361:=eq_true q361
      go_wp2
      go_roundg k1
      case measure=>have:=HK1.out;omega
      case rel=>exact ⟨(wrap64 (x5_1+1)),(si_),H',⟨by have:=HK1.out;omega⟩,by repeat (first|exact Drawn0.refl _|apply Drawn0.step)⟩
    ·rw [if_neg c4] at H
     exact absurd H (by simp)
   ·rw [if_neg c3] at H
    have c3b0:decide (x5_1 < (l0.length:Int))=false:=df_ c3
    clear c3
    obtain rfl:=sj_ H
    go_wp2
    go_ret
    exact ⟨si_,by repeat (first|exact Drawn0.refl _|apply Drawn0.step)⟩


def spec_l11Move.f (a0:Int) (a1:Int) (a2:Int):Option (Int×Int×Int×Int×ByteArray):=some (3,a0,a1,a2,(⟨#[]⟩:ByteArray))
theorem spec_l11Move.calls (a0:Int) (a1:Int) (a2:Int) (r1:Int) (r2:Int) (r3:Int) (r4:Int) (r5:ByteArray) (w:World) (h:spec_l11Move.f a0 a1 a2=some (r1,r2,r3,r4,r5)) :
  Calls Tryd.prog 56 #[.int .i64 a0,.int .i64 a1,.int .i64 a2] w fun e w'=>e=.returned (.agg #[.int .i64 r1,.int .i64 r2,.int .i64 r3,.int .i64 r4,.string r5])∧Below w.heap.size w w':=by
 have hu27:=Tryd.underlying27
 have HB:=a_ (Below.refl w.heap.size w)
 unfold spec_l11Move.f at h
 have H:=h
 clear h
 simp only [Option.some.injEq,Prod.mk.injEq] at H
 obtain ⟨rfl,rfl,rfl,rfl,rfl⟩:=H
 go_enter Tryd.func56,Tryd.ntmps56
 go_wp2_with (first|((with_reducible refine gD_ (N:=6) rfl ?_);refine bx_ 6 (#[.int .i64 0,.int .i64 0,.int .i64 0,.int .i64 0,.string (⟨#[]⟩:ByteArray)]) 27 ?_;intro gb341 hg w4 hbox hb;have n0_:=a_ (bS_ (bel_) hb);have n1_:=a_ (hbox);have n2_:=a_ ((by rw [hg];exact (below_size (bel_)):w.heap.size≤gb341));have n3_:=a_ ((by rw [hg];exact (below_size (bel_)):w.heap.size≤gb341));clear HB;have HB:=n0_;have BK341:=n1_;have GW341:=n2_;have GE341:=n3_;clear n0_ n1_ n2_ n3_;clear hb hbox hg;obtain ⟨Z5_0,Z5_1,Z5_2,Z5_3,Z5_4,Y5_0,Y5_1,Y5_2,Y5_3,Y5_4⟩:=op5_ BK341.out))
 refine bodyPost_ret (results_cell_row rfl _ _ gb341 27 #[.int .i64 3,.int .i64 a0,.int .i64 a1,.int .i64 a2,.string (⟨#[]⟩:ByteArray)] (0,0) _ rfl (by (with_reducible repeat (first|refine bN_ ?_ _|refine bD_ ?_|refine bA_ ?_ _));exact bk5_ (bp_ BK341.out)) Tryd.underlying27 rfl (by kernel_rfl)) rfl ?_
 exact ⟨fi_,bel_⟩

mutual
def spec_l2Ahead.l0:Nat→List (S37)→Int→Int→Option (Int)
 | 0,_,_,_=>none
 | k+1,x0,x1,x5=>if x5≥0 then (if 0≤x5 then (if x5 < (x0.length:Int) then (if 0≤x1 then (if x1 < (x0.length:Int) then (spec_l2Ahead.j1 k x0 x1 x5 (decide (((rd_T37 x0 x5).f1)≥((rd_T37 x0 x1).f1)))) else (none)) else (none)) else (none)) else (none)) else (spec_l2Ahead.j1 k x0 x1 x5 false)
def spec_l2Ahead.j1:Nat→List (S37)→Int→Int→Bool→Option (Int)
 | 0,_,_,_,_=>none
 | k+1,x0,x1,x5,x22=>if x22=true then (if 0≤x5 then (if x5 < (x0.length:Int) then (if 0≤x1 then (if x1 < (x0.length:Int) then (if ((rd_T37 x0 x5).f1)=((rd_T37 x0 x1).f1) then (some ((rd_T37 x0 x5).f0)) else (spec_l2Ahead.l0 k x0 x1 (wrap64 (x5 - 1)))) else (none)) else (none)) else (none)) else (none)) else (some 0)
end
def spec_l2Ahead.f (k:Nat) (l0:List (S37)) (a1:Int):Option (Int):=spec_l2Ahead.l0 k l0 a1 (wrap64 (a1 - 1))
theorem spec_l2Ahead.mono_l:∀ k,(∀ y0 y1 y2,LeO (spec_l2Ahead.l0 k y0 y1 y2) (spec_l2Ahead.l0 (k+1) y0 y1 y2))∧(∀ y0 y1 y2 y3,LeO (spec_l2Ahead.j1 k y0 y1 y2 y3) (spec_l2Ahead.j1 (k+1) y0 y1 y2 y3))
 | 0=>⟨fun _ _ _ r h=>by simp [spec_l2Ahead.l0] at h,fun _ _ _ _ r h=>by simp [spec_l2Ahead.j1] at h⟩
 | k+1=>by
  obtain ⟨ih0,ih1⟩:=spec_l2Ahead.mono_l k
  refine ⟨?_,?_⟩
  all_goals intros
  all_goals first|unfold spec_l2Ahead.l0|unfold spec_l2Ahead.j1
  all_goals repeat' first
  | (with_reducible exact ih0 _ _ _)
  | (with_reducible exact ih1 _ _ _ _)
  | (with_reducible exact LeO.refl _)
  | (with_reducible exact LeO.none _)
  | (with_reducible refine LeO.ite ?_ ?_)
  | (with_reducible refine LeO.bind ?_ (fun _=>?_))
theorem spec_l2Ahead.mono:∀ a0 a1 k,LeO (spec_l2Ahead.f k a0 a1) (spec_l2Ahead.f (k+1) a0 a1):=by
 intro a0 a1 k
 obtain ⟨ih0,ih1⟩:=spec_l2Ahead.mono_l k
 unfold spec_l2Ahead.f
 repeat' first
   | (with_reducible exact ih0 _ _ _)
   | (with_reducible exact ih1 _ _ _ _)
   | (with_reducible exact LeO.refl _)
   | (with_reducible exact LeO.none _)
   | (with_reducible refine LeO.ite ?_ ?_)
   | (with_reducible refine LeO.bind ?_ (fun _=>?_))
theorem spec_l2Ahead.calls (k:Nat) (A0:Option Addr) (c0:Nat) (l0:List (S37)) (a1:Int) (r:Int) (w:World) (hr0:Kd.C k37 w A0 l0.length l0) (hc0:l0.length≤c0) (h:spec_l2Ahead.f k l0 a1=some r) :
  Calls Tryd.prog 83 #[.slice A0 l0.length c0,.int .i64 a1] w fun e w'=>e=.returned (.int .i64 r)∧Drawn0 w w':=by
 have HR0:=a_ hr0
 have HC0:=a_ hc0
 clear hr0 hc0
 unfold spec_l2Ahead.f at h
 have H:=h
 clear h
 have H':=a_ H
 clear H
 go_enter Tryd.func83,Tryd.ntmps83
 go_wp2
 repeat (go_quiet (fail);try go_wp2)
 go_loopg [5] k (fun kq v5 w'=>∃ (x5_1:Int),v5=.int .i64 x5_1∧Aside0 (spec_l2Ahead.l0 kq l0 a1 x5_1=some r)∧Aside0 (kq≤k)∧Drawn0 w w')
 case atStart=>exact ⟨(wrap64 (a1 - 1)),(si_),H',⟨Nat.le_refl _⟩,by repeat (first|exact Drawn0.refl _|apply Drawn0.step)⟩
 case round =>
  clear H'
  try clear p2
  obtain ⟨x5_1,rfl,HA,HK1,⟨m1,rfl⟩⟩:=hrel
  cases gk with
  | zero=>exact absurd HA.out (by simp [spec_l2Ahead.l0])
  | succ k1 =>
   have H:=HA.out
   clear HA
   simp only [spec_l2Ahead.l0] at H
   have HC3:=a_ H
   clear H
   go_upto_region 2 with (fail)
   repeat (go_quiet (fail);go_upto_region 2 with (fail))
   go_cut [22] (fun v22 wc=>∃ (kq:Nat) (x22_2:Bool),v22=.bool x22_2∧Aside0 (spec_l2Ahead.j1 kq l0 a1 x5_1 x22_2=some r)∧Aside0 (kq≤k1)∧Drawn0 w wc)
   case first =>
    have H:=HC3.out
    clear HC3
    by_cases c4:x5_1≥0
    ·rw [if_pos c4] at H
     have c4b0:decide (0≤x5_1)=true:=dt_ c4
     clear c4
     (first|rw [c4b0]|(simp only [i64_w,i32_w];rw [c4b0])|skip)
     by_cases c5:0≤x5_1
     ·rw [if_pos c5] at H
      have c5b0:decide (0≤x5_1)=true:=dt_ c5
      clear c5
      by_cases c6:x5_1 < (l0.length:Int)
      ·rw [if_pos c6] at H
       have c6b0:decide (x5_1 < (l0.length:Int))=true:=dt_ c6
       clear c6
       by_cases c7:0≤a1
       ·rw [if_pos c7] at H
        have c7b0:decide (0≤a1)=true:=dt_ c7
        clear c7
        by_cases c8:a1 < (l0.length:Int)
        ·rw [if_pos c8] at H
         have c8b0:decide (a1 < (l0.length:Int))=true:=dt_ c8
         clear c8
         have H':=a_ H
         clear H
         have p407:0≤(x5_1:Int):=od_
         have q407:x5_1 < (l0.length:Int):=od_
         obtain ⟨ad407,e407,hx407_0,hx407_1,hx407_2⟩:=at_T37 HR0.out x5_1 p407 q407
         cases e407
         replace p407:=eq_true p407
         replace q407:=eq_true q407
         have p408:0≤(a1:Int):=od_
         have q408:a1 < (l0.length:Int):=od_
         obtain ⟨ad408,e408,hx408_0,hx408_1,hx408_2⟩:=at_T37 HR0.out a1 p408 q408
         obtain rfl:ad407=ad408:=(by injection e408)
         replace p408:=eq_true p408
         replace q408:=eq_true q408
         go_wp2
         repeat (go_quiet (fail);try go_wp2)
         go_meet
         case rel=>exact ⟨_,(decide (((rd_T37 l0 x5_1).f1)≥((rd_T37 l0 a1).f1))),(si_),H',⟨by have:=HK1.out;first|omega|exact Nat.le_refl _⟩,by repeat (first|exact Drawn0.refl _|apply Drawn0.step)⟩
        ·rw [if_neg c8] at H
         exact absurd H (by simp)
       ·rw [if_neg c7] at H
        exact absurd H (by simp)
      ·rw [if_neg c6] at H
       exact absurd H (by simp)
     ·rw [if_neg c5] at H
      exact absurd H (by simp)
    ·rw [if_neg c4] at H
     have c4b0:decide (0≤x5_1)=false:=df_ c4
     clear c4
     (first|rw [c4b0]|(simp only [i64_w,i32_w];rw [c4b0])|skip)
     have H':=a_ H
     clear H
     go_wp2
     repeat (go_quiet (fail);try go_wp2)
     go_meet
     case rel=>exact ⟨_,(false),(si_),H',⟨by have:=HK1.out;first|omega|exact Nat.le_refl _⟩,by repeat (first|exact Drawn0.refl _|apply Drawn0.step)⟩
   case rest =>
    clear HC3
    try clear p2
    try clear c4
    try clear c4b0
    try clear p4
    try clear q4
    try clear hx4
    try clear c5
    try clear c5b0
    try clear c6
    try clear c6b0
    try clear p6
    try clear c7
    try clear c7b0
    try clear c8
    try clear c8b0
    try clear hx407_0
    try clear hx407_1
    try clear hx407_2
    try clear hx408_0
    try clear hx408_1
    try clear hx408_2
    try clear p2
    try clear p407
    try clear p408
    try clear q407
    try clear q408
    obtain ⟨kq,x22_2,rfl,HA,HJ2,⟨mc2,rfl⟩⟩:=hcut
    cases kq with
    | zero=>exact absurd HA.out (by simp [spec_l2Ahead.j1])
    | succ kj2 =>
     have H:=HA.out
     clear HA
     simp only [spec_l2Ahead.j1] at H
     by_cases c9:x22_2=true
     ·subst c9
      have H1:(if 0≤x5_1 then (if x5_1 < (l0.length:Int) then (if 0≤a1 then (if a1 < (l0.length:Int) then (if ((rd_T37 l0 x5_1).f1)=((rd_T37 l0 a1).f1) then (some ((rd_T37 l0 x5_1).f0)) else (spec_l2Ahead.l0 kj2 l0 a1 (wrap64 (x5_1 - 1)))) else (none)) else (none)) else (none)) else (none))=some r:=by rw [if_pos rfl] at H;exact H
      clear H
      have H:=H1
      clear H1
      by_cases c10:0≤x5_1
      ·rw [if_pos c10] at H
       have c10b0:decide (0≤x5_1)=true:=dt_ c10
       clear c10
       by_cases c11:x5_1 < (l0.length:Int)
       ·rw [if_pos c11] at H
        have c11b0:decide (x5_1 < (l0.length:Int))=true:=dt_ c11
        clear c11
        by_cases c12:0≤a1
        ·rw [if_pos c12] at H
         have c12b0:decide (0≤a1)=true:=dt_ c12
         clear c12
         by_cases c13:a1 < (l0.length:Int)
         ·rw [if_pos c13] at H
          have c13b0:decide (a1 < (l0.length:Int))=true:=dt_ c13
          clear c13
          by_cases c14:((rd_T37 l0 x5_1).f1)=((rd_T37 l0 a1).f1)
          ·rw [if_pos c14] at H
           have c14b0:(((rd_T37 l0 x5_1).f1)==((rd_T37 l0 a1).f1))=true:=beq_iff_eq.mpr c14
           have c14b1:(((rd_T37 l0 x5_1).f1) != ((rd_T37 l0 a1).f1))=false:=be_ c14
           clear c14
           obtain rfl:=sj_ H
           have p409:0≤(x5_1:Int):=od_
           have q409:x5_1 < (l0.length:Int):=od_
           obtain ⟨ad409,e409,hx409_0,hx409_1,hx409_2⟩:=at_T37 HR0.out x5_1 p409 q409
           cases e409
           replace p409:=eq_true p409
           replace q409:=eq_true q409
           have p410:0≤(a1:Int):=od_
           have q410:a1 < (l0.length:Int):=od_
           obtain ⟨ad410,e410,hx410_0,hx410_1,hx410_2⟩:=at_T37 HR0.out a1 p410 q410
           obtain rfl:ad409=ad410:=(by injection e410)
           replace p410:=eq_true p410
           replace q410:=eq_true q410
           have p411:0≤(x5_1:Int):=od_
           have q411:x5_1 < (l0.length:Int):=od_
           obtain ⟨ad411,e411,hx411_0,hx411_1,hx411_2⟩:=at_T37 HR0.out x5_1 p411 q411
           obtain rfl:ad409=ad411:=(by injection e411)
           replace p411:=eq_true p411
           replace q411:=eq_true q411
           go_wp2
           repeat (go_quiet (fail);try go_wp2)
           go_ret
           exact ⟨si_,by repeat (first|exact Drawn0.refl _|apply Drawn0.step)⟩
          ·rw [if_neg c14] at H
           have c14b0:(((rd_T37 l0 x5_1).f1)==((rd_T37 l0 a1).f1))=false:=bn_ c14
           have c14b1:(((rd_T37 l0 x5_1).f1) != ((rd_T37 l0 a1).f1))=true:=bne_iff_ne.mpr c14
           have H':=a_ H
           clear H
           have p409:0≤(x5_1:Int):=od_
           have q409:x5_1 < (l0.length:Int):=od_
           obtain ⟨ad409,e409,hx409_0,hx409_1,hx409_2⟩:=at_T37 HR0.out x5_1 p409 q409
           cases e409
           replace p409:=eq_true p409
           replace q409:=eq_true q409
           have p410:0≤(a1:Int):=od_
           have q410:a1 < (l0.length:Int):=od_
           obtain ⟨ad410,e410,hx410_0,hx410_1,hx410_2⟩:=at_T37 HR0.out a1 p410 q410
           obtain rfl:ad409=ad410:=(by injection e410)
           replace p410:=eq_true p410
           replace q410:=eq_true q410
           go_wp2
           repeat (go_quiet (fail);try go_wp2)
           go_roundg kj2
           case measure=>have:=HK1.out;have:=HJ2.out;omega
           case rel=>exact ⟨(wrap64 (x5_1 - 1)),(si_),H',⟨by have:=HK1.out;have:=HJ2.out;omega⟩,by repeat (first|exact Drawn0.refl _|apply Drawn0.step)⟩
         ·rw [if_neg c13] at H
          exact absurd H (by simp)
        ·rw [if_neg c12] at H
         exact absurd H (by simp)
       ·rw [if_neg c11] at H
        exact absurd H (by simp)
      ·rw [if_neg c10] at H
       exact absurd H (by simp)
     ·replace c9:=Bool.eq_false_iff.mpr c9
      subst c9
      have H1:(some 0)=some r:=by rw [if_neg (show ¬ (false=true) by decide)] at H;exact H
      clear H
      have H:=H1
      clear H1
      obtain rfl:=sj_ H
      go_wp2
      repeat (go_quiet (fail);try go_wp2)
      go_ret
      exact ⟨si_,by repeat (first|exact Drawn0.refl _|apply Drawn0.step)⟩

def spec_TreeAhead.f (k:Nat) (l0:List (S37)) (a1:Int):Option (Int×Bool):=(spec_l2At.f k l0 a1).bind fun t412=>((spec_TreeOk.f k l0).bind fun t413=>(if t413=true then (if t412 < 0 then (some (0,false)) else ((spec_l1Root.f a1).bind fun t414=>(if t414=true then (some (0,false)) else ((spec_l2Ahead.f k l0 t412).bind fun t415=>(some (t415,true)))))) else (some (0,false))))
theorem spec_TreeAhead.mono:∀ a0 a1 k,LeO (spec_TreeAhead.f k a0 a1) (spec_TreeAhead.f (k+1) a0 a1):=by
 intro a0 a1 k
 unfold spec_TreeAhead.f
 repeat' first
   | (with_reducible exact spec_TreeOk.mono _ _)
   | (with_reducible exact spec_l2Ahead.mono _ _ _)
   | (with_reducible exact spec_l2At.mono _ _ _)
   | (with_reducible exact LeO.refl _)
   | (with_reducible exact LeO.none _)
   | (with_reducible refine LeO.ite ?_ ?_)
   | (with_reducible refine LeO.bind ?_ (fun _=>?_))
theorem spec_TreeAhead.calls (k:Nat) (A0:Option Addr) (c0:Nat) (l0:List (S37)) (a1:Int) (r1:Int) (r2:Bool) (w:World) (hr0:Kd.C k37 w A0 l0.length l0) (hc0:l0.length≤c0) (h:spec_TreeAhead.f k l0 a1=some (r1,r2)) :
  Calls Tryd.prog 69 #[.slice A0 l0.length c0,.int .i64 a1] w fun e w'=>e=.returned (.tuple #[.int .i64 r1,.bool r2])∧Below w.heap.size w w':=by
 have HR0:=a_ hr0
 have HC0:=a_ hc0
 clear hr0 hc0
 have HB:=a_ (Below.refl w.heap.size w)
 unfold spec_TreeAhead.f at h
 have H:=h
 clear h
 replace H:=bs_ H
 obtain ⟨t412,A30,H⟩:=H
 try dsimp only at H
 have A3:=a_ A30
 clear A30
 replace H:=bs_ H
 obtain ⟨t413,A40,H⟩:=H
 try dsimp only at H
 have A4:=a_ A40
 clear A40
 by_cases c5:t413=true
 ·subst c5
  have H1:(if t412 < 0 then (some (0,false)) else ((spec_l1Root.f a1).bind fun t414=>(if t414=true then (some (0,false)) else ((spec_l2Ahead.f k l0 t412).bind fun t415=>(some (t415,true))))))=some (r1,r2):=by rw [if_pos rfl] at H;exact H
  clear H
  have H:=H1
  clear H1
  by_cases c6:t412 < 0
  ·rw [if_pos c6] at H
   have c6b0:decide (t412 < 0)=true:=dt_ c6
   clear c6
   simp only [Option.some.injEq,Prod.mk.injEq] at H
   obtain ⟨rfl,rfl⟩:=H
   go_enter Tryd.func69,Tryd.ntmps69
   go_wp2_with (first|((with_reducible refine gC_ (f:=54) rfl ?_);refine gl_ 9 Tryd.func54 #[.slice A0 l0.length c0,.int .i64 a1] ?_;(with_reducible refine (spec_l2At.calls k _ _ l0 a1 t412 _ ?side1 ?side2 A3.out).mono ?_);(case side1=>exact cx_ HR0.out);(case side2=>exact HC0.out);rintro e w' ⟨rfl,⟨nd,rfl⟩⟩;refine ⟨_,rfl,?_⟩)|((with_reducible refine gC_ (f:=19) rfl ?_);refine gl_ 11 Tryd.func19 #[.slice A0 l0.length c0] ?_;(with_reducible refine (spec_TreeOk.calls k _ _ l0 true _ ?side1 ?side2 A4.out).mono ?_);(case side1=>exact cx_ HR0.out);(case side2=>exact HC0.out);rintro e w7 ⟨rfl,hb⟩;refine ⟨_,rfl,?_⟩;replace HB:=a_ (bS_ (bel_) hb);(try clear hb)))
   go_ret2
   exact ⟨fi_,bel_⟩
  ·rw [if_neg c6] at H
   have c6b0:decide (t412 < 0)=false:=df_ c6
   clear c6
   replace H:=bs_ H
   obtain ⟨t414,A80,H⟩:=H
   try dsimp only at H
   have A8:=a_ A80
   clear A80
   by_cases c9:t414=true
   ·subst c9
    have H1:(some (0,false))=some (r1,r2):=by rw [if_pos rfl] at H;exact H
    clear H
    have H:=H1
    clear H1
    simp only [Option.some.injEq,Prod.mk.injEq] at H
    obtain ⟨rfl,rfl⟩:=H
    go_enter Tryd.func69,Tryd.ntmps69
    go_wp2_with (first|((with_reducible refine gC_ (f:=54) rfl ?_);refine gl_ 9 Tryd.func54 #[.slice A0 l0.length c0,.int .i64 a1] ?_;(with_reducible refine (spec_l2At.calls k _ _ l0 a1 t412 _ ?side1 ?side2 A3.out).mono ?_);(case side1=>exact cx_ HR0.out);(case side2=>exact HC0.out);rintro e w' ⟨rfl,⟨nd,rfl⟩⟩;refine ⟨_,rfl,?_⟩)|((with_reducible refine gC_ (f:=19) rfl ?_);refine gl_ 11 Tryd.func19 #[.slice A0 l0.length c0] ?_;(with_reducible refine (spec_TreeOk.calls k _ _ l0 true _ ?side1 ?side2 A4.out).mono ?_);(case side1=>exact cx_ HR0.out);(case side2=>exact HC0.out);rintro e w10 ⟨rfl,hb⟩;refine ⟨_,rfl,?_⟩;replace HB:=a_ (bS_ (bel_) hb);(try clear hb))|(go_at_call 59;(with_reducible refine (spec_l1Root.calls a1 true _ A8.out).mono ?_);rintro e w' ⟨rfl,⟨nd,rfl⟩⟩))
    go_ret2
    exact ⟨fi_,bel_⟩
   ·replace c9:=Bool.eq_false_iff.mpr c9
    subst c9
    have H1:((spec_l2Ahead.f k l0 t412).bind fun t415=>(some (t415,true)))=some (r1,r2):=by rw [if_neg (show ¬ (false=true) by decide)] at H;exact H
    clear H
    have H:=H1
    clear H1
    replace H:=bs_ H
    obtain ⟨t415,A110,H⟩:=H
    try dsimp only at H
    have A11:=a_ A110
    clear A110
    simp only [Option.some.injEq,Prod.mk.injEq] at H
    obtain ⟨rfl,rfl⟩:=H
    go_enter Tryd.func69,Tryd.ntmps69
    go_wp2_with (first|((with_reducible refine gC_ (f:=54) rfl ?_);refine gl_ 9 Tryd.func54 #[.slice A0 l0.length c0,.int .i64 a1] ?_;(with_reducible refine (spec_l2At.calls k _ _ l0 a1 t412 _ ?side1 ?side2 A3.out).mono ?_);(case side1=>exact cx_ HR0.out);(case side2=>exact HC0.out);rintro e w' ⟨rfl,⟨nd,rfl⟩⟩;refine ⟨_,rfl,?_⟩)|((with_reducible refine gC_ (f:=19) rfl ?_);refine gl_ 11 Tryd.func19 #[.slice A0 l0.length c0] ?_;(with_reducible refine (spec_TreeOk.calls k _ _ l0 true _ ?side1 ?side2 A4.out).mono ?_);(case side1=>exact cx_ HR0.out);(case side2=>exact HC0.out);rintro e w12 ⟨rfl,hb⟩;refine ⟨_,rfl,?_⟩;replace HB:=a_ (bS_ (bel_) hb);(try clear hb))|(go_at_call 59;(with_reducible refine (spec_l1Root.calls a1 false _ A8.out).mono ?_);rintro e w' ⟨rfl,⟨nd,rfl⟩⟩)|((with_reducible refine gC_ (f:=83) rfl ?_);refine gl_ 23 Tryd.func83 #[.slice A0 l0.length c0,.int .i64 t412] ?_;(with_reducible refine (spec_l2Ahead.calls k _ _ l0 t412 t415 _ ?side1 ?side2 A11.out).mono ?_);(case side1=>repeat (first|exact (Kd.C_below HR0.out (bel_))|(with_reducible refine Kd.C_alloc ?_ _)|(with_reducible refine Kd.C_drewN ?_ _)|(with_reducible refine Kd.C_drew ?_)));(case side2=>exact HC0.out);rintro e w' ⟨rfl,⟨nd,rfl⟩⟩;refine ⟨_,rfl,?_⟩))
    go_ret2
    exact ⟨fi_,bel_⟩
 ·replace c5:=Bool.eq_false_iff.mpr c5
  subst c5
  have H1:(some (0,false))=some (r1,r2):=by rw [if_neg (show ¬ (false=true) by decide)] at H;exact H
  clear H
  have H:=H1
  clear H1
  simp only [Option.some.injEq,Prod.mk.injEq] at H
  obtain ⟨rfl,rfl⟩:=H
  go_enter Tryd.func69,Tryd.ntmps69
  go_wp2_with (first|((with_reducible refine gC_ (f:=54) rfl ?_);refine gl_ 9 Tryd.func54 #[.slice A0 l0.length c0,.int .i64 a1] ?_;(with_reducible refine (spec_l2At.calls k _ _ l0 a1 t412 _ ?side1 ?side2 A3.out).mono ?_);(case side1=>exact cx_ HR0.out);(case side2=>exact HC0.out);rintro e w' ⟨rfl,⟨nd,rfl⟩⟩;refine ⟨_,rfl,?_⟩)|((with_reducible refine gC_ (f:=19) rfl ?_);refine gl_ 11 Tryd.func19 #[.slice A0 l0.length c0] ?_;(with_reducible refine (spec_TreeOk.calls k _ _ l0 false _ ?side1 ?side2 A4.out).mono ?_);(case side1=>exact cx_ HR0.out);(case side2=>exact HC0.out);rintro e w13 ⟨rfl,hb⟩;refine ⟨_,rfl,?_⟩;replace HB:=a_ (bS_ (bel_) hb);(try clear hb)))
  go_ret2
  exact ⟨fi_,bel_⟩

mutual
def spec_DrawTreeAhead.l0:Nat→List (S37)→Int→Int→List Int→Int→Option ((List (S37))×Int)
 | 0,_,_,_,_,_=>none
 | k+1,x5,x6,x7,x419000,x419001=>if x7 < 5 then ((spec_l6Rd_pick.f k x419000 x419001 6).bind fun bt424=>(spec_DrawTreeAhead.j1 k x5 x6 x7 (decide (bt424.1 > 0)) x419000 bt424.2)) else (spec_DrawTreeAhead.j1 k x5 x6 x7 false x419000 x419001)
def spec_DrawTreeAhead.j1:Nat→List (S37)→Int→Int→Bool→List Int→Int→Option ((List (S37))×Int)
 | 0,_,_,_,_,_,_=>none
 | k+1,x5,x6,x7,x23,x419000,x419001=>if x23=true then ((spec_TreeAhead.f k x5 x6).bind fun bt426=>(if bt426.1 > 0 then (some (x5,x6)) else ((spec_l71Row.f k x419000 x419001).bind fun bt428=>(spec_DrawTreeAhead.l0 k bt428.1 bt428.2.1 (wrap64 (x7+1)) x419000 bt428.2.2)))) else (some (x5,x6))
end
def spec_DrawTreeAhead.f (k:Nat) (l0:List Int):Option ((List (S37))×Int):=(spec_l6Open.f l0).bind fun bt416=>((spec_l71Row.f k bt416.1 bt416.2).bind fun bt419=>(spec_DrawTreeAhead.l0 k bt419.1 bt419.2.1 0 bt416.1 bt419.2.2))
theorem spec_DrawTreeAhead.mono_l:∀ k,(∀ y0 y1 y2 y3 y4,LeO (spec_DrawTreeAhead.l0 k y0 y1 y2 y3 y4) (spec_DrawTreeAhead.l0 (k+1) y0 y1 y2 y3 y4))∧(∀ y0 y1 y2 y3 y4 y5,LeO (spec_DrawTreeAhead.j1 k y0 y1 y2 y3 y4 y5) (spec_DrawTreeAhead.j1 (k+1) y0 y1 y2 y3 y4 y5))
 | 0=>⟨fun _ _ _ _ _ r h=>by simp [spec_DrawTreeAhead.l0] at h,fun _ _ _ _ _ _ r h=>by simp [spec_DrawTreeAhead.j1] at h⟩
 | k+1=>by
  obtain ⟨ih0,ih1⟩:=spec_DrawTreeAhead.mono_l k
  refine ⟨?_,?_⟩
  all_goals intros
  all_goals first|unfold spec_DrawTreeAhead.l0|unfold spec_DrawTreeAhead.j1
  all_goals repeat' first
  | (with_reducible exact ih0 _ _ _ _ _)
  | (with_reducible exact ih1 _ _ _ _ _ _)
  | (with_reducible exact spec_TreeAhead.mono _ _ _)
  | (with_reducible exact spec_l6Rd_pick.mono _ _ _ _)
  | (with_reducible exact spec_l71Row.mono _ _ _)
  | (with_reducible exact LeO.refl _)
  | (with_reducible exact LeO.none _)
  | (with_reducible refine LeO.ite ?_ ?_)
  | (with_reducible refine LeO.bind ?_ (fun _=>?_))
theorem spec_DrawTreeAhead.mono:∀ a0 k,LeO (spec_DrawTreeAhead.f k a0) (spec_DrawTreeAhead.f (k+1) a0):=by
 intro a0 k
 obtain ⟨ih0,ih1⟩:=spec_DrawTreeAhead.mono_l k
 unfold spec_DrawTreeAhead.f
 repeat' first
   | (with_reducible exact ih0 _ _ _ _ _)
   | (with_reducible exact ih1 _ _ _ _ _ _)
   | (with_reducible exact spec_TreeAhead.mono _ _ _)
   | (with_reducible exact spec_l6Rd_pick.mono _ _ _ _)
   | (with_reducible exact spec_l71Row.mono _ _ _)
   | (with_reducible exact LeO.refl _)
   | (with_reducible exact LeO.none _)
   | (with_reducible refine LeO.ite ?_ ?_)
   | (with_reducible refine LeO.bind ?_ (fun _=>?_))
theorem spec_DrawTreeAhead.calls (k:Nat) (A0:Option Addr) (c0:Nat) (l0:List Int) (r1:List (S37)) (r2:Int) (w:World) (hr0:Kd.C (Kd.int .u8) w A0 l0.length l0) (hc0:l0.length≤c0) (h:spec_DrawTreeAhead.f k l0=some (r1,r2)) :
  Calls Tryd.prog 68 #[.slice A0 l0.length c0] w fun e w'=>∃ v0_:Value,e=.returned (.tuple #[v0_,.int .i64 r2])∧Kd.Q k37 37 w' w.heap.size (fun _=>True) v0_ r1∧Below w.heap.size w w':=by
 have HR0:=a_ hr0
 have HC0:=a_ hc0
 clear hr0 hc0
 have HB:=a_ (Below.refl w.heap.size w)
 unfold spec_DrawTreeAhead.f at h
 have H:=h
 clear h
 replace H:=bs_ H
 obtain ⟨⟨t416,t417⟩,A20,H⟩:=H
 try dsimp only at H
 have A2:=a_ A20
 clear A20
 replace H:=bs_ H
 obtain ⟨⟨t419,t422,t423⟩,A30,H⟩:=H
 try dsimp only at H
 have A3:=a_ A30
 clear A30
 have H':=a_ H
 clear H
 go_enter Tryd.func68,Tryd.ntmps68
 go_wp2_with (first|((with_reducible refine gC_ (f:=52) rfl ?_);refine gl_ 11 Tryd.func52 #[.slice A0 l0.length c0] ?_;(with_reducible refine (spec_l6Open.calls _ _ l0 t416 t417 w _ ?side1 ?side2 ?side3 A2.out).mono ?_);(case side1=>exact bel_);(case side2=>exact HR0.out);(case side3=>exact HC0.out);rintro e w4 ⟨g418,rfl,hi,hb,hb2⟩;refine ⟨_,rfl,?_⟩;replace HB:=a_ (hb);have HI418:=a_ (hi);(try clear hb hb2 hi))|((with_reducible refine gC_ (f:=51) rfl ?_);refine gl_ 14 Tryd.func51 #[.pointer (some ⟨g418,0,none⟩)] ?_;(with_reducible refine (spec_l71Row.calls k g418 t416 t417 t419 t422 t423 w _ ?side1 ?side2 A3.out).mono ?_);(case side1=>exact is_HI418);(case side2=>exact bel_);rintro e w5 ⟨v420,rfl,ho0,hi,hb,hk⟩;refine ⟨_,rfl,?_⟩;have HO421:=a_ (Kd.Q_lower ho0 (below_size (bel_)));replace HB:=a_ (hb);replace HI418:=a_ (hi);(try clear hb hk hi ho0)))
 go_loopg [5,6,7] k (fun kq v5 v6 v7 w'=>∃ (x5_1:List (S37)) (x6_1:Int) (x7_1:Int) (x419001_1:Int),v6=.int .i64 x6_1∧v7=.int .i64 x7_1∧Aside0 (spec_DrawTreeAhead.l0 kq x5_1 x6_1 x7_1 t416 x419001_1=some (r1,r2))∧Aside0 (kq≤k)∧Aside0 (Kd.Q k37 37 w' w.heap.size (fun _=>True) v5 x5_1)∧Aside0 (IsS102 w w' g418 t416 x419001_1)∧Aside0 (Below w.heap.size w w'))
 case atStart=>exact ⟨(t419),(t422),(0),(t423),(si_),(si_),H',⟨Nat.le_refl _⟩,⟨by (with_reducible repeat (first|apply Kd.Q_alloc|apply Kd.Q_drewN|apply Kd.Q_drew));exact HO421.out⟩,⟨is_HI418⟩,⟨bel_⟩⟩
 case round =>
  clear H'
  try clear p2
  try clear c5
  obtain ⟨x5_1,x6_1,x7_1,x419001_1,rfl,rfl,HA,HK1,HO_5,HI418,HB⟩:=hrel
  cases gk with
  | zero=>exact absurd HA.out (by simp [spec_DrawTreeAhead.l0])
  | succ k1 =>
   have H:=HA.out
   clear HA
   simp only [spec_DrawTreeAhead.l0] at H
   have HC6:=a_ H
   clear H
   go_upto_region 4 with (fail)
   go_cut [23] (fun v23 wc=>∃ (kq:Nat) (x23_5:Bool) (x419001_5:Int),v23=.bool x23_5∧Aside0 (spec_DrawTreeAhead.j1 kq x5_1 x6_1 x7_1 x23_5 t416 x419001_5=some (r1,r2))∧Aside0 (kq≤k1)∧Aside0 (Kd.Q k37 37 wc w.heap.size (fun _=>True) u5 x5_1)∧Aside0 (IsS102 w wc g418 t416 x419001_5)∧Aside0 (Below w.heap.size w wc))
   case first =>
    have H:=HC6.out
    clear HC6
    by_cases c7:x7_1 < 5
    ·rw [if_pos c7] at H
     have c7b0:decide (x7_1 < 5)=true:=dt_ c7
     clear c7
     (first|rw [c7b0]|(simp only [i64_w,i32_w];rw [c7b0])|skip)
     replace H:=bs_ H
     obtain ⟨⟨t424,t425⟩,A80,H⟩:=H
     try dsimp only at H
     have A8:=a_ A80
     clear A80
     have H':=a_ H
     clear H
     go_wp2_with (first|(go_at_call 73;(with_reducible refine (spec_l6Rd_pick.calls k1 g418 t416 x419001_1 6 t424 t425 w _ ?side1 ?side2 A8.out).mono ?_);(case side1=>exact is_HI418);(case side2=>exact bel_);rintro e w9 ⟨rfl,hi,hb,hk⟩;replace HO_5:=a_ (Kd.Q_mono (Kd.Q_keep (IsS102.apartQ (show IsS102 w _ g418 t416 x419001_1 from is_HI418) (qp_ HO_5.out) (by decide)) hk (fun _ h=>h.2)) (fun _ h=>h.1));replace HB:=a_ (hb);replace HI418:=a_ (hi);(try clear hb hk hi)))
     go_meet
     case rel=>exact ⟨_,(decide (t424 > 0)),(t425),(si_),H',⟨by have:=HK1.out;first|omega|exact Nat.le_refl _⟩,⟨by (with_reducible repeat (first|apply Kd.Q_alloc|apply Kd.Q_drewN|apply Kd.Q_drew));exact HO_5.out⟩,⟨is_HI418⟩,⟨bel_⟩⟩
    ·rw [if_neg c7] at H
     have c7b0:decide (x7_1 < 5)=false:=df_ c7
     clear c7
     (first|rw [c7b0]|(simp only [i64_w,i32_w];rw [c7b0])|skip)
     have H':=a_ H
     clear H
     go_wp2
     go_meet
     case rel=>exact ⟨_,(false),(x419001_1),(si_),H',⟨by have:=HK1.out;first|omega|exact Nat.le_refl _⟩,⟨by (with_reducible repeat (first|apply Kd.Q_alloc|apply Kd.Q_drewN|apply Kd.Q_drew));exact HO_5.out⟩,⟨is_HI418⟩,⟨bel_⟩⟩
   case rest =>
    clear HC6
    try clear p2
    try clear c5
    try clear c6
    try clear c7
    try clear c7b0
    try clear p2
    obtain ⟨kq,x23_5,x419001_5,rfl,HA,HJ5,HO_5,HI418,HB⟩:=hcut
    cases kq with
    | zero=>exact absurd HA.out (by simp [spec_DrawTreeAhead.j1])
    | succ kj5 =>
     have H:=HA.out
     clear HA
     simp only [spec_DrawTreeAhead.j1] at H
     by_cases c10:x23_5=true
     ·subst c10
      have H1:((spec_TreeAhead.f kj5 x5_1 x6_1).bind fun bt426=>(if bt426.1 > 0 then (some (x5_1,x6_1)) else ((spec_l71Row.f kj5 t416 x419001_5).bind fun bt428=>(spec_DrawTreeAhead.l0 kj5 bt428.1 bt428.2.1 (wrap64 (x7_1+1)) t416 bt428.2.2))))=some (r1,r2):=by rw [if_pos rfl] at H;exact H
      clear H
      have H:=H1
      clear H1
      replace H:=bs_ H
      obtain ⟨⟨t426,t427⟩,A110,H⟩:=H
      try dsimp only at H
      have A11:=a_ A110
      clear A110
      by_cases c12:t426 > 0
      ·rw [if_pos c12] at H
       have c12b0:decide (0 < t426)=true:=dt_ c12
       clear c12
       simp only [Option.some.injEq,Prod.mk.injEq] at H
       obtain ⟨rfl,rfl⟩:=H
       obtain ⟨Ao13,co13,eo13,_⟩:=Kd.Q_slice HO_5.out
       subst eo13
       go_wp2_with (first|((with_reducible refine gC_ (f:=69) rfl ?_);refine gl_ 29 Tryd.func69 #[.slice Ao13 x5_1.length co13,.int .i64 x6_1] ?_;(with_reducible refine (spec_TreeAhead.calls kj5 _ _ x5_1 x6_1 t426 t427 _ ?side1 ?side2 A11.out).mono ?_);(case side1=>exact cx_ (Kd.Q_reads' HO_5.out).2.2);(case side2=>exact (Kd.Q_reads' HO_5.out).2.1);rintro e w14 ⟨rfl,hb⟩;refine ⟨_,rfl,?_⟩;replace HO_5:=a_ (Kd.Q_below (qp_ HO_5.out) hb);replace HB:=a_ (bS_ (bel_) hb);replace HI418:=a_ (IsS102.below (is_HI418) hb);(try clear hb)))
       go_ret2
       exact ⟨_,fi_,by (with_reducible repeat (first|apply Kd.Q_alloc|apply Kd.Q_drewN|apply Kd.Q_drew));exact HO_5.out,bel_⟩
      ·rw [if_neg c12] at H
       have c12b0:decide (0 < t426)=false:=df_ c12
       clear c12
       replace H:=bs_ H
       obtain ⟨⟨t428,t431,t432⟩,A150,H⟩:=H
       try dsimp only at H
       have A15:=a_ A150
       clear A150
       have H':=a_ H
       clear H
       obtain ⟨Ao16,co16,eo16,_⟩:=Kd.Q_slice HO_5.out
       subst eo16
       go_wp2_with (first|((with_reducible refine gC_ (f:=69) rfl ?_);refine gl_ 29 Tryd.func69 #[.slice Ao16 x5_1.length co16,.int .i64 x6_1] ?_;(with_reducible refine (spec_TreeAhead.calls kj5 _ _ x5_1 x6_1 t426 t427 _ ?side1 ?side2 A11.out).mono ?_);(case side1=>exact cx_ (Kd.Q_reads' HO_5.out).2.2);(case side2=>exact (Kd.Q_reads' HO_5.out).2.1);rintro e w17 ⟨rfl,hb⟩;refine ⟨_,rfl,?_⟩;replace HO_5:=a_ (Kd.Q_below (qp_ HO_5.out) hb);replace HB:=a_ (bS_ (bel_) hb);replace HI418:=a_ (IsS102.below (is_HI418) hb);(try clear hb))|((with_reducible refine gC_ (f:=51) rfl ?_);refine gl_ 38 Tryd.func51 #[.pointer (some ⟨g418,0,none⟩)] ?_;(with_reducible refine (spec_l71Row.calls kj5 g418 t416 x419001_5 t428 t431 t432 w _ ?side1 ?side2 A15.out).mono ?_);(case side1=>exact is_HI418);(case side2=>exact bel_);rintro e w18 ⟨v429,rfl,ho0,hi,hb,hk⟩;refine ⟨_,rfl,?_⟩;have HO430:=a_ (Kd.Q_lower (Kd.Q_new' ho0 (Kd.Q_lt (qp_ HO_5.out))) (below_size (bel_)));replace HO_5:=a_ (Kd.Q_mono (Kd.Q_told (Kd.Q_oldK (IsS102.apartQ (show IsS102 w _ g418 t416 x419001_5 from is_HI418) (qp_ HO_5.out) (by decide)) hk) (Kd.Q_base ho0)) (fun _ h_=>h_.1));replace HB:=a_ (hb);replace HI418:=a_ (hi);(try clear hb hk hi ho0)))
       go_roundg kj5
       case measure=>have:=HK1.out;have:=HJ5.out;omega
       case rel=>exact ⟨(t428),(t431),(wrap64 (x7_1+1)),(t432),(si_),(si_),H',⟨by have:=HK1.out;have:=HJ5.out;omega⟩,⟨by (with_reducible repeat (first|apply Kd.Q_alloc|apply Kd.Q_drewN|apply Kd.Q_drew));exact Kd.Q_mono HO430.out (fun _ hk=>trivial)⟩,⟨is_HI418⟩,⟨bel_⟩⟩
     ·replace c10:=Bool.eq_false_iff.mpr c10
      subst c10
      have H1:(some (x5_1,x6_1))=some (r1,r2):=by rw [if_neg (show ¬ (false=true) by decide)] at H;exact H
      clear H
      have H:=H1
      clear H1
      simp only [Option.some.injEq,Prod.mk.injEq] at H
      obtain ⟨rfl,rfl⟩:=H
      go_wp2
      go_ret2
      exact ⟨_,fi_,by (with_reducible repeat (first|apply Kd.Q_alloc|apply Kd.Q_drewN|apply Kd.Q_drew));exact HO_5.out,bel_⟩

def spec_DrawKeyIn.f (k:Nat) (l0:List Int):Option ((List (S37))×Int):=(spec_DrawTreeAhead.f k l0).bind fun bt433=>(some (bt433.1,bt433.2))
theorem spec_DrawKeyIn.mono:∀ a0 k,LeO (spec_DrawKeyIn.f k a0) (spec_DrawKeyIn.f (k+1) a0):=by
 intro a0 k
 unfold spec_DrawKeyIn.f
 repeat' first
   | (with_reducible exact spec_DrawTreeAhead.mono _ _)
   | (with_reducible exact LeO.refl _)
   | (with_reducible exact LeO.none _)
   | (with_reducible refine LeO.ite ?_ ?_)
   | (with_reducible refine LeO.bind ?_ (fun _=>?_))
theorem spec_DrawKeyIn.calls (k:Nat) (A0:Option Addr) (c0:Nat) (l0:List Int) (r1:List (S37)) (r2:Int) (w:World) (hr0:Kd.C (Kd.int .u8) w A0 l0.length l0) (hc0:l0.length≤c0) (h:spec_DrawKeyIn.f k l0=some (r1,r2)) :
  Calls Tryd.prog 26 #[.slice A0 l0.length c0] w fun e w'=>∃ v0_:Value,e=.returned (.tuple #[v0_,.int .i64 r2])∧Kd.Q k37 37 w' w.heap.size (fun _=>True) v0_ r1∧Below w.heap.size w w':=by
 have HR0:=a_ hr0
 have HC0:=a_ hc0
 clear hr0 hc0
 have HB:=a_ (Below.refl w.heap.size w)
 unfold spec_DrawKeyIn.f at h
 have H:=h
 clear h
 replace H:=bs_ H
 obtain ⟨⟨t433,t434⟩,A20,H⟩:=H
 try dsimp only at H
 have A2:=a_ A20
 clear A20
 simp only [Option.some.injEq,Prod.mk.injEq] at H
 obtain ⟨rfl,rfl⟩:=H
 go_enter Tryd.func26,Tryd.ntmps26
 go_wp2_with (first|((with_reducible refine gC_ (f:=68) rfl ?_);refine gl_ 5 Tryd.func68 #[.slice A0 l0.length c0] ?_;(with_reducible refine (spec_DrawTreeAhead.calls k _ _ l0 t433 t434 _ ?side1 ?side2 A2.out).mono ?_);(case side1=>exact cx_ HR0.out);(case side2=>exact HC0.out);rintro e w3 ⟨v435,rfl,ho0,hb⟩;refine ⟨_,rfl,?_⟩;have HO436:=a_ (Kd.Q_lower ho0 (below_size (bel_)));replace HB:=a_ (bS_ (bel_) hb);(try clear hb ho0)))
 go_ret2
 exact ⟨_,fi_,by (with_reducible repeat (first|apply Kd.Q_alloc|apply Kd.Q_drewN|apply Kd.Q_drew));exact HO436.out,bel_⟩

def spec_KeyIn.j0:Nat→List (S37)→Int→Int→Bool→Option (Int×Int×Int×Int×ByteArray×Bool)
 | 0,_,_,_,_=>none
 | k+1,x0,x1,x6,x20=>if x20=true then (some (0,0,0,0,(⟨#[]⟩:ByteArray),false)) else ((spec_l2Kids.f k x0 x6).bind fun t440=>(if (t440.length:Int)=0 then ((spec_l11Move.f x1 x6 0).bind fun bt443=>(some (bt443.1,bt443.2.1,bt443.2.2.1,bt443.2.2.2.1,bt443.2.2.2.2,true))) else (if 0≤(wrap64 ((t440.length:Int) - 1)) then (if (wrap64 ((t440.length:Int) - 1)) < (t440.length:Int) then ((spec_l11Move.f x1 x6 (rd t440 (wrap64 ((t440.length:Int) - 1)))).bind fun bt449=>(some (bt449.1,bt449.2.1,bt449.2.2.1,bt449.2.2.2.1,bt449.2.2.2.2,true))) else (none)) else (none))))
def spec_KeyIn.f (k:Nat) (l0:List (S37)) (a1:Int):Option (Int×Int×Int×Int×ByteArray×Bool):=(spec_TreeAhead.f k l0 a1).bind fun bt438=>(if bt438.2=true then (spec_KeyIn.j0 k l0 a1 bt438.1 (bt438.1==0)) else (spec_KeyIn.j0 k l0 a1 bt438.1 true))
theorem spec_KeyIn.mono_l:∀ k,(∀ y0 y1 y2 y3,LeO (spec_KeyIn.j0 k y0 y1 y2 y3) (spec_KeyIn.j0 (k+1) y0 y1 y2 y3))
 | 0=>fun _ _ _ _ r h=>by simp [spec_KeyIn.j0] at h
 | k+1=>by
  have ih0:=spec_KeyIn.mono_l k
  ·intro y0 y1 y2 y3
   unfold spec_KeyIn.j0
   repeat' first
   | (with_reducible exact ih0 _ _ _ _)
   | (with_reducible exact spec_TreeAhead.mono _ _ _)
   | (with_reducible exact spec_l2Kids.mono _ _ _)
   | (with_reducible exact LeO.refl _)
   | (with_reducible exact LeO.none _)
   | (with_reducible refine LeO.ite ?_ ?_)
   | (with_reducible refine LeO.bind ?_ (fun _=>?_))
theorem spec_KeyIn.mono:∀ a0 a1 k,LeO (spec_KeyIn.f k a0 a1) (spec_KeyIn.f (k+1) a0 a1):=by
 intro a0 a1 k
 have ih0:=spec_KeyIn.mono_l k
 unfold spec_KeyIn.f
 repeat' first
   | (with_reducible exact ih0 _ _ _ _)
   | (with_reducible exact spec_TreeAhead.mono _ _ _)
   | (with_reducible exact spec_l2Kids.mono _ _ _)
   | (with_reducible exact LeO.refl _)
   | (with_reducible exact LeO.none _)
   | (with_reducible refine LeO.ite ?_ ?_)
   | (with_reducible refine LeO.bind ?_ (fun _=>?_))
theorem spec_KeyIn.calls (k:Nat) (A0:Option Addr) (c0:Nat) (l0:List (S37)) (a1:Int) (r1:Int) (r2:Int) (r3:Int) (r4:Int) (r5:ByteArray) (r6:Bool) (w:World) (hr0:Kd.C k37 w A0 l0.length l0) (hc0:l0.length≤c0) (h:spec_KeyIn.f k l0 a1=some (r1,r2,r3,r4,r5,r6)) :
  Calls Tryd.prog 27 #[.slice A0 l0.length c0,.int .i64 a1] w fun e w'=>e=.returned (.tuple #[.agg #[.int .i64 r1,.int .i64 r2,.int .i64 r3,.int .i64 r4,.string r5],.bool r6])∧Below w.heap.size w w':=by
 have hu27:=Tryd.underlying27
 have HR0:=a_ hr0
 have HC0:=a_ hc0
 clear hr0 hc0
 have HB:=a_ (Below.refl w.heap.size w)
 unfold spec_KeyIn.f at h
 have H:=h
 clear h
 replace H:=bs_ H
 obtain ⟨⟨t438,t439⟩,A30,H⟩:=H
 try dsimp only at H
 have A3:=a_ A30
 clear A30
 have HC4:=a_ H
 clear H
 go_enter Tryd.func27,Tryd.ntmps27
 go_upto_region 2 with (first|((with_reducible refine gD_ (N:=4) rfl ?_);refine bx_ 4 (#[.int .i64 0,.int .i64 0,.int .i64 0,.int .i64 0,.string (⟨#[]⟩:ByteArray)]) 27 ?_;intro gb437 hg w5 hbox hb;have n0_:=a_ (bS_ (bel_) hb);have n1_:=a_ (hbox);have n2_:=a_ ((by rw [hg];exact (below_size (bel_)):w.heap.size≤gb437));have n3_:=a_ ((by rw [hg];exact (below_size (bel_)):w.heap.size≤gb437));clear HB;have HB:=n0_;have BK437:=n1_;have GW437:=n2_;have GE437:=n3_;clear n0_ n1_ n2_ n3_;clear hb hbox hg)|((with_reducible refine gC_ (f:=69) rfl ?_);refine gl_ 12 Tryd.func69 #[.slice A0 l0.length c0,.int .i64 a1] ?_;(with_reducible refine (spec_TreeAhead.calls k _ _ l0 a1 t438 t439 _ ?side1 ?side2 A3.out).mono ?_);(case side1=>exact cp_ HR0.out);(case side2=>exact HC0.out);rintro e w6 ⟨rfl,hb⟩;refine ⟨_,rfl,?_⟩;replace HB:=a_ (bS_ (bel_) hb);replace BK437:=a_ (bb_ BK437.out hb);(try clear hb)))
 (try simp only [Act.put,List.setIfInBounds_toArray,List.set_cons_zero,List.set_cons_succ])
 go_cut [20] (fun v20 wc=>∃ (kq:Nat) (x20_3:Bool),v20=.bool x20_3∧Aside0 (spec_KeyIn.j0 kq l0 a1 t438 x20_3=some (r1,r2,r3,r4,r5,r6))∧Aside0 (kq≤k)∧Aside0 (wc.heap[gb437]?=some (.cells #[.int .i64 0,.int .i64 0,.int .i64 0,.int .i64 0,.string (⟨#[]⟩:ByteArray)] 27 (0,0)))∧Aside0 (Below w.heap.size w wc))
 case first =>
  have H:=HC4.out
  clear HC4
  by_cases c7:t439=true
  ·subst c7
   have H1:(spec_KeyIn.j0 k l0 a1 t438 (t438==0))=some (r1,r2,r3,r4,r5,r6):=by rw [if_pos rfl] at H;exact H
   clear H
   have H:=H1
   clear H1
   have H':=a_ H
   clear H
   go_wp2
   go_meet
   case rel=>exact ⟨_,((t438==0)),(si_),H',⟨by first|omega|exact Nat.le_refl _⟩,⟨by (with_reducible repeat (first|refine bN_ ?_ _|refine bD_ ?_|refine bA_ ?_ _));exact BK437.out⟩,⟨bel_⟩⟩
  ·replace c7:=Bool.eq_false_iff.mpr c7
   subst c7
   have H1:(spec_KeyIn.j0 k l0 a1 t438 true)=some (r1,r2,r3,r4,r5,r6):=by rw [if_neg (show ¬ (false=true) by decide)] at H;exact H
   clear H
   have H:=H1
   clear H1
   have H':=a_ H
   clear H
   go_wp2
   go_meet
   case rel=>exact ⟨_,(true),(si_),H',⟨by first|omega|exact Nat.le_refl _⟩,⟨by (with_reducible repeat (first|refine bN_ ?_ _|refine bD_ ?_|refine bA_ ?_ _));exact BK437.out⟩,⟨bel_⟩⟩
 case rest =>
  clear HC4
  try clear c2
  try clear p2
  try clear c6
  try clear c7
  obtain ⟨kq,x20_3,rfl,HA,HJ3,BK437,HB⟩:=hcut
  cases kq with
  | zero=>exact absurd HA.out (by simp [spec_KeyIn.j0])
  | succ kj3 =>
   have H:=HA.out
   clear HA
   simp only [spec_KeyIn.j0] at H
   by_cases c8:x20_3=true
   ·subst c8
    have H1:(some (0,0,0,0,(⟨#[]⟩:ByteArray),false))=some (r1,r2,r3,r4,r5,r6):=by rw [if_pos rfl] at H;exact H
    clear H
    have H:=H1
    clear H1
    simp only [Option.some.injEq,Prod.mk.injEq] at H
    obtain ⟨rfl,rfl,rfl,rfl,rfl,rfl⟩:=H
    obtain ⟨Z9_0,Z9_1,Z9_2,Z9_3,Z9_4,Y9_0,Y9_1,Y9_2,Y9_3,Y9_4⟩:=op5_ (W:=wc) BK437.out
    go_wp2
    refine bodyPost_ret (results_ct rfl _ _ gb437 27 #[.int .i64 0,.int .i64 0,.int .i64 0,.int .i64 0,.string (⟨#[]⟩:ByteArray)] (0,0) _ rfl (by (with_reducible repeat (first|refine bN_ ?_ _|refine bD_ ?_|refine bA_ ?_ _));exact bk5_ (bp_ BK437.out)) Tryd.underlying27 rfl (by kernel_rfl)) rfl ?_
    exact ⟨fi_,bel_⟩
   ·replace c8:=Bool.eq_false_iff.mpr c8
    subst c8
    have H1:((spec_l2Kids.f kj3 l0 t438).bind fun t440=>(if (t440.length:Int)=0 then ((spec_l11Move.f a1 t438 0).bind fun bt443=>(some (bt443.1,bt443.2.1,bt443.2.2.1,bt443.2.2.2.1,bt443.2.2.2.2,true))) else (if 0≤(wrap64 ((t440.length:Int) - 1)) then (if (wrap64 ((t440.length:Int) - 1)) < (t440.length:Int) then ((spec_l11Move.f a1 t438 (rd t440 (wrap64 ((t440.length:Int) - 1)))).bind fun bt449=>(some (bt449.1,bt449.2.1,bt449.2.2.1,bt449.2.2.2.1,bt449.2.2.2.2,true))) else (none)) else (none))))=some (r1,r2,r3,r4,r5,r6):=by rw [if_neg (show ¬ (false=true) by decide)] at H;exact H
    clear H
    have H:=H1
    clear H1
    replace H:=bs_ H
    obtain ⟨t440,A100,H⟩:=H
    try dsimp only at H
    have A10:=a_ A100
    clear A100
    by_cases c11:(t440.length:Int)=0
    ·rw [if_pos c11] at H
     have c11b0:((t440.length:Int)==0)=true:=beq_iff_eq.mpr c11
     have c11b1:((t440.length:Int) != 0)=false:=be_ c11
     clear c11
     replace H:=bs_ H
     obtain ⟨⟨t443,t444,t445,t446,t447⟩,A120,H⟩:=H
     try dsimp only at H
     have A12:=a_ A120
     clear A120
     simp only [Option.some.injEq,Prod.mk.injEq] at H
     obtain ⟨rfl,rfl,rfl,rfl,rfl,rfl⟩:=H
     go_wp2_with (first|((with_reducible refine gC_ (f:=70) rfl ?_);refine gl_ 24 Tryd.func70 #[.slice A0 l0.length c0,.int .i64 t438] ?_;(with_reducible refine (spec_l2Kids.calls kj3 _ _ l0 t438 t440 _ ?side1 ?side2 A10.out).mono ?_);(case side1=>exact cp_ HR0.out);(case side2=>exact HC0.out);rintro e w13 ⟨v441,rfl,ho0,hb⟩;refine ⟨_,rfl,?_⟩;have HO442:=a_ (Kd.R_lower ho0 (below_size (bel_)));replace HB:=a_ (bS_ (bel_) hb);replace BK437:=a_ (bb_ BK437.out hb);(try clear hb ho0);obtain ⟨Ao14,co14,eo14⟩:=Kd.R_slice HO442.out;subst eo14)|((with_reducible refine gC_ (f:=56) rfl ?_);refine gl_ 30 Tryd.func56 #[.int .i64 a1,.int .i64 t438,.int .i64 0] ?_;(with_reducible refine (spec_l11Move.calls a1 t438 0 t443 t444 t445 t446 t447 _ A12.out).mono ?_);rintro e w15 ⟨rfl,hb⟩;refine ⟨_,rfl,?_⟩;replace HO442:=a_ (Kd.R_below (rp_ HO442.out) hb);replace HB:=a_ (bS_ (bel_) hb);replace BK437:=a_ (bb_ BK437.out hb);(try clear hb);obtain ⟨Z16_0,Z16_1,Z16_2,Z16_3,Z16_4,Y16_0,Y16_1,Y16_2,Y16_3,Y16_4⟩:=op5_ BK437.out))
     refine bodyPost_ret (results_ct rfl _ _ gb437 27 #[.int .i64 t443,.int .i64 t444,.int .i64 t445,.int .i64 t446,.string t447] (0,0) _ rfl (by (with_reducible repeat (first|refine bN_ ?_ _|refine bD_ ?_|refine bA_ ?_ _));exact bk5_ (bp_ BK437.out)) Tryd.underlying27 rfl (by kernel_rfl)) rfl ?_
     exact ⟨fi_,bel_⟩
    ·rw [if_neg c11] at H
     have c11b0:((t440.length:Int)==0)=false:=bn_ c11
     have c11b1:((t440.length:Int) != 0)=true:=bne_iff_ne.mpr c11
     have c11b2:¬ (t440=[]):=fun h_=>c11 (by rw [h_];rfl)
     obtain ⟨ji17,hji17⟩:∃ j_:Int,(wrap64 ((t440.length:Int) - 1))=j_:=⟨_,rfl⟩
     replace H:(if 0≤(ji17) then (if (ji17) < (t440.length:Int) then ((spec_l11Move.f a1 t438 (rd t440 (ji17))).bind fun bt449=>(some (bt449.1,bt449.2.1,bt449.2.2.1,bt449.2.2.2.1,bt449.2.2.2.2,true))) else (none)) else (none))=some (r1,r2,r3,r4,r5,r6):=by first|(rw [hji17] at H;exact H)|(simp only [hji17] at H ⊢;exact H)
     (try rw [hji17] at A10)
     have hji17w:(IntKind.i64.wrap ((t440.length:Int) - 1))=ji17:=(i64_w _).trans hji17
     by_cases c18:0≤(ji17)
     ·rw [if_pos c18] at H
      have c18b0:decide (0≤(ji17))=true:=dt_ c18
      clear c18
      by_cases c19:(ji17) < (t440.length:Int)
      ·rw [if_pos c19] at H
       have c19b0:decide ((ji17) < (t440.length:Int))=true:=dt_ c19
       clear c19
       replace H:=bs_ H
       obtain ⟨⟨t449,t450,t451,t452,t453⟩,A200,H⟩:=H
       try dsimp only at H
       have A20:=a_ A200
       clear A200
       simp only [Option.some.injEq,Prod.mk.injEq] at H
       obtain ⟨rfl,rfl,rfl,rfl,rfl,rfl⟩:=H
       go_wp2_with (first|((with_reducible refine gC_ (f:=70) rfl ?_);refine gl_ 24 Tryd.func70 #[.slice A0 l0.length c0,.int .i64 t438] ?_;(with_reducible refine (spec_l2Kids.calls kj3 _ _ l0 t438 t440 _ ?side1 ?side2 A10.out).mono ?_);(case side1=>exact cp_ HR0.out);(case side2=>exact HC0.out);rintro e w21 ⟨v441,rfl,ho0,hb⟩;refine ⟨_,rfl,?_⟩;have HO442:=a_ (Kd.R_lower ho0 (below_size (bel_)));replace HB:=a_ (bS_ (bel_) hb);replace BK437:=a_ (bb_ BK437.out hb);(try clear hb ho0);obtain ⟨Ao22,co22,eo22⟩:=Kd.R_slice HO442.out;subst eo22;have p448:0≤((ji17):Int):=od_;have q448:(ji17) < (t440.length:Int):=od_;obtain ⟨ad448,e448,hx448_0⟩:=Kd.at_int (Kd.R_reads' HO442.out).2.2 (ji17) p448 q448;cases e448;replace p448:=eq_true p448;replace q448:=eq_true q448)|((with_reducible refine gC_ (f:=56) rfl ?_);refine goesL_ (some 39) rfl rfl Tryd.func56 (by kernel_rfl) rfl #[.int .i64 a1,.int .i64 t438,.int .i64 (rd t440 (ji17))] rfl (by (try simp only [List.map_toArray,List.map_cons,List.map_nil]);first|done|(simp only [hji17];rfl)|rfl|(simp only [List.length_drop,List.length_take];rfl)) ?_;(with_reducible refine (spec_l11Move.calls a1 t438 (rd t440 (ji17)) t449 t450 t451 t452 t453 _ A20.out).mono ?_);rintro e w23 ⟨rfl,hb⟩;refine ⟨_,rfl,?_⟩;replace HO442:=a_ (Kd.R_below (rp_ HO442.out) hb);replace HB:=a_ (bS_ (bel_) hb);replace BK437:=a_ (bb_ BK437.out hb);(try clear hb);obtain ⟨Z24_0,Z24_1,Z24_2,Z24_3,Z24_4,Y24_0,Y24_1,Y24_2,Y24_3,Y24_4⟩:=op5_ BK437.out))
       refine bodyPost_ret (results_ct rfl _ _ gb437 27 #[.int .i64 t449,.int .i64 t450,.int .i64 t451,.int .i64 t452,.string t453] (0,0) _ rfl (by (with_reducible repeat (first|refine bN_ ?_ _|refine bD_ ?_|refine bA_ ?_ _));exact bk5_ (bp_ BK437.out)) Tryd.underlying27 rfl (by kernel_rfl)) rfl ?_
       exact ⟨by first|rfl|(simp [errW_none,errW_some] <;> rfl)|(simp only [←hji17];first|rfl|(simp [errW_none,errW_some] <;> rfl))|(simp [*,errW_none,errW_some] <;> rfl),bel_⟩
      ·rw [if_neg c19] at H
       exact absurd H (by simp)
     ·rw [if_neg c18] at H
      exact absurd H (by simp)

end Go.Proofs.YtlkheeegkifblaaDoor.P
