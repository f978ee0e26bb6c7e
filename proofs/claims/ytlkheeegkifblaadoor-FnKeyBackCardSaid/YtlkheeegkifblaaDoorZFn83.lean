/- FnKeyBack: a part. -/
import Derived.Test.YtlkheeegkifblaaDoorZFn82
set_option linter.unusedVariables false
set_option linter.unusedSimpArgs false
set_option linter.unusedSectionVars false
set_option maxHeartbeats 8000000
set_option maxRecDepth 100000
namespace Go.Proofs.YtlkheeegkifblaaDoor.P
open Go.RowKit Go.Proofs.YtlkheeegkifblaaDoorW.PrintWords Go.Proofs.YtlkheeegkifblaaDoorW.PrintLast
theorem spec_TreeOk.calls (k:Nat) (A0:Option Addr) (c0:Nat) (l0:List (S37)) (r:Bool) (w:World) (hr0:Kd.C k37 w A0 l0.length l0) (hc0:l0.length≤c0) (h:spec_TreeOk.f k l0=some r) :
  Calls Tryd.prog 19 #[.slice A0 l0.length c0] w fun e w'=>e=.returned (.bool r)∧Below w.heap.size w w':=by
 have hu37:=Tryd.underlying37
 have HR0:=a_ hr0
 have HC0:=a_ hc0
 clear hr0 hc0
 have HB:=a_ (Below.refl w.heap.size w)
 unfold spec_TreeOk.f at h
 have H:=h
 clear h
 have H':=a_ H
 clear H
 go_enter Tryd.func19,Tryd.ntmps19
 go_wp2
 go_loopg [3,4] k (fun kq v3 v4 w'=>∃ (x3_1:Int) (x4_1:Int),v3=.int .i64 x3_1∧v4=.int .i64 x4_1∧Aside0 (spec_TreeOk.l0 kq l0 x3_1 x4_1=some r)∧Aside0 (kq≤k)∧Aside0 (Below w.heap.size w w'))
 case atStart=>exact ⟨(0),(0),(si_),(si_),H',⟨Nat.le_refl _⟩,⟨bel_⟩⟩
 case round =>
  clear H'
  try clear c1
  obtain ⟨x3_1,x4_1,rfl,rfl,HA,HK1,HB⟩:=hrel
  cases gk with
  | zero=>exact absurd HA.out (by simp [spec_TreeOk.l0])
  | succ k1 =>
   have H:=HA.out
   clear HA
   simp only [spec_TreeOk.l0] at H
   by_cases c2:x4_1 < (l0.length:Int)
   ·rw [if_pos c2] at H
    have c2b0:decide (x4_1 < (l0.length:Int))=true:=dt_ c2
    clear c2
    have HC3:=a_ H
    clear H
    go_upto_region 5 with (fail)
    go_cut [36] (fun v36 wc=>∃ (kq:Nat) (x36_2:Bool),v36=.bool x36_2∧Aside0 (spec_TreeOk.j1 kq l0 x3_1 x4_1 x36_2=some r)∧Aside0 (kq≤k1)∧Aside0 (Below w.heap.size w wc))
    case first =>
     have H:=HC3.out
     clear HC3
     by_cases c4:0≤x4_1
     ·rw [if_pos c4] at H
      have c4b0:decide (0≤x4_1)=true:=dt_ c4
      clear c4
      (first|rw [c4b0]|(simp only [i64_w,i32_w];rw [c4b0])|skip)
      replace H:=bs_ H
      obtain ⟨t333,A50,H⟩:=H
      try dsimp only at H
      have A5:=a_ A50
      clear A50
      by_cases c6:t333=true
      ·subst c6
       have H1:(if x4_1 > 0 then (if 0≤(wrap64 (x4_1 - 1)) then (if (wrap64 (x4_1 - 1)) < (l0.length:Int) then (spec_TreeOk.j1 k1 l0 x3_1 x4_1 (decide (((rd_T37 l0 x4_1).f1) > (wrap64 (((rd_T37 l0 (wrap64 (x4_1 - 1))).f1)+1))))) else (none)) else (none)) else (spec_TreeOk.j1 k1 l0 x3_1 x4_1 false))=some r:=by rw [if_pos rfl] at H;exact H
       clear H
       have H:=H1
       clear H1
       by_cases c7:x4_1 > 0
       ·rw [if_pos c7] at H
        have c7b0:decide (0 < x4_1)=true:=dt_ c7
        clear c7
        obtain ⟨ji8,hji8⟩:∃ j_:Int,(wrap64 (x4_1 - 1))=j_:=⟨_,rfl⟩
        replace H:(if 0≤(ji8) then (if (ji8) < (l0.length:Int) then (spec_TreeOk.j1 k1 l0 x3_1 x4_1 (decide (((rd_T37 l0 x4_1).f1) > (wrap64 (((rd_T37 l0 (ji8)).f1)+1))))) else (none)) else (none))=some r:=by first|(rw [hji8] at H;exact H)|(simp only [hji8] at H ⊢;exact H)
        (try rw [hji8] at A5)
        have hji8w:(IntKind.i64.wrap (x4_1 - 1))=ji8:=(i64_w _).trans hji8
        by_cases c9:0≤(ji8)
        ·rw [if_pos c9] at H
         have c9b0:decide (0≤(ji8))=true:=dt_ c9
         clear c9
         by_cases c10:(ji8) < (l0.length:Int)
         ·rw [if_pos c10] at H
          have c10b0:decide ((ji8) < (l0.length:Int))=true:=dt_ c10
          clear c10
          have H':=a_ H
          clear H
          try go_wp2
          have n0_:=a_ (below_drew1 HB.out)
          clear HB
          have HB:=n0_
          clear n0_
          have p332:0≤(x4_1:Int):=od_
          have q332:x4_1 < (l0.length:Int):=od_
          obtain ⟨ad332,e332,hx332_0,hx332_1,hx332_2⟩:=at_T37 HR0.out x4_1 p332 q332
          have hw332_2:=hx332_2
          have hw332_1:=hx332_1
          have hw332_0:=hx332_0
          cases e332
          replace hx332_0:=(cb_ HB.out hx332_0 :)
          replace hx332_1:=(cb_ HB.out hx332_1 :)
          replace hx332_2:=(cb_ HB.out hx332_2 :)
          replace p332:=eq_true p332
          replace q332:=eq_true q332
          have p334:0≤(x4_1:Int):=od_
          have q334:x4_1 < (l0.length:Int):=od_
          obtain ⟨ad334,e334,hx334_0,hx334_1,hx334_2⟩:=at_T37 HR0.out x4_1 p334 q334
          have hw334_2:=hx334_2
          have hw334_1:=hx334_1
          have hw334_0:=hx334_0
          obtain rfl:ad332=ad334:=(by injection e334)
          replace hx334_0:=(cb_ HB.out hx334_0 :)
          replace hx334_1:=(cb_ HB.out hx334_1 :)
          replace hx334_2:=(cb_ HB.out hx334_2 :)
          replace p334:=eq_true p334
          replace q334:=eq_true q334
          have p335:0≤((ji8):Int):=od_
          have q335:(ji8) < (l0.length:Int):=od_
          obtain ⟨ad335,e335,hx335_0,hx335_1,hx335_2⟩:=at_T37 HR0.out (ji8) p335 q335
          have hw335_2:=hx335_2
          have hw335_1:=hx335_1
          have hw335_0:=hx335_0
          obtain rfl:ad332=ad335:=(by injection e335)
          replace hx335_0:=(cb_ HB.out hx335_0 :)
          replace hx335_1:=(cb_ HB.out hx335_1 :)
          replace hx335_2:=(cb_ HB.out hx335_2 :)
          replace p335:=eq_true p335
          replace q335:=eq_true q335
          refine start_ (n:=25) (S:=fun w'=>w'.cell? (ad332.add ((x4_1).toNat * 3))=some (.int .i64 ((rd_T37 l0 x4_1).f0))∧w'.cell? ⟨(ad332.add ((x4_1).toNat * 3)).block,(ad332.add ((x4_1).toNat * 3)).off+1,none⟩=some (.int .i64 ((rd_T37 l0 x4_1).f1))∧w'.cell? ⟨(ad332.add ((x4_1).toNat * 3)).block,(ad332.add ((x4_1).toNat * 3)).off+2,none⟩=some (.string ((rd_T37 l0 x4_1).f2))∧w'.cell? (ad332.add ((x4_1).toNat * 3))=some (.int .i64 ((rd_T37 l0 x4_1).f0))∧w'.cell? ⟨(ad332.add ((x4_1).toNat * 3)).block,(ad332.add ((x4_1).toNat * 3)).off+1,none⟩=some (.int .i64 ((rd_T37 l0 x4_1).f1))∧w'.cell? ⟨(ad332.add ((x4_1).toNat * 3)).block,(ad332.add ((x4_1).toNat * 3)).off+2,none⟩=some (.string ((rd_T37 l0 x4_1).f2))∧w'.cell? (ad332.add (((ji8)).toNat * 3))=some (.int .i64 ((rd_T37 l0 (ji8)).f0))∧w'.cell? ⟨(ad332.add (((ji8)).toNat * 3)).block,(ad332.add (((ji8)).toNat * 3)).off+1,none⟩=some (.int .i64 ((rd_T37 l0 (ji8)).f1))∧w'.cell? ⟨(ad332.add (((ji8)).toNat * 3)).block,(ad332.add (((ji8)).toNat * 3)).off+2,none⟩=some (.string ((rd_T37 l0 (ji8)).f2))) (ds:=[]) #[false,false,false,false,false,false,false,false,false,false,false,false,false,false,false,false,false,false,false,false,false,false,false,false,false] (by kernel_rfl) rfl rfl ⟨((cb_ HB.out hw332_0 :)),((cb_ HB.out hw332_1 :)),((cb_ HB.out hw332_2 :)),((cb_ HB.out hw334_0 :)),((cb_ HB.out hw334_1 :)),((cb_ HB.out hw334_2 :)),((cb_ HB.out hw335_0 :)),((cb_ HB.out hw335_1 :)),((cb_ HB.out hw335_2 :))⟩ (fun hHeld=>?_);refine with_tabW spec_TreeOk.tab5 spec_TreeOk.bits5 (fun HT_ HW_=>?_)
          generalize wr.drew=w11 at HB hx332_0 hx332_1 hx332_2 hx334_0 hx334_1 hx334_2 hx335_0 hx335_1 hx335_2 hHeld ⊢
          refine pa_ 0 12 ?_
          refine pa_ 1 13 ?_
          refine pa_ 2 14 ?_
          refine ta9_ 3 15 hHeld ?_
          refine on_ 4 16 (fun K hK=>?_)
          refine goes_ Tryd.func58 (by kernel_rfl) rfl #[.agg #[.int .i64 ((rd_T37 l0 x4_1).f0),.int .i64 ((rd_T37 l0 x4_1).f1),.string ((rd_T37 l0 x4_1).f2)]] (by rfl) rfl rfl ar_ ?_
          with_reducible refine (spec_RowOk.calls k1 ((rd_T37 l0 x4_1).f0) ((rd_T37 l0 x4_1).f1) ((rd_T37 l0 x4_1).f2) true _ A5.out).mono ?_
          rintro e w12 ⟨rfl,hb⟩
          refine ⟨_,rfl,?_⟩
          have n0_:=a_ (bS_ (bel_) hb)
          clear HB
          have HB:=n0_
          clear n0_
          (try clear hb)
          (try clear hb2)
          (try clear hk)
          (try clear hi)
          refine hK.out _ _ ⟨((cb_ HB.out hw332_0 :)),((cb_ HB.out hw332_1 :)),((cb_ HB.out hw332_2 :)),((cb_ HB.out hw334_0 :)),((cb_ HB.out hw334_1 :)),((cb_ HB.out hw334_2 :)),((cb_ HB.out hw335_0 :)),((cb_ HB.out hw335_1 :)),((cb_ HB.out hw335_2 :))⟩ (fun hHeld=>?_)
          clear hK K
          refine no_ 16 ?_
          refine pa_ 5 17 ?_
          refine pa_ 6 18 ?_
          refine pa_ 7 19 ?_
          refine pa_ 8 20 ?_
          refine pa_ 9 21 ?_
          refine pa_ 10 22 ?_
          refine pa_ 11 23 ?_
          refine pa_ 12 24 ?_
          refine pa_ 13 25 ?_
          refine pa_ 15 27 ?_
          refine pa_ 16 28 ?_
          refine pa_ 17 29 ?_
          refine pa_ 18 30 ?_
          refine pa_ 19 31 ?_
          refine ta9_ 14 26 hHeld ?_
          refine ta9_ 20 32 hHeld ?_
          refine pa_ 21 33 ?_
          refine pa_ 22 34 ?_
          refine pa_ 23 35 ?_
          refine pa_ 24 36 ?_
          refine done_ (done_of HT_.out (by kernel_rfl)) ?_
          try go_wp2
          go_meet
          case rel=>exact ⟨_,(decide (((rd_T37 l0 x4_1).f1) > (wrap64 (((rd_T37 l0 (ji8)).f1)+1)))),(by first|rfl|(simp;done)|(simp only [←hji8] <;> (first|rfl|simp))|(simp [*];done)),H',⟨by have:=HK1.out;first|omega|exact Nat.le_refl _⟩,⟨bel_⟩⟩
         ·rw [if_neg c10] at H
          exact absurd H (by simp)
        ·rw [if_neg c9] at H
         exact absurd H (by simp)
       ·rw [if_neg c7] at H
        have c7b0:decide (0 < x4_1)=false:=df_ c7
        clear c7
        have H':=a_ H
        clear H
        try go_wp2
        have n0_:=a_ (below_drew1 HB.out)
        clear HB
        have HB:=n0_
        clear n0_
        have p332:0≤(x4_1:Int):=od_
        have q332:x4_1 < (l0.length:Int):=od_
        obtain ⟨ad332,e332,hx332_0,hx332_1,hx332_2⟩:=at_T37 HR0.out x4_1 p332 q332
        have hw332_2:=hx332_2
        have hw332_1:=hx332_1
        have hw332_0:=hx332_0
        cases e332
        replace hx332_0:=(cb_ HB.out hx332_0 :)
        replace hx332_1:=(cb_ HB.out hx332_1 :)
        replace hx332_2:=(cb_ HB.out hx332_2 :)
        replace p332:=eq_true p332
        replace q332:=eq_true q332
        refine start_ (n:=25) (S:=fun w'=>w'.cell? (ad332.add ((x4_1).toNat * 3))=some (.int .i64 ((rd_T37 l0 x4_1).f0))∧w'.cell? ⟨(ad332.add ((x4_1).toNat * 3)).block,(ad332.add ((x4_1).toNat * 3)).off+1,none⟩=some (.int .i64 ((rd_T37 l0 x4_1).f1))∧w'.cell? ⟨(ad332.add ((x4_1).toNat * 3)).block,(ad332.add ((x4_1).toNat * 3)).off+2,none⟩=some (.string ((rd_T37 l0 x4_1).f2))) (ds:=[]) #[false,false,false,false,false,false,false,false,false,false,false,false,false,false,false,false,false,false,false,false,false,false,false,false,false] (by kernel_rfl) rfl rfl ⟨((cb_ HB.out hw332_0 :)),((cb_ HB.out hw332_1 :)),((cb_ HB.out hw332_2 :))⟩ (fun hHeld=>?_);refine with_tabW spec_TreeOk.tab5 spec_TreeOk.bits5 (fun HT_ HW_=>?_)
        generalize wr.drew=w13 at HB hx332_0 hx332_1 hx332_2 hHeld ⊢
        refine pa_ 0 12 ?_
        refine pa_ 1 13 ?_
        refine pa_ 2 14 ?_
        refine ta3_ 3 15 hHeld ?_
        refine on_ 4 16 (fun K hK=>?_)
        refine goes_ Tryd.func58 (by kernel_rfl) rfl #[.agg #[.int .i64 ((rd_T37 l0 x4_1).f0),.int .i64 ((rd_T37 l0 x4_1).f1),.string ((rd_T37 l0 x4_1).f2)]] (by rfl) rfl rfl ar_ ?_
        with_reducible refine (spec_RowOk.calls k1 ((rd_T37 l0 x4_1).f0) ((rd_T37 l0 x4_1).f1) ((rd_T37 l0 x4_1).f2) true _ A5.out).mono ?_
        rintro e w14 ⟨rfl,hb⟩
        refine ⟨_,rfl,?_⟩
        have n0_:=a_ (bS_ (bel_) hb)
        clear HB
        have HB:=n0_
        clear n0_
        (try clear hb)
        (try clear hb2)
        (try clear hk)
        (try clear hi)
        refine hK.out _ _ ⟨((cb_ HB.out hw332_0 :)),((cb_ HB.out hw332_1 :)),((cb_ HB.out hw332_2 :))⟩ (fun hHeld=>?_)
        clear hK K
        refine no_ 16 ?_
        refine pa_ 5 17 ?_
        refine pa_ 6 18 ?_
        refine pa_ 7 19 ?_
        refine pa_ 8 20 ?_
        refine pa_ 9 21 ?_
        refine po_ 10 22 ?_
        refine po_ 11 23 ?_
        refine po_ 12 24 ?_
        refine po_ 13 25 ?_
        refine po_ 14 26 ?_
        refine po_ 15 27 ?_
        refine po_ 16 28 ?_
        refine po_ 17 29 ?_
        refine po_ 18 30 ?_
        refine po_ 19 31 ?_
        refine po_ 20 32 ?_
        refine po_ 21 33 ?_
        refine po_ 22 34 ?_
        refine pa_ 23 35 ?_
        refine pa_ 24 36 ?_
        refine done_ (done_of HT_.out (by kernel_rfl)) ?_
        try go_wp2
        go_meet
        case rel=>exact ⟨_,(false),(si_),H',⟨by have:=HK1.out;first|omega|exact Nat.le_refl _⟩,⟨bel_⟩⟩
      ·replace c6:=Bool.eq_false_iff.mpr c6
       subst c6
       have H1:(spec_TreeOk.j1 k1 l0 x3_1 x4_1 true)=some r:=by rw [if_neg (show ¬ (false=true) by decide)] at H;exact H
       clear H
       have H:=H1
       clear H1
       have H':=a_ H
       clear H
       try go_wp2
       have n0_:=a_ (below_drew1 HB.out)
       clear HB
       have HB:=n0_
       clear n0_
       have p332:0≤(x4_1:Int):=od_
       have q332:x4_1 < (l0.length:Int):=od_
       obtain ⟨ad332,e332,hx332_0,hx332_1,hx332_2⟩:=at_T37 HR0.out x4_1 p332 q332
       have hw332_2:=hx332_2
       have hw332_1:=hx332_1
       have hw332_0:=hx332_0
       cases e332
       replace hx332_0:=(cb_ HB.out hx332_0 :)
       replace hx332_1:=(cb_ HB.out hx332_1 :)
       replace hx332_2:=(cb_ HB.out hx332_2 :)
       replace p332:=eq_true p332
       replace q332:=eq_true q332
       refine start_ (n:=25) (S:=fun w'=>w'.cell? (ad332.add ((x4_1).toNat * 3))=some (.int .i64 ((rd_T37 l0 x4_1).f0))∧w'.cell? ⟨(ad332.add ((x4_1).toNat * 3)).block,(ad332.add ((x4_1).toNat * 3)).off+1,none⟩=some (.int .i64 ((rd_T37 l0 x4_1).f1))∧w'.cell? ⟨(ad332.add ((x4_1).toNat * 3)).block,(ad332.add ((x4_1).toNat * 3)).off+2,none⟩=some (.string ((rd_T37 l0 x4_1).f2))) (ds:=[]) #[false,false,false,false,false,false,false,false,false,false,false,false,false,false,false,false,false,false,false,false,false,false,false,false,false] (by kernel_rfl) rfl rfl ⟨((cb_ HB.out hw332_0 :)),((cb_ HB.out hw332_1 :)),((cb_ HB.out hw332_2 :))⟩ (fun hHeld=>?_);refine with_tabW spec_TreeOk.tab5 spec_TreeOk.bits5 (fun HT_ HW_=>?_)
       generalize wr.drew=w15 at HB hx332_0 hx332_1 hx332_2 hHeld ⊢
       refine pa_ 0 12 ?_
       refine pa_ 1 13 ?_
       refine pa_ 2 14 ?_
       refine ta3_ 3 15 hHeld ?_
       refine on_ 4 16 (fun K hK=>?_)
       refine goes_ Tryd.func58 (by kernel_rfl) rfl #[.agg #[.int .i64 ((rd_T37 l0 x4_1).f0),.int .i64 ((rd_T37 l0 x4_1).f1),.string ((rd_T37 l0 x4_1).f2)]] (by rfl) rfl rfl ar_ ?_
       with_reducible refine (spec_RowOk.calls k1 ((rd_T37 l0 x4_1).f0) ((rd_T37 l0 x4_1).f1) ((rd_T37 l0 x4_1).f2) false _ A5.out).mono ?_
       rintro e w16 ⟨rfl,hb⟩
       refine ⟨_,rfl,?_⟩
       have n0_:=a_ (bS_ (bel_) hb)
       clear HB
       have HB:=n0_
       clear n0_
       (try clear hb)
       (try clear hb2)
       (try clear hk)
       (try clear hi)
       refine hK.out _ _ ⟨((cb_ HB.out hw332_0 :)),((cb_ HB.out hw332_1 :)),((cb_ HB.out hw332_2 :))⟩ (fun hHeld=>?_)
       clear hK K
       refine no_ 16 ?_
       refine pa_ 5 17 ?_
       refine pa_ 6 18 ?_
       refine po_ 7 19 ?_
       refine po_ 8 20 ?_
       refine po_ 9 21 ?_
       refine po_ 10 22 ?_
       refine po_ 11 23 ?_
       refine po_ 12 24 ?_
       refine po_ 13 25 ?_
       refine po_ 14 26 ?_
       refine po_ 15 27 ?_
       refine po_ 16 28 ?_
       refine po_ 17 29 ?_
       refine po_ 18 30 ?_
       refine po_ 19 31 ?_
       refine po_ 20 32 ?_
       refine po_ 21 33 ?_
       refine po_ 22 34 ?_
       refine po_ 23 35 ?_
       refine pa_ 24 36 ?_
       refine done_ (done_of HT_.out (by kernel_rfl)) ?_
       try go_wp2
       go_meet
       case rel=>exact ⟨_,(true),(si_),H',⟨by have:=HK1.out;first|omega|exact Nat.le_refl _⟩,⟨bel_⟩⟩
     ·rw [if_neg c4] at H
      exact absurd H (by simp)
    case rest =>
     clear HC3
     try clear c1
     try clear p2
     try clear p3
     try clear q3
     try clear hx3
     try clear c4
     try clear c5
     try clear c6
     try clear p6
     try clear c7
     try clear c7b0
     try clear c9
     try clear c10
     try clear hx332_0
     try clear hx332_1
     try clear hx332_2
     try clear hx334_0
     try clear hx334_1
     try clear hx334_2
     try clear hx335_0
     try clear hx335_1
     try clear hx335_2
     try clear p332
     try clear p335
     try clear q332
     try clear q335
     obtain ⟨kq,x36_2,rfl,HA,HJ2,HB⟩:=hcut
     cases kq with
     | zero=>exact absurd HA.out (by simp [spec_TreeOk.j1])
     | succ kj2 =>
      have H:=HA.out
      clear HA
      simp only [spec_TreeOk.j1] at H
      by_cases c17:x36_2=true
      ·subst c17
       have H1:(some false)=some r:=by rw [if_pos rfl] at H;exact H
       clear H
       have H:=H1
       clear H1
       obtain rfl:=sj_ H
       go_wp2
       go_ret
       exact ⟨fi_,bel_⟩
      ·replace c17:=Bool.eq_false_iff.mpr c17
       subst c17
       have H1:(if 0≤x4_1 then (if x4_1 < (l0.length:Int) then ((spec_l1Root.f ((rd_T37 l0 x4_1).f0)).bind fun t337=>(if t337=true then (if ((rd_T37 l0 x4_1).f0)=(wrap64 (x3_1+1)) then (spec_TreeOk.j2 kj2 l0 (wrap64 (x3_1+1)) x4_1) else (some false)) else (spec_TreeOk.j2 kj2 l0 x3_1 x4_1))) else (none)) else (none))=some r:=by rw [if_neg (show ¬ (false=true) by decide)] at H;exact H
       clear H
       have H:=H1
       clear H1
       by_cases c18:0≤x4_1
       ·rw [if_pos c18] at H
        have c18b0:decide (0≤x4_1)=true:=dt_ c18
        clear c18
        by_cases c19:x4_1 < (l0.length:Int)
        ·rw [if_pos c19] at H
         have c19b0:decide (x4_1 < (l0.length:Int))=true:=dt_ c19
         clear c19
         replace H:=bs_ H
         obtain ⟨t337,A200,H⟩:=H
         try dsimp only at H
         have A20:=a_ A200
         clear A200
         have HC21:=a_ H
         clear H
         have p336:0≤(x4_1:Int):=od_
         have q336:x4_1 < (l0.length:Int):=od_
         obtain ⟨ad336,e336,hx336_0,hx336_1,hx336_2⟩:=at_T37 HR0.out x4_1 p336 q336
         cases e336
         replace hx336_0:=(cb_ HB.out hx336_0 :)
         replace hx336_1:=(cb_ HB.out hx336_1 :)
         replace hx336_2:=(cb_ HB.out hx336_2 :)
         replace p336:=eq_true p336
         replace q336:=eq_true q336
         go_upto_if 42 with (first|((with_reducible refine gC_ (f:=59) rfl ?_);refine gl_ 42 Tryd.func59 #[.int .i64 ((rd_T37 l0 x4_1).f0)] ?_;(with_reducible refine (spec_l1Root.calls ((rd_T37 l0 x4_1).f0) t337 _ A20.out).mono ?_);rintro e w' ⟨rfl,⟨nd,rfl⟩⟩;refine ⟨_,rfl,?_⟩))
         (try simp only [Act.put,List.setIfInBounds_toArray,List.set_cons_zero,List.set_cons_succ])
         go_cut [3] (fun v3 wc=>∃ (kq:Nat) (x3_20:Int),v3=.int .i64 x3_20∧Aside0 (spec_TreeOk.j2 kq l0 x3_20 x4_1=some r)∧Aside0 (kq≤kj2)∧Aside0 (Below w.heap.size w wc))
         case first =>
          have H:=HC21.out
          clear HC21
          by_cases c22:t337=true
          ·subst c22
           have H1:(if ((rd_T37 l0 x4_1).f0)=(wrap64 (x3_1+1)) then (spec_TreeOk.j2 kj2 l0 (wrap64 (x3_1+1)) x4_1) else (some false))=some r:=by rw [if_pos rfl] at H;exact H
           clear H
           have H:=H1
           clear H1
           by_cases c23:((rd_T37 l0 x4_1).f0)=(wrap64 (x3_1+1))
           ·rw [if_pos c23] at H
            have c23b0:(((rd_T37 l0 x4_1).f0)==(wrap64 (x3_1+1)))=true:=beq_iff_eq.mpr c23
            have c23b1:(((rd_T37 l0 x4_1).f0) != (wrap64 (x3_1+1)))=false:=be_ c23
            clear c23
            (first|rw [c23b0]|(simp only [i64_w,i32_w];rw [c23b0])|skip)
            have H':=a_ H
            clear H
            have p338:0≤(x4_1:Int):=od_
            have q338:x4_1 < (l0.length:Int):=od_
            obtain ⟨ad338,e338,hx338_0,hx338_1,hx338_2⟩:=at_T37 HR0.out x4_1 p338 q338
            obtain rfl:ad336=ad338:=(by injection e338)
            replace hx338_0:=(cb_ HB.out hx338_0 :)
            replace hx338_1:=(cb_ HB.out hx338_1 :)
            replace hx338_2:=(cb_ HB.out hx338_2 :)
            replace p338:=eq_true p338
            replace q338:=eq_true q338
            go_wp2
            go_meet
            case rel=>exact ⟨_,(wrap64 (x3_1+1)),(si_),H',⟨by have:=HK1.out;have:=HJ2.out;first|omega|exact Nat.le_refl _⟩,⟨bel_⟩⟩
           ·rw [if_neg c23] at H
            have c23b0:(((rd_T37 l0 x4_1).f0)==(wrap64 (x3_1+1)))=false:=bn_ c23
            have c23b1:(((rd_T37 l0 x4_1).f0) != (wrap64 (x3_1+1)))=true:=bne_iff_ne.mpr c23
            (first|rw [c23b0]|(simp only [i64_w,i32_w];rw [c23b0])|skip)
            obtain rfl:=sj_ H
            have p338:0≤(x4_1:Int):=od_
            have q338:x4_1 < (l0.length:Int):=od_
            obtain ⟨ad338,e338,hx338_0,hx338_1,hx338_2⟩:=at_T37 HR0.out x4_1 p338 q338
            obtain rfl:ad336=ad338:=(by injection e338)
            replace hx338_0:=(cb_ HB.out hx338_0 :)
            replace hx338_1:=(cb_ HB.out hx338_1 :)
            replace hx338_2:=(cb_ HB.out hx338_2 :)
            replace p338:=eq_true p338
            replace q338:=eq_true q338
            go_wp2
            go_ret
            exact ⟨fi_,bel_⟩
          ·replace c22:=Bool.eq_false_iff.mpr c22
           subst c22
           have H1:(spec_TreeOk.j2 kj2 l0 x3_1 x4_1)=some r:=by rw [if_neg (show ¬ (false=true) by decide)] at H;exact H
           clear H
           have H:=H1
           clear H1
           have H':=a_ H
           clear H
           go_wp2
           go_meet
           case rel=>exact ⟨_,(x3_1),(si_),H',⟨by have:=HK1.out;have:=HJ2.out;first|omega|exact Nat.le_refl _⟩,⟨bel_⟩⟩
         case rest =>
          clear HC21
          try clear c1
          try clear c2
          try clear p2
          try clear p3
          try clear q3
          try clear hx3
          try clear c4
          try clear c5
          try clear c6
          try clear p6
          try clear c7
          try clear c7b0
          try clear c9
          try clear c10
          try clear c17
          try clear c18
          try clear c18b0
          try clear c19
          try clear c19b0
          try clear c22
          try clear c23
          try clear c23b0
          try clear c23b1
          try clear hx332_0
          try clear hx332_1
          try clear hx332_2
          try clear hx334_0
          try clear hx334_1
          try clear hx334_2
          try clear hx335_0
          try clear hx335_1
          try clear hx335_2
          try clear hx336_0
          try clear hx336_1
          try clear hx336_2
          try clear hx338_0
          try clear hx338_1
          try clear hx338_2
          try clear p2
          try clear p3
          try clear p332
          try clear p335
          try clear p336
          try clear p338
          try clear p6
          try clear q3
          try clear q332
          try clear q335
          try clear q336
          try clear q338
          obtain ⟨kq,x3_20,rfl,HA,HJ20,HB⟩:=hcut
          cases kq with
          | zero=>exact absurd HA.out (by simp [spec_TreeOk.j2])
          | succ kj20 =>
           have H:=HA.out
           clear HA
           simp only [spec_TreeOk.j2] at H
           have H':=a_ H
           clear H
           go_wp2
           go_loopg [5] kj20 (fun kq v5 w'=>∃ (x5_4:Int),v5=.int .i64 x5_4∧Aside0 (spec_TreeOk.l1 kq l0 x3_20 x4_1 x5_4=some r)∧Aside0 (kq≤kj20)∧Aside0 (Below w.heap.size w w'))
           case atStart=>exact ⟨(0),(si_),H',⟨Nat.le_refl _⟩,⟨bel_⟩⟩
           case round =>
            clear H'
            try clear c1
            try clear c2
            try clear p2
            try clear p3
            try clear q3
            try clear hx3
            try clear c4
            try clear c5
            try clear c6
            try clear p6
            try clear c7
            try clear c7b0
            try clear c9
            try clear c10
            try clear c17
            try clear c18
            try clear c18b0
            try clear c19
            try clear c19b0
            try clear c22
            try clear c23
            try clear c23b0
            try clear c23b1
            try clear hx332_0
            try clear hx332_1
            try clear hx332_2
            try clear hx334_0
            try clear hx334_1
            try clear hx334_2
            try clear hx335_0
            try clear hx335_1
            try clear hx335_2
            try clear hx336_0
            try clear hx336_1
            try clear hx336_2
            try clear hx338_0
            try clear hx338_1
            try clear hx338_2
            try clear p2
            try clear p3
            try clear p332
            try clear p335
            try clear p336
            try clear p338
            try clear p6
            try clear q3
            try clear q332
            try clear q335
            try clear q336
            try clear q338
            obtain ⟨x5_4,rfl,HA,HK4,HB⟩:=hrel
            cases gk with
            | zero=>exact absurd HA.out (by simp [spec_TreeOk.l1])
            | succ k4 =>
             have H:=HA.out
             clear HA
             simp only [spec_TreeOk.l1] at H
             by_cases c24:x5_4 < x4_1
             ·rw [if_pos c24] at H
              have c24b0:decide (x5_4 < x4_1)=true:=dt_ c24
              clear c24
              by_cases c25:0≤x5_4
              ·rw [if_pos c25] at H
               have c25b0:decide (0≤x5_4)=true:=dt_ c25
               clear c25
               by_cases c26:x5_4 < (l0.length:Int)
               ·rw [if_pos c26] at H
                have c26b0:decide (x5_4 < (l0.length:Int))=true:=dt_ c26
                clear c26
                by_cases c27:0≤x4_1
                ·rw [if_pos c27] at H
                 have c27b0:decide (0≤x4_1)=true:=dt_ c27
                 clear c27
                 by_cases c28:x4_1 < (l0.length:Int)
                 ·rw [if_pos c28] at H
                  have c28b0:decide (x4_1 < (l0.length:Int))=true:=dt_ c28
                  clear c28
                  by_cases c29:((rd_T37 l0 x5_4).f0)=((rd_T37 l0 x4_1).f0)
                  ·rw [if_pos c29] at H
                   have c29b0:(((rd_T37 l0 x5_4).f0)==((rd_T37 l0 x4_1).f0))=true:=beq_iff_eq.mpr c29
                   have c29b1:(((rd_T37 l0 x5_4).f0) != ((rd_T37 l0 x4_1).f0))=false:=be_ c29
                   clear c29
                   obtain rfl:=sj_ H
                   try go_wp2
                   have n0_:=a_ (below_drew1 HB.out)
                   clear HB
                   have HB:=n0_
                   clear n0_
                   have p339:0≤(x5_4:Int):=od_
                   have q339:x5_4 < (l0.length:Int):=od_
                   obtain ⟨ad339,e339,hx339_0,hx339_1,hx339_2⟩:=at_T37 HR0.out x5_4 p339 q339
                   have hw339_2:=hx339_2
                   have hw339_1:=hx339_1
                   have hw339_0:=hx339_0
                   obtain rfl:ad336=ad339:=(by injection e339)
                   replace hx339_0:=(cb_ HB.out hx339_0 :)
                   replace hx339_1:=(cb_ HB.out hx339_1 :)
                   replace hx339_2:=(cb_ HB.out hx339_2 :)
                   replace p339:=eq_true p339
                   replace q339:=eq_true q339
                   have p340:0≤(x4_1:Int):=od_
                   have q340:x4_1 < (l0.length:Int):=od_
                   obtain ⟨ad340,e340,hx340_0,hx340_1,hx340_2⟩:=at_T37 HR0.out x4_1 p340 q340
                   have hw340_2:=hx340_2
                   have hw340_1:=hx340_1
                   have hw340_0:=hx340_0
                   obtain rfl:ad336=ad340:=(by injection e340)
                   replace hx340_0:=(cb_ HB.out hx340_0 :)
                   replace hx340_1:=(cb_ HB.out hx340_1 :)
                   replace hx340_2:=(cb_ HB.out hx340_2 :)
                   replace p340:=eq_true p340
                   replace q340:=eq_true q340
                   refine start_ (n:=11) (S:=fun w'=>w'.cell? (ad336.add ((x5_4).toNat * 3))=some (.int .i64 ((rd_T37 l0 x5_4).f0))∧w'.cell? ⟨(ad336.add ((x5_4).toNat * 3)).block,(ad336.add ((x5_4).toNat * 3)).off+1,none⟩=some (.int .i64 ((rd_T37 l0 x5_4).f1))∧w'.cell? ⟨(ad336.add ((x5_4).toNat * 3)).block,(ad336.add ((x5_4).toNat * 3)).off+2,none⟩=some (.string ((rd_T37 l0 x5_4).f2))∧w'.cell? (ad336.add ((x4_1).toNat * 3))=some (.int .i64 ((rd_T37 l0 x4_1).f0))∧w'.cell? ⟨(ad336.add ((x4_1).toNat * 3)).block,(ad336.add ((x4_1).toNat * 3)).off+1,none⟩=some (.int .i64 ((rd_T37 l0 x4_1).f1))∧w'.cell? ⟨(ad336.add ((x4_1).toNat * 3)).block,(ad336.add ((x4_1).toNat * 3)).off+2,none⟩=some (.string ((rd_T37 l0 x4_1).f2))) (ds:=[]) #[false,false,false,false,false,false,false,false,false,false,false] (by kernel_rfl) rfl rfl ⟨((cb_ HB.out hw339_0 :)),((cb_ HB.out hw339_1 :)),((cb_ HB.out hw339_2 :)),((cb_ HB.out hw340_0 :)),((cb_ HB.out hw340_1 :)),((cb_ HB.out hw340_2 :))⟩ (fun hHeld=>?_);refine with_tabW spec_TreeOk.tab14 spec_TreeOk.bits14 (fun HT_ HW_=>?_)
                   generalize wr.drew=w30 at HB hx339_0 hx339_1 hx339_2 hx340_0 hx340_1 hx340_2 hHeld ⊢
                   refine pa_ 0 57 ?_
                   refine pa_ 1 58 ?_
                   refine pa_ 2 59 ?_
                   refine pa_ 3 60 ?_
                   refine pa_ 5 62 ?_
                   refine pa_ 6 63 ?_
                   refine pa_ 7 64 ?_
                   refine pa_ 8 65 ?_
                   refine ta6_ 4 61 hHeld ?_
                   refine ta6_ 9 66 hHeld ?_
                   refine pa_ 10 67 ?_
                   refine done_ (done_of HT_.out (by kernel_rfl)) ?_
                   try go_wp2
                   go_ret
                   exact ⟨fi_,bel_⟩
                  ·rw [if_neg c29] at H
                   have c29b0:(((rd_T37 l0 x5_4).f0)==((rd_T37 l0 x4_1).f0))=false:=bn_ c29
                   have c29b1:(((rd_T37 l0 x5_4).f0) != ((rd_T37 l0 x4_1).f0))=true:=bne_iff_ne.mpr c29
                   have H':=a_ H
                   clear H
                   try go_wp2
                   have n0_:=a_ (below_drew1 HB.out)
                   clear HB
                   have HB:=n0_
                   clear n0_
                   have p339:0≤(x5_4:Int):=od_
                   have q339:x5_4 < (l0.length:Int):=od_
                   obtain ⟨ad339,e339,hx339_0,hx339_1,hx339_2⟩:=at_T37 HR0.out x5_4 p339 q339
                   have hw339_2:=hx339_2
                   have hw339_1:=hx339_1
                   have hw339_0:=hx339_0
                   obtain rfl:ad336=ad339:=(by injection e339)
                   replace hx339_0:=(cb_ HB.out hx339_0 :)
                   replace hx339_1:=(cb_ HB.out hx339_1 :)
                   replace hx339_2:=(cb_ HB.out hx339_2 :)
                   replace p339:=eq_true p339
                   replace q339:=eq_true q339
                   have p340:0≤(x4_1:Int):=od_
                   have q340:x4_1 < (l0.length:Int):=od_
                   obtain ⟨ad340,e340,hx340_0,hx340_1,hx340_2⟩:=at_T37 HR0.out x4_1 p340 q340
                   have hw340_2:=hx340_2
                   have hw340_1:=hx340_1
                   have hw340_0:=hx340_0
                   obtain rfl:ad336=ad340:=(by injection e340)
                   replace hx340_0:=(cb_ HB.out hx340_0 :)
                   replace hx340_1:=(cb_ HB.out hx340_1 :)
                   replace hx340_2:=(cb_ HB.out hx340_2 :)
                   replace p340:=eq_true p340
                   replace q340:=eq_true q340
                   refine start_ (n:=11) (S:=fun w'=>w'.cell? (ad336.add ((x5_4).toNat * 3))=some (.int .i64 ((rd_T37 l0 x5_4).f0))∧w'.cell? ⟨(ad336.add ((x5_4).toNat * 3)).block,(ad336.add ((x5_4).toNat * 3)).off+1,none⟩=some (.int .i64 ((rd_T37 l0 x5_4).f1))∧w'.cell? ⟨(ad336.add ((x5_4).toNat * 3)).block,(ad336.add ((x5_4).toNat * 3)).off+2,none⟩=some (.string ((rd_T37 l0 x5_4).f2))∧w'.cell? (ad336.add ((x4_1).toNat * 3))=some (.int .i64 ((rd_T37 l0 x4_1).f0))∧w'.cell? ⟨(ad336.add ((x4_1).toNat * 3)).block,(ad336.add ((x4_1).toNat * 3)).off+1,none⟩=some (.int .i64 ((rd_T37 l0 x4_1).f1))∧w'.cell? ⟨(ad336.add ((x4_1).toNat * 3)).block,(ad336.add ((x4_1).toNat * 3)).off+2,none⟩=some (.string ((rd_T37 l0 x4_1).f2))) (ds:=[]) #[false,false,false,false,false,false,false,false,false,false,false] (by kernel_rfl) rfl rfl ⟨((cb_ HB.out hw339_0 :)),((cb_ HB.out hw339_1 :)),((cb_ HB.out hw339_2 :)),((cb_ HB.out hw340_0 :)),((cb_ HB.out hw340_1 :)),((cb_ HB.out hw340_2 :))⟩ (fun hHeld=>?_);refine with_tabW spec_TreeOk.tab14 spec_TreeOk.bits14 (fun HT_ HW_=>?_)
                   generalize wr.drew=w31 at HB hx339_0 hx339_1 hx339_2 hx340_0 hx340_1 hx340_2 hHeld ⊢
                   refine pa_ 0 57 ?_
                   refine pa_ 1 58 ?_
                   refine pa_ 2 59 ?_
                   refine pa_ 3 60 ?_
                   refine pa_ 5 62 ?_
                   refine pa_ 6 63 ?_
                   refine pa_ 7 64 ?_
                   refine pa_ 8 65 ?_
                   refine ta6_ 4 61 hHeld ?_
                   refine ta6_ 9 66 hHeld ?_
                   refine pa_ 10 67 ?_
                   refine done_ (done_of HT_.out (by kernel_rfl)) ?_
                   try go_wp2
                   go_roundg k4
                   case measure=>have:=HK1.out;have:=HJ2.out;have:=HJ20.out;have:=HK4.out;omega
                   case rel=>exact ⟨(wrap64 (x5_4+1)),(si_),H',⟨by have:=HK1.out;have:=HJ2.out;have:=HJ20.out;have:=HK4.out;omega⟩,⟨bel_⟩⟩
                 ·rw [if_neg c28] at H
                  exact absurd H (by simp)
                ·rw [if_neg c27] at H
                 exact absurd H (by simp)
               ·rw [if_neg c26] at H
                exact absurd H (by simp)
              ·rw [if_neg c25] at H
               exact absurd H (by simp)
             ·rw [if_neg c24] at H
              have c24b0:decide (x5_4 < x4_1)=false:=df_ c24
              clear c24
              have H':=a_ H
              clear H
              go_wp2
              go_roundg k4
              case measure=>have:=HK1.out;have:=HJ2.out;have:=HJ20.out;have:=HK4.out;omega
              case rel=>exact ⟨(x3_20),(wrap64 (x4_1+1)),(si_),(si_),H',⟨by have:=HK1.out;have:=HJ2.out;have:=HJ20.out;have:=HK4.out;omega⟩,⟨bel_⟩⟩
        ·rw [if_neg c19] at H
         exact absurd H (by simp)
       ·rw [if_neg c18] at H
        exact absurd H (by simp)
   ·rw [if_neg c2] at H
    have c2b0:decide (x4_1 < (l0.length:Int))=false:=df_ c2
    clear c2
    by_cases c32:x3_1=3
    ·rw [if_pos c32] at H
     have c32b0:(x3_1==3)=true:=beq_iff_eq.mpr c32
     have c32b1:(x3_1 != 3)=false:=be_ c32
     clear c32
     by_cases c33:0 < (l0.length:Int)
     ·rw [if_pos c33] at H
      have c33b0:decide (0 < (l0.length:Int))=true:=dt_ c33
      have c33b1:decide (0 < l0.length)=true:=dt_ (by omega)
      clear c33
      obtain rfl:=sj_ H
      have p331:0≤(0:Int):=(by omega)
      have q331:0 < (l0.length:Int):=od_
      obtain ⟨ad331,e331,hx331_0,hx331_1,hx331_2⟩:=at_T37 HR0.out 0 p331 q331
      cases e331
      have qi331:(0 < l0.length)=True:=eq_true (by omega)
      (try rw [show ((0:Int)).toNat=0 from rfl] at hx331_0)
      (try rw [show 0 * 3=0 from rfl] at hx331_0)
      (try rw [Addr.add_zero'] at hx331_0)
      (try rw [show ((0:Int)).toNat=0 from rfl] at hx331_1)
      (try rw [show 0 * 3=0 from rfl] at hx331_1)
      (try rw [Addr.add_zero'] at hx331_1)
      (try rw [show ((0:Int)).toNat=0 from rfl] at hx331_2)
      (try rw [show 0 * 3=0 from rfl] at hx331_2)
      (try rw [Addr.add_zero'] at hx331_2)
      replace hx331_0:=(cb_ HB.out hx331_0 :)
      replace hx331_1:=(cb_ HB.out hx331_1 :)
      replace hx331_2:=(cb_ HB.out hx331_2 :)
      replace p331:=eq_true p331
      replace q331:=eq_true q331
      go_wp2
      go_ret
      exact ⟨fi_,bel_⟩
     ·rw [if_neg c33] at H
      exact absurd H (by simp)
    ·rw [if_neg c32] at H
     have c32b0:(x3_1==3)=false:=bn_ c32
     have c32b1:(x3_1 != 3)=true:=bne_iff_ne.mpr c32
     obtain rfl:=sj_ H
     go_wp2
     go_ret
     exact ⟨fi_,bel_⟩
def spec_l11Move.f (a0:Int) (a1:Int) (a2:Int):Option (Int×Int×Int×Int×ByteArray):=some (3,a0,a1,a2,(⟨#[]⟩:ByteArray))
theorem spec_l11Move.calls (a0:Int) (a1:Int) (a2:Int) (r1:Int) (r2:Int) (r3:Int) (r4:Int) (r5:ByteArray) (w:World) (h:spec_l11Move.f a0 a1 a2=some (r1,r2,r3,r4,r5)) :
  Calls Tryd.prog 56 #[.int .i64 a0,.int .i64 a1,.int .i64 a2] w fun e w'=>e=.returned (.agg #[.int .i64 r1,.int .i64 r2,.int .i64 r3,.int .i64 r4,.string r5])∧Below w.heap.size w w':=by
 have hu27:=Tryd.underlying27
 have HB:=a_ (Below.refl w.heap.size w)
 unfold spec_l11Move.f at h
 have H:=h
 clear h
 simp only [Option.some.injEq,Prod.mk.injEq] at H
 obtain ⟨rfl,rfl,rfl,rfl,rfl⟩:=H
 go_enter Tryd.func56,Tryd.ntmps56
 go_wp2_with (first|((with_reducible refine gD_ (N:=6) rfl ?_);refine bx_ 6 (#[.int .i64 0,.int .i64 0,.int .i64 0,.int .i64 0,.string (⟨#[]⟩:ByteArray)]) 27 ?_;intro gb341 hg w4 hbox hb;have n0_:=a_ (bS_ (bel_) hb);have n1_:=a_ (hbox);have n2_:=a_ ((by rw [hg];exact (below_size (bel_)):w.heap.size≤gb341));have n3_:=a_ ((by rw [hg];exact (below_size (bel_)):w.heap.size≤gb341));clear HB;have HB:=n0_;have BK341:=n1_;have GW341:=n2_;have GE341:=n3_;clear n0_ n1_ n2_ n3_;clear hb hbox hg;obtain ⟨Z5_0,Z5_1,Z5_2,Z5_3,Z5_4,Y5_0,Y5_1,Y5_2,Y5_3,Y5_4⟩:=op5_ BK341.out))
 refine bodyPost_ret (results_cell_row rfl _ _ gb341 27 #[.int .i64 3,.int .i64 a0,.int .i64 a1,.int .i64 a2,.string (⟨#[]⟩:ByteArray)] (0,0) _ rfl (by (with_reducible repeat (first|refine bN_ ?_ _|refine bD_ ?_|refine bA_ ?_ _));exact bk5_ (bp_ BK341.out)) Tryd.underlying27 rfl (by kernel_rfl)) rfl ?_
 exact ⟨fi_,bel_⟩
mutual
def spec_l2Ahead.l0:Nat→List (S37)→Int→Int→Option (Int)
 | 0,_,_,_=>none
 | k+1,x0,x1,x5=>if x5≥0 then (if 0≤x5 then (if x5 < (x0.length:Int) then (if 0≤x1 then (if x1 < (x0.length:Int) then (spec_l2Ahead.j1 k x0 x1 x5 (decide (((rd_T37 x0 x5).f1)≥((rd_T37 x0 x1).f1)))) else (none)) else (none)) else (none)) else (none)) else (spec_l2Ahead.j1 k x0 x1 x5 false)
def spec_l2Ahead.j1:Nat→List (S37)→Int→Int→Bool→Option (Int)
 | 0,_,_,_,_=>none
 | k+1,x0,x1,x5,x22=>if x22=true then (if 0≤x5 then (if x5 < (x0.length:Int) then (if 0≤x1 then (if x1 < (x0.length:Int) then (if ((rd_T37 x0 x5).f1)=((rd_T37 x0 x1).f1) then (some ((rd_T37 x0 x5).f0)) else (spec_l2Ahead.l0 k x0 x1 (wrap64 (x5 - 1)))) else (none)) else (none)) else (none)) else (none)) else (some 0)
end
def spec_l2Ahead.f (k:Nat) (l0:List (S37)) (a1:Int):Option (Int):=spec_l2Ahead.l0 k l0 a1 (wrap64 (a1 - 1))
theorem spec_l2Ahead.mono_l:∀ k,(∀ y0 y1 y2,LeO (spec_l2Ahead.l0 k y0 y1 y2) (spec_l2Ahead.l0 (k+1) y0 y1 y2))∧(∀ y0 y1 y2 y3,LeO (spec_l2Ahead.j1 k y0 y1 y2 y3) (spec_l2Ahead.j1 (k+1) y0 y1 y2 y3))
 | 0=>⟨fun _ _ _ r h=>by simp [spec_l2Ahead.l0] at h,fun _ _ _ _ r h=>by simp [spec_l2Ahead.j1] at h⟩
 | k+1=>by
  obtain ⟨ih0,ih1⟩:=spec_l2Ahead.mono_l k
  refine ⟨?_,?_⟩
  all_goals intros
  all_goals first|unfold spec_l2Ahead.l0|unfold spec_l2Ahead.j1
  all_goals repeat' first
  | (with_reducible exact ih0 _ _ _)
  | (with_reducible exact ih1 _ _ _ _)
  | (with_reducible exact LeO.refl _)
  | (with_reducible exact LeO.none _)
  | (with_reducible refine LeO.ite ?_ ?_)
  | (with_reducible refine LeO.bind ?_ (fun _=>?_))
theorem spec_l2Ahead.mono:∀ a0 a1 k,LeO (spec_l2Ahead.f k a0 a1) (spec_l2Ahead.f (k+1) a0 a1):=by
 intro a0 a1 k
 obtain ⟨ih0,ih1⟩:=spec_l2Ahead.mono_l k
 unfold spec_l2Ahead.f
 repeat' first
   | (with_reducible exact ih0 _ _ _)
   | (with_reducible exact ih1 _ _ _ _)
   | (with_reducible exact LeO.refl _)
   | (with_reducible exact LeO.none _)
   | (with_reducible refine LeO.ite ?_ ?_)
   | (with_reducible refine LeO.bind ?_ (fun _=>?_))
theorem spec_l2Ahead.calls (k:Nat) (A0:Option Addr) (c0:Nat) (l0:List (S37)) (a1:Int) (r:Int) (w:World) (hr0:Kd.C k37 w A0 l0.length l0) (hc0:l0.length≤c0) (h:spec_l2Ahead.f k l0 a1=some r) :
  Calls Tryd.prog 83 #[.slice A0 l0.length c0,.int .i64 a1] w fun e w'=>e=.returned (.int .i64 r)∧Drawn0 w w':=by
 have HR0:=a_ hr0
 have HC0:=a_ hc0
 clear hr0 hc0
 unfold spec_l2Ahead.f at h
 have H:=h
 clear h
 have H':=a_ H
 clear H
 go_enter Tryd.func83,Tryd.ntmps83
 go_wp2
 repeat (go_quiet (fail);try go_wp2)
 go_loopg [5] k (fun kq v5 w'=>∃ (x5_1:Int),v5=.int .i64 x5_1∧Aside0 (spec_l2Ahead.l0 kq l0 a1 x5_1=some r)∧Aside0 (kq≤k)∧Drawn0 w w')
 case atStart=>exact ⟨(wrap64 (a1 - 1)),(si_),H',⟨Nat.le_refl _⟩,by repeat (first|exact Drawn0.refl _|apply Drawn0.step)⟩
 case round =>
  clear H'
  try clear p2
  obtain ⟨x5_1,rfl,HA,HK1,⟨m1,rfl⟩⟩:=hrel
  cases gk with
  | zero=>exact absurd HA.out (by simp [spec_l2Ahead.l0])
  | succ k1 =>
   have H:=HA.out
   clear HA
   simp only [spec_l2Ahead.l0] at H
   have HC3:=a_ H
   clear H
   go_upto_region 2 with (fail)
   repeat (go_quiet (fail);go_upto_region 2 with (fail))
   go_cut [22] (fun v22 wc=>∃ (kq:Nat) (x22_2:Bool),v22=.bool x22_2∧Aside0 (spec_l2Ahead.j1 kq l0 a1 x5_1 x22_2=some r)∧Aside0 (kq≤k1)∧Drawn0 w wc)
   case first =>
    have H:=HC3.out
    clear HC3
    by_cases c4:x5_1≥0
    ·rw [if_pos c4] at H
     have c4b0:decide (0≤x5_1)=true:=dt_ c4
     clear c4
     (first|rw [c4b0]|(simp only [i64_w,i32_w];rw [c4b0])|skip)
     by_cases c5:0≤x5_1
     ·rw [if_pos c5] at H
      have c5b0:decide (0≤x5_1)=true:=dt_ c5
      clear c5
      by_cases c6:x5_1 < (l0.length:Int)
      ·rw [if_pos c6] at H
       have c6b0:decide (x5_1 < (l0.length:Int))=true:=dt_ c6
       clear c6
       by_cases c7:0≤a1
       ·rw [if_pos c7] at H
        have c7b0:decide (0≤a1)=true:=dt_ c7
        clear c7
        by_cases c8:a1 < (l0.length:Int)
        ·rw [if_pos c8] at H
         have c8b0:decide (a1 < (l0.length:Int))=true:=dt_ c8
         clear c8
         have H':=a_ H
         clear H
         have p407:0≤(x5_1:Int):=od_
         have q407:x5_1 < (l0.length:Int):=od_
         obtain ⟨ad407,e407,hx407_0,hx407_1,hx407_2⟩:=at_T37 HR0.out x5_1 p407 q407
         cases e407
         replace p407:=eq_true p407
         replace q407:=eq_true q407
         have p408:0≤(a1:Int):=od_
         have q408:a1 < (l0.length:Int):=od_
         obtain ⟨ad408,e408,hx408_0,hx408_1,hx408_2⟩:=at_T37 HR0.out a1 p408 q408
         obtain rfl:ad407=ad408:=(by injection e408)
         replace p408:=eq_true p408
         replace q408:=eq_true q408
         go_wp2
         repeat (go_quiet (fail);try go_wp2)
         go_meet
         case rel=>exact ⟨_,(decide (((rd_T37 l0 x5_1).f1)≥((rd_T37 l0 a1).f1))),(si_),H',⟨by have:=HK1.out;first|omega|exact Nat.le_refl _⟩,by repeat (first|exact Drawn0.refl _|apply Drawn0.step)⟩
        ·rw [if_neg c8] at H
         exact absurd H (by simp)
       ·rw [if_neg c7] at H
        exact absurd H (by simp)
      ·rw [if_neg c6] at H
       exact absurd H (by simp)
     ·rw [if_neg c5] at H
      exact absurd H (by simp)
    ·rw [if_neg c4] at H
     have c4b0:decide (0≤x5_1)=false:=df_ c4
     clear c4
     (first|rw [c4b0]|(simp only [i64_w,i32_w];rw [c4b0])|skip)
     have H':=a_ H
     clear H
     go_wp2
     repeat (go_quiet (fail);try go_wp2)
     go_meet
     case rel=>exact ⟨_,(false),(si_),H',⟨by have:=HK1.out;first|omega|exact Nat.le_refl _⟩,by repeat (first|exact Drawn0.refl _|apply Drawn0.step)⟩
   case rest =>
    clear HC3
    try clear p2
    try clear c4
    try clear c4b0
    try clear p4
    try clear q4
    try clear hx4
    try clear c5
    try clear c5b0
    try clear c6
    try clear c6b0
    try clear p6
    try clear c7
    try clear c7b0
    try clear c8
    try clear c8b0
    try clear hx407_0
    try clear hx407_1
    try clear hx407_2
    try clear hx408_0
    try clear hx408_1
    try clear hx408_2
    try clear p2
    try clear p407
    try clear p408
    try clear q407
    try clear q408
    obtain ⟨kq,x22_2,rfl,HA,HJ2,⟨mc2,rfl⟩⟩:=hcut
    cases kq with
    | zero=>exact absurd HA.out (by simp [spec_l2Ahead.j1])
    | succ kj2 =>
     have H:=HA.out
     clear HA
     simp only [spec_l2Ahead.j1] at H
     by_cases c9:x22_2=true
     ·subst c9
      have H1:(if 0≤x5_1 then (if x5_1 < (l0.length:Int) then (if 0≤a1 then (if a1 < (l0.length:Int) then (if ((rd_T37 l0 x5_1).f1)=((rd_T37 l0 a1).f1) then (some ((rd_T37 l0 x5_1).f0)) else (spec_l2Ahead.l0 kj2 l0 a1 (wrap64 (x5_1 - 1)))) else (none)) else (none)) else (none)) else (none))=some r:=by rw [if_pos rfl] at H;exact H
      clear H
      have H:=H1
      clear H1
      by_cases c10:0≤x5_1
      ·rw [if_pos c10] at H
       have c10b0:decide (0≤x5_1)=true:=dt_ c10
       clear c10
       by_cases c11:x5_1 < (l0.length:Int)
       ·rw [if_pos c11] at H
        have c11b0:decide (x5_1 < (l0.length:Int))=true:=dt_ c11
        clear c11
        by_cases c12:0≤a1
        ·rw [if_pos c12] at H
         have c12b0:decide (0≤a1)=true:=dt_ c12
         clear c12
         by_cases c13:a1 < (l0.length:Int)
         ·rw [if_pos c13] at H
          have c13b0:decide (a1 < (l0.length:Int))=true:=dt_ c13
          clear c13
          by_cases c14:((rd_T37 l0 x5_1).f1)=((rd_T37 l0 a1).f1)
          ·rw [if_pos c14] at H
           have c14b0:(((rd_T37 l0 x5_1).f1)==((rd_T37 l0 a1).f1))=true:=beq_iff_eq.mpr c14
           have c14b1:(((rd_T37 l0 x5_1).f1) != ((rd_T37 l0 a1).f1))=false:=be_ c14
           clear c14
           obtain rfl:=sj_ H
           have p409:0≤(x5_1:Int):=od_
           have q409:x5_1 < (l0.length:Int):=od_
           obtain ⟨ad409,e409,hx409_0,hx409_1,hx409_2⟩:=at_T37 HR0.out x5_1 p409 q409
           cases e409
           replace p409:=eq_true p409
           replace q409:=eq_true q409
           have p410:0≤(a1:Int):=od_
           have q410:a1 < (l0.length:Int):=od_
           obtain ⟨ad410,e410,hx410_0,hx410_1,hx410_2⟩:=at_T37 HR0.out a1 p410 q410
           obtain rfl:ad409=ad410:=(by injection e410)
           replace p410:=eq_true p410
           replace q410:=eq_true q410
           have p411:0≤(x5_1:Int):=od_
           have q411:x5_1 < (l0.length:Int):=od_
           obtain ⟨ad411,e411,hx411_0,hx411_1,hx411_2⟩:=at_T37 HR0.out x5_1 p411 q411
           obtain rfl:ad409=ad411:=(by injection e411)
           replace p411:=eq_true p411
           replace q411:=eq_true q411
           go_wp2
           repeat (go_quiet (fail);try go_wp2)
           go_ret
           exact ⟨si_,by repeat (first|exact Drawn0.refl _|apply Drawn0.step)⟩
          ·rw [if_neg c14] at H
           have c14b0:(((rd_T37 l0 x5_1).f1)==((rd_T37 l0 a1).f1))=false:=bn_ c14
           have c14b1:(((rd_T37 l0 x5_1).f1) != ((rd_T37 l0 a1).f1))=true:=bne_iff_ne.mpr c14
           have H':=a_ H
           clear H
           have p409:0≤(x5_1:Int):=od_
           have q409:x5_1 < (l0.length:Int):=od_
           obtain ⟨ad409,e409,hx409_0,hx409_1,hx409_2⟩:=at_T37 HR0.out x5_1 p409 q409
           cases e409
           replace p409:=eq_true p409
           replace q409:=eq_true q409
           have p410:0≤(a1:Int):=od_
           have q410:a1 < (l0.length:Int):=od_
           obtain ⟨ad410,e410,hx410_0,hx410_1,hx410_2⟩:=at_T37 HR0.out a1 p410 q410
           obtain rfl:ad409=ad410:=(by injection e410)
           replace p410:=eq_true p410
           replace q410:=eq_true q410
           go_wp2
           repeat (go_quiet (fail);try go_wp2)
           go_roundg kj2
           case measure=>have:=HK1.out;have:=HJ2.out;omega
           case rel=>exact ⟨(wrap64 (x5_1 - 1)),(si_),H',⟨by have:=HK1.out;have:=HJ2.out;omega⟩,by repeat (first|exact Drawn0.refl _|apply Drawn0.step)⟩
         ·rw [if_neg c13] at H
          exact absurd H (by simp)
        ·rw [if_neg c12] at H
         exact absurd H (by simp)
       ·rw [if_neg c11] at H
        exact absurd H (by simp)
      ·rw [if_neg c10] at H
       exact absurd H (by simp)
     ·replace c9:=Bool.eq_false_iff.mpr c9
      subst c9
      have H1:(some 0)=some r:=by rw [if_neg (show ¬ (false=true) by decide)] at H;exact H
      clear H
      have H:=H1
      clear H1
      obtain rfl:=sj_ H
      go_wp2
      repeat (go_quiet (fail);try go_wp2)
      go_ret
      exact ⟨si_,by repeat (first|exact Drawn0.refl _|apply Drawn0.step)⟩
def spec_l2Up.l0:Nat→List (S37)→Int→Int→Option (Int)
 | 0,_,_,_=>none
 | k+1,x0,x1,x5=>if x5≥0 then (if 0≤x5 then (if x5 < (x0.length:Int) then (if 0≤x1 then (if x1 < (x0.length:Int) then (if ((rd_T37 x0 x5).f1) < ((rd_T37 x0 x1).f1) then (some ((rd_T37 x0 x5).f0)) else (spec_l2Up.l0 k x0 x1 (wrap64 (x5 - 1)))) else (none)) else (none)) else (none)) else (none)) else (some 0)
def spec_l2Up.f (k:Nat) (l0:List (S37)) (a1:Int):Option (Int):=spec_l2Up.l0 k l0 a1 (wrap64 (a1 - 1))
theorem spec_l2Up.mono_l:∀ k,(∀ y0 y1 y2,LeO (spec_l2Up.l0 k y0 y1 y2) (spec_l2Up.l0 (k+1) y0 y1 y2))
 | 0=>fun _ _ _ r h=>by simp [spec_l2Up.l0] at h
 | k+1=>by
  have ih0:=spec_l2Up.mono_l k
  ·intro y0 y1 y2
   unfold spec_l2Up.l0
   repeat' first
   | (with_reducible exact ih0 _ _ _)
   | (with_reducible exact LeO.refl _)
   | (with_reducible exact LeO.none _)
   | (with_reducible refine LeO.ite ?_ ?_)
   | (with_reducible refine LeO.bind ?_ (fun _=>?_))
theorem spec_l2Up.mono:∀ a0 a1 k,LeO (spec_l2Up.f k a0 a1) (spec_l2Up.f (k+1) a0 a1):=by
 intro a0 a1 k
 have ih0:=spec_l2Up.mono_l k
 unfold spec_l2Up.f
 repeat' first
   | (with_reducible exact ih0 _ _ _)
   | (with_reducible exact LeO.refl _)
   | (with_reducible exact LeO.none _)
   | (with_reducible refine LeO.ite ?_ ?_)
   | (with_reducible refine LeO.bind ?_ (fun _=>?_))
theorem spec_l2Up.calls (k:Nat) (A0:Option Addr) (c0:Nat) (l0:List (S37)) (a1:Int) (r:Int) (w:World) (hr0:Kd.C k37 w A0 l0.length l0) (hc0:l0.length≤c0) (h:spec_l2Up.f k l0 a1=some r) :
  Calls Tryd.prog 82 #[.slice A0 l0.length c0,.int .i64 a1] w fun e w'=>e=.returned (.int .i64 r)∧Drawn0 w w':=by
 have HR0:=a_ hr0
 have HC0:=a_ hc0
 clear hr0 hc0
 unfold spec_l2Up.f at h
 have H:=h
 clear h
 have H':=a_ H
 clear H
 go_enter Tryd.func82,Tryd.ntmps82
 go_wp2
 repeat (go_quiet (fail);try go_wp2)
 go_loopg [5] k (fun kq v5 w'=>∃ (x5_1:Int),v5=.int .i64 x5_1∧Aside0 (spec_l2Up.l0 kq l0 a1 x5_1=some r)∧Aside0 (kq≤k)∧Drawn0 w w')
 case atStart=>exact ⟨(wrap64 (a1 - 1)),(si_),H',⟨Nat.le_refl _⟩,by repeat (first|exact Drawn0.refl _|apply Drawn0.step)⟩
 case round =>
  clear H'
  try clear p2
  obtain ⟨x5_1,rfl,HA,HK1,⟨m1,rfl⟩⟩:=hrel
  cases gk with
  | zero=>exact absurd HA.out (by simp [spec_l2Up.l0])
  | succ k1 =>
   have H:=HA.out
   clear HA
   simp only [spec_l2Up.l0] at H
   by_cases c3:x5_1≥0
   ·rw [if_pos c3] at H
    have c3b0:decide (0≤x5_1)=true:=dt_ c3
    clear c3
    by_cases c4:0≤x5_1
    ·rw [if_pos c4] at H
     have c4b0:decide (0≤x5_1)=true:=dt_ c4
     clear c4
     by_cases c5:x5_1 < (l0.length:Int)
     ·rw [if_pos c5] at H
      have c5b0:decide (x5_1 < (l0.length:Int))=true:=dt_ c5
      clear c5
      by_cases c6:0≤a1
      ·rw [if_pos c6] at H
       have c6b0:decide (0≤a1)=true:=dt_ c6
       clear c6
       by_cases c7:a1 < (l0.length:Int)
       ·rw [if_pos c7] at H
        have c7b0:decide (a1 < (l0.length:Int))=true:=dt_ c7
        clear c7
        by_cases c8:((rd_T37 l0 x5_1).f1) < ((rd_T37 l0 a1).f1)
        ·rw [if_pos c8] at H
         have c8b0:decide (((rd_T37 l0 x5_1).f1) < ((rd_T37 l0 a1).f1))=true:=dt_ c8
         clear c8
         obtain rfl:=sj_ H
         have p553:0≤(x5_1:Int):=od_
         have q553:x5_1 < (l0.length:Int):=od_
         obtain ⟨ad553,e553,hx553_0,hx553_1,hx553_2⟩:=at_T37 HR0.out x5_1 p553 q553
         cases e553
         replace p553:=eq_true p553
         replace q553:=eq_true q553
         have p554:0≤(a1:Int):=od_
         have q554:a1 < (l0.length:Int):=od_
         obtain ⟨ad554,e554,hx554_0,hx554_1,hx554_2⟩:=at_T37 HR0.out a1 p554 q554
         obtain rfl:ad553=ad554:=(by injection e554)
         replace p554:=eq_true p554
         replace q554:=eq_true q554
         have p555:0≤(x5_1:Int):=od_
         have q555:x5_1 < (l0.length:Int):=od_
         obtain ⟨ad555,e555,hx555_0,hx555_1,hx555_2⟩:=at_T37 HR0.out x5_1 p555 q555
         obtain rfl:ad553=ad555:=(by injection e555)
         replace p555:=eq_true p555
         replace q555:=eq_true q555
         go_wp2
         repeat (go_quiet (fail);try go_wp2)
         go_ret
         exact ⟨si_,by repeat (first|exact Drawn0.refl _|apply Drawn0.step)⟩
        ·rw [if_neg c8] at H
         have c8b0:decide (((rd_T37 l0 x5_1).f1) < ((rd_T37 l0 a1).f1))=false:=df_ c8
         clear c8
         have H':=a_ H
         clear H
         have p553:0≤(x5_1:Int):=od_
         have q553:x5_1 < (l0.length:Int):=od_
         obtain ⟨ad553,e553,hx553_0,hx553_1,hx553_2⟩:=at_T37 HR0.out x5_1 p553 q553
         cases e553
         replace p553:=eq_true p553
         replace q553:=eq_true q553
         have p554:0≤(a1:Int):=od_
         have q554:a1 < (l0.length:Int):=od_
         obtain ⟨ad554,e554,hx554_0,hx554_1,hx554_2⟩:=at_T37 HR0.out a1 p554 q554
         obtain rfl:ad553=ad554:=(by injection e554)
         replace p554:=eq_true p554
         replace q554:=eq_true q554
         go_wp2
         repeat (go_quiet (fail);try go_wp2)
         go_roundg k1
         case measure=>have:=HK1.out;omega
         case rel=>exact ⟨(wrap64 (x5_1 - 1)),(si_),H',⟨by have:=HK1.out;omega⟩,by repeat (first|exact Drawn0.refl _|apply Drawn0.step)⟩
       ·rw [if_neg c7] at H
        exact absurd H (by simp)
      ·rw [if_neg c6] at H
       exact absurd H (by simp)
     ·rw [if_neg c5] at H
      exact absurd H (by simp)
    ·rw [if_neg c4] at H
     exact absurd H (by simp)
   ·rw [if_neg c3] at H
    have c3b0:decide (0≤x5_1)=false:=df_ c3
    clear c3
    obtain rfl:=sj_ H
    go_wp2
    repeat (go_quiet (fail);try go_wp2)
    go_ret
    exact ⟨si_,by repeat (first|exact Drawn0.refl _|apply Drawn0.step)⟩
def spec_l3Id.f (a0:Int):Option (Bool):=(spec_l1Root.f a0).bind fun t721=>(if t721=true then (some true) else ((spec_l1Made.f a0).bind fun t722=>(some t722)))
theorem spec_l3Id.calls (a0:Int) (r:Bool) (w:World) (h:spec_l3Id.f a0=some r) :
  Calls Tryd.prog 88 #[.int .i64 a0] w fun e w'=>e=.returned (.bool r)∧Drawn0 w w':=by
 unfold spec_l3Id.f at h
 have H:=h
 clear h
 replace H:=bs_ H
 obtain ⟨t721,A20,H⟩:=H
 try dsimp only at H
 have A2:=a_ A20
 clear A20
 by_cases c3:t721=true
 ·subst c3
  have H1:(some true)=some r:=by rw [if_pos rfl] at H;exact H
  clear H
  have H:=H1
  clear H1
  obtain rfl:=sj_ H
  go_enter Tryd.func88,Tryd.ntmps88
  go_wp2_with (first|((with_reducible refine gC_ (f:=59) rfl ?_);refine gl_ 4 Tryd.func59 #[.int .i64 a0] ?_;(with_reducible refine (spec_l1Root.calls a0 true _ A2.out).mono ?_);rintro e w' ⟨rfl,⟨nd,rfl⟩⟩;refine ⟨_,rfl,?_⟩))
  go_ret
  exact ⟨si_,by repeat (first|exact Drawn0.refl _|apply Drawn0.step)⟩
 ·replace c3:=Bool.eq_false_iff.mpr c3
  subst c3
  have H1:((spec_l1Made.f a0).bind fun t722=>(some t722))=some r:=by rw [if_neg (show ¬ (false=true) by decide)] at H;exact H
  clear H
  have H:=H1
  clear H1
  replace H:=bs_ H
  obtain ⟨t722,A40,H⟩:=H
  try dsimp only at H
  have A4:=a_ A40
  clear A40
  obtain rfl:=sj_ H
  go_enter Tryd.func88,Tryd.ntmps88
  go_wp2_with (first|((with_reducible refine gC_ (f:=59) rfl ?_);refine gl_ 4 Tryd.func59 #[.int .i64 a0] ?_;(with_reducible refine (spec_l1Root.calls a0 false _ A2.out).mono ?_);rintro e w' ⟨rfl,⟨nd,rfl⟩⟩;refine ⟨_,rfl,?_⟩)|(go_at_call 53;(with_reducible refine (spec_l1Made.calls a0 t722 _ A4.out).mono ?_);rintro e w' ⟨rfl,⟨nd,rfl⟩⟩))
  go_ret
  exact ⟨si_,by repeat (first|exact Drawn0.refl _|apply Drawn0.step)⟩
def spec_OpOk.j0:Nat→Bool→Int→Int→Int→Int→ByteArray→Option (Bool)
 | 0,_,_,_,_,_,_=>none
 | k+1,x12,x724000,x724001,x724002,x724003,x724004=>if x12=true then (some false) else (if x724000=1 then ((spec_l3Id.f x724002).bind fun t726=>(if t726=true then (if x724003=0 then (some true) else ((spec_l1Made.f x724003).bind fun t727=>(some t727))) else (some false))) else (if x724000=2 then (if x724002=0 then (some (x724003==0)) else (some false)) else (if x724000=3 then ((spec_l3Id.f x724002).bind fun t728=>(if t728=true then (if x724003=0 then (some (x724004.toList==([]:List UInt8))) else ((spec_l1Made.f x724003).bind fun t729=>(if t729=true then (some (x724004.toList==([]:List UInt8))) else (some false)))) else (some false))) else (some false))))
def spec_OpOk.f (k:Nat) (a0_0:Int) (a0_1:Int) (a0_2:Int) (a0_3:Int) (a0_4:ByteArray):Option (Bool):=(spec_l1Made.f a0_1).bind fun t724=>(if t724=true then ((spec_l1Text.f k a0_4).bind fun t725=>(spec_OpOk.j0 k (!t725) a0_0 a0_1 a0_2 a0_3 a0_4)) else (spec_OpOk.j0 k true a0_0 a0_1 a0_2 a0_3 a0_4))
theorem spec_OpOk.mono_l:∀ k,(∀ y0 y1 y2 y3 y4 y5,LeO (spec_OpOk.j0 k y0 y1 y2 y3 y4 y5) (spec_OpOk.j0 (k+1) y0 y1 y2 y3 y4 y5))
 | 0=>fun _ _ _ _ _ _ r h=>by simp [spec_OpOk.j0] at h
 | k+1=>by
  have ih0:=spec_OpOk.mono_l k
  ·intro y0 y1 y2 y3 y4 y5
   unfold spec_OpOk.j0
   repeat' first
   | (with_reducible exact ih0 _ _ _ _ _ _)
   | (with_reducible exact spec_l1Text.mono _ _)
   | (with_reducible exact LeO.refl _)
   | (with_reducible exact LeO.none _)
   | (with_reducible refine LeO.ite ?_ ?_)
   | (with_reducible refine LeO.bind ?_ (fun _=>?_))
theorem spec_OpOk.mono:∀ a0 a1 a2 a3 a4 k,LeO (spec_OpOk.f k a0 a1 a2 a3 a4) (spec_OpOk.f (k+1) a0 a1 a2 a3 a4):=by
 intro a0 a1 a2 a3 a4 k
 have ih0:=spec_OpOk.mono_l k
 unfold spec_OpOk.f
 repeat' first
   | (with_reducible exact ih0 _ _ _ _ _ _)
   | (with_reducible exact spec_l1Text.mono _ _)
   | (with_reducible exact LeO.refl _)
   | (with_reducible exact LeO.none _)
   | (with_reducible refine LeO.ite ?_ ?_)
   | (with_reducible refine LeO.bind ?_ (fun _=>?_))
theorem spec_OpOk.calls (k:Nat) (a0_0:Int) (a0_1:Int) (a0_2:Int) (a0_3:Int) (a0_4:ByteArray) (r:Bool) (w:World) (h:spec_OpOk.f k a0_0 a0_1 a0_2 a0_3 a0_4=some r) :
  Calls Tryd.prog 47 #[.agg #[.int .i64 a0_0,.int .i64 a0_1,.int .i64 a0_2,.int .i64 a0_3,.string a0_4]] w fun e w'=>e=.returned (.bool r)∧Below w.heap.size w w':=by
 have hu27:=Tryd.underlying27
 have HB:=a_ (Below.refl w.heap.size w)
 unfold spec_OpOk.f at h
 have H:=h
 clear h
 have HC2:=a_ H
 clear H
 go_enter Tryd.func47,Tryd.ntmps47
 go_upto_region 1 with (first|((with_reducible refine gD_ (N:=1) rfl ?_);refine bx_ 1 (#[.int .i64 a0_0,.int .i64 a0_1,.int .i64 a0_2,.int .i64 a0_3,.string a0_4]) 27 ?_;intro gb723 hg w3 hbox hb;have n0_:=a_ (bS_ (bel_) hb);have n1_:=a_ (hbox);have n2_:=a_ ((by rw [hg];exact (below_size (bel_)):w.heap.size≤gb723));have n3_:=a_ ((by rw [hg];exact (below_size (bel_)):w.heap.size≤gb723));clear HB;have HB:=n0_;have BK723:=n1_;have GW723:=n2_;have GE723:=n3_;clear n0_ n1_ n2_ n3_;clear hb hbox hg))
 (try simp only [Act.put,List.setIfInBounds_toArray,List.set_cons_zero,List.set_cons_succ])
 go_cut [12] (fun v12 wc=>∃ (kq:Nat) (x12_1:Bool),v12=.bool x12_1∧Aside0 (spec_OpOk.j0 kq x12_1 a0_0 a0_1 a0_2 a0_3 a0_4=some r)∧Aside0 (kq≤k)∧Aside0 (wc.heap[gb723]?=some (.cells #[.int .i64 a0_0,.int .i64 a0_1,.int .i64 a0_2,.int .i64 a0_3,.string a0_4] 27 (0,0)))∧Aside0 (Below w.heap.size w wc))
 case first =>
  have H:=HC2.out
  clear HC2
  replace H:=bs_ H
  obtain ⟨t724,A40,H⟩:=H
  try dsimp only at H
  have A4:=a_ A40
  clear A40
  by_cases c5:t724=true
  ·subst c5
   have H1:((spec_l1Text.f k a0_4).bind fun t725=>(spec_OpOk.j0 k (!t725) a0_0 a0_1 a0_2 a0_3 a0_4))=some r:=by rw [if_pos rfl] at H;exact H
   clear H
   have H:=H1
   clear H1
   replace H:=bs_ H
   obtain ⟨t725,A60,H⟩:=H
   try dsimp only at H
   have A6:=a_ A60
   clear A60
   have H':=a_ H
   clear H
   obtain ⟨Z7_0,Z7_1,Z7_2,Z7_3,Z7_4,Y7_0,Y7_1,Y7_2,Y7_3,Y7_4⟩:=op5_ BK723.out
   go_wp2_with (first|((with_reducible refine gC_ (f:=53) rfl ?_);refine gl_ 5 Tryd.func53 #[.int .i64 a0_1] ?_;(with_reducible refine (spec_l1Made.calls a0_1 true _ A4.out).mono ?_);rintro e w' ⟨rfl,⟨nd,rfl⟩⟩;refine ⟨_,rfl,?_⟩)|(go_at_call 87;(with_reducible refine (spec_l1Text.calls k a0_4 t725 _ A6.out).mono ?_);rintro e w' ⟨rfl,⟨nd,rfl⟩⟩))
   go_meet
   case rel=>exact ⟨_,(!t725),(si_),H',⟨by first|omega|exact Nat.le_refl _⟩,⟨by (with_reducible repeat (first|refine bN_ ?_ _|refine bD_ ?_|refine bA_ ?_ _));exact BK723.out⟩,⟨bel_⟩⟩
  ·replace c5:=Bool.eq_false_iff.mpr c5
   subst c5
   have H1:(spec_OpOk.j0 k true a0_0 a0_1 a0_2 a0_3 a0_4)=some r:=by rw [if_neg (show ¬ (false=true) by decide)] at H;exact H
   clear H
   have H:=H1
   clear H1
   have H':=a_ H
   clear H
   obtain ⟨Z8_0,Z8_1,Z8_2,Z8_3,Z8_4,Y8_0,Y8_1,Y8_2,Y8_3,Y8_4⟩:=op5_ BK723.out
   go_wp2_with (first|((with_reducible refine gC_ (f:=53) rfl ?_);refine gl_ 5 Tryd.func53 #[.int .i64 a0_1] ?_;(with_reducible refine (spec_l1Made.calls a0_1 false _ A4.out).mono ?_);rintro e w' ⟨rfl,⟨nd,rfl⟩⟩;refine ⟨_,rfl,?_⟩))
   go_meet
   case rel=>exact ⟨_,(true),(si_),H',⟨by first|omega|exact Nat.le_refl _⟩,⟨by (with_reducible repeat (first|refine bN_ ?_ _|refine bD_ ?_|refine bA_ ?_ _));exact BK723.out⟩,⟨bel_⟩⟩
 case rest =>
  clear HC2
  try clear p2
  try clear c4
  try clear c5
  try clear Z7_0 Z7_1 Z7_2 Z7_3 Z7_4 Y7_0 Y7_1 Y7_2 Y7_3 Y7_4
  try clear Z8_0 Z8_1 Z8_2 Z8_3 Z8_4 Y8_0 Y8_1 Y8_2 Y8_3 Y8_4
  obtain ⟨kq,x12_1,rfl,HA,HJ1,BK723,HB⟩:=hcut
  cases kq with
  | zero=>exact absurd HA.out (by simp [spec_OpOk.j0])
  | succ kj1 =>
   have H:=HA.out
   clear HA
   simp only [spec_OpOk.j0] at H
   by_cases c9:x12_1=true
   ·subst c9
    have H1:(some false)=some r:=by rw [if_pos rfl] at H;exact H
    clear H
    have H:=H1
    clear H1
    obtain rfl:=sj_ H
    go_wp2
    go_ret
    exact ⟨fi_,bel_⟩
   ·replace c9:=Bool.eq_false_iff.mpr c9
    subst c9
    have H1:(if a0_0=1 then ((spec_l3Id.f a0_2).bind fun t726=>(if t726=true then (if a0_3=0 then (some true) else ((spec_l1Made.f a0_3).bind fun t727=>(some t727))) else (some false))) else (if a0_0=2 then (if a0_2=0 then (some (a0_3==0)) else (some false)) else (if a0_0=3 then ((spec_l3Id.f a0_2).bind fun t728=>(if t728=true then (if a0_3=0 then (some (a0_4.toList==([]:List UInt8))) else ((spec_l1Made.f a0_3).bind fun t729=>(if t729=true then (some (a0_4.toList==([]:List UInt8))) else (some false)))) else (some false))) else (some false))))=some r:=by rw [if_neg (show ¬ (false=true) by decide)] at H;exact H
    clear H
    have H:=H1
    clear H1
    by_cases c10:a0_0=1
    ·rw [if_pos c10] at H
     have c10b0:(a0_0==1)=true:=beq_iff_eq.mpr c10
     have c10b1:(a0_0 != 1)=false:=be_ c10
     clear c10
     replace H:=bs_ H
     obtain ⟨t726,A110,H⟩:=H
     try dsimp only at H
     have A11:=a_ A110
     clear A110
     by_cases c12:t726=true
     ·subst c12
      have H1:(if a0_3=0 then (some true) else ((spec_l1Made.f a0_3).bind fun t727=>(some t727)))=some r:=by rw [if_pos rfl] at H;exact H
      clear H
      have H:=H1
      clear H1
      by_cases c13:a0_3=0
      ·rw [if_pos c13] at H
       have c13b0:(a0_3==0)=true:=beq_iff_eq.mpr c13
       have c13b1:(a0_3 != 0)=false:=be_ c13
       clear c13
       obtain rfl:=sj_ H
       obtain ⟨Z14_0,Z14_1,Z14_2,Z14_3,Z14_4,Y14_0,Y14_1,Y14_2,Y14_3,Y14_4⟩:=op5_ BK723.out
       go_wp2_with (first|((with_reducible refine gC_ (f:=88) rfl ?_);refine gl_ 19 Tryd.func88 #[.int .i64 a0_2] ?_;(with_reducible refine (spec_l3Id.calls a0_2 true _ A11.out).mono ?_);rintro e w' ⟨rfl,⟨nd,rfl⟩⟩;refine ⟨_,rfl,?_⟩))
       go_ret
       exact ⟨fi_,bel_⟩
      ·rw [if_neg c13] at H
       have c13b0:(a0_3==0)=false:=bn_ c13
       have c13b1:(a0_3 != 0)=true:=bne_iff_ne.mpr c13
       replace H:=bs_ H
       obtain ⟨t727,A150,H⟩:=H
       try dsimp only at H
       have A15:=a_ A150
       clear A150
       obtain rfl:=sj_ H
       obtain ⟨Z16_0,Z16_1,Z16_2,Z16_3,Z16_4,Y16_0,Y16_1,Y16_2,Y16_3,Y16_4⟩:=op5_ BK723.out
       go_wp2_with (first|((with_reducible refine gC_ (f:=88) rfl ?_);refine gl_ 19 Tryd.func88 #[.int .i64 a0_2] ?_;(with_reducible refine (spec_l3Id.calls a0_2 true _ A11.out).mono ?_);rintro e w' ⟨rfl,⟨nd,rfl⟩⟩;refine ⟨_,rfl,?_⟩)|(go_at_call 53;(with_reducible refine (spec_l1Made.calls a0_3 t727 _ A15.out).mono ?_);rintro e w' ⟨rfl,⟨nd,rfl⟩⟩))
       go_ret
       exact ⟨fi_,bel_⟩
     ·replace c12:=Bool.eq_false_iff.mpr c12
      subst c12
      have H1:(some false)=some r:=by rw [if_neg (show ¬ (false=true) by decide)] at H;exact H
      clear H
      have H:=H1
      clear H1
      obtain rfl:=sj_ H
      obtain ⟨Z17_0,Z17_1,Z17_2,Z17_3,Z17_4,Y17_0,Y17_1,Y17_2,Y17_3,Y17_4⟩:=op5_ BK723.out
      go_wp2_with (first|((with_reducible refine gC_ (f:=88) rfl ?_);refine gl_ 19 Tryd.func88 #[.int .i64 a0_2] ?_;(with_reducible refine (spec_l3Id.calls a0_2 false _ A11.out).mono ?_);rintro e w' ⟨rfl,⟨nd,rfl⟩⟩;refine ⟨_,rfl,?_⟩))
      go_ret
      exact ⟨fi_,bel_⟩
    ·rw [if_neg c10] at H
     have c10b0:(a0_0==1)=false:=bn_ c10
     have c10b1:(a0_0 != 1)=true:=bne_iff_ne.mpr c10
     by_cases c18:a0_0=2
     ·rw [if_pos c18] at H
      have c18b0:(a0_0==2)=true:=beq_iff_eq.mpr c18
      have c18b1:(a0_0 != 2)=false:=be_ c18
      clear c18
      by_cases c19:a0_2=0
      ·rw [if_pos c19] at H
       have c19b0:(a0_2==0)=true:=beq_iff_eq.mpr c19
       have c19b1:(a0_2 != 0)=false:=be_ c19
       clear c19
       obtain rfl:=sj_ H
       obtain ⟨Z20_0,Z20_1,Z20_2,Z20_3,Z20_4,Y20_0,Y20_1,Y20_2,Y20_3,Y20_4⟩:=op5_ BK723.out
       go_wp2
       go_ret
       exact ⟨fi_,bel_⟩
      ·rw [if_neg c19] at H
       have c19b0:(a0_2==0)=false:=bn_ c19
       have c19b1:(a0_2 != 0)=true:=bne_iff_ne.mpr c19
       obtain rfl:=sj_ H
       obtain ⟨Z21_0,Z21_1,Z21_2,Z21_3,Z21_4,Y21_0,Y21_1,Y21_2,Y21_3,Y21_4⟩:=op5_ BK723.out
       go_wp2
       go_ret
       exact ⟨fi_,bel_⟩
     ·rw [if_neg c18] at H
      have c18b0:(a0_0==2)=false:=bn_ c18
      have c18b1:(a0_0 != 2)=true:=bne_iff_ne.mpr c18
      by_cases c22:a0_0=3
      ·rw [if_pos c22] at H
       have c22b0:(a0_0==3)=true:=beq_iff_eq.mpr c22
       have c22b1:(a0_0 != 3)=false:=be_ c22
       clear c22
       replace H:=bs_ H
       obtain ⟨t728,A230,H⟩:=H
       try dsimp only at H
       have A23:=a_ A230
       clear A230
       by_cases c24:t728=true
       ·subst c24
        have H1:(if a0_3=0 then (some (a0_4.toList==([]:List UInt8))) else ((spec_l1Made.f a0_3).bind fun t729=>(if t729=true then (some (a0_4.toList==([]:List UInt8))) else (some false))))=some r:=by rw [if_pos rfl] at H;exact H
        clear H
        have H:=H1
        clear H1
        by_cases c25:a0_3=0
        ·rw [if_pos c25] at H
         have c25b0:(a0_3==0)=true:=beq_iff_eq.mpr c25
         have c25b1:(a0_3 != 0)=false:=be_ c25
         clear c25
         obtain rfl:=sj_ H
         obtain ⟨Z26_0,Z26_1,Z26_2,Z26_3,Z26_4,Y26_0,Y26_1,Y26_2,Y26_3,Y26_4⟩:=op5_ BK723.out
         go_wp2_with (first|((with_reducible refine gC_ (f:=88) rfl ?_);refine gl_ 44 Tryd.func88 #[.int .i64 a0_2] ?_;(with_reducible refine (spec_l3Id.calls a0_2 true _ A23.out).mono ?_);rintro e w' ⟨rfl,⟨nd,rfl⟩⟩;refine ⟨_,rfl,?_⟩))
         go_ret
         exact ⟨fi_,bel_⟩
        ·rw [if_neg c25] at H
         have c25b0:(a0_3==0)=false:=bn_ c25
         have c25b1:(a0_3 != 0)=true:=bne_iff_ne.mpr c25
         replace H:=bs_ H
         obtain ⟨t729,A270,H⟩:=H
         try dsimp only at H
         have A27:=a_ A270
         clear A270
         by_cases c28:t729=true
         ·subst c28
          have H1:(some (a0_4.toList==([]:List UInt8)))=some r:=by rw [if_pos rfl] at H;exact H
          clear H
          have H:=H1
          clear H1
          obtain rfl:=sj_ H
          obtain ⟨Z29_0,Z29_1,Z29_2,Z29_3,Z29_4,Y29_0,Y29_1,Y29_2,Y29_3,Y29_4⟩:=op5_ BK723.out
          go_wp2_with (first|((with_reducible refine gC_ (f:=88) rfl ?_);refine gl_ 44 Tryd.func88 #[.int .i64 a0_2] ?_;(with_reducible refine (spec_l3Id.calls a0_2 true _ A23.out).mono ?_);rintro e w' ⟨rfl,⟨nd,rfl⟩⟩;refine ⟨_,rfl,?_⟩)|(go_at_call 53;(with_reducible refine (spec_l1Made.calls a0_3 true _ A27.out).mono ?_);rintro e w' ⟨rfl,⟨nd,rfl⟩⟩))
          go_ret
          exact ⟨fi_,bel_⟩
         ·replace c28:=Bool.eq_false_iff.mpr c28
          subst c28
          have H1:(some false)=some r:=by rw [if_neg (show ¬ (false=true) by decide)] at H;exact H
          clear H
          have H:=H1
          clear H1
          obtain rfl:=sj_ H
          obtain ⟨Z30_0,Z30_1,Z30_2,Z30_3,Z30_4,Y30_0,Y30_1,Y30_2,Y30_3,Y30_4⟩:=op5_ BK723.out
          go_wp2_with (first|((with_reducible refine gC_ (f:=88) rfl ?_);refine gl_ 44 Tryd.func88 #[.int .i64 a0_2] ?_;(with_reducible refine (spec_l3Id.calls a0_2 true _ A23.out).mono ?_);rintro e w' ⟨rfl,⟨nd,rfl⟩⟩;refine ⟨_,rfl,?_⟩)|(go_at_call 53;(with_reducible refine (spec_l1Made.calls a0_3 false _ A27.out).mono ?_);rintro e w' ⟨rfl,⟨nd,rfl⟩⟩))
          go_ret
          exact ⟨fi_,bel_⟩
       ·replace c24:=Bool.eq_false_iff.mpr c24
        subst c24
        have H1:(some false)=some r:=by rw [if_neg (show ¬ (false=true) by decide)] at H;exact H
        clear H
        have H:=H1
        clear H1
        obtain rfl:=sj_ H
        obtain ⟨Z31_0,Z31_1,Z31_2,Z31_3,Z31_4,Y31_0,Y31_1,Y31_2,Y31_3,Y31_4⟩:=op5_ BK723.out
        go_wp2_with (first|((with_reducible refine gC_ (f:=88) rfl ?_);refine gl_ 44 Tryd.func88 #[.int .i64 a0_2] ?_;(with_reducible refine (spec_l3Id.calls a0_2 false _ A23.out).mono ?_);rintro e w' ⟨rfl,⟨nd,rfl⟩⟩;refine ⟨_,rfl,?_⟩))
        go_ret
        exact ⟨fi_,bel_⟩
      ·rw [if_neg c22] at H
       have c22b0:(a0_0==3)=false:=bn_ c22
       have c22b1:(a0_0 != 3)=true:=bne_iff_ne.mpr c22
       obtain rfl:=sj_ H
       obtain ⟨Z32_0,Z32_1,Z32_2,Z32_3,Z32_4,Y32_0,Y32_1,Y32_2,Y32_3,Y32_4⟩:=op5_ BK723.out
       go_wp2
       go_ret
       exact ⟨fi_,bel_⟩
def spec_l6Many.l0:Nat→ByteArray→Int→ByteArray→Option (ByteArray)
 | 0,_,_,_=>none
 | k+1,x0,x1,x5=>if x1 > 0 then (if (Int.tmod x1 2)=1 then (if x5.size+x0.size≤9223372036854775807 then (if x0.size+x0.size≤9223372036854775807 then (spec_l6Many.l0 k (x0++x0) (wrap64 (Int.tdiv x1 2)) (x5++x0)) else (none)) else (none)) else (if x0.size+x0.size≤9223372036854775807 then (spec_l6Many.l0 k (x0++x0) (wrap64 (Int.tdiv x1 2)) x5) else (none))) else (some x5)
def spec_l6Many.f (k:Nat) (a0:ByteArray) (a1:Int):Option (ByteArray):=spec_l6Many.l0 k a0 a1 (⟨#[]⟩:ByteArray)
theorem spec_l6Many.mono_l:∀ k,(∀ y0 y1 y2,LeO (spec_l6Many.l0 k y0 y1 y2) (spec_l6Many.l0 (k+1) y0 y1 y2))
 | 0=>fun _ _ _ r h=>by simp [spec_l6Many.l0] at h
 | k+1=>by
  have ih0:=spec_l6Many.mono_l k
  ·intro y0 y1 y2
   unfold spec_l6Many.l0
   repeat' first
   | (with_reducible exact ih0 _ _ _)
   | (with_reducible exact LeO.refl _)
   | (with_reducible exact LeO.none _)
   | (with_reducible refine LeO.ite ?_ ?_)
   | (with_reducible refine LeO.bind ?_ (fun _=>?_))
theorem spec_l6Many.mono:∀ a0 a1 k,LeO (spec_l6Many.f k a0 a1) (spec_l6Many.f (k+1) a0 a1):=by
 intro a0 a1 k
 have ih0:=spec_l6Many.mono_l k
 unfold spec_l6Many.f
 repeat' first
   | (with_reducible exact ih0 _ _ _)
   | (with_reducible exact LeO.refl _)
   | (with_reducible exact LeO.none _)
   | (with_reducible refine LeO.ite ?_ ?_)
   | (with_reducible refine LeO.bind ?_ (fun _=>?_))
theorem spec_l6Many.calls (k:Nat) (a0:ByteArray) (a1:Int) (r:ByteArray) (w:World) (h:spec_l6Many.f k a0 a1=some r) :
  Calls Tryd.prog 106 #[.string a0,.int .i64 a1] w fun e w'=>e=.returned (.string r)∧Drawn0 w w':=by
 unfold spec_l6Many.f at h
 have H:=h
 clear h
 have H':=a_ H
 clear H
 go_enter Tryd.func106,Tryd.ntmps106
 go_wp2
 go_loopg [0,1,5] k (fun kq v0 v1 v5 w'=>∃ (x0_1:ByteArray) (x1_1:Int) (x5_1:ByteArray),v0=.string x0_1∧v1=.int .i64 x1_1∧v5=.string x5_1∧Aside0 (spec_l6Many.l0 kq x0_1 x1_1 x5_1=some r)∧Aside0 (kq≤k)∧Drawn0 w w')
 case atStart=>exact ⟨(a0),(a1),((⟨#[]⟩:ByteArray)),(si_),(si_),(si_),H',⟨Nat.le_refl _⟩,by repeat (first|exact Drawn0.refl _|apply Drawn0.step)⟩
 case round =>
  clear H'
  try clear c1
  try clear p2
  obtain ⟨x0_1,x1_1,x5_1,rfl,rfl,rfl,HA,HK1,⟨m1,rfl⟩⟩:=hrel
  cases gk with
  | zero=>exact absurd HA.out (by simp [spec_l6Many.l0])
  | succ k1 =>
   have H:=HA.out
   clear HA
   simp only [spec_l6Many.l0] at H
   by_cases c3:x1_1 > 0
   ·rw [if_pos c3] at H
    have c3b0:decide (0 < x1_1)=true:=dt_ c3
    clear c3
    by_cases c4:(Int.tmod x1_1 2)=1
    ·rw [if_pos c4] at H
     have c4b0:((Int.tmod x1_1 2)==1)=true:=beq_iff_eq.mpr c4
     have c4b1:((Int.tmod x1_1 2) != 1)=false:=be_ c4
     clear c4
     by_cases c5:x5_1.size+x0_1.size≤9223372036854775807
     ·rw [if_pos c5] at H
      have c5b0:=eq_true c5
      have c5b1:decide (x5_1.size+x0_1.size≤9223372036854775807)=true:=dt_ c5
      try have c5b2:(9223372036854775807 < x5_1.size+x0_1.size)=False:=eq_false (Nat.not_lt.2 c5)
      by_cases c6:x0_1.size+x0_1.size≤9223372036854775807
      ·rw [if_pos c6] at H
       have c6b0:=eq_true c6
       have c6b1:decide (x0_1.size+x0_1.size≤9223372036854775807)=true:=dt_ c6
       try have c6b2:(9223372036854775807 < x0_1.size+x0_1.size)=False:=eq_false (Nat.not_lt.2 c6)
       have H':=a_ H
       clear H
       go_wp2
       go_roundg k1
       case measure=>have:=HK1.out;omega
       case rel=>exact ⟨(x0_1++x0_1),(wrap64 (Int.tdiv x1_1 2)),(x5_1++x0_1),(si_),(si_),(si_),H',⟨by have:=HK1.out;omega⟩,by repeat (first|exact Drawn0.refl _|apply Drawn0.step)⟩
      ·rw [if_neg c6] at H
       exact absurd H (by simp)
     ·rw [if_neg c5] at H
      exact absurd H (by simp)
    ·rw [if_neg c4] at H
     have c4b0:((Int.tmod x1_1 2)==1)=false:=bn_ c4
     have c4b1:((Int.tmod x1_1 2) != 1)=true:=bne_iff_ne.mpr c4
     by_cases c7:x0_1.size+x0_1.size≤9223372036854775807
     ·rw [if_pos c7] at H
      have c7b0:=eq_true c7
      have c7b1:decide (x0_1.size+x0_1.size≤9223372036854775807)=true:=dt_ c7
      try have c7b2:(9223372036854775807 < x0_1.size+x0_1.size)=False:=eq_false (Nat.not_lt.2 c7)
      have H':=a_ H
      clear H
      go_wp2
      go_roundg k1
      case measure=>have:=HK1.out;omega
      case rel=>exact ⟨(x0_1++x0_1),(wrap64 (Int.tdiv x1_1 2)),(x5_1),(si_),(si_),(si_),H',⟨by have:=HK1.out;omega⟩,by repeat (first|exact Drawn0.refl _|apply Drawn0.step)⟩
     ·rw [if_neg c7] at H
      exact absurd H (by simp)
   ·rw [if_neg c3] at H
    have c3b0:decide (0 < x1_1)=false:=df_ c3
    clear c3
    obtain rfl:=sj_ H
    go_wp2
    go_ret
    exact ⟨si_,by repeat (first|exact Drawn0.refl _|apply Drawn0.step)⟩
def spec_l6Dec.f:Nat→Int→Option (ByteArray)
 | 0,_=>none
 | k+1,a0=>if a0 < (-9223372036854775807) then (some (⟨#[45,57,50,50,51,51,55,50,48,51,54,56,53,52,55,55,53,56,48,56]⟩:ByteArray)) else (if a0 < 0 then ((spec_l6Dec.f k (wrap64 (-a0))).bind fun t730=>(if 1+t730.size≤9223372036854775807 then (some ((⟨#[45]⟩:ByteArray)++t730)) else (none))) else (if a0 < 10 then (some (strOfNums (([(wrap64 (48+a0)) % 256]:List Int)))) else ((spec_l6Dec.f k (wrap64 (Int.tdiv a0 10))).bind fun t734=>((some (([(wrap64 (48+(Int.tmod a0 10))) % 256]:List Int):List Int)).bind fun y735=>(if t734.size+(strOfNums y735).size≤9223372036854775807 then (some (t734++(strOfNums y735))) else (none))))))
theorem spec_l6Dec.mono_l:∀ k,(∀ y0,LeO (spec_l6Dec.f k y0) (spec_l6Dec.f (k+1) y0))
 | 0=>fun _ r h=>by simp [spec_l6Dec.f] at h
 | k+1=>by
  have ih0:=spec_l6Dec.mono_l k
  ·intro y0
   unfold spec_l6Dec.f
   repeat' first
   | (with_reducible exact ih0 _)
   | (with_reducible exact LeO.refl _)
   | (with_reducible exact LeO.none _)
   | (with_reducible refine LeO.ite ?_ ?_)
   | (with_reducible refine LeO.bind ?_ (fun _=>?_))
theorem spec_l6Dec.mono:∀ a0 k,LeO (spec_l6Dec.f k a0) (spec_l6Dec.f (k+1) a0):=by
 intro a0 k
 have ih0:=spec_l6Dec.mono_l k
 exact ih0 a0
def spec_l6Dec.T7:Bool×List (List Nat×List Nat):=(true,[([],[]),([0],[0]),([1],[1]),([],[]),([3],[3]),([4],[4]),([5],[5]),([6],[6]),([7],[7]),([2,8],[2,8]),([9,2,0,1,2,3,4,5,6,7,8,9],[9])])
def spec_l6Dec.B7:List Nat:=[0,1,3,0,8,24,56,120,248,511,1023]
theorem spec_l6Dec.tab7:rtab .any (opsOf Tryd.f107 7)=spec_l6Dec.T7:=by kernel_rfl
theorem spec_l6Dec.bits7:waitsOk spec_l6Dec.T7.2 spec_l6Dec.B7=true:=by kernel_rfl
theorem spec_l6Dec.calls (k:Nat):∀ (a0:Int) (r:ByteArray) (w:World) (h:spec_l6Dec.f k a0=some r),
  Calls Tryd.prog 107 #[.int .i64 a0] w fun e w'=>e=.returned (.string r)∧Below w.heap.size w w':=by
 induction k using Nat.strongRecOn with
 | _ k ih =>
 intro a0 r w h
 cases k with
 | zero=>exact absurd h (by simp [spec_l6Dec.f])
 | succ k =>
 simp only [spec_l6Dec.f] at h
 have HB:=a_ (Below.refl w.heap.size w)
 have H:(if a0 < (-9223372036854775807) then (some (⟨#[45,57,50,50,51,51,55,50,48,51,54,56,53,52,55,55,53,56,48,56]⟩:ByteArray)) else (if a0 < 0 then ((spec_l6Dec.f k (wrap64 (-a0))).bind fun t730=>(if 1+t730.size≤9223372036854775807 then (some ((⟨#[45]⟩:ByteArray)++t730)) else (none))) else (if a0 < 10 then (some (strOfNums (([(wrap64 (48+a0)) % 256]:List Int)))) else ((spec_l6Dec.f k (wrap64 (Int.tdiv a0 10))).bind fun t734=>((some (([(wrap64 (48+(Int.tmod a0 10))) % 256]:List Int):List Int)).bind fun y735=>(if t734.size+(strOfNums y735).size≤9223372036854775807 then (some (t734++(strOfNums y735))) else (none)))))))=some r:=h
 clear h
 by_cases c2:a0 < (-9223372036854775807)
 ·rw [if_pos c2] at H
  have c2b0:decide (a0 < (-9223372036854775807))=true:=dt_ c2
  clear c2
  obtain rfl:=sj_ H
  go_enter Tryd.func107,Tryd.ntmps107
  go_wp2
  go_ret
  exact ⟨fi_,bel_⟩
 ·rw [if_neg c2] at H
  have c2b0:decide (a0 < (-9223372036854775807))=false:=df_ c2
  clear c2
  by_cases c3:a0 < 0
  ·rw [if_pos c3] at H
   have c3b0:decide (a0 < 0)=true:=dt_ c3
   clear c3
   replace H:=bs_ H
   obtain ⟨t730,A40,H⟩:=H
   try dsimp only at H
   have A4:=a_ A40
   clear A40
   by_cases c5:1+t730.size≤9223372036854775807
   ·rw [if_pos c5] at H
    have c5b0:=eq_true c5
    have c5b1:decide (1+t730.size≤9223372036854775807)=true:=dt_ c5
    try have c5b2:(9223372036854775807 < 1+t730.size)=False:=eq_false (Nat.not_lt.2 c5)
    obtain rfl:=sj_ H
    go_enter Tryd.func107,Tryd.ntmps107
    go_wp2_with (first|((with_reducible refine gC_ (f:=107) rfl ?_);refine gl_ 9 Tryd.func107 #[.int .i64 (wrap64 (-a0))] ?_;(with_reducible refine (ih k (by omega) (wrap64 (-a0)) t730 _ A4.out).mono ?_);rintro e w6 ⟨rfl,hb⟩;refine ⟨_,rfl,?_⟩;replace HB:=a_ (bS_ (bel_) hb);(try clear hb)))
    go_ret
    exact ⟨fi_,bel_⟩
   ·rw [if_neg c5] at H
    exact absurd H (by simp)
  ·rw [if_neg c3] at H
   have c3b0:decide (a0 < 0)=false:=df_ c3
   clear c3
   by_cases c7:a0 < 10
   ·rw [if_pos c7] at H
    have c7b0:decide (a0 < 10)=true:=dt_ c7
    clear c7
    obtain ⟨y731,hy731⟩:∃ y_:List Int,y_=(([(wrap64 (48+a0)) % 256]:List Int)):=⟨_,rfl⟩
    replace H:(some (strOfNums y731))=some r:=by first|(rw [hy731];with_reducible exact H)|(have H2_:=(Option.bind_some _ _).symm.trans H;rw [hy731];with_reducible exact H2_)|(have H2_:=(Option.bind_some _ _).symm.trans H;with_reducible exact H2_)|with_reducible exact H|(rw [hy731];exact H)|exact H
    have Ny731:=a_ hy731
    clear hy731
    obtain rfl:=sj_ H
    go_enter Tryd.func107,Tryd.ntmps107
    go_wp2_with (first|((with_reducible refine gD_ (N:=16) rfl ?_);refine Kd.R_lit (Kd.int .u8) _ 5 ?hg (N:=16) ?hd (xs:=([(wrap64 (48+a0)) % 256]:List Int)) (inner:=[.int .u8 ((wrap64 (48+a0)) % 256)]) (ok:=fun _=>True) (okp:=fun _=>True) ?hr ?hp (fun _ hk=>hk) trivial (Below.refl _ _) (Nat.le_refl _) (by simp) ?_;(case hd=>rfl);(case hg=>rfl);(case hr=>first|(go_simp;done)|(go_simp;rfl));(case hp=>exact (Reps.one (show Kd.M (Kd.int .u8) _ _ _ ((wrap64 (48+a0)) % 256) [.int .u8 ((wrap64 (48+a0)) % 256)] from rfl) (Reps.none _ _)));intro v732 w8 ho9 hb hg_ hnew_;clear hg_ hnew_;(first|rw [←Ny731.out] at ho9|(simp only [Int.reduceToNat] at ho9;rw [←Ny731.out] at ho9));have HO733:=a_ (Kd.R_lower ho9 (below_size (bel_)));replace HB:=a_ (bS_ (bel_) hb);clear hb ho9;have hcv10:=own_string (P:=Tryd.prog) Tryd.underlying22 Tryd.underlying5 Tryd.underlying9 (Kd.own_of_R HO733.out)))
    go_ret
    exact ⟨fi_,bel_⟩
   ·rw [if_neg c7] at H
    have c7b0:decide (a0 < 10)=false:=df_ c7
    clear c7
    replace H:=bs_ H
    obtain ⟨t734,A110,H⟩:=H
    try dsimp only at H
    have A11:=a_ A110
    clear A110
    obtain ⟨y735,hy735⟩:∃ y_:List Int,y_=(([(wrap64 (48+(Int.tmod a0 10))) % 256]:List Int)):=⟨_,rfl⟩
    replace H:(if t734.size+(strOfNums y735).size≤9223372036854775807 then (some (t734++(strOfNums y735))) else (none))=some r:=by first|(rw [hy735];with_reducible exact H)|(have H2_:=(Option.bind_some _ _).symm.trans H;rw [hy735];with_reducible exact H2_)|(have H2_:=(Option.bind_some _ _).symm.trans H;with_reducible exact H2_)|with_reducible exact H|(rw [hy735];exact H)|exact H
    have Ny735:=a_ hy735
    clear hy735
    by_cases c12:t734.size+(strOfNums y735).size≤9223372036854775807
    ·rw [if_pos c12] at H
     have c12b0:=eq_true c12
     have c12b1:decide (t734.size+(strOfNums y735).size≤9223372036854775807)=true:=dt_ c12
     try have c12b2:(9223372036854775807 < t734.size+(strOfNums y735).size)=False:=eq_false (Nat.not_lt.2 c12)
     obtain rfl:=sj_ H
     go_enter Tryd.func107,Tryd.ntmps107
     try go_wp2
     have n0_:=a_ (below_drew1 HB.out)
     clear HB
     have HB:=n0_
     clear n0_
     refine start_ (n:=11) (S:=fun w'=>True) (ds:=[]) #[false,false,false,false,false,false,false,false,false,false,false] (by kernel_rfl) rfl rfl trivial (fun hHeld=>?_);refine with_tabW spec_l6Dec.tab7 spec_l6Dec.bits7 (fun HT_ HW_=>?_)
     generalize w.drew=w13 at HB hHeld ⊢
     refine pa_ 0 18 ?_
     refine pa_ 1 19 ?_
     refine pa_ 3 21 ?_
     refine pa_ 4 22 ?_
     refine pa_ 5 23 ?_
     refine pa_ 6 24 ?_
     refine join_ (σ:=Value) 2 #[true,true,true,true,true,true,true,true,true,false,false] (fun s_=>[(20,.string t734),(25,s_),(26,.string (strOfNums y735))]) (fun s_ w'=>(Kd.R (Kd.int .u8) 5 w' w.heap.size (fun _=>True) s_ y735)∧(Below w.heap.size w w')) ?_ ?_
     rotate_left
     ·intro hCont
      refine two_ (i:=2) (j:=7) (Ni:=some 20) (Nj:=some 25) #[true,true,true,true,true,true,true,false,false,false,false] #[true,true,false,true,true,true,true,true,false,false,false] rfl rfl rfl rfl (two_of HT_.out (by kernel_rfl)) (by decide) (by decide) (fun K hK=>?_) (fun K hK=>?_)
      ·skip
       refine goes_ Tryd.func107 (by kernel_rfl) rfl #[.int .i64 (wrap64 (Int.tdiv a0 10))] (by rfl) rfl rfl ar_ ?_
       with_reducible refine (ih k (by omega) (wrap64 (Int.tdiv a0 10)) t734 _ A11.out).mono ?_
       rintro e w14 ⟨rfl,hb⟩
       refine ⟨_,rfl,?_⟩
       have n0_:=a_ (bS_ (bel_) hb)
       clear HB
       have HB:=n0_
       clear n0_
       (try clear hb)
       (try clear hb2)
       (try clear hk)
       (try clear hi)
       refine hK.out _ _ trivial (fun hHeld=>?_)
       clear hK K
       refine no_ 20 ?_
       refine on_ 7 25 (fun K hK=>?_)
       refine Kd.R_lit_step (Kd.int .u8) _ 5 ?hg (N:=25) ?hd (xs:=([(wrap64 (48+(Int.tmod a0 10))) % 256]:List Int)) (inner:=[.int .u8 ((wrap64 (48+(Int.tmod a0 10))) % 256)]) (ok:=fun _=>True) (okp:=fun _=>True) ?hr ?hp (fun _ hk=>hk) trivial (Below.refl _ _) (Nat.le_refl _) (by simp) ?_;(case hd=>rfl);(case hg=>rfl);(case hr=>first|(go_simp;done)|(go_simp;rfl));(case hp=>exact (Reps.one (show Kd.M (Kd.int .u8) _ _ _ ((wrap64 (48+(Int.tmod a0 10))) % 256) [.int .u8 ((wrap64 (48+(Int.tmod a0 10))) % 256)] from rfl) (Reps.none _ _)))
       intro v736 w15 ho16 hb hg_ hnew_
       clear hg_ hnew_
       (first|rw [←Ny735.out] at ho16|(simp only [Int.reduceToNat] at ho16;rw [←Ny735.out] at ho16))
       have n0_:=a_ (Kd.R_lower ho16 (below_size (bel_)))
       have n1_:=a_ (bS_ (bel_) hb)
       clear HB
       have HO737:=n0_
       have HB:=n1_
       clear n0_ n1_
       clear hb ho16
       refine hK.out _ _ trivial (fun hHeld=>?_)
       clear hK K
       refine no_ 25 ?_
       refine on_ 8 26 (fun K hK=>?_)
       have hcv17:=own_string (P:=Tryd.prog) Tryd.underlying22 Tryd.underlying5 Tryd.underlying9 (Kd.own_of_R HO737.out)
       refine value_ (w1:=?_) (v:=?_) (by rfl) rfl ?_ ?_
       rotate_left 2
       ·go_simp
        constructor
        ·rfl
        ·rfl
       clear hcv17
       refine hK.out _ _ trivial (fun hHeld=>?_)
       clear hK K
       refine no_ 26 ?_
       exact norm_ (by simp only [putAll,Act.put,List.setIfInBounds_toArray,List.set_cons_zero,List.set_cons_succ]) (hCont (v736) _ ⟨(rp_ HO737.out),(bel_)⟩)
      ·skip
       refine Kd.R_lit_step (Kd.int .u8) _ 5 ?hg (N:=25) ?hd (xs:=([(wrap64 (48+(Int.tmod a0 10))) % 256]:List Int)) (inner:=[.int .u8 ((wrap64 (48+(Int.tmod a0 10))) % 256)]) (ok:=fun _=>True) (okp:=fun _=>True) ?hr ?hp (fun _ hk=>hk) trivial (Below.refl _ _) (Nat.le_refl _) (by simp) ?_;(case hd=>rfl);(case hg=>rfl);(case hr=>first|(go_simp;done)|(go_simp;rfl));(case hp=>exact (Reps.one (show Kd.M (Kd.int .u8) _ _ _ ((wrap64 (48+(Int.tmod a0 10))) % 256) [.int .u8 ((wrap64 (48+(Int.tmod a0 10))) % 256)] from rfl) (Reps.none _ _)))
       intro v736 w14 ho15 hb hg_ hnew_
       clear hg_ hnew_
       (first|rw [←Ny735.out] at ho15|(simp only [Int.reduceToNat] at ho15;rw [←Ny735.out] at ho15))
       have n0_:=a_ (Kd.R_lower ho15 (below_size (bel_)))
       have n1_:=a_ (bS_ (bel_) hb)
       clear HB
       have HO737:=n0_
       have HB:=n1_
       clear n0_ n1_
       clear hb ho15
       refine hK.out _ _ trivial (fun hHeld=>?_)
       clear hK K
       refine no_ 25 ?_
       refine two_ (i:=2) (j:=8) (Ni:=some 20) (Nj:=some 26) #[true,true,true,true,true,true,true,true,false,false,false] #[true,true,false,true,true,true,true,true,true,false,false] rfl rfl rfl rfl (two_of HT_.out (by kernel_rfl)) (by decide) (by decide) (fun K hK=>?_) (fun K hK=>?_)
       ·skip
        refine goes_ Tryd.func107 (by kernel_rfl) rfl #[.int .i64 (wrap64 (Int.tdiv a0 10))] (by rfl) rfl rfl ar_ ?_
        with_reducible refine (ih k (by omega) (wrap64 (Int.tdiv a0 10)) t734 _ A11.out).mono ?_
        rintro e w16 ⟨rfl,hb⟩
        refine ⟨_,rfl,?_⟩
        have n0_:=a_ (Kd.R_below (rp_ HO737.out) hb)
        have n1_:=a_ (bS_ (bel_) hb)
        clear HO737
        clear HB
        have HO737:=n0_
        have HB:=n1_
        clear n0_ n1_
        (try clear hb)
        (try clear hb2)
        (try clear hk)
        (try clear hi)
        refine hK.out _ _ trivial (fun hHeld=>?_)
        clear hK K
        refine no_ 20 ?_
        refine on_ 8 26 (fun K hK=>?_)
        have hcv17:=own_string (P:=Tryd.prog) Tryd.underlying22 Tryd.underlying5 Tryd.underlying9 (Kd.own_of_R HO737.out)
        refine value_ (w1:=?_) (v:=?_) (by rfl) rfl ?_ ?_
        rotate_left 2
        ·go_simp
         constructor
         ·rfl
         ·rfl
        clear hcv17
        refine hK.out _ _ trivial (fun hHeld=>?_)
        clear hK K
        refine no_ 26 ?_
        exact norm_ (by simp only [putAll,Act.put,List.setIfInBounds_toArray,List.set_cons_zero,List.set_cons_succ]) (hCont (v736) _ ⟨(rp_ HO737.out),(bel_)⟩)
       ·skip
        have hcv16:=own_string (P:=Tryd.prog) Tryd.underlying22 Tryd.underlying5 Tryd.underlying9 (Kd.own_of_R HO737.out)
        refine value_ (w1:=?_) (v:=?_) (by rfl) rfl ?_ ?_
        rotate_left 2
        ·go_simp
         constructor
         ·rfl
         ·rfl
        clear hcv16
        refine hK.out _ _ trivial (fun hHeld=>?_)
        clear hK K
        refine no_ 26 ?_
        refine on_ 2 20 (fun K hK=>?_)
        refine goes_ Tryd.func107 (by kernel_rfl) rfl #[.int .i64 (wrap64 (Int.tdiv a0 10))] (by rfl) rfl rfl ar_ ?_
        with_reducible refine (ih k (by omega) (wrap64 (Int.tdiv a0 10)) t734 _ A11.out).mono ?_
        rintro e w17 ⟨rfl,hb⟩
        refine ⟨_,rfl,?_⟩
        have n0_:=a_ (Kd.R_below (rp_ HO737.out) hb)
        have n1_:=a_ (bS_ (bel_) hb)
        clear HO737
        clear HB
        have HO737:=n0_
        have HB:=n1_
        clear n0_ n1_
        (try clear hb)
        (try clear hb2)
        (try clear hk)
        (try clear hi)
        refine hK.out _ _ trivial (fun hHeld=>?_)
        clear hK K
        refine no_ 20 ?_
        exact norm_ (by simp only [putAll,Act.put,List.setIfInBounds_toArray,List.set_cons_zero,List.set_cons_succ]) (hCont (v736) _ ⟨(rp_ HO737.out),(bel_)⟩)
     rintro v736 w18 ⟨h0_,h1_⟩
     have n0_:Aside0 (Kd.R (Kd.int .u8) 5 w18 w.heap.size (fun _=>True) v736 y735):=⟨h0_⟩
     have n1_:Aside0 (Below w.heap.size w w18):=⟨h1_⟩
     clear HB
     clear h0_ h1_
     have HO737:=n0_
     have HB:=n1_
     clear n0_ n1_
     have hHeld:=trivial
     refine norm_ (a':=?_) ?_ ?_
     rotate_left
     ·simp only [putAll,Act.put,List.setIfInBounds_toArray,List.set_cons_zero,List.set_cons_succ]
      rfl
     refine pa_ 9 27 ?_
     refine pa_ 10 2 ?_
     refine done_ (done_of HT_.out (by kernel_rfl)) ?_
     try go_wp2
     go_ret
     exact ⟨fi_,bel_⟩
    ·rw [if_neg c12] at H
     exact absurd H (by simp)
def spec_l2Text.l0:Nat→List (S37)→ByteArray→Int→Option (ByteArray)
 | 0,_,_,_=>none
 | k+1,x0,x3,x4=>if x4 < (x0.length:Int) then (if 0≤x4 then ((spec_l6Many.f k (⟨#[46]⟩:ByteArray) ((rd_T37 x0 x4).f1)).bind fun t739=>(if x3.size+t739.size≤9223372036854775807 then ((spec_l6Dec.f k ((rd_T37 x0 x4).f0)).bind fun t741=>(if (x3++t739).size+t741.size≤9223372036854775807 then (if ((rd_T37 x0 x4).f2).toList=([]:List UInt8) then (if ((x3++t739)++t741).size+1≤9223372036854775807 then (spec_l2Text.l0 k x0 (((x3++t739)++t741)++(⟨#[10]⟩:ByteArray)) (wrap64 (x4+1))) else (none)) else (if ((x3++t739)++t741).size+1≤9223372036854775807 then (if (((x3++t739)++t741)++(⟨#[32]⟩:ByteArray)).size+((rd_T37 x0 x4).f2).size≤9223372036854775807 then (if ((((x3++t739)++t741)++(⟨#[32]⟩:ByteArray))++((rd_T37 x0 x4).f2)).size+1≤9223372036854775807 then (spec_l2Text.l0 k x0 (((((x3++t739)++t741)++(⟨#[32]⟩:ByteArray))++((rd_T37 x0 x4).f2))++(⟨#[10]⟩:ByteArray)) (wrap64 (x4+1))) else (none)) else (none)) else (none))) else (none))) else (none))) else (none)) else (some x3)
def spec_l2Text.f (k:Nat) (l0:List (S37)):Option (ByteArray):=spec_l2Text.l0 k l0 (⟨#[]⟩:ByteArray) 0
theorem spec_l2Text.mono_l:∀ k,(∀ y0 y1 y2,LeO (spec_l2Text.l0 k y0 y1 y2) (spec_l2Text.l0 (k+1) y0 y1 y2))
 | 0=>fun _ _ _ r h=>by simp [spec_l2Text.l0] at h
 | k+1=>by
  have ih0:=spec_l2Text.mono_l k
  ·intro y0 y1 y2
   unfold spec_l2Text.l0
   repeat' first
   | (with_reducible exact ih0 _ _ _)
   | (with_reducible exact spec_l6Dec.mono _ _)
   | (with_reducible exact spec_l6Many.mono _ _ _)
   | (with_reducible exact LeO.refl _)
   | (with_reducible exact LeO.none _)
   | (with_reducible refine LeO.ite ?_ ?_)
   | (with_reducible refine LeO.bind ?_ (fun _=>?_))
theorem spec_l2Text.mono:∀ a0 k,LeO (spec_l2Text.f k a0) (spec_l2Text.f (k+1) a0):=by
 intro a0 k
 have ih0:=spec_l2Text.mono_l k
 unfold spec_l2Text.f
 repeat' first
   | (with_reducible exact ih0 _ _ _)
   | (with_reducible exact spec_l6Dec.mono _ _)
   | (with_reducible exact spec_l6Many.mono _ _ _)
   | (with_reducible exact LeO.refl _)
   | (with_reducible exact LeO.none _)
   | (with_reducible refine LeO.ite ?_ ?_)
   | (with_reducible refine LeO.bind ?_ (fun _=>?_))
def spec_l2Text.T5:Bool×List (List Nat×List Nat):=(true,[([],[]),([],[]),([],[]),([1,2],[1,2]),([3],[3]),([4],[4]),([5],[5]),([0,6],[0,6]),([],[]),([],[]),([8,9],[8,9]),([10],[10]),([11],[11]),([12,6],[12]),([7,13],[7,13]),([14,13,0,1,2,3,4,5,6,7,8,9,10,11,12,13,14],[0,14])])
def spec_l2Text.B5:List Nat:=[0,0,0,6,14,30,62,127,0,0,768,1792,3840,8062,16383,32767]
theorem spec_l2Text.tab5:rtab .any (opsOf Tryd.f80 5)=spec_l2Text.T5:=by kernel_rfl
theorem spec_l2Text.bits5:waitsOk spec_l2Text.T5.2 spec_l2Text.B5=true:=by kernel_rfl
theorem spec_l2Text.calls (k:Nat) (A0:Option Addr) (c0:Nat) (l0:List (S37)) (r:ByteArray) (w:World) (hr0:Kd.C k37 w A0 l0.length l0) (hc0:l0.length≤c0) (h:spec_l2Text.f k l0=some r) :
  Calls Tryd.prog 80 #[.slice A0 l0.length c0] w fun e w'=>e=.returned (.string r)∧Below w.heap.size w w':=by
 have HR0:=a_ hr0
 have HC0:=a_ hc0
 clear hr0 hc0
 have HB:=a_ (Below.refl w.heap.size w)
 unfold spec_l2Text.f at h
 have H:=h
 clear h
 have H':=a_ H
 clear H
 go_enter Tryd.func80,Tryd.ntmps80
 go_wp2
 go_loopg [3,4] k (fun kq v3 v4 w'=>∃ (x3_1:ByteArray) (x4_1:Int),v3=.string x3_1∧v4=.int .i64 x4_1∧Aside0 (spec_l2Text.l0 kq l0 x3_1 x4_1=some r)∧Aside0 (kq≤k)∧Aside0 (Below w.heap.size w w'))
 case atStart=>exact ⟨((⟨#[]⟩:ByteArray)),(0),(si_),(si_),H',⟨Nat.le_refl _⟩,⟨bel_⟩⟩
 case round =>
  clear H'
  obtain ⟨x3_1,x4_1,rfl,rfl,HA,HK1,HB⟩:=hrel
  cases gk with
  | zero=>exact absurd HA.out (by simp [spec_l2Text.l0])
  | succ k1 =>
   have H:=HA.out
   clear HA
   simp only [spec_l2Text.l0] at H
   by_cases c2:x4_1 < (l0.length:Int)
   ·rw [if_pos c2] at H
    have c2b0:decide (x4_1 < (l0.length:Int))=true:=dt_ c2
    clear c2
    by_cases c3:0≤x4_1
    ·rw [if_pos c3] at H
     have c3b0:decide (0≤x4_1)=true:=dt_ c3
     clear c3
     replace H:=bs_ H
     obtain ⟨t739,A40,H⟩:=H
     try dsimp only at H
     have A4:=a_ A40
     clear A40
     by_cases c5:x3_1.size+t739.size≤9223372036854775807
     ·rw [if_pos c5] at H
      have c5b0:=eq_true c5
      have c5b1:decide (x3_1.size+t739.size≤9223372036854775807)=true:=dt_ c5
      try have c5b2:(9223372036854775807 < x3_1.size+t739.size)=False:=eq_false (Nat.not_lt.2 c5)
      replace H:=bs_ H
      obtain ⟨t741,A60,H⟩:=H
      try dsimp only at H
      have A6:=a_ A60
      clear A60
      by_cases c7:(x3_1++t739).size+t741.size≤9223372036854775807
      ·rw [if_pos c7] at H
       have c7b0:=eq_true c7
       have c7b1:decide ((x3_1++t739).size+t741.size≤9223372036854775807)=true:=dt_ c7
       try have c7b2:(9223372036854775807 < (x3_1++t739).size+t741.size)=False:=eq_false (Nat.not_lt.2 c7)
       try (have c7b3:=c7b2;simp only [ByteArray.size_append] at c7b3)
       try (have c7b4:=c7b2;simp only [ByteArray.size_append,show (⟨#[32]⟩:ByteArray).size=1 from rfl] at c7b4)
       by_cases c8:((rd_T37 l0 x4_1).f2).toList=([]:List UInt8)
       ·rw [if_pos c8] at H
        have c8b0:(((rd_T37 l0 x4_1).f2).toList==([]:List UInt8))=true:=beq_iff_eq.mpr c8
        have c8b1:(((rd_T37 l0 x4_1).f2).toList != ([]:List UInt8))=false:=be_ c8
        clear c8
        by_cases c9:((x3_1++t739)++t741).size+1≤9223372036854775807
        ·rw [if_pos c9] at H
         have c9b0:=eq_true c9
         have c9b1:decide (((x3_1++t739)++t741).size+1≤9223372036854775807)=true:=dt_ c9
         try have c9b2:(9223372036854775807 < ((x3_1++t739)++t741).size+1)=False:=eq_false (Nat.not_lt.2 c9)
         try (have c9b3:=c9b2;simp only [ByteArray.size_append] at c9b3)
         try (have c9b4:=c9b2;simp only [ByteArray.size_append,show (⟨#[32]⟩:ByteArray).size=1 from rfl] at c9b4)
         have H':=a_ H
         clear H
         try go_wp2
         have n0_:=a_ (below_drew1 HB.out)
         clear HB
         have HB:=n0_
         clear n0_
         have p738:0≤(x4_1:Int):=od_
         have q738:x4_1 < (l0.length:Int):=od_
         obtain ⟨ad738,e738,hx738_0,hx738_1,hx738_2⟩:=at_T37 HR0.out x4_1 p738 q738
         have hw738_2:=hx738_2
         have hw738_1:=hx738_1
         have hw738_0:=hx738_0
         cases e738
         replace hx738_0:=(cb_ HB.out hx738_0 :)
         replace hx738_1:=(cb_ HB.out hx738_1 :)
         replace hx738_2:=(cb_ HB.out hx738_2 :)
         replace p738:=eq_true p738
         replace q738:=eq_true q738
         have p740:0≤(x4_1:Int):=od_
         have q740:x4_1 < (l0.length:Int):=od_
         obtain ⟨ad740,e740,hx740_0,hx740_1,hx740_2⟩:=at_T37 HR0.out x4_1 p740 q740
         have hw740_2:=hx740_2
         have hw740_1:=hx740_1
         have hw740_0:=hx740_0
         obtain rfl:ad738=ad740:=(by injection e740)
         replace hx740_0:=(cb_ HB.out hx740_0 :)
         replace hx740_1:=(cb_ HB.out hx740_1 :)
         replace hx740_2:=(cb_ HB.out hx740_2 :)
         replace p740:=eq_true p740
         replace q740:=eq_true q740
         refine start_ (n:=16) (S:=fun w'=>w'.cell? (ad738.add ((x4_1).toNat * 3))=some (.int .i64 ((rd_T37 l0 x4_1).f0))∧w'.cell? ⟨(ad738.add ((x4_1).toNat * 3)).block,(ad738.add ((x4_1).toNat * 3)).off+1,none⟩=some (.int .i64 ((rd_T37 l0 x4_1).f1))∧w'.cell? ⟨(ad738.add ((x4_1).toNat * 3)).block,(ad738.add ((x4_1).toNat * 3)).off+2,none⟩=some (.string ((rd_T37 l0 x4_1).f2))∧w'.cell? (ad738.add ((x4_1).toNat * 3))=some (.int .i64 ((rd_T37 l0 x4_1).f0))∧w'.cell? ⟨(ad738.add ((x4_1).toNat * 3)).block,(ad738.add ((x4_1).toNat * 3)).off+1,none⟩=some (.int .i64 ((rd_T37 l0 x4_1).f1))∧w'.cell? ⟨(ad738.add ((x4_1).toNat * 3)).block,(ad738.add ((x4_1).toNat * 3)).off+2,none⟩=some (.string ((rd_T37 l0 x4_1).f2))) (ds:=[]) #[false,false,false,false,false,false,false,false,false,false,false,false,false,false,false,false] (by kernel_rfl) rfl rfl ⟨((cb_ HB.out hw738_0 :)),((cb_ HB.out hw738_1 :)),((cb_ HB.out hw738_2 :)),((cb_ HB.out hw740_0 :)),((cb_ HB.out hw740_1 :)),((cb_ HB.out hw740_2 :))⟩ (fun hHeld=>?_);refine with_tabW spec_l2Text.tab5 spec_l2Text.bits5 (fun HT_ HW_=>?_)
         generalize wr.drew=w10 at HB hx738_0 hx738_1 hx738_2 hx740_0 hx740_1 hx740_2 hHeld ⊢
         refine pa_ 0 11 ?_
         refine pa_ 1 12 ?_
         refine pa_ 2 13 ?_
         refine pa_ 3 14 ?_
         refine pa_ 4 15 ?_
         refine pa_ 8 19 ?_
         refine pa_ 9 20 ?_
         refine pa_ 10 21 ?_
         refine pa_ 11 22 ?_
         refine ta6_ 5 16 hHeld ?_
         refine ta6_ 12 23 hHeld ?_
         refine on_ 6 17 (fun K hK=>?_)
         refine goes_ Tryd.func106 (by kernel_rfl) rfl #[.string (⟨#[46]⟩:ByteArray),.int .i64 ((rd_T37 l0 x4_1).f1)] (by rfl) rfl rfl ar_ ?_
         with_reducible refine (spec_l6Many.calls k1 (⟨#[46]⟩:ByteArray) ((rd_T37 l0 x4_1).f1) t739 _ A4.out).mono ?_
         rintro e w' ⟨rfl,⟨nd,rfl⟩⟩
         refine ⟨_,rfl,?_⟩
         refine hK.out _ _ ⟨((cb_ HB.out hw738_0 :)),((cb_ HB.out hw738_1 :)),((cb_ HB.out hw738_2 :)),((cb_ HB.out hw740_0 :)),((cb_ HB.out hw740_1 :)),((cb_ HB.out hw740_2 :))⟩ (fun hHeld=>?_)
         clear hK K
         refine no_ 17 ?_
         refine pa_ 7 18 ?_
         refine on_ 13 24 (fun K hK=>?_)
         refine goes_ Tryd.func107 (by kernel_rfl) rfl #[.int .i64 ((rd_T37 l0 x4_1).f0)] (by rfl) rfl rfl ar_ ?_
         with_reducible refine (spec_l6Dec.calls k1 ((rd_T37 l0 x4_1).f0) t741 _ A6.out).mono ?_
         rintro e w11 ⟨rfl,hb⟩
         refine ⟨_,rfl,?_⟩
         have n0_:=a_ (bS_ (bel_) hb)
         clear HB
         have HB:=n0_
         clear n0_
         (try clear hb)
         (try clear hb2)
         (try clear hk)
         (try clear hi)
         refine hK.out _ _ ⟨((cb_ HB.out hw738_0 :)),((cb_ HB.out hw738_1 :)),((cb_ HB.out hw738_2 :)),((cb_ HB.out hw740_0 :)),((cb_ HB.out hw740_1 :)),((cb_ HB.out hw740_2 :))⟩ (fun hHeld=>?_)
         clear hK K
         refine no_ 24 ?_
         refine pa_ 14 25 ?_
         refine pa_ 15 3 ?_
         refine done_ (done_of HT_.out (by kernel_rfl)) ?_
         have p742:0≤(x4_1:Int):=od_
         have q742:x4_1 < (l0.length:Int):=od_
         obtain ⟨ad742,e742,hx742_0,hx742_1,hx742_2⟩:=at_T37 HR0.out x4_1 p742 q742
         obtain rfl:ad738=ad742:=(by injection e742)
         replace hx742_0:=(cb_ HB.out hx742_0 :)
         replace hx742_1:=(cb_ HB.out hx742_1 :)
         replace hx742_2:=(cb_ HB.out hx742_2 :)
         replace p742:=eq_true p742
         replace q742:=eq_true q742
         try go_wp2
         go_roundg k1
         case measure=>have:=HK1.out;omega
         case rel=>exact ⟨(((x3_1++t739)++t741)++(⟨#[10]⟩:ByteArray)),(wrap64 (x4_1+1)),(si_),(si_),H',⟨by have:=HK1.out;omega⟩,⟨bel_⟩⟩
        ·rw [if_neg c9] at H
         exact absurd H (by simp)
       ·rw [if_neg c8] at H
        have c8b0:(((rd_T37 l0 x4_1).f2).toList==([]:List UInt8))=false:=bn_ c8
        have c8b1:(((rd_T37 l0 x4_1).f2).toList != ([]:List UInt8))=true:=bne_iff_ne.mpr c8
        by_cases c12:((x3_1++t739)++t741).size+1≤9223372036854775807
        ·rw [if_pos c12] at H
         have c12b0:=eq_true c12
         have c12b1:decide (((x3_1++t739)++t741).size+1≤9223372036854775807)=true:=dt_ c12
         try have c12b2:(9223372036854775807 < ((x3_1++t739)++t741).size+1)=False:=eq_false (Nat.not_lt.2 c12)
         try (have c12b3:=c12b2;simp only [ByteArray.size_append] at c12b3)
         try (have c12b4:=c12b2;simp only [ByteArray.size_append,show (⟨#[32]⟩:ByteArray).size=1 from rfl] at c12b4)
         by_cases c13:(((x3_1++t739)++t741)++(⟨#[32]⟩:ByteArray)).size+((rd_T37 l0 x4_1).f2).size≤9223372036854775807
         ·rw [if_pos c13] at H
          have c13b0:=eq_true c13
          have c13b1:decide ((((x3_1++t739)++t741)++(⟨#[32]⟩:ByteArray)).size+((rd_T37 l0 x4_1).f2).size≤9223372036854775807)=true:=dt_ c13
          try have c13b2:(9223372036854775807 < (((x3_1++t739)++t741)++(⟨#[32]⟩:ByteArray)).size+((rd_T37 l0 x4_1).f2).size)=False:=eq_false (Nat.not_lt.2 c13)
          try (have c13b3:=c13b2;simp only [ByteArray.size_append] at c13b3)
          try (have c13b4:=c13b2;simp only [ByteArray.size_append,show (⟨#[32]⟩:ByteArray).size=1 from rfl] at c13b4)
          by_cases c14:((((x3_1++t739)++t741)++(⟨#[32]⟩:ByteArray))++((rd_T37 l0 x4_1).f2)).size+1≤9223372036854775807
          ·rw [if_pos c14] at H
           have c14b0:=eq_true c14
           have c14b1:decide (((((x3_1++t739)++t741)++(⟨#[32]⟩:ByteArray))++((rd_T37 l0 x4_1).f2)).size+1≤9223372036854775807)=true:=dt_ c14
           try have c14b2:(9223372036854775807 < ((((x3_1++t739)++t741)++(⟨#[32]⟩:ByteArray))++((rd_T37 l0 x4_1).f2)).size+1)=False:=eq_false (Nat.not_lt.2 c14)
           try (have c14b3:=c14b2;simp only [ByteArray.size_append] at c14b3)
           try (have c14b4:=c14b2;simp only [ByteArray.size_append,show (⟨#[32]⟩:ByteArray).size=1 from rfl] at c14b4)
           have H':=a_ H
           clear H
           try go_wp2
           have n0_:=a_ (below_drew1 HB.out)
           clear HB
           have HB:=n0_
           clear n0_
           have p738:0≤(x4_1:Int):=od_
           have q738:x4_1 < (l0.length:Int):=od_
           obtain ⟨ad738,e738,hx738_0,hx738_1,hx738_2⟩:=at_T37 HR0.out x4_1 p738 q738
           have hw738_2:=hx738_2
           have hw738_1:=hx738_1
           have hw738_0:=hx738_0
           cases e738
           replace hx738_0:=(cb_ HB.out hx738_0 :)
           replace hx738_1:=(cb_ HB.out hx738_1 :)
           replace hx738_2:=(cb_ HB.out hx738_2 :)
           replace p738:=eq_true p738
           replace q738:=eq_true q738
           have p740:0≤(x4_1:Int):=od_
           have q740:x4_1 < (l0.length:Int):=od_
           obtain ⟨ad740,e740,hx740_0,hx740_1,hx740_2⟩:=at_T37 HR0.out x4_1 p740 q740
           have hw740_2:=hx740_2
           have hw740_1:=hx740_1
           have hw740_0:=hx740_0
           obtain rfl:ad738=ad740:=(by injection e740)
           replace hx740_0:=(cb_ HB.out hx740_0 :)
           replace hx740_1:=(cb_ HB.out hx740_1 :)
           replace hx740_2:=(cb_ HB.out hx740_2 :)
           replace p740:=eq_true p740
           replace q740:=eq_true q740
           refine start_ (n:=16) (S:=fun w'=>w'.cell? (ad738.add ((x4_1).toNat * 3))=some (.int .i64 ((rd_T37 l0 x4_1).f0))∧w'.cell? ⟨(ad738.add ((x4_1).toNat * 3)).block,(ad738.add ((x4_1).toNat * 3)).off+1,none⟩=some (.int .i64 ((rd_T37 l0 x4_1).f1))∧w'.cell? ⟨(ad738.add ((x4_1).toNat * 3)).block,(ad738.add ((x4_1).toNat * 3)).off+2,none⟩=some (.string ((rd_T37 l0 x4_1).f2))∧w'.cell? (ad738.add ((x4_1).toNat * 3))=some (.int .i64 ((rd_T37 l0 x4_1).f0))∧w'.cell? ⟨(ad738.add ((x4_1).toNat * 3)).block,(ad738.add ((x4_1).toNat * 3)).off+1,none⟩=some (.int .i64 ((rd_T37 l0 x4_1).f1))∧w'.cell? ⟨(ad738.add ((x4_1).toNat * 3)).block,(ad738.add ((x4_1).toNat * 3)).off+2,none⟩=some (.string ((rd_T37 l0 x4_1).f2))) (ds:=[]) #[false,false,false,false,false,false,false,false,false,false,false,false,false,false,false,false] (by kernel_rfl) rfl rfl ⟨((cb_ HB.out hw738_0 :)),((cb_ HB.out hw738_1 :)),((cb_ HB.out hw738_2 :)),((cb_ HB.out hw740_0 :)),((cb_ HB.out hw740_1 :)),((cb_ HB.out hw740_2 :))⟩ (fun hHeld=>?_);refine with_tabW spec_l2Text.tab5 spec_l2Text.bits5 (fun HT_ HW_=>?_)
           generalize wr.drew=w15 at HB hx738_0 hx738_1 hx738_2 hx740_0 hx740_1 hx740_2 hHeld ⊢
           refine pa_ 0 11 ?_
           refine pa_ 1 12 ?_
           refine pa_ 2 13 ?_
           refine pa_ 3 14 ?_
           refine pa_ 4 15 ?_
           refine pa_ 8 19 ?_
           refine pa_ 9 20 ?_
           refine pa_ 10 21 ?_
           refine pa_ 11 22 ?_
           refine ta6_ 5 16 hHeld ?_
           refine ta6_ 12 23 hHeld ?_
           refine on_ 6 17 (fun K hK=>?_)
           refine goes_ Tryd.func106 (by kernel_rfl) rfl #[.string (⟨#[46]⟩:ByteArray),.int .i64 ((rd_T37 l0 x4_1).f1)] (by rfl) rfl rfl ar_ ?_
           with_reducible refine (spec_l6Many.calls k1 (⟨#[46]⟩:ByteArray) ((rd_T37 l0 x4_1).f1) t739 _ A4.out).mono ?_
           rintro e w' ⟨rfl,⟨nd,rfl⟩⟩
           refine ⟨_,rfl,?_⟩
           refine hK.out _ _ ⟨((cb_ HB.out hw738_0 :)),((cb_ HB.out hw738_1 :)),((cb_ HB.out hw738_2 :)),((cb_ HB.out hw740_0 :)),((cb_ HB.out hw740_1 :)),((cb_ HB.out hw740_2 :))⟩ (fun hHeld=>?_)
           clear hK K
           refine no_ 17 ?_
           refine pa_ 7 18 ?_
           refine on_ 13 24 (fun K hK=>?_)
           refine goes_ Tryd.func107 (by kernel_rfl) rfl #[.int .i64 ((rd_T37 l0 x4_1).f0)] (by rfl) rfl rfl ar_ ?_
           with_reducible refine (spec_l6Dec.calls k1 ((rd_T37 l0 x4_1).f0) t741 _ A6.out).mono ?_
           rintro e w16 ⟨rfl,hb⟩
           refine ⟨_,rfl,?_⟩
           have n0_:=a_ (bS_ (bel_) hb)
           clear HB
           have HB:=n0_
           clear n0_
           (try clear hb)
           (try clear hb2)
           (try clear hk)
           (try clear hi)
           refine hK.out _ _ ⟨((cb_ HB.out hw738_0 :)),((cb_ HB.out hw738_1 :)),((cb_ HB.out hw738_2 :)),((cb_ HB.out hw740_0 :)),((cb_ HB.out hw740_1 :)),((cb_ HB.out hw740_2 :))⟩ (fun hHeld=>?_)
           clear hK K
           refine no_ 24 ?_
           refine pa_ 14 25 ?_
           refine pa_ 15 3 ?_
           refine done_ (done_of HT_.out (by kernel_rfl)) ?_
           have p742:0≤(x4_1:Int):=od_
           have q742:x4_1 < (l0.length:Int):=od_
           obtain ⟨ad742,e742,hx742_0,hx742_1,hx742_2⟩:=at_T37 HR0.out x4_1 p742 q742
           obtain rfl:ad738=ad742:=(by injection e742)
           replace hx742_0:=(cb_ HB.out hx742_0 :)
           replace hx742_1:=(cb_ HB.out hx742_1 :)
           replace hx742_2:=(cb_ HB.out hx742_2 :)
           replace p742:=eq_true p742
           replace q742:=eq_true q742
           have p743:0≤(x4_1:Int):=od_
           have q743:x4_1 < (l0.length:Int):=od_
           obtain ⟨ad743,e743,hx743_0,hx743_1,hx743_2⟩:=at_T37 HR0.out x4_1 p743 q743
           obtain rfl:ad738=ad743:=(by injection e743)
           replace hx743_0:=(cb_ HB.out hx743_0 :)
           replace hx743_1:=(cb_ HB.out hx743_1 :)
           replace hx743_2:=(cb_ HB.out hx743_2 :)
           replace p743:=eq_true p743
           replace q743:=eq_true q743
           try go_wp2
           go_roundg k1
           case measure=>have:=HK1.out;omega
           case rel=>exact ⟨(((((x3_1++t739)++t741)++(⟨#[32]⟩:ByteArray))++((rd_T37 l0 x4_1).f2))++(⟨#[10]⟩:ByteArray)),(wrap64 (x4_1+1)),(si_),(si_),H',⟨by have:=HK1.out;omega⟩,⟨bel_⟩⟩
          ·rw [if_neg c14] at H
           exact absurd H (by simp)
         ·rw [if_neg c13] at H
          exact absurd H (by simp)
        ·rw [if_neg c12] at H
         exact absurd H (by simp)
      ·rw [if_neg c7] at H
       exact absurd H (by simp)
     ·rw [if_neg c5] at H
      exact absurd H (by simp)
    ·rw [if_neg c3] at H
     exact absurd H (by simp)
   ·rw [if_neg c2] at H
    have c2b0:decide (x4_1 < (l0.length:Int))=false:=df_ c2
    clear c2
    obtain rfl:=sj_ H
    go_wp2
    go_ret
    exact ⟨fi_,bel_⟩
mutual
def spec_KeyBack.j0:Nat→List (S37)→Bool→Int→Int→Int→Int→ByteArray→Option (Int×Int×Int×Int×ByteArray×Bool)
 | 0,_,_,_,_,_,_,_=>none
 | k+1,x0,x17,x745000,x745001,x745002,x745003,x745004=>if x17=true then (some (0,0,0,0,(⟨#[]⟩:ByteArray),false)) else ((spec_l2At.f k x0 x745001).bind fun t748=>(if x745000=2 then (if t748 < 0 then (some (0,0,0,0,(⟨#[]⟩:ByteArray),false)) else (if 0≤t748 then (if t748 < (x0.length:Int) then (if ((rd_T37 x0 t748).f2).toList=x745004.toList then (some (0,0,0,0,(⟨#[]⟩:ByteArray),false)) else (some (2,x745001,0,0,(rd_T37 x0 t748).f2,true))) else (none)) else (none))) else ((spec_l3Where.f k x0 x745000 x745001 x745002 x745003 x745004).bind fun bt751=>(if bt751.2.2=true then ((spec_l3Do.f k x0 x745000 x745001 x745002 x745003 x745004).bind fun t754=>((spec_l2Text.f k t754).bind fun t757=>((spec_l2Text.f k x0).bind fun t758=>(spec_KeyBack.j1 k x0 t748 (t757.toList==t758.toList) x745000 x745001 x745002 x745003 x745004)))) else (spec_KeyBack.j1 k x0 t748 true x745000 x745001 x745002 x745003 x745004)))))
def spec_KeyBack.j1:Nat→List (S37)→Int→Bool→Int→Int→Int→Int→ByteArray→Option (Int×Int×Int×Int×ByteArray×Bool)
 | 0,_,_,_,_,_,_,_,_=>none
 | k+1,x0,x6,x64,x745000,x745001,x745002,x745003,x745004=>if x64=true then (some (0,0,0,0,(⟨#[]⟩:ByteArray),false)) else (if x745000=1 then ((spec_l11Move.f x745001 2 0).bind fun bt759=>(some (bt759.1,bt759.2.1,bt759.2.2.1,bt759.2.2.2.1,bt759.2.2.2.2,true))) else ((spec_l2Up.f k x0 x6).bind fun t764=>((spec_l2Ahead.f k x0 x6).bind fun t765=>((spec_l11Move.f x745001 t764 t765).bind fun bt766=>(some (bt766.1,bt766.2.1,bt766.2.2.1,bt766.2.2.2.1,bt766.2.2.2.2,true))))))
end
def spec_KeyBack.f (k:Nat) (l0:List (S37)) (a1_0:Int) (a1_1:Int) (a1_2:Int) (a1_3:Int) (a1_4:ByteArray):Option (Int×Int×Int×Int×ByteArray×Bool):=(spec_TreeOk.f k l0).bind fun t746=>(if t746=true then ((spec_OpOk.f k a1_0 a1_1 a1_2 a1_3 a1_4).bind fun t747=>(spec_KeyBack.j0 k l0 (!t747) a1_0 a1_1 a1_2 a1_3 a1_4)) else (spec_KeyBack.j0 k l0 true a1_0 a1_1 a1_2 a1_3 a1_4))
theorem spec_KeyBack.mono_l:∀ k,(∀ y0 y1 y2 y3 y4 y5 y6,LeO (spec_KeyBack.j0 k y0 y1 y2 y3 y4 y5 y6) (spec_KeyBack.j0 (k+1) y0 y1 y2 y3 y4 y5 y6))∧(∀ y0 y1 y2 y3 y4 y5 y6 y7,LeO (spec_KeyBack.j1 k y0 y1 y2 y3 y4 y5 y6 y7) (spec_KeyBack.j1 (k+1) y0 y1 y2 y3 y4 y5 y6 y7))
 | 0=>⟨fun _ _ _ _ _ _ _ r h=>by simp [spec_KeyBack.j0] at h,fun _ _ _ _ _ _ _ _ r h=>by simp [spec_KeyBack.j1] at h⟩
 | k+1=>by
  obtain ⟨ih0,ih1⟩:=spec_KeyBack.mono_l k
  refine ⟨?_,?_⟩
  all_goals intros
  all_goals first|unfold spec_KeyBack.j0|unfold spec_KeyBack.j1
  all_goals repeat' first
  | (with_reducible exact ih0 _ _ _ _ _ _ _)
  | (with_reducible exact ih1 _ _ _ _ _ _ _ _)
  | (with_reducible exact spec_OpOk.mono _ _ _ _ _ _)
  | (with_reducible exact spec_TreeOk.mono _ _)
  | (with_reducible exact spec_l2Ahead.mono _ _ _)
  | (with_reducible exact spec_l2At.mono _ _ _)
  | (with_reducible exact spec_l2Text.mono _ _)
  | (with_reducible exact spec_l2Up.mono _ _ _)
  | (with_reducible exact spec_l3Do.mono _ _ _ _ _ _ _)
  | (with_reducible exact spec_l3Where.mono _ _ _ _ _ _ _)
  | (with_reducible exact LeO.refl _)
  | (with_reducible exact LeO.none _)
  | (with_reducible refine LeO.ite ?_ ?_)
  | (with_reducible refine LeO.bind ?_ (fun _=>?_))
theorem spec_KeyBack.mono:∀ a0 a1 a2 a3 a4 a5 k,LeO (spec_KeyBack.f k a0 a1 a2 a3 a4 a5) (spec_KeyBack.f (k+1) a0 a1 a2 a3 a4 a5):=by
 intro a0 a1 a2 a3 a4 a5 k
 obtain ⟨ih0,ih1⟩:=spec_KeyBack.mono_l k
 unfold spec_KeyBack.f
 repeat' first
   | (with_reducible exact ih0 _ _ _ _ _ _ _)
   | (with_reducible exact ih1 _ _ _ _ _ _ _ _)
   | (with_reducible exact spec_OpOk.mono _ _ _ _ _ _)
   | (with_reducible exact spec_TreeOk.mono _ _)
   | (with_reducible exact spec_l2Ahead.mono _ _ _)
   | (with_reducible exact spec_l2At.mono _ _ _)
   | (with_reducible exact spec_l2Text.mono _ _)
   | (with_reducible exact spec_l2Up.mono _ _ _)
   | (with_reducible exact spec_l3Do.mono _ _ _ _ _ _ _)
   | (with_reducible exact spec_l3Where.mono _ _ _ _ _ _ _)
   | (with_reducible exact LeO.refl _)
   | (with_reducible exact LeO.none _)
   | (with_reducible refine LeO.ite ?_ ?_)
   | (with_reducible refine LeO.bind ?_ (fun _=>?_))
def spec_KeyBack.T5:Bool×List (List Nat×List Nat):=(true,[([],[]),([0],[0]),([1],[1]),([2],[2]),([2],[2]),([3,4,2],[2,3,4]),([5,2],[2,5]),([6,2],[2,6]),([2],[2]),([8,2],[2,8]),([7,9,2],[2,7,9]),([2,10],[2,10])])
def spec_KeyBack.B5:List Nat:=[0,1,3,7,7,31,63,127,7,263,1023,2047]
theorem spec_KeyBack.tab5:rtab .any (opsOf Tryd.f41 5)=spec_KeyBack.T5:=by kernel_rfl
theorem spec_KeyBack.bits5:waitsOk spec_KeyBack.T5.2 spec_KeyBack.B5=true:=by kernel_rfl
def spec_KeyBack.T7:Bool×List (List Nat×List Nat):=(true,[([],[]),([0],[0]),([],[]),([],[]),([2,3],[2,3]),([4],[4]),([5],[5]),([1,6],[1,6]),([7,0,1,2,3,4,5,6,7],[7]),([8,0,1,2,3,4,5,6,7,8],[])])
def spec_KeyBack.B7:List Nat:=[0,1,0,0,12,28,60,127,255,511]
theorem spec_KeyBack.tab7:rtab .any (opsOf Tryd.f41 7)=spec_KeyBack.T7:=by kernel_rfl
theorem spec_KeyBack.bits7:waitsOk spec_KeyBack.T7.2 spec_KeyBack.B7=true:=by kernel_rfl
def spec_KeyBack.T13:Bool×List (List Nat×List Nat):=(true,[([],[]),([0],[0]),([],[]),([],[]),([2,3],[2,3]),([],[]),([],[]),([5,6,4],[5,6]),([1,4,7,7],[1,4,7]),([8,8,0,1,2,3,4,5,6,7,8],[8]),([9,0,1,2,3,4,5,6,7,8,9],[])])
def spec_KeyBack.B13:List Nat:=[0,1,0,0,12,0,0,124,255,511,1023]
theorem spec_KeyBack.tab13:rtab .any (opsOf Tryd.f41 13)=spec_KeyBack.T13:=by kernel_rfl
theorem spec_KeyBack.bits13:waitsOk spec_KeyBack.T13.2 spec_KeyBack.B13=true:=by kernel_rfl
end Go.Proofs.YtlkheeegkifblaaDoor.P
