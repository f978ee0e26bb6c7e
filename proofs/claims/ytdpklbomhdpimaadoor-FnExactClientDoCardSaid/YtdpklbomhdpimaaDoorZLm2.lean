/- Joined by a program (wip/shake.py): the declarations that 'YtdpklbomhdpimaaDoorCardFnExactClientDo' reaches. -/
import Derived.Test.YtdpklbomhdpimaaDoorZLm1
set_option linter.unusedVariables false
set_option linter.unusedSimpArgs false
set_option linter.unusedSectionVars false
set_option maxHeartbeats 8000000
set_option maxRecDepth 100000
namespace Go.Proofs.YtdpklbomhdpimaaDoor.P
open Go.RowKit Go.Proofs.YtdpklbomhdpimaaDoorW.PrintWords Go.Proofs.YtdpklbomhdpimaaDoorW.PrintLast
theorem spec_TreeOk.calls (k:Nat) (A0:Option Addr) (c0:Nat) (l0:List (S69)) (r:Bool) (w:World) (hr0:Kd.C k69 w A0 l0.length l0) (hc0:l0.length≤c0) (h:spec_TreeOk.f k l0=some r) :
  Calls Tryd.prog 110 #[.slice A0 l0.length c0] w fun e w'=>e=.returned (.bool r)∧Below w.heap.size w w':=by
 have hu69:=Tryd.underlying69
 have HR0:=a_ hr0
 have HC0:=a_ hc0
 clear hr0 hc0
 have HB:=a_ (Below.refl w.heap.size w)
 unfold spec_TreeOk.f at h
 have H:=h
 clear h
 have H':=a_ H
 clear H
 go_enter Tryd.func110,Tryd.ntmps110
 go_wp2
 go_loopg [3,4] k (fun kq v3 v4 w'=>∃ (x3_1:Int) (x4_1:Int),v3=.int .i64 x3_1∧v4=.int .i64 x4_1∧Aside0 (spec_TreeOk.l0 kq l0 x3_1 x4_1=some r)∧Aside0 (kq≤k)∧Aside0 (Below w.heap.size w w'))
 case atStart=>exact ⟨(0),(0),(si_),(si_),H',⟨Nat.le_refl _⟩,⟨bel_⟩⟩
 case round =>
  clear H'
  try clear c1
  obtain ⟨x3_1,x4_1,rfl,rfl,HA,HK1,HB⟩:=hrel
  cases gk with
  | zero=>exact absurd HA.out (by simp [spec_TreeOk.l0])
  | succ k1 =>
   have H:=HA.out
   clear HA
   simp only [spec_TreeOk.l0] at H
   by_cases c2:x4_1 < (l0.length:Int)
   ·rw [if_pos c2] at H
    have c2b0:decide (x4_1 < (l0.length:Int))=true:=dt_ c2
    clear c2
    have HC3:=a_ H
    clear H
    go_upto_region 5 with (fail)
    go_cut [36] (fun v36 wc=>∃ (kq:Nat) (x36_2:Bool),v36=.bool x36_2∧Aside0 (spec_TreeOk.j1 kq l0 x3_1 x4_1 x36_2=some r)∧Aside0 (kq≤k1)∧Aside0 (Below w.heap.size w wc))
    case first =>
     have H:=HC3.out
     clear HC3
     by_cases c4:0≤x4_1
     ·rw [if_pos c4] at H
      have c4b0:decide (0≤x4_1)=true:=dt_ c4
      clear c4
      (first|rw [c4b0]|(simp only [i64_w,i32_w];rw [c4b0])|skip)
      replace H:=bs_ H
      obtain ⟨t1194,A50,H⟩:=H
      try dsimp only at H
      have A5:=a_ A50
      clear A50
      by_cases c6:t1194=true
      ·subst c6
       have H1:(if x4_1 > 0 then (if 0≤(wrap64 (x4_1 - 1)) then (if (wrap64 (x4_1 - 1)) < (l0.length:Int) then (spec_TreeOk.j1 k1 l0 x3_1 x4_1 (decide (((rd_T69 l0 x4_1).f1) > (wrap64 (((rd_T69 l0 (wrap64 (x4_1 - 1))).f1)+1))))) else (none)) else (none)) else (spec_TreeOk.j1 k1 l0 x3_1 x4_1 false))=some r:=by rw [if_pos rfl] at H;exact H
       clear H
       have H:=H1
       clear H1
       by_cases c7:x4_1 > 0
       ·rw [if_pos c7] at H
        have c7b0:decide (0 < x4_1)=true:=dt_ c7
        clear c7
        obtain ⟨ji8,hji8⟩:∃ j_:Int,(wrap64 (x4_1 - 1))=j_:=⟨_,rfl⟩
        replace H:(if 0≤(ji8) then (if (ji8) < (l0.length:Int) then (spec_TreeOk.j1 k1 l0 x3_1 x4_1 (decide (((rd_T69 l0 x4_1).f1) > (wrap64 (((rd_T69 l0 (ji8)).f1)+1))))) else (none)) else (none))=some r:=by first|(rw [hji8] at H;exact H)|(simp only [hji8] at H ⊢;exact H)
        (try rw [hji8] at A5)
        have hji8w:(IntKind.i64.wrap (x4_1 - 1))=ji8:=(i64_w _).trans hji8
        by_cases c9:0≤(ji8)
        ·rw [if_pos c9] at H
         have c9b0:decide (0≤(ji8))=true:=dt_ c9
         clear c9
         by_cases c10:(ji8) < (l0.length:Int)
         ·rw [if_pos c10] at H
          have c10b0:decide ((ji8) < (l0.length:Int))=true:=dt_ c10
          clear c10
          have H':=a_ H
          clear H
          try go_wp2
          replace HB:=a_ (below_drew1 HB.out)
          have p1193:0≤(x4_1:Int):=od_
          have q1193:x4_1 < (l0.length:Int):=od_
          obtain ⟨ad1193,e1193,hx1193_0,hx1193_1,hx1193_2⟩:=at_T69 HR0.out x4_1 p1193 q1193
          have hw1193_2:=hx1193_2
          have hw1193_1:=hx1193_1
          have hw1193_0:=hx1193_0
          cases e1193
          replace hx1193_0:=(cb_ HB.out hx1193_0 :)
          replace hx1193_1:=(cb_ HB.out hx1193_1 :)
          replace hx1193_2:=(cb_ HB.out hx1193_2 :)
          replace p1193:=eq_true p1193
          replace q1193:=eq_true q1193
          have p1195:0≤(x4_1:Int):=od_
          have q1195:x4_1 < (l0.length:Int):=od_
          obtain ⟨ad1195,e1195,hx1195_0,hx1195_1,hx1195_2⟩:=at_T69 HR0.out x4_1 p1195 q1195
          have hw1195_2:=hx1195_2
          have hw1195_1:=hx1195_1
          have hw1195_0:=hx1195_0
          obtain rfl:ad1193=ad1195:=(by injection e1195)
          replace hx1195_0:=(cb_ HB.out hx1195_0 :)
          replace hx1195_1:=(cb_ HB.out hx1195_1 :)
          replace hx1195_2:=(cb_ HB.out hx1195_2 :)
          replace p1195:=eq_true p1195
          replace q1195:=eq_true q1195
          have p1196:0≤((ji8):Int):=od_
          have q1196:(ji8) < (l0.length:Int):=od_
          obtain ⟨ad1196,e1196,hx1196_0,hx1196_1,hx1196_2⟩:=at_T69 HR0.out (ji8) p1196 q1196
          have hw1196_2:=hx1196_2
          have hw1196_1:=hx1196_1
          have hw1196_0:=hx1196_0
          obtain rfl:ad1193=ad1196:=(by injection e1196)
          replace hx1196_0:=(cb_ HB.out hx1196_0 :)
          replace hx1196_1:=(cb_ HB.out hx1196_1 :)
          replace hx1196_2:=(cb_ HB.out hx1196_2 :)
          replace p1196:=eq_true p1196
          replace q1196:=eq_true q1196
          refine start_ (n:=25) (S:=fun w'=>w'.cell? (ad1193.add ((x4_1).toNat * 3))=some (.int .i64 ((rd_T69 l0 x4_1).f0))∧w'.cell? ⟨(ad1193.add ((x4_1).toNat * 3)).block,(ad1193.add ((x4_1).toNat * 3)).off+1,none⟩=some (.int .i64 ((rd_T69 l0 x4_1).f1))∧w'.cell? ⟨(ad1193.add ((x4_1).toNat * 3)).block,(ad1193.add ((x4_1).toNat * 3)).off+2,none⟩=some (.string ((rd_T69 l0 x4_1).f2))∧w'.cell? (ad1193.add ((x4_1).toNat * 3))=some (.int .i64 ((rd_T69 l0 x4_1).f0))∧w'.cell? ⟨(ad1193.add ((x4_1).toNat * 3)).block,(ad1193.add ((x4_1).toNat * 3)).off+1,none⟩=some (.int .i64 ((rd_T69 l0 x4_1).f1))∧w'.cell? ⟨(ad1193.add ((x4_1).toNat * 3)).block,(ad1193.add ((x4_1).toNat * 3)).off+2,none⟩=some (.string ((rd_T69 l0 x4_1).f2))∧w'.cell? (ad1193.add (((ji8)).toNat * 3))=some (.int .i64 ((rd_T69 l0 (ji8)).f0))∧w'.cell? ⟨(ad1193.add (((ji8)).toNat * 3)).block,(ad1193.add (((ji8)).toNat * 3)).off+1,none⟩=some (.int .i64 ((rd_T69 l0 (ji8)).f1))∧w'.cell? ⟨(ad1193.add (((ji8)).toNat * 3)).block,(ad1193.add (((ji8)).toNat * 3)).off+2,none⟩=some (.string ((rd_T69 l0 (ji8)).f2))) (ds:=[]) #[false,false,false,false,false,false,false,false,false,false,false,false,false,false,false,false,false,false,false,false,false,false,false,false,false] (by kernel_rfl) rfl rfl ⟨((cb_ HB.out hw1193_0 :)),((cb_ HB.out hw1193_1 :)),((cb_ HB.out hw1193_2 :)),((cb_ HB.out hw1195_0 :)),((cb_ HB.out hw1195_1 :)),((cb_ HB.out hw1195_2 :)),((cb_ HB.out hw1196_0 :)),((cb_ HB.out hw1196_1 :)),((cb_ HB.out hw1196_2 :))⟩ (fun hHeld=>?_);refine with_tabW spec_TreeOk.tab5 spec_TreeOk.bits5 (fun HT_ HW_=>?_)
          generalize wr.drew=w11 at HB hx1193_0 hx1193_1 hx1193_2 hx1195_0 hx1195_1 hx1195_2 hx1196_0 hx1196_1 hx1196_2 hHeld ⊢
          refine pa_ 0 12 ?_
          refine pa_ 1 13 ?_
          refine pa_ 2 14 ?_
          refine ta9_ 3 15 hHeld ?_
          refine on_ 4 16 (fun K hK=>?_)
          refine goes_ Tryd.func140 (by kernel_rfl) rfl #[.agg #[.int .i64 ((rd_T69 l0 x4_1).f0),.int .i64 ((rd_T69 l0 x4_1).f1),.string ((rd_T69 l0 x4_1).f2)]] (by rfl) rfl rfl ar_ ?_
          with_reducible refine (spec_RowOk.calls k1 ((rd_T69 l0 x4_1).f0) ((rd_T69 l0 x4_1).f1) ((rd_T69 l0 x4_1).f2) true _ A5.out).mono ?_
          rintro e w12 ⟨rfl,hb⟩
          refine ⟨_,rfl,?_⟩
          replace HB:=a_ (bS_ (bel_) hb)
          try clear hb
          refine hK.out _ _ ⟨((cb_ HB.out hw1193_0 :)),((cb_ HB.out hw1193_1 :)),((cb_ HB.out hw1193_2 :)),((cb_ HB.out hw1195_0 :)),((cb_ HB.out hw1195_1 :)),((cb_ HB.out hw1195_2 :)),((cb_ HB.out hw1196_0 :)),((cb_ HB.out hw1196_1 :)),((cb_ HB.out hw1196_2 :))⟩ (fun hHeld=>?_)
          clear hK K
          refine no_ 16 ?_
          refine pa_ 5 17 ?_
          refine pa_ 6 18 ?_
          refine pa_ 7 19 ?_
          refine pa_ 8 20 ?_
          refine pa_ 9 21 ?_
          refine pa_ 10 22 ?_
          refine pa_ 11 23 ?_
          refine pa_ 12 24 ?_
          refine pa_ 13 25 ?_
          refine pa_ 15 27 ?_
          refine pa_ 16 28 ?_
          refine pa_ 17 29 ?_
          refine pa_ 18 30 ?_
          refine pa_ 19 31 ?_
          refine ta9_ 14 26 hHeld ?_
          refine ta9_ 20 32 hHeld ?_
          refine pa_ 21 33 ?_
          refine pa_ 22 34 ?_
          refine pa_ 23 35 ?_
          refine pa_ 24 36 ?_
          refine done_ (done_of HT_.out (by kernel_rfl)) ?_
          try go_wp2
          go_meet
          case rel=>exact ⟨_,(decide (((rd_T69 l0 x4_1).f1) > (wrap64 (((rd_T69 l0 (ji8)).f1)+1)))),(by first|rfl|(simp;done)|(simp only [←hji8] <;> (first|rfl|simp))|(simp [*];done)),H',⟨by have:=HK1.out;first|omega|exact Nat.le_refl _⟩,⟨bel_⟩⟩
         ·rw [if_neg c10] at H
          exact absurd H (by simp)
        ·rw [if_neg c9] at H
         exact absurd H (by simp)
       ·rw [if_neg c7] at H
        have c7b0:decide (0 < x4_1)=false:=df_ c7
        clear c7
        have H':=a_ H
        clear H
        try go_wp2
        replace HB:=a_ (below_drew1 HB.out)
        have p1193:0≤(x4_1:Int):=od_
        have q1193:x4_1 < (l0.length:Int):=od_
        obtain ⟨ad1193,e1193,hx1193_0,hx1193_1,hx1193_2⟩:=at_T69 HR0.out x4_1 p1193 q1193
        have hw1193_2:=hx1193_2
        have hw1193_1:=hx1193_1
        have hw1193_0:=hx1193_0
        cases e1193
        replace hx1193_0:=(cb_ HB.out hx1193_0 :)
        replace hx1193_1:=(cb_ HB.out hx1193_1 :)
        replace hx1193_2:=(cb_ HB.out hx1193_2 :)
        replace p1193:=eq_true p1193
        replace q1193:=eq_true q1193
        refine start_ (n:=25) (S:=fun w'=>w'.cell? (ad1193.add ((x4_1).toNat * 3))=some (.int .i64 ((rd_T69 l0 x4_1).f0))∧w'.cell? ⟨(ad1193.add ((x4_1).toNat * 3)).block,(ad1193.add ((x4_1).toNat * 3)).off+1,none⟩=some (.int .i64 ((rd_T69 l0 x4_1).f1))∧w'.cell? ⟨(ad1193.add ((x4_1).toNat * 3)).block,(ad1193.add ((x4_1).toNat * 3)).off+2,none⟩=some (.string ((rd_T69 l0 x4_1).f2))) (ds:=[]) #[false,false,false,false,false,false,false,false,false,false,false,false,false,false,false,false,false,false,false,false,false,false,false,false,false] (by kernel_rfl) rfl rfl ⟨((cb_ HB.out hw1193_0 :)),((cb_ HB.out hw1193_1 :)),((cb_ HB.out hw1193_2 :))⟩ (fun hHeld=>?_);refine with_tabW spec_TreeOk.tab5 spec_TreeOk.bits5 (fun HT_ HW_=>?_)
        generalize wr.drew=w13 at HB hx1193_0 hx1193_1 hx1193_2 hHeld ⊢
        refine pa_ 0 12 ?_
        refine pa_ 1 13 ?_
        refine pa_ 2 14 ?_
        refine ta3_ 3 15 hHeld ?_
        refine on_ 4 16 (fun K hK=>?_)
        refine goes_ Tryd.func140 (by kernel_rfl) rfl #[.agg #[.int .i64 ((rd_T69 l0 x4_1).f0),.int .i64 ((rd_T69 l0 x4_1).f1),.string ((rd_T69 l0 x4_1).f2)]] (by rfl) rfl rfl ar_ ?_
        with_reducible refine (spec_RowOk.calls k1 ((rd_T69 l0 x4_1).f0) ((rd_T69 l0 x4_1).f1) ((rd_T69 l0 x4_1).f2) true _ A5.out).mono ?_
        rintro e w14 ⟨rfl,hb⟩
        refine ⟨_,rfl,?_⟩
        replace HB:=a_ (bS_ (bel_) hb)
        try clear hb
        refine hK.out _ _ ⟨((cb_ HB.out hw1193_0 :)),((cb_ HB.out hw1193_1 :)),((cb_ HB.out hw1193_2 :))⟩ (fun hHeld=>?_)
        clear hK K
        refine no_ 16 ?_
        refine pa_ 5 17 ?_
        refine pa_ 6 18 ?_
        refine pa_ 7 19 ?_
        refine pa_ 8 20 ?_
        refine pa_ 9 21 ?_
        refine po_ 10 22 ?_
        refine po_ 11 23 ?_
        refine po_ 12 24 ?_
        refine po_ 13 25 ?_
        refine po_ 14 26 ?_
        refine po_ 15 27 ?_
        refine po_ 16 28 ?_
        refine po_ 17 29 ?_
        refine po_ 18 30 ?_
        refine po_ 19 31 ?_
        refine po_ 20 32 ?_
        refine po_ 21 33 ?_
        refine po_ 22 34 ?_
        refine pa_ 23 35 ?_
        refine pa_ 24 36 ?_
        refine done_ (done_of HT_.out (by kernel_rfl)) ?_
        try go_wp2
        go_meet
        case rel=>exact ⟨_,(false),(si_),H',⟨by have:=HK1.out;first|omega|exact Nat.le_refl _⟩,⟨bel_⟩⟩
      ·replace c6:=Bool.eq_false_iff.mpr c6
       subst c6
       have H1:(spec_TreeOk.j1 k1 l0 x3_1 x4_1 true)=some r:=by rw [if_neg (show ¬ (false=true) by decide)] at H;exact H
       clear H
       have H:=H1
       clear H1
       have H':=a_ H
       clear H
       try go_wp2
       replace HB:=a_ (below_drew1 HB.out)
       have p1193:0≤(x4_1:Int):=od_
       have q1193:x4_1 < (l0.length:Int):=od_
       obtain ⟨ad1193,e1193,hx1193_0,hx1193_1,hx1193_2⟩:=at_T69 HR0.out x4_1 p1193 q1193
       have hw1193_2:=hx1193_2
       have hw1193_1:=hx1193_1
       have hw1193_0:=hx1193_0
       cases e1193
       replace hx1193_0:=(cb_ HB.out hx1193_0 :)
       replace hx1193_1:=(cb_ HB.out hx1193_1 :)
       replace hx1193_2:=(cb_ HB.out hx1193_2 :)
       replace p1193:=eq_true p1193
       replace q1193:=eq_true q1193
       refine start_ (n:=25) (S:=fun w'=>w'.cell? (ad1193.add ((x4_1).toNat * 3))=some (.int .i64 ((rd_T69 l0 x4_1).f0))∧w'.cell? ⟨(ad1193.add ((x4_1).toNat * 3)).block,(ad1193.add ((x4_1).toNat * 3)).off+1,none⟩=some (.int .i64 ((rd_T69 l0 x4_1).f1))∧w'.cell? ⟨(ad1193.add ((x4_1).toNat * 3)).block,(ad1193.add ((x4_1).toNat * 3)).off+2,none⟩=some (.string ((rd_T69 l0 x4_1).f2))) (ds:=[]) #[false,false,false,false,false,false,false,false,false,false,false,false,false,false,false,false,false,false,false,false,false,false,false,false,false] (by kernel_rfl) rfl rfl ⟨((cb_ HB.out hw1193_0 :)),((cb_ HB.out hw1193_1 :)),((cb_ HB.out hw1193_2 :))⟩ (fun hHeld=>?_);refine with_tabW spec_TreeOk.tab5 spec_TreeOk.bits5 (fun HT_ HW_=>?_)
       generalize wr.drew=w15 at HB hx1193_0 hx1193_1 hx1193_2 hHeld ⊢
       refine pa_ 0 12 ?_
       refine pa_ 1 13 ?_
       refine pa_ 2 14 ?_
       refine ta3_ 3 15 hHeld ?_
       refine on_ 4 16 (fun K hK=>?_)
       refine goes_ Tryd.func140 (by kernel_rfl) rfl #[.agg #[.int .i64 ((rd_T69 l0 x4_1).f0),.int .i64 ((rd_T69 l0 x4_1).f1),.string ((rd_T69 l0 x4_1).f2)]] (by rfl) rfl rfl ar_ ?_
       with_reducible refine (spec_RowOk.calls k1 ((rd_T69 l0 x4_1).f0) ((rd_T69 l0 x4_1).f1) ((rd_T69 l0 x4_1).f2) false _ A5.out).mono ?_
       rintro e w16 ⟨rfl,hb⟩
       refine ⟨_,rfl,?_⟩
       replace HB:=a_ (bS_ (bel_) hb)
       try clear hb
       refine hK.out _ _ ⟨((cb_ HB.out hw1193_0 :)),((cb_ HB.out hw1193_1 :)),((cb_ HB.out hw1193_2 :))⟩ (fun hHeld=>?_)
       clear hK K
       refine no_ 16 ?_
       refine pa_ 5 17 ?_
       refine pa_ 6 18 ?_
       refine po_ 7 19 ?_
       refine po_ 8 20 ?_
       refine po_ 9 21 ?_
       refine po_ 10 22 ?_
       refine po_ 11 23 ?_
       refine po_ 12 24 ?_
       refine po_ 13 25 ?_
       refine po_ 14 26 ?_
       refine po_ 15 27 ?_
       refine po_ 16 28 ?_
       refine po_ 17 29 ?_
       refine po_ 18 30 ?_
       refine po_ 19 31 ?_
       refine po_ 20 32 ?_
       refine po_ 21 33 ?_
       refine po_ 22 34 ?_
       refine po_ 23 35 ?_
       refine pa_ 24 36 ?_
       refine done_ (done_of HT_.out (by kernel_rfl)) ?_
       try go_wp2
       go_meet
       case rel=>exact ⟨_,(true),(si_),H',⟨by have:=HK1.out;first|omega|exact Nat.le_refl _⟩,⟨bel_⟩⟩
     ·rw [if_neg c4] at H
      exact absurd H (by simp)
    case rest =>
     clear HC3
     try clear c1
     try clear p1
     try clear q1
     try clear hx1
     try clear p2
     try clear c4
     try clear c6
     try clear p6
     try clear c7
     try clear c7b0
     try clear c9
     try clear c10
     try clear p11
     try clear q11
     try clear hx11
     try clear c14
     try clear hx1193_0
     try clear hx1193_1
     try clear hx1193_2
     try clear hx1195_0
     try clear hx1195_1
     try clear hx1195_2
     try clear hx1196_0
     try clear hx1196_1
     try clear hx1196_2
     try clear p1193
     try clear p1196
     try clear q1193
     try clear q1196
     obtain ⟨kq,x36_2,rfl,HA,HJ2,HB⟩:=hcut
     cases kq with
     | zero=>exact absurd HA.out (by simp [spec_TreeOk.j1])
     | succ kj2 =>
      have H:=HA.out
      clear HA
      simp only [spec_TreeOk.j1] at H
      by_cases c17:x36_2=true
      ·subst c17
       have H1:(some false)=some r:=by rw [if_pos rfl] at H;exact H
       clear H
       have H:=H1
       clear H1
       obtain rfl:=sj_ H
       go_wp2
       go_ret
       exact ⟨fi_,bel_⟩
      ·replace c17:=Bool.eq_false_iff.mpr c17
       subst c17
       have H1:(if 0≤x4_1 then (if x4_1 < (l0.length:Int) then ((spec_l1Root.f ((rd_T69 l0 x4_1).f0)).bind fun t1198=>(if t1198=true then (if ((rd_T69 l0 x4_1).f0)=(wrap64 (x3_1+1)) then (spec_TreeOk.j2 kj2 l0 (wrap64 (x3_1+1)) x4_1) else (some false)) else (spec_TreeOk.j2 kj2 l0 x3_1 x4_1))) else (none)) else (none))=some r:=by rw [if_neg (show ¬ (false=true) by decide)] at H;exact H
       clear H
       have H:=H1
       clear H1
       by_cases c18:0≤x4_1
       ·rw [if_pos c18] at H
        have c18b0:decide (0≤x4_1)=true:=dt_ c18
        clear c18
        by_cases c19:x4_1 < (l0.length:Int)
        ·rw [if_pos c19] at H
         have c19b0:decide (x4_1 < (l0.length:Int))=true:=dt_ c19
         clear c19
         replace H:=bs_ H
         obtain ⟨t1198,A200,H⟩:=H
         try dsimp only at H
         have A20:=a_ A200
         clear A200
         have HC21:=a_ H
         clear H
         have p1197:0≤(x4_1:Int):=od_
         have q1197:x4_1 < (l0.length:Int):=od_
         obtain ⟨ad1197,e1197,hx1197_0,hx1197_1,hx1197_2⟩:=at_T69 HR0.out x4_1 p1197 q1197
         cases e1197
         replace hx1197_0:=(cb_ HB.out hx1197_0 :)
         replace hx1197_1:=(cb_ HB.out hx1197_1 :)
         replace hx1197_2:=(cb_ HB.out hx1197_2 :)
         replace p1197:=eq_true p1197
         replace q1197:=eq_true q1197
         go_upto_if 42 with (first|((with_reducible refine gC_ (f:=141) rfl ?_);refine gl_ 42 Tryd.func141 #[.int .i64 ((rd_T69 l0 x4_1).f0)] ?_;(with_reducible refine (spec_l1Root.calls ((rd_T69 l0 x4_1).f0) t1198 _ A20.out).mono ?_);rintro e w' ⟨rfl,⟨nd,rfl⟩⟩;refine ⟨_,rfl,?_⟩))
         (try simp only [Act.put,List.setIfInBounds_toArray,List.set_cons_zero,List.set_cons_succ])
         go_cut [3] (fun v3 wc=>∃ (kq:Nat) (x3_20:Int),v3=.int .i64 x3_20∧Aside0 (spec_TreeOk.j2 kq l0 x3_20 x4_1=some r)∧Aside0 (kq≤kj2)∧Aside0 (Below w.heap.size w wc))
         case first =>
          have H:=HC21.out
          clear HC21
          by_cases c22:t1198=true
          ·subst c22
           have H1:(if ((rd_T69 l0 x4_1).f0)=(wrap64 (x3_1+1)) then (spec_TreeOk.j2 kj2 l0 (wrap64 (x3_1+1)) x4_1) else (some false))=some r:=by rw [if_pos rfl] at H;exact H
           clear H
           have H:=H1
           clear H1
           by_cases c23:((rd_T69 l0 x4_1).f0)=(wrap64 (x3_1+1))
           ·rw [if_pos c23] at H
            have c23b0:(((rd_T69 l0 x4_1).f0)==(wrap64 (x3_1+1)))=true:=beq_iff_eq.mpr c23
            have c23b1:(((rd_T69 l0 x4_1).f0) != (wrap64 (x3_1+1)))=false:=be_ c23
            clear c23
            (first|rw [c23b0]|(simp only [i64_w,i32_w];rw [c23b0])|skip)
            have H':=a_ H
            clear H
            have p1199:0≤(x4_1:Int):=od_
            have q1199:x4_1 < (l0.length:Int):=od_
            obtain ⟨ad1199,e1199,hx1199_0,hx1199_1,hx1199_2⟩:=at_T69 HR0.out x4_1 p1199 q1199
            obtain rfl:ad1197=ad1199:=(by injection e1199)
            replace hx1199_0:=(cb_ HB.out hx1199_0 :)
            replace hx1199_1:=(cb_ HB.out hx1199_1 :)
            replace hx1199_2:=(cb_ HB.out hx1199_2 :)
            replace p1199:=eq_true p1199
            replace q1199:=eq_true q1199
            go_wp2
            go_meet
            case rel=>exact ⟨_,(wrap64 (x3_1+1)),(si_),H',⟨by have:=HK1.out;have:=HJ2.out;first|omega|exact Nat.le_refl _⟩,⟨bel_⟩⟩
           ·rw [if_neg c23] at H
            have c23b0:(((rd_T69 l0 x4_1).f0)==(wrap64 (x3_1+1)))=false:=bn_ c23
            have c23b1:(((rd_T69 l0 x4_1).f0) != (wrap64 (x3_1+1)))=true:=bne_iff_ne.mpr c23
            (first|rw [c23b0]|(simp only [i64_w,i32_w];rw [c23b0])|skip)
            obtain rfl:=sj_ H
            have p1199:0≤(x4_1:Int):=od_
            have q1199:x4_1 < (l0.length:Int):=od_
            obtain ⟨ad1199,e1199,hx1199_0,hx1199_1,hx1199_2⟩:=at_T69 HR0.out x4_1 p1199 q1199
            obtain rfl:ad1197=ad1199:=(by injection e1199)
            replace hx1199_0:=(cb_ HB.out hx1199_0 :)
            replace hx1199_1:=(cb_ HB.out hx1199_1 :)
            replace hx1199_2:=(cb_ HB.out hx1199_2 :)
            replace p1199:=eq_true p1199
            replace q1199:=eq_true q1199
            go_wp2
            go_ret
            exact ⟨fi_,bel_⟩
          ·replace c22:=Bool.eq_false_iff.mpr c22
           subst c22
           have H1:(spec_TreeOk.j2 kj2 l0 x3_1 x4_1)=some r:=by rw [if_neg (show ¬ (false=true) by decide)] at H;exact H
           clear H
           have H:=H1
           clear H1
           have H':=a_ H
           clear H
           go_wp2
           go_meet
           case rel=>exact ⟨_,(x3_1),(si_),H',⟨by have:=HK1.out;have:=HJ2.out;first|omega|exact Nat.le_refl _⟩,⟨bel_⟩⟩
         case rest =>
          clear HC21
          try clear c1
          try clear p1
          try clear q1
          try clear hx1
          try clear c2
          try clear p2
          try clear c4
          try clear c6
          try clear p6
          try clear c7
          try clear c7b0
          try clear c9
          try clear c10
          try clear p11
          try clear q11
          try clear hx11
          try clear c14
          try clear c17
          try clear c18
          try clear c18b0
          try clear c19
          try clear c19b0
          try clear c22
          try clear c23
          try clear c23b0
          try clear c23b1
          try clear hx1193_0
          try clear hx1193_1
          try clear hx1193_2
          try clear hx1195_0
          try clear hx1195_1
          try clear hx1195_2
          try clear hx1196_0
          try clear hx1196_1
          try clear hx1196_2
          try clear hx1197_0
          try clear hx1197_1
          try clear hx1197_2
          try clear hx1199_0
          try clear hx1199_1
          try clear hx1199_2
          try clear p1
          try clear p11
          try clear p1193
          try clear p1196
          try clear p1197
          try clear p1199
          try clear p2
          try clear p6
          try clear q1
          try clear q11
          try clear q1193
          try clear q1196
          try clear q1197
          try clear q1199
          obtain ⟨kq,x3_20,rfl,HA,HJ20,HB⟩:=hcut
          cases kq with
          | zero=>exact absurd HA.out (by simp [spec_TreeOk.j2])
          | succ kj20 =>
           have H:=HA.out
           clear HA
           simp only [spec_TreeOk.j2] at H
           have H':=a_ H
           clear H
           go_wp2
           go_loopg [5] kj20 (fun kq v5 w'=>∃ (x5_4:Int),v5=.int .i64 x5_4∧Aside0 (spec_TreeOk.l1 kq l0 x3_20 x4_1 x5_4=some r)∧Aside0 (kq≤kj20)∧Aside0 (Below w.heap.size w w'))
           case atStart=>exact ⟨(0),(si_),H',⟨Nat.le_refl _⟩,⟨bel_⟩⟩
           case round =>
            clear H'
            try clear c1
            try clear p1
            try clear q1
            try clear hx1
            try clear c2
            try clear p2
            try clear c4
            try clear c6
            try clear p6
            try clear c7
            try clear c7b0
            try clear c9
            try clear c10
            try clear p11
            try clear q11
            try clear hx11
            try clear c14
            try clear c17
            try clear c18
            try clear c18b0
            try clear c19
            try clear c19b0
            try clear c22
            try clear c23
            try clear c23b0
            try clear c23b1
            try clear hx1193_0
            try clear hx1193_1
            try clear hx1193_2
            try clear hx1195_0
            try clear hx1195_1
            try clear hx1195_2
            try clear hx1196_0
            try clear hx1196_1
            try clear hx1196_2
            try clear hx1197_0
            try clear hx1197_1
            try clear hx1197_2
            try clear hx1199_0
            try clear hx1199_1
            try clear hx1199_2
            try clear p1
            try clear p11
            try clear p1193
            try clear p1196
            try clear p1197
            try clear p1199
            try clear p2
            try clear p6
            try clear q1
            try clear q11
            try clear q1193
            try clear q1196
            try clear q1197
            try clear q1199
            obtain ⟨x5_4,rfl,HA,HK4,HB⟩:=hrel
            cases gk with
            | zero=>exact absurd HA.out (by simp [spec_TreeOk.l1])
            | succ k4 =>
             have H:=HA.out
             clear HA
             simp only [spec_TreeOk.l1] at H
             by_cases c24:x5_4 < x4_1
             ·rw [if_pos c24] at H
              have c24b0:decide (x5_4 < x4_1)=true:=dt_ c24
              clear c24
              by_cases c25:0≤x5_4
              ·rw [if_pos c25] at H
               have c25b0:decide (0≤x5_4)=true:=dt_ c25
               clear c25
               by_cases c26:x5_4 < (l0.length:Int)
               ·rw [if_pos c26] at H
                have c26b0:decide (x5_4 < (l0.length:Int))=true:=dt_ c26
                clear c26
                by_cases c27:0≤x4_1
                ·rw [if_pos c27] at H
                 have c27b0:decide (0≤x4_1)=true:=dt_ c27
                 clear c27
                 by_cases c28:x4_1 < (l0.length:Int)
                 ·rw [if_pos c28] at H
                  have c28b0:decide (x4_1 < (l0.length:Int))=true:=dt_ c28
                  clear c28
                  by_cases c29:((rd_T69 l0 x5_4).f0)=((rd_T69 l0 x4_1).f0)
                  ·rw [if_pos c29] at H
                   have c29b0:(((rd_T69 l0 x5_4).f0)==((rd_T69 l0 x4_1).f0))=true:=beq_iff_eq.mpr c29
                   have c29b1:(((rd_T69 l0 x5_4).f0) != ((rd_T69 l0 x4_1).f0))=false:=be_ c29
                   clear c29
                   obtain rfl:=sj_ H
                   try go_wp2
                   replace HB:=a_ (below_drew1 HB.out)
                   have p1200:0≤(x5_4:Int):=od_
                   have q1200:x5_4 < (l0.length:Int):=od_
                   obtain ⟨ad1200,e1200,hx1200_0,hx1200_1,hx1200_2⟩:=at_T69 HR0.out x5_4 p1200 q1200
                   have hw1200_2:=hx1200_2
                   have hw1200_1:=hx1200_1
                   have hw1200_0:=hx1200_0
                   obtain rfl:ad1197=ad1200:=(by injection e1200)
                   replace hx1200_0:=(cb_ HB.out hx1200_0 :)
                   replace hx1200_1:=(cb_ HB.out hx1200_1 :)
                   replace hx1200_2:=(cb_ HB.out hx1200_2 :)
                   replace p1200:=eq_true p1200
                   replace q1200:=eq_true q1200
                   have p1201:0≤(x4_1:Int):=od_
                   have q1201:x4_1 < (l0.length:Int):=od_
                   obtain ⟨ad1201,e1201,hx1201_0,hx1201_1,hx1201_2⟩:=at_T69 HR0.out x4_1 p1201 q1201
                   have hw1201_2:=hx1201_2
                   have hw1201_1:=hx1201_1
                   have hw1201_0:=hx1201_0
                   obtain rfl:ad1197=ad1201:=(by injection e1201)
                   replace hx1201_0:=(cb_ HB.out hx1201_0 :)
                   replace hx1201_1:=(cb_ HB.out hx1201_1 :)
                   replace hx1201_2:=(cb_ HB.out hx1201_2 :)
                   replace p1201:=eq_true p1201
                   replace q1201:=eq_true q1201
                   refine start_ (n:=11) (S:=fun w'=>w'.cell? (ad1197.add ((x5_4).toNat * 3))=some (.int .i64 ((rd_T69 l0 x5_4).f0))∧w'.cell? ⟨(ad1197.add ((x5_4).toNat * 3)).block,(ad1197.add ((x5_4).toNat * 3)).off+1,none⟩=some (.int .i64 ((rd_T69 l0 x5_4).f1))∧w'.cell? ⟨(ad1197.add ((x5_4).toNat * 3)).block,(ad1197.add ((x5_4).toNat * 3)).off+2,none⟩=some (.string ((rd_T69 l0 x5_4).f2))∧w'.cell? (ad1197.add ((x4_1).toNat * 3))=some (.int .i64 ((rd_T69 l0 x4_1).f0))∧w'.cell? ⟨(ad1197.add ((x4_1).toNat * 3)).block,(ad1197.add ((x4_1).toNat * 3)).off+1,none⟩=some (.int .i64 ((rd_T69 l0 x4_1).f1))∧w'.cell? ⟨(ad1197.add ((x4_1).toNat * 3)).block,(ad1197.add ((x4_1).toNat * 3)).off+2,none⟩=some (.string ((rd_T69 l0 x4_1).f2))) (ds:=[]) #[false,false,false,false,false,false,false,false,false,false,false] (by kernel_rfl) rfl rfl ⟨((cb_ HB.out hw1200_0 :)),((cb_ HB.out hw1200_1 :)),((cb_ HB.out hw1200_2 :)),((cb_ HB.out hw1201_0 :)),((cb_ HB.out hw1201_1 :)),((cb_ HB.out hw1201_2 :))⟩ (fun hHeld=>?_);refine with_tabW spec_TreeOk.tab14 spec_TreeOk.bits14 (fun HT_ HW_=>?_)
                   generalize wr.drew=w30 at HB hx1200_0 hx1200_1 hx1200_2 hx1201_0 hx1201_1 hx1201_2 hHeld ⊢
                   refine pa_ 0 57 ?_
                   refine pa_ 1 58 ?_
                   refine pa_ 2 59 ?_
                   refine pa_ 3 60 ?_
                   refine pa_ 5 62 ?_
                   refine pa_ 6 63 ?_
                   refine pa_ 7 64 ?_
                   refine pa_ 8 65 ?_
                   refine ta6_ 4 61 hHeld ?_
                   refine ta6_ 9 66 hHeld ?_
                   refine pa_ 10 67 ?_
                   refine done_ (done_of HT_.out (by kernel_rfl)) ?_
                   try go_wp2
                   go_ret
                   exact ⟨fi_,bel_⟩
                  ·rw [if_neg c29] at H
                   have c29b0:(((rd_T69 l0 x5_4).f0)==((rd_T69 l0 x4_1).f0))=false:=bn_ c29
                   have c29b1:(((rd_T69 l0 x5_4).f0) != ((rd_T69 l0 x4_1).f0))=true:=bne_iff_ne.mpr c29
                   have H':=a_ H
                   clear H
                   try go_wp2
                   replace HB:=a_ (below_drew1 HB.out)
                   have p1200:0≤(x5_4:Int):=od_
                   have q1200:x5_4 < (l0.length:Int):=od_
                   obtain ⟨ad1200,e1200,hx1200_0,hx1200_1,hx1200_2⟩:=at_T69 HR0.out x5_4 p1200 q1200
                   have hw1200_2:=hx1200_2
                   have hw1200_1:=hx1200_1
                   have hw1200_0:=hx1200_0
                   obtain rfl:ad1197=ad1200:=(by injection e1200)
                   replace hx1200_0:=(cb_ HB.out hx1200_0 :)
                   replace hx1200_1:=(cb_ HB.out hx1200_1 :)
                   replace hx1200_2:=(cb_ HB.out hx1200_2 :)
                   replace p1200:=eq_true p1200
                   replace q1200:=eq_true q1200
                   have p1201:0≤(x4_1:Int):=od_
                   have q1201:x4_1 < (l0.length:Int):=od_
                   obtain ⟨ad1201,e1201,hx1201_0,hx1201_1,hx1201_2⟩:=at_T69 HR0.out x4_1 p1201 q1201
                   have hw1201_2:=hx1201_2
                   have hw1201_1:=hx1201_1
                   have hw1201_0:=hx1201_0
                   obtain rfl:ad1197=ad1201:=(by injection e1201)
                   replace hx1201_0:=(cb_ HB.out hx1201_0 :)
                   replace hx1201_1:=(cb_ HB.out hx1201_1 :)
                   replace hx1201_2:=(cb_ HB.out hx1201_2 :)
                   replace p1201:=eq_true p1201
                   replace q1201:=eq_true q1201
                   refine start_ (n:=11) (S:=fun w'=>w'.cell? (ad1197.add ((x5_4).toNat * 3))=some (.int .i64 ((rd_T69 l0 x5_4).f0))∧w'.cell? ⟨(ad1197.add ((x5_4).toNat * 3)).block,(ad1197.add ((x5_4).toNat * 3)).off+1,none⟩=some (.int .i64 ((rd_T69 l0 x5_4).f1))∧w'.cell? ⟨(ad1197.add ((x5_4).toNat * 3)).block,(ad1197.add ((x5_4).toNat * 3)).off+2,none⟩=some (.string ((rd_T69 l0 x5_4).f2))∧w'.cell? (ad1197.add ((x4_1).toNat * 3))=some (.int .i64 ((rd_T69 l0 x4_1).f0))∧w'.cell? ⟨(ad1197.add ((x4_1).toNat * 3)).block,(ad1197.add ((x4_1).toNat * 3)).off+1,none⟩=some (.int .i64 ((rd_T69 l0 x4_1).f1))∧w'.cell? ⟨(ad1197.add ((x4_1).toNat * 3)).block,(ad1197.add ((x4_1).toNat * 3)).off+2,none⟩=some (.string ((rd_T69 l0 x4_1).f2))) (ds:=[]) #[false,false,false,false,false,false,false,false,false,false,false] (by kernel_rfl) rfl rfl ⟨((cb_ HB.out hw1200_0 :)),((cb_ HB.out hw1200_1 :)),((cb_ HB.out hw1200_2 :)),((cb_ HB.out hw1201_0 :)),((cb_ HB.out hw1201_1 :)),((cb_ HB.out hw1201_2 :))⟩ (fun hHeld=>?_);refine with_tabW spec_TreeOk.tab14 spec_TreeOk.bits14 (fun HT_ HW_=>?_)
                   generalize wr.drew=w31 at HB hx1200_0 hx1200_1 hx1200_2 hx1201_0 hx1201_1 hx1201_2 hHeld ⊢
                   refine pa_ 0 57 ?_
                   refine pa_ 1 58 ?_
                   refine pa_ 2 59 ?_
                   refine pa_ 3 60 ?_
                   refine pa_ 5 62 ?_
                   refine pa_ 6 63 ?_
                   refine pa_ 7 64 ?_
                   refine pa_ 8 65 ?_
                   refine ta6_ 4 61 hHeld ?_
                   refine ta6_ 9 66 hHeld ?_
                   refine pa_ 10 67 ?_
                   refine done_ (done_of HT_.out (by kernel_rfl)) ?_
                   try go_wp2
                   go_roundg k4
                   case measure=>have:=HK1.out;have:=HJ2.out;have:=HJ20.out;have:=HK4.out;omega
                   case rel=>exact ⟨(wrap64 (x5_4+1)),(si_),H',⟨by have:=HK1.out;have:=HJ2.out;have:=HJ20.out;have:=HK4.out;omega⟩,⟨bel_⟩⟩
                 ·rw [if_neg c28] at H
                  exact absurd H (by simp)
                ·rw [if_neg c27] at H
                 exact absurd H (by simp)
               ·rw [if_neg c26] at H
                exact absurd H (by simp)
              ·rw [if_neg c25] at H
               exact absurd H (by simp)
             ·rw [if_neg c24] at H
              have c24b0:decide (x5_4 < x4_1)=false:=df_ c24
              clear c24
              have H':=a_ H
              clear H
              go_wp2
              go_roundg k4
              case measure=>have:=HK1.out;have:=HJ2.out;have:=HJ20.out;have:=HK4.out;omega
              case rel=>exact ⟨(x3_20),(wrap64 (x4_1+1)),(si_),(si_),H',⟨by have:=HK1.out;have:=HJ2.out;have:=HJ20.out;have:=HK4.out;omega⟩,⟨bel_⟩⟩
        ·rw [if_neg c19] at H
         exact absurd H (by simp)
       ·rw [if_neg c18] at H
        exact absurd H (by simp)
   ·rw [if_neg c2] at H
    have c2b0:decide (x4_1 < (l0.length:Int))=false:=df_ c2
    clear c2
    by_cases c32:x3_1=3
    ·rw [if_pos c32] at H
     have c32b0:(x3_1==3)=true:=beq_iff_eq.mpr c32
     have c32b1:(x3_1 != 3)=false:=be_ c32
     clear c32
     by_cases c33:0 < (l0.length:Int)
     ·rw [if_pos c33] at H
      have c33b0:decide (0 < (l0.length:Int))=true:=dt_ c33
      have c33b1:decide (0 < l0.length)=true:=dt_ (by omega)
      clear c33
      obtain rfl:=sj_ H
      have p1192:0≤(0:Int):=(by omega)
      have q1192:0 < (l0.length:Int):=od_
      obtain ⟨ad1192,e1192,hx1192_0,hx1192_1,hx1192_2⟩:=at_T69 HR0.out 0 p1192 q1192
      cases e1192
      have qi1192:(0 < l0.length)=True:=eq_true (by omega)
      (try rw [show ((0:Int)).toNat=0 from rfl] at hx1192_0)
      (try rw [show 0 * 3=0 from rfl] at hx1192_0)
      (try rw [Addr.add_zero'] at hx1192_0)
      (try rw [show ((0:Int)).toNat=0 from rfl] at hx1192_1)
      (try rw [show 0 * 3=0 from rfl] at hx1192_1)
      (try rw [Addr.add_zero'] at hx1192_1)
      (try rw [show ((0:Int)).toNat=0 from rfl] at hx1192_2)
      (try rw [show 0 * 3=0 from rfl] at hx1192_2)
      (try rw [Addr.add_zero'] at hx1192_2)
      replace hx1192_0:=(cb_ HB.out hx1192_0 :)
      replace hx1192_1:=(cb_ HB.out hx1192_1 :)
      replace hx1192_2:=(cb_ HB.out hx1192_2 :)
      replace p1192:=eq_true p1192
      replace q1192:=eq_true q1192
      go_wp2
      go_ret
      exact ⟨fi_,bel_⟩
     ·rw [if_neg c33] at H
      exact absurd H (by simp)
    ·rw [if_neg c32] at H
     have c32b0:(x3_1==3)=false:=bn_ c32
     have c32b1:(x3_1 != 3)=true:=bne_iff_ne.mpr c32
     obtain rfl:=sj_ H
     go_wp2
     go_ret
     exact ⟨fi_,bel_⟩

mutual
def spec_ClientOk.j0:Nat→Bool→Int→Int→List (S69)→List (S44)→Int→Int→Option (Bool)
 | 0,_,_,_,_,_,_,_=>none
 | k+1,x43,x1203000,x1203001,x1203002,x1203003,x1203004,x1203005=>if x43=true then (some false) else (spec_ClientOk.l0 k 0 x1203000 x1203001 x1203002 x1203003 x1203004 x1203005)
def spec_ClientOk.l0:Nat→Int→Int→Int→List (S69)→List (S44)→Int→Int→Option (Bool)
 | 0,_,_,_,_,_,_,_=>none
 | k+1,x3,x1203000,x1203001,x1203002,x1203003,x1203004,x1203005=>if x3 < (x1203003.length:Int) then (if 0≤x3 then ((spec_EntryOk.f k ((rd_T44 x1203003 x3).f0) ((rd_T44 x1203003 x3).f1) ((rd_T44 x1203003 x3).f2.f0) ((rd_T44 x1203003 x3).f2.f1) ((rd_T44 x1203003 x3).f2.f2) ((rd_T44 x1203003 x3).f2.f3) ((rd_T44 x1203003 x3).f2.f4)).bind fun t1210=>(if t1210=true then (if ((rd_T44 x1203003 x3).f0)=x1203000 then (if ((rd_T44 x1203003 x3).f1)=(wrap64 ((wrap64 (x1203004+x3))+1)) then (if ((rd_T44 x1203003 x3).f2.f0)=1 then (if ((rd_T44 x1203003 x3).f2.f1) > (wrap64 ((wrap64 (10 * x1203000))+x1203005)) then (some false) else (spec_ClientOk.l0 k (wrap64 (x3+1)) x1203000 x1203001 x1203002 x1203003 x1203004 x1203005)) else (spec_ClientOk.l0 k (wrap64 (x3+1)) x1203000 x1203001 x1203002 x1203003 x1203004 x1203005)) else (some false)) else (some false)) else (some false))) else (none)) else (some true)
end
def spec_ClientOk.f (k:Nat) (a0_0:Int) (a0_1:Int) (l0_2:List (S69)) (l0_3:List (S44)) (a0_4:Int) (a0_5:Int):Option (Bool):=(spec_l6In.f a0_0 1 3).bind fun t1203=>(if t1203=true then ((spec_l6In.f a0_1 0 40).bind fun t1204=>(if t1204=true then ((spec_TreeOk.f k l0_2).bind fun t1205=>(if t1205=true then ((spec_l6In.f a0_4 0 a0_1).bind fun t1206=>(if t1206=true then (if (wrap64 (a0_4+(l0_3.length:Int))) > 40 then (spec_ClientOk.j0 k true a0_0 a0_1 l0_2 l0_3 a0_4 a0_5) else ((spec_l6In.f a0_5 0 6).bind fun t1207=>(spec_ClientOk.j0 k (!t1207) a0_0 a0_1 l0_2 l0_3 a0_4 a0_5))) else (spec_ClientOk.j0 k true a0_0 a0_1 l0_2 l0_3 a0_4 a0_5))) else (spec_ClientOk.j0 k true a0_0 a0_1 l0_2 l0_3 a0_4 a0_5))) else (spec_ClientOk.j0 k true a0_0 a0_1 l0_2 l0_3 a0_4 a0_5))) else (spec_ClientOk.j0 k true a0_0 a0_1 l0_2 l0_3 a0_4 a0_5))
theorem spec_ClientOk.calls (k:Nat) (a0_0:Int) (a0_1:Int) (A0_2:Option Addr) (c0_2:Nat) (l0_2:List (S69)) (A0_3:Option Addr) (c0_3:Nat) (l0_3:List (S44)) (a0_4:Int) (a0_5:Int) (r:Bool) (w:World) (hr0_2:Kd.C k69 w A0_2 l0_2.length l0_2) (hc0_2:l0_2.length≤c0_2) (hr0_3:Kd.C k44 w A0_3 l0_3.length l0_3) (hc0_3:l0_3.length≤c0_3) (h:spec_ClientOk.f k a0_0 a0_1 l0_2 l0_3 a0_4 a0_5=some r) :
  Calls Tryd.prog 63 #[.agg #[.int .i64 a0_0,.int .i64 a0_1,.slice A0_2 l0_2.length c0_2,.slice A0_3 l0_3.length c0_3,.int .i64 a0_4,.int .i64 a0_5]] w fun e w'=>e=.returned (.bool r)∧Below w.heap.size w w':=by
 have hu77:=Tryd.underlying77
 have hu44:=Tryd.underlying44
 have HR0_2:=a_ hr0_2
 have HC0_2:=a_ hc0_2
 clear hr0_2 hc0_2
 have HR0_3:=a_ hr0_3
 have HC0_3:=a_ hc0_3
 clear hr0_3 hc0_3
 have HB:=a_ (Below.refl w.heap.size w)
 unfold spec_ClientOk.f at h
 have H:=h
 clear h
 have HC2:=a_ H
 clear H
 go_enter Tryd.func63,Tryd.ntmps63
 go_upto_region 1 with (first|((with_reducible refine gD_ (N:=1) rfl ?_);refine bx_ 1 (#[.int .i64 a0_0,.int .i64 a0_1,.slice A0_2 l0_2.length c0_2,.slice A0_3 l0_3.length c0_3,.int .i64 a0_4,.int .i64 a0_5]) 77 ?_;intro gb1202 hg w3 hbox hb;have n0_:=a_ (bS_ (bel_) hb);have n1_:=a_ (hbox);have n2_:=a_ ((by rw [hg];exact (below_size (bel_)):w.heap.size≤gb1202));have n3_:=a_ ((by rw [hg];exact (below_size (bel_)):w.heap.size≤gb1202));clear HB;have HB:=n0_;have BK1202:=n1_;have GW1202:=n2_;have GE1202:=n3_;clear n0_ n1_ n2_ n3_;clear hb hbox hg))
 (try simp only [Act.put,List.setIfInBounds_toArray,List.set_cons_zero,List.set_cons_succ])
 go_cut [43] (fun v43 wc=>∃ (kq:Nat) (x43_1:Bool),v43=.bool x43_1∧Aside0 (spec_ClientOk.j0 kq x43_1 a0_0 a0_1 l0_2 l0_3 a0_4 a0_5=some r)∧Aside0 (kq≤k)∧Aside0 (wc.heap[gb1202]?=some (.cells #[.int .i64 a0_0,.int .i64 a0_1,(.slice A0_2 l0_2.length c0_2),(.slice A0_3 l0_3.length c0_3),.int .i64 a0_4,.int .i64 a0_5] 77 (0,0)))∧Aside0 (Below w.heap.size w wc))
 case first =>
  have H:=HC2.out
  clear HC2
  replace H:=bs_ H
  obtain ⟨t1203,A40,H⟩:=H
  try dsimp only at H
  have A4:=a_ A40
  clear A40
  by_cases c5:t1203=true
  ·subst c5
   have H1:((spec_l6In.f a0_1 0 40).bind fun t1204=>(if t1204=true then ((spec_TreeOk.f k l0_2).bind fun t1205=>(if t1205=true then ((spec_l6In.f a0_4 0 a0_1).bind fun t1206=>(if t1206=true then (if (wrap64 (a0_4+(l0_3.length:Int))) > 40 then (spec_ClientOk.j0 k true a0_0 a0_1 l0_2 l0_3 a0_4 a0_5) else ((spec_l6In.f a0_5 0 6).bind fun t1207=>(spec_ClientOk.j0 k (!t1207) a0_0 a0_1 l0_2 l0_3 a0_4 a0_5))) else (spec_ClientOk.j0 k true a0_0 a0_1 l0_2 l0_3 a0_4 a0_5))) else (spec_ClientOk.j0 k true a0_0 a0_1 l0_2 l0_3 a0_4 a0_5))) else (spec_ClientOk.j0 k true a0_0 a0_1 l0_2 l0_3 a0_4 a0_5)))=some r:=by rw [if_pos rfl] at H;exact H
   clear H
   have H:=H1
   clear H1
   replace H:=bs_ H
   obtain ⟨t1204,A60,H⟩:=H
   try dsimp only at H
   have A6:=a_ A60
   clear A60
   by_cases c7:t1204=true
   ·subst c7
    have H1:((spec_TreeOk.f k l0_2).bind fun t1205=>(if t1205=true then ((spec_l6In.f a0_4 0 a0_1).bind fun t1206=>(if t1206=true then (if (wrap64 (a0_4+(l0_3.length:Int))) > 40 then (spec_ClientOk.j0 k true a0_0 a0_1 l0_2 l0_3 a0_4 a0_5) else ((spec_l6In.f a0_5 0 6).bind fun t1207=>(spec_ClientOk.j0 k (!t1207) a0_0 a0_1 l0_2 l0_3 a0_4 a0_5))) else (spec_ClientOk.j0 k true a0_0 a0_1 l0_2 l0_3 a0_4 a0_5))) else (spec_ClientOk.j0 k true a0_0 a0_1 l0_2 l0_3 a0_4 a0_5)))=some r:=by rw [if_pos rfl] at H;exact H
    clear H
    have H:=H1
    clear H1
    replace H:=bs_ H
    obtain ⟨t1205,A80,H⟩:=H
    try dsimp only at H
    have A8:=a_ A80
    clear A80
    by_cases c9:t1205=true
    ·subst c9
     have H1:((spec_l6In.f a0_4 0 a0_1).bind fun t1206=>(if t1206=true then (if (wrap64 (a0_4+(l0_3.length:Int))) > 40 then (spec_ClientOk.j0 k true a0_0 a0_1 l0_2 l0_3 a0_4 a0_5) else ((spec_l6In.f a0_5 0 6).bind fun t1207=>(spec_ClientOk.j0 k (!t1207) a0_0 a0_1 l0_2 l0_3 a0_4 a0_5))) else (spec_ClientOk.j0 k true a0_0 a0_1 l0_2 l0_3 a0_4 a0_5)))=some r:=by rw [if_pos rfl] at H;exact H
     clear H
     have H:=H1
     clear H1
     replace H:=bs_ H
     obtain ⟨t1206,A100,H⟩:=H
     try dsimp only at H
     have A10:=a_ A100
     clear A100
     by_cases c11:t1206=true
     ·subst c11
      have H1:(if (wrap64 (a0_4+(l0_3.length:Int))) > 40 then (spec_ClientOk.j0 k true a0_0 a0_1 l0_2 l0_3 a0_4 a0_5) else ((spec_l6In.f a0_5 0 6).bind fun t1207=>(spec_ClientOk.j0 k (!t1207) a0_0 a0_1 l0_2 l0_3 a0_4 a0_5)))=some r:=by rw [if_pos rfl] at H;exact H
      clear H
      have H:=H1
      clear H1
      by_cases c12:(wrap64 (a0_4+(l0_3.length:Int))) > 40
      ·rw [if_pos c12] at H
       have c12b0:decide (40 < (wrap64 (a0_4+(l0_3.length:Int))))=true:=dt_ c12
       clear c12
       (first|rw [c12b0]|(simp only [i64_w,i32_w];rw [c12b0])|skip)
       have H':=a_ H
       clear H
       obtain ⟨Z13_0,Z13_1,Z13_2,Z13_3,Z13_4,Z13_5,Y13_0,Y13_1,Y13_2,Y13_3,Y13_4,Y13_5⟩:=op6_ BK1202.out
       go_wp2_with (first|((with_reducible refine gC_ (f:=75) rfl ?_);refine gl_ 7 Tryd.func75 #[.int .i64 a0_0,.int .i64 1,.int .i64 3] ?_;(with_reducible refine (spec_l6In.calls a0_0 1 3 true _ A4.out).mono ?_);rintro e w' ⟨rfl,⟨nd,rfl⟩⟩;refine ⟨_,rfl,?_⟩)|(go_at_call 75;(with_reducible refine (spec_l6In.calls a0_1 0 40 true _ A6.out).mono ?_);rintro e w' ⟨rfl,⟨nd,rfl⟩⟩)|(go_at_call 110;(with_reducible refine (spec_TreeOk.calls k _ _ l0_2 true _ ?side1 ?side2 A8.out).mono ?_);(case side1=>repeat (first|exact (Kd.C_below HR0_2.out (bel_))|(with_reducible refine Kd.C_alloc ?_ _)|(with_reducible refine Kd.C_drewN ?_ _)|(with_reducible refine Kd.C_drew ?_)));(case side2=>exact HC0_2.out);rintro e w14 ⟨rfl,hb⟩;replace HB:=a_ (bS_ (bel_) hb);replace BK1202:=a_ (bb_ BK1202.out hb);(try clear hb);obtain ⟨Z15_0,Z15_1,Z15_2,Z15_3,Z15_4,Z15_5,Y15_0,Y15_1,Y15_2,Y15_3,Y15_4,Y15_5⟩:=op6_ BK1202.out)|(go_at_call 75;(with_reducible refine (spec_l6In.calls a0_4 0 a0_1 true _ A10.out).mono ?_);rintro e w' ⟨rfl,⟨nd,rfl⟩⟩))
       go_meet
       case rel=>exact ⟨_,(true),(si_),H',⟨by first|omega|exact Nat.le_refl _⟩,⟨bp_ BK1202.out⟩,⟨bel_⟩⟩
      ·rw [if_neg c12] at H
       have c12b0:decide (40 < (wrap64 (a0_4+(l0_3.length:Int))))=false:=df_ c12
       clear c12
       (first|rw [c12b0]|(simp only [i64_w,i32_w];rw [c12b0])|skip)
       replace H:=bs_ H
       obtain ⟨t1207,A160,H⟩:=H
       try dsimp only at H
       have A16:=a_ A160
       clear A160
       have H':=a_ H
       clear H
       obtain ⟨Z17_0,Z17_1,Z17_2,Z17_3,Z17_4,Z17_5,Y17_0,Y17_1,Y17_2,Y17_3,Y17_4,Y17_5⟩:=op6_ BK1202.out
       go_wp2_with (first|((with_reducible refine gC_ (f:=75) rfl ?_);refine gl_ 7 Tryd.func75 #[.int .i64 a0_0,.int .i64 1,.int .i64 3] ?_;(with_reducible refine (spec_l6In.calls a0_0 1 3 true _ A4.out).mono ?_);rintro e w' ⟨rfl,⟨nd,rfl⟩⟩;refine ⟨_,rfl,?_⟩)|(go_at_call 75;(with_reducible refine (spec_l6In.calls a0_1 0 40 true _ A6.out).mono ?_);rintro e w' ⟨rfl,⟨nd,rfl⟩⟩)|(go_at_call 110;(with_reducible refine (spec_TreeOk.calls k _ _ l0_2 true _ ?side1 ?side2 A8.out).mono ?_);(case side1=>repeat (first|exact (Kd.C_below HR0_2.out (bel_))|(with_reducible refine Kd.C_alloc ?_ _)|(with_reducible refine Kd.C_drewN ?_ _)|(with_reducible refine Kd.C_drew ?_)));(case side2=>exact HC0_2.out);rintro e w18 ⟨rfl,hb⟩;replace HB:=a_ (bS_ (bel_) hb);replace BK1202:=a_ (bb_ BK1202.out hb);(try clear hb);obtain ⟨Z19_0,Z19_1,Z19_2,Z19_3,Z19_4,Z19_5,Y19_0,Y19_1,Y19_2,Y19_3,Y19_4,Y19_5⟩:=op6_ BK1202.out)|(go_at_call 75;(with_reducible refine (spec_l6In.calls a0_4 0 a0_1 true _ A10.out).mono ?_);rintro e w' ⟨rfl,⟨nd,rfl⟩⟩)|(go_at_call 75;(with_reducible refine (spec_l6In.calls a0_5 0 6 t1207 _ A16.out).mono ?_);rintro e w' ⟨rfl,⟨nd,rfl⟩⟩))
       go_meet
       case rel=>exact ⟨_,(!t1207),(si_),H',⟨by first|omega|exact Nat.le_refl _⟩,⟨bp_ BK1202.out⟩,⟨bel_⟩⟩
     ·replace c11:=Bool.eq_false_iff.mpr c11
      subst c11
      have H1:(spec_ClientOk.j0 k true a0_0 a0_1 l0_2 l0_3 a0_4 a0_5)=some r:=by rw [if_neg (show ¬ (false=true) by decide)] at H;exact H
      clear H
      have H:=H1
      clear H1
      have H':=a_ H
      clear H
      obtain ⟨Z20_0,Z20_1,Z20_2,Z20_3,Z20_4,Z20_5,Y20_0,Y20_1,Y20_2,Y20_3,Y20_4,Y20_5⟩:=op6_ BK1202.out
      go_wp2_with (first|((with_reducible refine gC_ (f:=75) rfl ?_);refine gl_ 7 Tryd.func75 #[.int .i64 a0_0,.int .i64 1,.int .i64 3] ?_;(with_reducible refine (spec_l6In.calls a0_0 1 3 true _ A4.out).mono ?_);rintro e w' ⟨rfl,⟨nd,rfl⟩⟩;refine ⟨_,rfl,?_⟩)|(go_at_call 75;(with_reducible refine (spec_l6In.calls a0_1 0 40 true _ A6.out).mono ?_);rintro e w' ⟨rfl,⟨nd,rfl⟩⟩)|(go_at_call 110;(with_reducible refine (spec_TreeOk.calls k _ _ l0_2 true _ ?side1 ?side2 A8.out).mono ?_);(case side1=>repeat (first|exact (Kd.C_below HR0_2.out (bel_))|(with_reducible refine Kd.C_alloc ?_ _)|(with_reducible refine Kd.C_drewN ?_ _)|(with_reducible refine Kd.C_drew ?_)));(case side2=>exact HC0_2.out);rintro e w21 ⟨rfl,hb⟩;replace HB:=a_ (bS_ (bel_) hb);replace BK1202:=a_ (bb_ BK1202.out hb);(try clear hb);obtain ⟨Z22_0,Z22_1,Z22_2,Z22_3,Z22_4,Z22_5,Y22_0,Y22_1,Y22_2,Y22_3,Y22_4,Y22_5⟩:=op6_ BK1202.out)|(go_at_call 75;(with_reducible refine (spec_l6In.calls a0_4 0 a0_1 false _ A10.out).mono ?_);rintro e w' ⟨rfl,⟨nd,rfl⟩⟩))
      go_meet
      case rel=>exact ⟨_,(true),(si_),H',⟨by first|omega|exact Nat.le_refl _⟩,⟨bp_ BK1202.out⟩,⟨bel_⟩⟩
    ·replace c9:=Bool.eq_false_iff.mpr c9
     subst c9
     have H1:(spec_ClientOk.j0 k true a0_0 a0_1 l0_2 l0_3 a0_4 a0_5)=some r:=by rw [if_neg (show ¬ (false=true) by decide)] at H;exact H
     clear H
     have H:=H1
     clear H1
     have H':=a_ H
     clear H
     obtain ⟨Z23_0,Z23_1,Z23_2,Z23_3,Z23_4,Z23_5,Y23_0,Y23_1,Y23_2,Y23_3,Y23_4,Y23_5⟩:=op6_ BK1202.out
     go_wp2_with (first|((with_reducible refine gC_ (f:=75) rfl ?_);refine gl_ 7 Tryd.func75 #[.int .i64 a0_0,.int .i64 1,.int .i64 3] ?_;(with_reducible refine (spec_l6In.calls a0_0 1 3 true _ A4.out).mono ?_);rintro e w' ⟨rfl,⟨nd,rfl⟩⟩;refine ⟨_,rfl,?_⟩)|(go_at_call 75;(with_reducible refine (spec_l6In.calls a0_1 0 40 true _ A6.out).mono ?_);rintro e w' ⟨rfl,⟨nd,rfl⟩⟩)|(go_at_call 110;(with_reducible refine (spec_TreeOk.calls k _ _ l0_2 false _ ?side1 ?side2 A8.out).mono ?_);(case side1=>repeat (first|exact (Kd.C_below HR0_2.out (bel_))|(with_reducible refine Kd.C_alloc ?_ _)|(with_reducible refine Kd.C_drewN ?_ _)|(with_reducible refine Kd.C_drew ?_)));(case side2=>exact HC0_2.out);rintro e w24 ⟨rfl,hb⟩;replace HB:=a_ (bS_ (bel_) hb);replace BK1202:=a_ (bb_ BK1202.out hb);(try clear hb)))
     go_meet
     case rel=>exact ⟨_,(true),(si_),H',⟨by first|omega|exact Nat.le_refl _⟩,⟨bp_ BK1202.out⟩,⟨bel_⟩⟩
   ·replace c7:=Bool.eq_false_iff.mpr c7
    subst c7
    have H1:(spec_ClientOk.j0 k true a0_0 a0_1 l0_2 l0_3 a0_4 a0_5)=some r:=by rw [if_neg (show ¬ (false=true) by decide)] at H;exact H
    clear H
    have H:=H1
    clear H1
    have H':=a_ H
    clear H
    obtain ⟨Z25_0,Z25_1,Z25_2,Z25_3,Z25_4,Z25_5,Y25_0,Y25_1,Y25_2,Y25_3,Y25_4,Y25_5⟩:=op6_ BK1202.out
    go_wp2_with (first|((with_reducible refine gC_ (f:=75) rfl ?_);refine gl_ 7 Tryd.func75 #[.int .i64 a0_0,.int .i64 1,.int .i64 3] ?_;(with_reducible refine (spec_l6In.calls a0_0 1 3 true _ A4.out).mono ?_);rintro e w' ⟨rfl,⟨nd,rfl⟩⟩;refine ⟨_,rfl,?_⟩)|(go_at_call 75;(with_reducible refine (spec_l6In.calls a0_1 0 40 false _ A6.out).mono ?_);rintro e w' ⟨rfl,⟨nd,rfl⟩⟩))
    go_meet
    case rel=>exact ⟨_,(true),(si_),H',⟨by first|omega|exact Nat.le_refl _⟩,⟨bp_ BK1202.out⟩,⟨bel_⟩⟩
  ·replace c5:=Bool.eq_false_iff.mpr c5
   subst c5
   have H1:(spec_ClientOk.j0 k true a0_0 a0_1 l0_2 l0_3 a0_4 a0_5)=some r:=by rw [if_neg (show ¬ (false=true) by decide)] at H;exact H
   clear H
   have H:=H1
   clear H1
   have H':=a_ H
   clear H
   obtain ⟨Z26_0,Z26_1,Z26_2,Z26_3,Z26_4,Z26_5,Y26_0,Y26_1,Y26_2,Y26_3,Y26_4,Y26_5⟩:=op6_ BK1202.out
   go_wp2_with (first|((with_reducible refine gC_ (f:=75) rfl ?_);refine gl_ 7 Tryd.func75 #[.int .i64 a0_0,.int .i64 1,.int .i64 3] ?_;(with_reducible refine (spec_l6In.calls a0_0 1 3 false _ A4.out).mono ?_);rintro e w' ⟨rfl,⟨nd,rfl⟩⟩;refine ⟨_,rfl,?_⟩))
   go_meet
   case rel=>exact ⟨_,(true),(si_),H',⟨by first|omega|exact Nat.le_refl _⟩,⟨bp_ BK1202.out⟩,⟨bel_⟩⟩
 case rest =>
  clear HC2
  try clear c1
  try clear p2
  try clear c5
  try clear c6
  try clear p6
  try clear c7
  try clear c9
  try clear c11
  try clear c12
  try clear c12b0
  try clear Z13_0 Z13_1 Z13_2 Z13_3 Z13_4 Z13_5 Y13_0 Y13_1 Y13_2 Y13_3 Y13_4 Y13_5
  try clear Z15_0 Z15_1 Z15_2 Z15_3 Z15_4 Z15_5 Y15_0 Y15_1 Y15_2 Y15_3 Y15_4 Y15_5
  try clear Z17_0 Z17_1 Z17_2 Z17_3 Z17_4 Z17_5 Y17_0 Y17_1 Y17_2 Y17_3 Y17_4 Y17_5
  try clear Z19_0 Z19_1 Z19_2 Z19_3 Z19_4 Z19_5 Y19_0 Y19_1 Y19_2 Y19_3 Y19_4 Y19_5
  try clear Z20_0 Z20_1 Z20_2 Z20_3 Z20_4 Z20_5 Y20_0 Y20_1 Y20_2 Y20_3 Y20_4 Y20_5
  try clear Z22_0 Z22_1 Z22_2 Z22_3 Z22_4 Z22_5 Y22_0 Y22_1 Y22_2 Y22_3 Y22_4 Y22_5
  try clear Z23_0 Z23_1 Z23_2 Z23_3 Z23_4 Z23_5 Y23_0 Y23_1 Y23_2 Y23_3 Y23_4 Y23_5
  try clear Z25_0 Z25_1 Z25_2 Z25_3 Z25_4 Z25_5 Y25_0 Y25_1 Y25_2 Y25_3 Y25_4 Y25_5
  try clear Z26_0 Z26_1 Z26_2 Z26_3 Z26_4 Z26_5 Y26_0 Y26_1 Y26_2 Y26_3 Y26_4 Y26_5
  obtain ⟨kq,x43_1,rfl,HA,HJ1,BK1202,HB⟩:=hcut
  cases kq with
  | zero=>exact absurd HA.out (by simp [spec_ClientOk.j0])
  | succ kj1 =>
   have H:=HA.out
   clear HA
   simp only [spec_ClientOk.j0] at H
   by_cases c27:x43_1=true
   ·subst c27
    have H1:(some false)=some r:=by rw [if_pos rfl] at H;exact H
    clear H
    have H:=H1
    clear H1
    obtain rfl:=sj_ H
    go_wp2
    go_ret
    exact ⟨fi_,bel_⟩
   ·replace c27:=Bool.eq_false_iff.mpr c27
    subst c27
    have H1:(spec_ClientOk.l0 kj1 0 a0_0 a0_1 l0_2 l0_3 a0_4 a0_5)=some r:=by rw [if_neg (show ¬ (false=true) by decide)] at H;exact H
    clear H
    have H:=H1
    clear H1
    have H':=a_ H
    clear H
    go_wp2
    go_loopg [3] kj1 (fun kq v3 w'=>∃ (x3_2:Int),v3=.int .i64 x3_2∧Aside0 (spec_ClientOk.l0 kq x3_2 a0_0 a0_1 l0_2 l0_3 a0_4 a0_5=some r)∧Aside0 (kq≤kj1)∧Aside0 (w'.heap[gb1202]?=some (.cells #[.int .i64 a0_0,.int .i64 a0_1,(.slice A0_2 l0_2.length c0_2),(.slice A0_3 l0_3.length c0_3),.int .i64 a0_4,.int .i64 a0_5] 77 (0,0)))∧Aside0 (Below w.heap.size w w'))
    case atStart=>exact ⟨(0),(si_),H',⟨Nat.le_refl _⟩,⟨bp_ BK1202.out⟩,⟨bel_⟩⟩
    case round =>
     clear H'
     try clear c1
     try clear c2
     try clear p2
     try clear c5
     try clear c6
     try clear p6
     try clear c7
     try clear c9
     try clear c11
     try clear c12
     try clear c12b0
     try clear c27
     try clear p2
     try clear p6
     try clear Z13_0 Z13_1 Z13_2 Z13_3 Z13_4 Z13_5 Y13_0 Y13_1 Y13_2 Y13_3 Y13_4 Y13_5
     try clear Z15_0 Z15_1 Z15_2 Z15_3 Z15_4 Z15_5 Y15_0 Y15_1 Y15_2 Y15_3 Y15_4 Y15_5
     try clear Z17_0 Z17_1 Z17_2 Z17_3 Z17_4 Z17_5 Y17_0 Y17_1 Y17_2 Y17_3 Y17_4 Y17_5
     try clear Z19_0 Z19_1 Z19_2 Z19_3 Z19_4 Z19_5 Y19_0 Y19_1 Y19_2 Y19_3 Y19_4 Y19_5
     try clear Z20_0 Z20_1 Z20_2 Z20_3 Z20_4 Z20_5 Y20_0 Y20_1 Y20_2 Y20_3 Y20_4 Y20_5
     try clear Z22_0 Z22_1 Z22_2 Z22_3 Z22_4 Z22_5 Y22_0 Y22_1 Y22_2 Y22_3 Y22_4 Y22_5
     try clear Z23_0 Z23_1 Z23_2 Z23_3 Z23_4 Z23_5 Y23_0 Y23_1 Y23_2 Y23_3 Y23_4 Y23_5
     try clear Z25_0 Z25_1 Z25_2 Z25_3 Z25_4 Z25_5 Y25_0 Y25_1 Y25_2 Y25_3 Y25_4 Y25_5
     try clear Z26_0 Z26_1 Z26_2 Z26_3 Z26_4 Z26_5 Y26_0 Y26_1 Y26_2 Y26_3 Y26_4 Y26_5
     obtain ⟨x3_2,rfl,HA,HK2,BK1202,HB⟩:=hrel
     cases gk with
     | zero=>exact absurd HA.out (by simp [spec_ClientOk.l0])
     | succ k2 =>
      have H:=HA.out
      clear HA
      simp only [spec_ClientOk.l0] at H
      by_cases c28:x3_2 < (l0_3.length:Int)
      ·rw [if_pos c28] at H
       have c28b0:decide (x3_2 < (l0_3.length:Int))=true:=dt_ c28
       clear c28
       by_cases c29:0≤x3_2
       ·rw [if_pos c29] at H
        have c29b0:decide (0≤x3_2)=true:=dt_ c29
        clear c29
        replace H:=bs_ H
        obtain ⟨t1210,A300,H⟩:=H
        try dsimp only at H
        have A30:=a_ A300
        clear A300
        by_cases c31:t1210=true
        ·subst c31
         have H1:(if ((rd_T44 l0_3 x3_2).f0)=a0_0 then (if ((rd_T44 l0_3 x3_2).f1)=(wrap64 ((wrap64 (a0_4+x3_2))+1)) then (if ((rd_T44 l0_3 x3_2).f2.f0)=1 then (if ((rd_T44 l0_3 x3_2).f2.f1) > (wrap64 ((wrap64 (10 * a0_0))+a0_5)) then (some false) else (spec_ClientOk.l0 k2 (wrap64 (x3_2+1)) a0_0 a0_1 l0_2 l0_3 a0_4 a0_5)) else (spec_ClientOk.l0 k2 (wrap64 (x3_2+1)) a0_0 a0_1 l0_2 l0_3 a0_4 a0_5)) else (some false)) else (some false))=some r:=by rw [if_pos rfl] at H;exact H
         clear H
         have H:=H1
         clear H1
         by_cases c32:((rd_T44 l0_3 x3_2).f0)=a0_0
         ·rw [if_pos c32] at H
          have c32b0:(((rd_T44 l0_3 x3_2).f0)==a0_0)=true:=beq_iff_eq.mpr c32
          have c32b1:(((rd_T44 l0_3 x3_2).f0) != a0_0)=false:=be_ c32
          clear c32
          by_cases c33:((rd_T44 l0_3 x3_2).f1)=(wrap64 ((wrap64 (a0_4+x3_2))+1))
          ·rw [if_pos c33] at H
           have c33b0:(((rd_T44 l0_3 x3_2).f1)==(wrap64 ((wrap64 (a0_4+x3_2))+1)))=true:=beq_iff_eq.mpr c33
           have c33b1:(((rd_T44 l0_3 x3_2).f1) != (wrap64 ((wrap64 (a0_4+x3_2))+1)))=false:=be_ c33
           clear c33
           by_cases c34:((rd_T44 l0_3 x3_2).f2.f0)=1
           ·rw [if_pos c34] at H
            have c34b0:(((rd_T44 l0_3 x3_2).f2.f0)==1)=true:=beq_iff_eq.mpr c34
            have c34b1:(((rd_T44 l0_3 x3_2).f2.f0) != 1)=false:=be_ c34
            clear c34
            by_cases c35:((rd_T44 l0_3 x3_2).f2.f1) > (wrap64 ((wrap64 (10 * a0_0))+a0_5))
            ·rw [if_pos c35] at H
             have c35b0:decide ((wrap64 ((wrap64 (10 * a0_0))+a0_5)) < ((rd_T44 l0_3 x3_2).f2.f1))=true:=dt_ c35
             clear c35
             obtain rfl:=sj_ H
             obtain ⟨Z36_0,Z36_1,Z36_2,Z36_3,Z36_4,Z36_5,Y36_0,Y36_1,Y36_2,Y36_3,Y36_4,Y36_5⟩:=op6_ (W:=wr) BK1202.out
             have p1208:0≤(x3_2:Int):=od_
             have q1208:x3_2 < (l0_3.length:Int):=od_
             obtain ⟨ad1208,e1208,hx1208_0,hx1208_1,hx1208_2,hx1208_3,hx1208_4,hx1208_5,hx1208_6⟩:=at_T44 HR0_3.out x3_2 p1208 q1208
             cases e1208
             replace hx1208_0:=(cb_ HB.out hx1208_0 :)
             replace hx1208_1:=(cb_ HB.out hx1208_1 :)
             replace hx1208_2:=(cb_ HB.out hx1208_2 :)
             replace hx1208_3:=(cb_ HB.out hx1208_3 :)
             replace hx1208_4:=(cb_ HB.out hx1208_4 :)
             replace hx1208_5:=(cb_ HB.out hx1208_5 :)
             replace hx1208_6:=(cb_ HB.out hx1208_6 :)
             replace p1208:=eq_true p1208
             replace q1208:=eq_true q1208
             go_wp2_with (first|((with_reducible refine gD_ (N:=4) rfl ?_);refine bx_ 4 (#[.int .i64 0,.int .i64 0,.int .i64 0,.int .i64 0,.int .i64 0,.int .i64 0,.string (⟨#[]⟩:ByteArray)]) 44 ?_;intro gb1209 hg w37 hbox hb;have n0_:=a_ (bb_ BK1202.out hb);have n1_:=a_ (bS_ (bel_) hb);have n2_:=a_ (hbox);have n3_:=a_ ((by rw [hg];exact (below_size (bel_)):w.heap.size≤gb1209));have n4_:=a_ ((by rw [hg];exact (below_size (bel_)):w.heap.size≤gb1209));have n5_:=a_ ((by rw [hg];exact Nat.ne_of_lt (blk_lt (g:=gb1202) (o:=.cells #[.int .i64 a0_0,.int .i64 a0_1,.slice A0_2 l0_2.length c0_2,.slice (some ad1208) l0_3.length c0_3,.int .i64 a0_4,.int .i64 a0_5] 77 (0,0)) (bp_ BK1202.out)):gb1202≠gb1209));have n6_:=a_ ((by rw [hg];exact Nat.ne_of_gt (blk_lt (g:=gb1202) (o:=.cells #[.int .i64 a0_0,.int .i64 a0_1,.slice A0_2 l0_2.length c0_2,.slice (some ad1208) l0_3.length c0_3,.int .i64 a0_4,.int .i64 a0_5] 77 (0,0)) (bp_ BK1202.out)):gb1209≠gb1202));clear BK1202;clear HB;have BK1202:=n0_;have HB:=n1_;have BK1209:=n2_;have GW1209:=n3_;have GE1209:=n4_;have NB1202_1209:=n5_;have NB1209_1202:=n6_;clear n0_ n1_ n2_ n3_ n4_ n5_ n6_;clear hb hbox hg;have hnb38:=NB1209_1202.out;have hnc38:=NB1202_1209.out;obtain ⟨Z39_0,Z39_1,Z39_2,Z39_3,Z39_4,Z39_5,Z39_6,Y39_0,Y39_1,Y39_2,Y39_3,Y39_4,Y39_5,Y39_6⟩:=op7_ BK1209.out)|((with_reducible refine gC_ (f:=30) rfl ?_);refine gl_ 57 Tryd.func30 #[.agg #[.int .i64 ((rd_T44 l0_3 x3_2).f0),.int .i64 ((rd_T44 l0_3 x3_2).f1),.int .i64 ((rd_T44 l0_3 x3_2).f2.f0),.int .i64 ((rd_T44 l0_3 x3_2).f2.f1),.int .i64 ((rd_T44 l0_3 x3_2).f2.f2),.int .i64 ((rd_T44 l0_3 x3_2).f2.f3),.string ((rd_T44 l0_3 x3_2).f2.f4)]] ?_;(with_reducible refine (spec_EntryOk.calls k2 ((rd_T44 l0_3 x3_2).f0) ((rd_T44 l0_3 x3_2).f1) ((rd_T44 l0_3 x3_2).f2.f0) ((rd_T44 l0_3 x3_2).f2.f1) ((rd_T44 l0_3 x3_2).f2.f2) ((rd_T44 l0_3 x3_2).f2.f3) ((rd_T44 l0_3 x3_2).f2.f4) true _ A30.out).mono ?_);rintro e w40 ⟨rfl,hb⟩;refine ⟨_,rfl,?_⟩;have n0_:=a_ (blk_below (g:=gb1202) (o:=.cells #[.int .i64 a0_0,.int .i64 a0_1,.slice A0_2 l0_2.length c0_2,.slice (some ad1208) l0_3.length c0_3,.int .i64 a0_4,.int .i64 a0_5] 77 (0,0)) (fp1_ NB1202_1209.out BK1202.out) hb);have n1_:=a_ (blk_below (g:=gb1209) (o:=.cells #[.int .i64 ((rd_T44 l0_3 x3_2).f0),.int .i64 ((rd_T44 l0_3 x3_2).f1),.int .i64 ((rd_T44 l0_3 x3_2).f2.f0),.int .i64 ((rd_T44 l0_3 x3_2).f2.f1),.int .i64 ((rd_T44 l0_3 x3_2).f2.f2),.int .i64 ((rd_T44 l0_3 x3_2).f2.f3),.string ((rd_T44 l0_3 x3_2).f2.f4)] 44 (0,0)) (k7p_ BK1209.out) hb);have n2_:=a_ (bS_ (bel_) hb);clear BK1202;clear BK1209;clear HB;have BK1202:=n0_;have BK1209:=n1_;have HB:=n2_;clear n0_ n1_ n2_;(try clear hb);obtain ⟨Z41_0,Z41_1,Z41_2,Z41_3,Z41_4,Z41_5,Z41_6,Y41_0,Y41_1,Y41_2,Y41_3,Y41_4,Y41_5,Y41_6⟩:=op7_ BK1209.out;obtain ⟨Z42_0,Z42_1,Z42_2,Z42_3,Z42_4,Z42_5,Y42_0,Y42_1,Y42_2,Y42_3,Y42_4,Y42_5⟩:=op6_ BK1202.out))
             go_ret
             exact ⟨fi_,bel_⟩
            ·rw [if_neg c35] at H
             have c35b0:decide ((wrap64 ((wrap64 (10 * a0_0))+a0_5)) < ((rd_T44 l0_3 x3_2).f2.f1))=false:=df_ c35
             clear c35
             have H':=a_ H
             clear H
             obtain ⟨Z43_0,Z43_1,Z43_2,Z43_3,Z43_4,Z43_5,Y43_0,Y43_1,Y43_2,Y43_3,Y43_4,Y43_5⟩:=op6_ (W:=wr) BK1202.out
             have p1208:0≤(x3_2:Int):=od_
             have q1208:x3_2 < (l0_3.length:Int):=od_
             obtain ⟨ad1208,e1208,hx1208_0,hx1208_1,hx1208_2,hx1208_3,hx1208_4,hx1208_5,hx1208_6⟩:=at_T44 HR0_3.out x3_2 p1208 q1208
             cases e1208
             replace hx1208_0:=(cb_ HB.out hx1208_0 :)
             replace hx1208_1:=(cb_ HB.out hx1208_1 :)
             replace hx1208_2:=(cb_ HB.out hx1208_2 :)
             replace hx1208_3:=(cb_ HB.out hx1208_3 :)
             replace hx1208_4:=(cb_ HB.out hx1208_4 :)
             replace hx1208_5:=(cb_ HB.out hx1208_5 :)
             replace hx1208_6:=(cb_ HB.out hx1208_6 :)
             replace p1208:=eq_true p1208
             replace q1208:=eq_true q1208
             go_wp2_with (first|((with_reducible refine gD_ (N:=4) rfl ?_);refine bx_ 4 (#[.int .i64 0,.int .i64 0,.int .i64 0,.int .i64 0,.int .i64 0,.int .i64 0,.string (⟨#[]⟩:ByteArray)]) 44 ?_;intro gb1209 hg w44 hbox hb;have n0_:=a_ (bb_ BK1202.out hb);have n1_:=a_ (bS_ (bel_) hb);have n2_:=a_ (hbox);have n3_:=a_ ((by rw [hg];exact (below_size (bel_)):w.heap.size≤gb1209));have n4_:=a_ ((by rw [hg];exact (below_size (bel_)):w.heap.size≤gb1209));have n5_:=a_ ((by rw [hg];exact Nat.ne_of_lt (blk_lt (g:=gb1202) (o:=.cells #[.int .i64 a0_0,.int .i64 a0_1,.slice A0_2 l0_2.length c0_2,.slice (some ad1208) l0_3.length c0_3,.int .i64 a0_4,.int .i64 a0_5] 77 (0,0)) (bp_ BK1202.out)):gb1202≠gb1209));have n6_:=a_ ((by rw [hg];exact Nat.ne_of_gt (blk_lt (g:=gb1202) (o:=.cells #[.int .i64 a0_0,.int .i64 a0_1,.slice A0_2 l0_2.length c0_2,.slice (some ad1208) l0_3.length c0_3,.int .i64 a0_4,.int .i64 a0_5] 77 (0,0)) (bp_ BK1202.out)):gb1209≠gb1202));clear BK1202;clear HB;have BK1202:=n0_;have HB:=n1_;have BK1209:=n2_;have GW1209:=n3_;have GE1209:=n4_;have NB1202_1209:=n5_;have NB1209_1202:=n6_;clear n0_ n1_ n2_ n3_ n4_ n5_ n6_;clear hb hbox hg;have hnb45:=NB1209_1202.out;have hnc45:=NB1202_1209.out;obtain ⟨Z46_0,Z46_1,Z46_2,Z46_3,Z46_4,Z46_5,Z46_6,Y46_0,Y46_1,Y46_2,Y46_3,Y46_4,Y46_5,Y46_6⟩:=op7_ BK1209.out)|((with_reducible refine gC_ (f:=30) rfl ?_);refine gl_ 57 Tryd.func30 #[.agg #[.int .i64 ((rd_T44 l0_3 x3_2).f0),.int .i64 ((rd_T44 l0_3 x3_2).f1),.int .i64 ((rd_T44 l0_3 x3_2).f2.f0),.int .i64 ((rd_T44 l0_3 x3_2).f2.f1),.int .i64 ((rd_T44 l0_3 x3_2).f2.f2),.int .i64 ((rd_T44 l0_3 x3_2).f2.f3),.string ((rd_T44 l0_3 x3_2).f2.f4)]] ?_;(with_reducible refine (spec_EntryOk.calls k2 ((rd_T44 l0_3 x3_2).f0) ((rd_T44 l0_3 x3_2).f1) ((rd_T44 l0_3 x3_2).f2.f0) ((rd_T44 l0_3 x3_2).f2.f1) ((rd_T44 l0_3 x3_2).f2.f2) ((rd_T44 l0_3 x3_2).f2.f3) ((rd_T44 l0_3 x3_2).f2.f4) true _ A30.out).mono ?_);rintro e w47 ⟨rfl,hb⟩;refine ⟨_,rfl,?_⟩;have n0_:=a_ (blk_below (g:=gb1202) (o:=.cells #[.int .i64 a0_0,.int .i64 a0_1,.slice A0_2 l0_2.length c0_2,.slice (some ad1208) l0_3.length c0_3,.int .i64 a0_4,.int .i64 a0_5] 77 (0,0)) (fp1_ NB1202_1209.out BK1202.out) hb);have n1_:=a_ (blk_below (g:=gb1209) (o:=.cells #[.int .i64 ((rd_T44 l0_3 x3_2).f0),.int .i64 ((rd_T44 l0_3 x3_2).f1),.int .i64 ((rd_T44 l0_3 x3_2).f2.f0),.int .i64 ((rd_T44 l0_3 x3_2).f2.f1),.int .i64 ((rd_T44 l0_3 x3_2).f2.f2),.int .i64 ((rd_T44 l0_3 x3_2).f2.f3),.string ((rd_T44 l0_3 x3_2).f2.f4)] 44 (0,0)) (k7p_ BK1209.out) hb);have n2_:=a_ (bS_ (bel_) hb);clear BK1202;clear BK1209;clear HB;have BK1202:=n0_;have BK1209:=n1_;have HB:=n2_;clear n0_ n1_ n2_;(try clear hb);obtain ⟨Z48_0,Z48_1,Z48_2,Z48_3,Z48_4,Z48_5,Z48_6,Y48_0,Y48_1,Y48_2,Y48_3,Y48_4,Y48_5,Y48_6⟩:=op7_ BK1209.out;obtain ⟨Z49_0,Z49_1,Z49_2,Z49_3,Z49_4,Z49_5,Y49_0,Y49_1,Y49_2,Y49_3,Y49_4,Y49_5⟩:=op6_ BK1202.out))
             go_roundg k2
             case measure=>have:=HJ1.out;have:=HK2.out;omega
             case rel=>exact ⟨(wrap64 (x3_2+1)),(si_),H',⟨by have:=HJ1.out;have:=HK2.out;omega⟩,⟨bp_ BK1202.out⟩,⟨bel_⟩⟩
           ·rw [if_neg c34] at H
            have c34b0:(((rd_T44 l0_3 x3_2).f2.f0)==1)=false:=bn_ c34
            have c34b1:(((rd_T44 l0_3 x3_2).f2.f0) != 1)=true:=bne_iff_ne.mpr c34
            have H':=a_ H
            clear H
            obtain ⟨Z50_0,Z50_1,Z50_2,Z50_3,Z50_4,Z50_5,Y50_0,Y50_1,Y50_2,Y50_3,Y50_4,Y50_5⟩:=op6_ (W:=wr) BK1202.out
            have p1208:0≤(x3_2:Int):=od_
            have q1208:x3_2 < (l0_3.length:Int):=od_
            obtain ⟨ad1208,e1208,hx1208_0,hx1208_1,hx1208_2,hx1208_3,hx1208_4,hx1208_5,hx1208_6⟩:=at_T44 HR0_3.out x3_2 p1208 q1208
            cases e1208
            replace hx1208_0:=(cb_ HB.out hx1208_0 :)
            replace hx1208_1:=(cb_ HB.out hx1208_1 :)
            replace hx1208_2:=(cb_ HB.out hx1208_2 :)
            replace hx1208_3:=(cb_ HB.out hx1208_3 :)
            replace hx1208_4:=(cb_ HB.out hx1208_4 :)
            replace hx1208_5:=(cb_ HB.out hx1208_5 :)
            replace hx1208_6:=(cb_ HB.out hx1208_6 :)
            replace p1208:=eq_true p1208
            replace q1208:=eq_true q1208
            go_wp2_with (first|((with_reducible refine gD_ (N:=4) rfl ?_);refine bx_ 4 (#[.int .i64 0,.int .i64 0,.int .i64 0,.int .i64 0,.int .i64 0,.int .i64 0,.string (⟨#[]⟩:ByteArray)]) 44 ?_;intro gb1209 hg w51 hbox hb;have n0_:=a_ (bb_ BK1202.out hb);have n1_:=a_ (bS_ (bel_) hb);have n2_:=a_ (hbox);have n3_:=a_ ((by rw [hg];exact (below_size (bel_)):w.heap.size≤gb1209));have n4_:=a_ ((by rw [hg];exact (below_size (bel_)):w.heap.size≤gb1209));have n5_:=a_ ((by rw [hg];exact Nat.ne_of_lt (blk_lt (g:=gb1202) (o:=.cells #[.int .i64 a0_0,.int .i64 a0_1,.slice A0_2 l0_2.length c0_2,.slice (some ad1208) l0_3.length c0_3,.int .i64 a0_4,.int .i64 a0_5] 77 (0,0)) (bp_ BK1202.out)):gb1202≠gb1209));have n6_:=a_ ((by rw [hg];exact Nat.ne_of_gt (blk_lt (g:=gb1202) (o:=.cells #[.int .i64 a0_0,.int .i64 a0_1,.slice A0_2 l0_2.length c0_2,.slice (some ad1208) l0_3.length c0_3,.int .i64 a0_4,.int .i64 a0_5] 77 (0,0)) (bp_ BK1202.out)):gb1209≠gb1202));clear BK1202;clear HB;have BK1202:=n0_;have HB:=n1_;have BK1209:=n2_;have GW1209:=n3_;have GE1209:=n4_;have NB1202_1209:=n5_;have NB1209_1202:=n6_;clear n0_ n1_ n2_ n3_ n4_ n5_ n6_;clear hb hbox hg;have hnb52:=NB1209_1202.out;have hnc52:=NB1202_1209.out;obtain ⟨Z53_0,Z53_1,Z53_2,Z53_3,Z53_4,Z53_5,Z53_6,Y53_0,Y53_1,Y53_2,Y53_3,Y53_4,Y53_5,Y53_6⟩:=op7_ BK1209.out)|((with_reducible refine gC_ (f:=30) rfl ?_);refine gl_ 57 Tryd.func30 #[.agg #[.int .i64 ((rd_T44 l0_3 x3_2).f0),.int .i64 ((rd_T44 l0_3 x3_2).f1),.int .i64 ((rd_T44 l0_3 x3_2).f2.f0),.int .i64 ((rd_T44 l0_3 x3_2).f2.f1),.int .i64 ((rd_T44 l0_3 x3_2).f2.f2),.int .i64 ((rd_T44 l0_3 x3_2).f2.f3),.string ((rd_T44 l0_3 x3_2).f2.f4)]] ?_;(with_reducible refine (spec_EntryOk.calls k2 ((rd_T44 l0_3 x3_2).f0) ((rd_T44 l0_3 x3_2).f1) ((rd_T44 l0_3 x3_2).f2.f0) ((rd_T44 l0_3 x3_2).f2.f1) ((rd_T44 l0_3 x3_2).f2.f2) ((rd_T44 l0_3 x3_2).f2.f3) ((rd_T44 l0_3 x3_2).f2.f4) true _ A30.out).mono ?_);rintro e w54 ⟨rfl,hb⟩;refine ⟨_,rfl,?_⟩;have n0_:=a_ (blk_below (g:=gb1202) (o:=.cells #[.int .i64 a0_0,.int .i64 a0_1,.slice A0_2 l0_2.length c0_2,.slice (some ad1208) l0_3.length c0_3,.int .i64 a0_4,.int .i64 a0_5] 77 (0,0)) (fp1_ NB1202_1209.out BK1202.out) hb);have n1_:=a_ (blk_below (g:=gb1209) (o:=.cells #[.int .i64 ((rd_T44 l0_3 x3_2).f0),.int .i64 ((rd_T44 l0_3 x3_2).f1),.int .i64 ((rd_T44 l0_3 x3_2).f2.f0),.int .i64 ((rd_T44 l0_3 x3_2).f2.f1),.int .i64 ((rd_T44 l0_3 x3_2).f2.f2),.int .i64 ((rd_T44 l0_3 x3_2).f2.f3),.string ((rd_T44 l0_3 x3_2).f2.f4)] 44 (0,0)) (k7p_ BK1209.out) hb);have n2_:=a_ (bS_ (bel_) hb);clear BK1202;clear BK1209;clear HB;have BK1202:=n0_;have BK1209:=n1_;have HB:=n2_;clear n0_ n1_ n2_;(try clear hb);obtain ⟨Z55_0,Z55_1,Z55_2,Z55_3,Z55_4,Z55_5,Z55_6,Y55_0,Y55_1,Y55_2,Y55_3,Y55_4,Y55_5,Y55_6⟩:=op7_ BK1209.out;obtain ⟨Z56_0,Z56_1,Z56_2,Z56_3,Z56_4,Z56_5,Y56_0,Y56_1,Y56_2,Y56_3,Y56_4,Y56_5⟩:=op6_ BK1202.out))
            go_roundg k2
            case measure=>have:=HJ1.out;have:=HK2.out;omega
            case rel=>exact ⟨(wrap64 (x3_2+1)),(si_),H',⟨by have:=HJ1.out;have:=HK2.out;omega⟩,⟨bp_ BK1202.out⟩,⟨bel_⟩⟩
          ·rw [if_neg c33] at H
           have c33b0:(((rd_T44 l0_3 x3_2).f1)==(wrap64 ((wrap64 (a0_4+x3_2))+1)))=false:=bn_ c33
           have c33b1:(((rd_T44 l0_3 x3_2).f1) != (wrap64 ((wrap64 (a0_4+x3_2))+1)))=true:=bne_iff_ne.mpr c33
           obtain rfl:=sj_ H
           obtain ⟨Z57_0,Z57_1,Z57_2,Z57_3,Z57_4,Z57_5,Y57_0,Y57_1,Y57_2,Y57_3,Y57_4,Y57_5⟩:=op6_ (W:=wr) BK1202.out
           have p1208:0≤(x3_2:Int):=od_
           have q1208:x3_2 < (l0_3.length:Int):=od_
           obtain ⟨ad1208,e1208,hx1208_0,hx1208_1,hx1208_2,hx1208_3,hx1208_4,hx1208_5,hx1208_6⟩:=at_T44 HR0_3.out x3_2 p1208 q1208
           cases e1208
           replace hx1208_0:=(cb_ HB.out hx1208_0 :)
           replace hx1208_1:=(cb_ HB.out hx1208_1 :)
           replace hx1208_2:=(cb_ HB.out hx1208_2 :)
           replace hx1208_3:=(cb_ HB.out hx1208_3 :)
           replace hx1208_4:=(cb_ HB.out hx1208_4 :)
           replace hx1208_5:=(cb_ HB.out hx1208_5 :)
           replace hx1208_6:=(cb_ HB.out hx1208_6 :)
           replace p1208:=eq_true p1208
           replace q1208:=eq_true q1208
           go_wp2_with (first|((with_reducible refine gD_ (N:=4) rfl ?_);refine bx_ 4 (#[.int .i64 0,.int .i64 0,.int .i64 0,.int .i64 0,.int .i64 0,.int .i64 0,.string (⟨#[]⟩:ByteArray)]) 44 ?_;intro gb1209 hg w58 hbox hb;have n0_:=a_ (bb_ BK1202.out hb);have n1_:=a_ (bS_ (bel_) hb);have n2_:=a_ (hbox);have n3_:=a_ ((by rw [hg];exact (below_size (bel_)):w.heap.size≤gb1209));have n4_:=a_ ((by rw [hg];exact (below_size (bel_)):w.heap.size≤gb1209));have n5_:=a_ ((by rw [hg];exact Nat.ne_of_lt (blk_lt (g:=gb1202) (o:=.cells #[.int .i64 a0_0,.int .i64 a0_1,.slice A0_2 l0_2.length c0_2,.slice (some ad1208) l0_3.length c0_3,.int .i64 a0_4,.int .i64 a0_5] 77 (0,0)) (bp_ BK1202.out)):gb1202≠gb1209));have n6_:=a_ ((by rw [hg];exact Nat.ne_of_gt (blk_lt (g:=gb1202) (o:=.cells #[.int .i64 a0_0,.int .i64 a0_1,.slice A0_2 l0_2.length c0_2,.slice (some ad1208) l0_3.length c0_3,.int .i64 a0_4,.int .i64 a0_5] 77 (0,0)) (bp_ BK1202.out)):gb1209≠gb1202));clear BK1202;clear HB;have BK1202:=n0_;have HB:=n1_;have BK1209:=n2_;have GW1209:=n3_;have GE1209:=n4_;have NB1202_1209:=n5_;have NB1209_1202:=n6_;clear n0_ n1_ n2_ n3_ n4_ n5_ n6_;clear hb hbox hg;have hnb59:=NB1209_1202.out;have hnc59:=NB1202_1209.out;obtain ⟨Z60_0,Z60_1,Z60_2,Z60_3,Z60_4,Z60_5,Z60_6,Y60_0,Y60_1,Y60_2,Y60_3,Y60_4,Y60_5,Y60_6⟩:=op7_ BK1209.out)|((with_reducible refine gC_ (f:=30) rfl ?_);refine gl_ 57 Tryd.func30 #[.agg #[.int .i64 ((rd_T44 l0_3 x3_2).f0),.int .i64 ((rd_T44 l0_3 x3_2).f1),.int .i64 ((rd_T44 l0_3 x3_2).f2.f0),.int .i64 ((rd_T44 l0_3 x3_2).f2.f1),.int .i64 ((rd_T44 l0_3 x3_2).f2.f2),.int .i64 ((rd_T44 l0_3 x3_2).f2.f3),.string ((rd_T44 l0_3 x3_2).f2.f4)]] ?_;(with_reducible refine (spec_EntryOk.calls k2 ((rd_T44 l0_3 x3_2).f0) ((rd_T44 l0_3 x3_2).f1) ((rd_T44 l0_3 x3_2).f2.f0) ((rd_T44 l0_3 x3_2).f2.f1) ((rd_T44 l0_3 x3_2).f2.f2) ((rd_T44 l0_3 x3_2).f2.f3) ((rd_T44 l0_3 x3_2).f2.f4) true _ A30.out).mono ?_);rintro e w61 ⟨rfl,hb⟩;refine ⟨_,rfl,?_⟩;have n0_:=a_ (blk_below (g:=gb1202) (o:=.cells #[.int .i64 a0_0,.int .i64 a0_1,.slice A0_2 l0_2.length c0_2,.slice (some ad1208) l0_3.length c0_3,.int .i64 a0_4,.int .i64 a0_5] 77 (0,0)) (fp1_ NB1202_1209.out BK1202.out) hb);have n1_:=a_ (blk_below (g:=gb1209) (o:=.cells #[.int .i64 ((rd_T44 l0_3 x3_2).f0),.int .i64 ((rd_T44 l0_3 x3_2).f1),.int .i64 ((rd_T44 l0_3 x3_2).f2.f0),.int .i64 ((rd_T44 l0_3 x3_2).f2.f1),.int .i64 ((rd_T44 l0_3 x3_2).f2.f2),.int .i64 ((rd_T44 l0_3 x3_2).f2.f3),.string ((rd_T44 l0_3 x3_2).f2.f4)] 44 (0,0)) (k7p_ BK1209.out) hb);have n2_:=a_ (bS_ (bel_) hb);clear BK1202;clear BK1209;clear HB;have BK1202:=n0_;have BK1209:=n1_;have HB:=n2_;clear n0_ n1_ n2_;(try clear hb);obtain ⟨Z62_0,Z62_1,Z62_2,Z62_3,Z62_4,Z62_5,Z62_6,Y62_0,Y62_1,Y62_2,Y62_3,Y62_4,Y62_5,Y62_6⟩:=op7_ BK1209.out;obtain ⟨Z63_0,Z63_1,Z63_2,Z63_3,Z63_4,Z63_5,Y63_0,Y63_1,Y63_2,Y63_3,Y63_4,Y63_5⟩:=op6_ BK1202.out))
           go_ret
           exact ⟨fi_,bel_⟩
         ·rw [if_neg c32] at H
          have c32b0:(((rd_T44 l0_3 x3_2).f0)==a0_0)=false:=bn_ c32
          have c32b1:(((rd_T44 l0_3 x3_2).f0) != a0_0)=true:=bne_iff_ne.mpr c32
          obtain rfl:=sj_ H
          obtain ⟨Z64_0,Z64_1,Z64_2,Z64_3,Z64_4,Z64_5,Y64_0,Y64_1,Y64_2,Y64_3,Y64_4,Y64_5⟩:=op6_ (W:=wr) BK1202.out
          have p1208:0≤(x3_2:Int):=od_
          have q1208:x3_2 < (l0_3.length:Int):=od_
          obtain ⟨ad1208,e1208,hx1208_0,hx1208_1,hx1208_2,hx1208_3,hx1208_4,hx1208_5,hx1208_6⟩:=at_T44 HR0_3.out x3_2 p1208 q1208
          cases e1208
          replace hx1208_0:=(cb_ HB.out hx1208_0 :)
          replace hx1208_1:=(cb_ HB.out hx1208_1 :)
          replace hx1208_2:=(cb_ HB.out hx1208_2 :)
          replace hx1208_3:=(cb_ HB.out hx1208_3 :)
          replace hx1208_4:=(cb_ HB.out hx1208_4 :)
          replace hx1208_5:=(cb_ HB.out hx1208_5 :)
          replace hx1208_6:=(cb_ HB.out hx1208_6 :)
          replace p1208:=eq_true p1208
          replace q1208:=eq_true q1208
          go_wp2_with (first|((with_reducible refine gD_ (N:=4) rfl ?_);refine bx_ 4 (#[.int .i64 0,.int .i64 0,.int .i64 0,.int .i64 0,.int .i64 0,.int .i64 0,.string (⟨#[]⟩:ByteArray)]) 44 ?_;intro gb1209 hg w65 hbox hb;have n0_:=a_ (bb_ BK1202.out hb);have n1_:=a_ (bS_ (bel_) hb);have n2_:=a_ (hbox);have n3_:=a_ ((by rw [hg];exact (below_size (bel_)):w.heap.size≤gb1209));have n4_:=a_ ((by rw [hg];exact (below_size (bel_)):w.heap.size≤gb1209));have n5_:=a_ ((by rw [hg];exact Nat.ne_of_lt (blk_lt (g:=gb1202) (o:=.cells #[.int .i64 a0_0,.int .i64 a0_1,.slice A0_2 l0_2.length c0_2,.slice (some ad1208) l0_3.length c0_3,.int .i64 a0_4,.int .i64 a0_5] 77 (0,0)) (bp_ BK1202.out)):gb1202≠gb1209));have n6_:=a_ ((by rw [hg];exact Nat.ne_of_gt (blk_lt (g:=gb1202) (o:=.cells #[.int .i64 a0_0,.int .i64 a0_1,.slice A0_2 l0_2.length c0_2,.slice (some ad1208) l0_3.length c0_3,.int .i64 a0_4,.int .i64 a0_5] 77 (0,0)) (bp_ BK1202.out)):gb1209≠gb1202));clear BK1202;clear HB;have BK1202:=n0_;have HB:=n1_;have BK1209:=n2_;have GW1209:=n3_;have GE1209:=n4_;have NB1202_1209:=n5_;have NB1209_1202:=n6_;clear n0_ n1_ n2_ n3_ n4_ n5_ n6_;clear hb hbox hg;have hnb66:=NB1209_1202.out;have hnc66:=NB1202_1209.out;obtain ⟨Z67_0,Z67_1,Z67_2,Z67_3,Z67_4,Z67_5,Z67_6,Y67_0,Y67_1,Y67_2,Y67_3,Y67_4,Y67_5,Y67_6⟩:=op7_ BK1209.out)|((with_reducible refine gC_ (f:=30) rfl ?_);refine gl_ 57 Tryd.func30 #[.agg #[.int .i64 ((rd_T44 l0_3 x3_2).f0),.int .i64 ((rd_T44 l0_3 x3_2).f1),.int .i64 ((rd_T44 l0_3 x3_2).f2.f0),.int .i64 ((rd_T44 l0_3 x3_2).f2.f1),.int .i64 ((rd_T44 l0_3 x3_2).f2.f2),.int .i64 ((rd_T44 l0_3 x3_2).f2.f3),.string ((rd_T44 l0_3 x3_2).f2.f4)]] ?_;(with_reducible refine (spec_EntryOk.calls k2 ((rd_T44 l0_3 x3_2).f0) ((rd_T44 l0_3 x3_2).f1) ((rd_T44 l0_3 x3_2).f2.f0) ((rd_T44 l0_3 x3_2).f2.f1) ((rd_T44 l0_3 x3_2).f2.f2) ((rd_T44 l0_3 x3_2).f2.f3) ((rd_T44 l0_3 x3_2).f2.f4) true _ A30.out).mono ?_);rintro e w68 ⟨rfl,hb⟩;refine ⟨_,rfl,?_⟩;have n0_:=a_ (blk_below (g:=gb1202) (o:=.cells #[.int .i64 a0_0,.int .i64 a0_1,.slice A0_2 l0_2.length c0_2,.slice (some ad1208) l0_3.length c0_3,.int .i64 a0_4,.int .i64 a0_5] 77 (0,0)) (fp1_ NB1202_1209.out BK1202.out) hb);have n1_:=a_ (blk_below (g:=gb1209) (o:=.cells #[.int .i64 ((rd_T44 l0_3 x3_2).f0),.int .i64 ((rd_T44 l0_3 x3_2).f1),.int .i64 ((rd_T44 l0_3 x3_2).f2.f0),.int .i64 ((rd_T44 l0_3 x3_2).f2.f1),.int .i64 ((rd_T44 l0_3 x3_2).f2.f2),.int .i64 ((rd_T44 l0_3 x3_2).f2.f3),.string ((rd_T44 l0_3 x3_2).f2.f4)] 44 (0,0)) (k7p_ BK1209.out) hb);have n2_:=a_ (bS_ (bel_) hb);clear BK1202;clear BK1209;clear HB;have BK1202:=n0_;have BK1209:=n1_;have HB:=n2_;clear n0_ n1_ n2_;(try clear hb);obtain ⟨Z69_0,Z69_1,Z69_2,Z69_3,Z69_4,Z69_5,Z69_6,Y69_0,Y69_1,Y69_2,Y69_3,Y69_4,Y69_5,Y69_6⟩:=op7_ BK1209.out;obtain ⟨Z70_0,Z70_1,Z70_2,Z70_3,Z70_4,Z70_5,Y70_0,Y70_1,Y70_2,Y70_3,Y70_4,Y70_5⟩:=op6_ BK1202.out))
          go_ret
          exact ⟨fi_,bel_⟩
        ·replace c31:=Bool.eq_false_iff.mpr c31
         subst c31
         have H1:(some false)=some r:=by rw [if_neg (show ¬ (false=true) by decide)] at H;exact H
         clear H
         have H:=H1
         clear H1
         obtain rfl:=sj_ H
         obtain ⟨Z71_0,Z71_1,Z71_2,Z71_3,Z71_4,Z71_5,Y71_0,Y71_1,Y71_2,Y71_3,Y71_4,Y71_5⟩:=op6_ (W:=wr) BK1202.out
         have p1208:0≤(x3_2:Int):=od_
         have q1208:x3_2 < (l0_3.length:Int):=od_
         obtain ⟨ad1208,e1208,hx1208_0,hx1208_1,hx1208_2,hx1208_3,hx1208_4,hx1208_5,hx1208_6⟩:=at_T44 HR0_3.out x3_2 p1208 q1208
         cases e1208
         replace hx1208_0:=(cb_ HB.out hx1208_0 :)
         replace hx1208_1:=(cb_ HB.out hx1208_1 :)
         replace hx1208_2:=(cb_ HB.out hx1208_2 :)
         replace hx1208_3:=(cb_ HB.out hx1208_3 :)
         replace hx1208_4:=(cb_ HB.out hx1208_4 :)
         replace hx1208_5:=(cb_ HB.out hx1208_5 :)
         replace hx1208_6:=(cb_ HB.out hx1208_6 :)
         replace p1208:=eq_true p1208
         replace q1208:=eq_true q1208
         go_wp2_with (first|((with_reducible refine gD_ (N:=4) rfl ?_);refine bx_ 4 (#[.int .i64 0,.int .i64 0,.int .i64 0,.int .i64 0,.int .i64 0,.int .i64 0,.string (⟨#[]⟩:ByteArray)]) 44 ?_;intro gb1209 hg w72 hbox hb;have n0_:=a_ (bb_ BK1202.out hb);have n1_:=a_ (bS_ (bel_) hb);have n2_:=a_ (hbox);have n3_:=a_ ((by rw [hg];exact (below_size (bel_)):w.heap.size≤gb1209));have n4_:=a_ ((by rw [hg];exact (below_size (bel_)):w.heap.size≤gb1209));have n5_:=a_ ((by rw [hg];exact Nat.ne_of_lt (blk_lt (g:=gb1202) (o:=.cells #[.int .i64 a0_0,.int .i64 a0_1,.slice A0_2 l0_2.length c0_2,.slice (some ad1208) l0_3.length c0_3,.int .i64 a0_4,.int .i64 a0_5] 77 (0,0)) (bp_ BK1202.out)):gb1202≠gb1209));have n6_:=a_ ((by rw [hg];exact Nat.ne_of_gt (blk_lt (g:=gb1202) (o:=.cells #[.int .i64 a0_0,.int .i64 a0_1,.slice A0_2 l0_2.length c0_2,.slice (some ad1208) l0_3.length c0_3,.int .i64 a0_4,.int .i64 a0_5] 77 (0,0)) (bp_ BK1202.out)):gb1209≠gb1202));clear BK1202;clear HB;have BK1202:=n0_;have HB:=n1_;have BK1209:=n2_;have GW1209:=n3_;have GE1209:=n4_;have NB1202_1209:=n5_;have NB1209_1202:=n6_;clear n0_ n1_ n2_ n3_ n4_ n5_ n6_;clear hb hbox hg;have hnb73:=NB1209_1202.out;have hnc73:=NB1202_1209.out;obtain ⟨Z74_0,Z74_1,Z74_2,Z74_3,Z74_4,Z74_5,Z74_6,Y74_0,Y74_1,Y74_2,Y74_3,Y74_4,Y74_5,Y74_6⟩:=op7_ BK1209.out)|((with_reducible refine gC_ (f:=30) rfl ?_);refine gl_ 57 Tryd.func30 #[.agg #[.int .i64 ((rd_T44 l0_3 x3_2).f0),.int .i64 ((rd_T44 l0_3 x3_2).f1),.int .i64 ((rd_T44 l0_3 x3_2).f2.f0),.int .i64 ((rd_T44 l0_3 x3_2).f2.f1),.int .i64 ((rd_T44 l0_3 x3_2).f2.f2),.int .i64 ((rd_T44 l0_3 x3_2).f2.f3),.string ((rd_T44 l0_3 x3_2).f2.f4)]] ?_;(with_reducible refine (spec_EntryOk.calls k2 ((rd_T44 l0_3 x3_2).f0) ((rd_T44 l0_3 x3_2).f1) ((rd_T44 l0_3 x3_2).f2.f0) ((rd_T44 l0_3 x3_2).f2.f1) ((rd_T44 l0_3 x3_2).f2.f2) ((rd_T44 l0_3 x3_2).f2.f3) ((rd_T44 l0_3 x3_2).f2.f4) false _ A30.out).mono ?_);rintro e w75 ⟨rfl,hb⟩;refine ⟨_,rfl,?_⟩;have n0_:=a_ (blk_below (g:=gb1202) (o:=.cells #[.int .i64 a0_0,.int .i64 a0_1,.slice A0_2 l0_2.length c0_2,.slice (some ad1208) l0_3.length c0_3,.int .i64 a0_4,.int .i64 a0_5] 77 (0,0)) (fp1_ NB1202_1209.out BK1202.out) hb);have n1_:=a_ (blk_below (g:=gb1209) (o:=.cells #[.int .i64 ((rd_T44 l0_3 x3_2).f0),.int .i64 ((rd_T44 l0_3 x3_2).f1),.int .i64 ((rd_T44 l0_3 x3_2).f2.f0),.int .i64 ((rd_T44 l0_3 x3_2).f2.f1),.int .i64 ((rd_T44 l0_3 x3_2).f2.f2),.int .i64 ((rd_T44 l0_3 x3_2).f2.f3),.string ((rd_T44 l0_3 x3_2).f2.f4)] 44 (0,0)) (k7p_ BK1209.out) hb);have n2_:=a_ (bS_ (bel_) hb);clear BK1202;clear BK1209;clear HB;have BK1202:=n0_;have BK1209:=n1_;have HB:=n2_;clear n0_ n1_ n2_;(try clear hb)))
         go_ret
         exact ⟨fi_,bel_⟩
       ·rw [if_neg c29] at H
        exact absurd H (by simp)
      ·rw [if_neg c28] at H
       have c28b0:decide (x3_2 < (l0_3.length:Int))=false:=df_ c28
       clear c28
       obtain rfl:=sj_ H
       obtain ⟨Z76_0,Z76_1,Z76_2,Z76_3,Z76_4,Z76_5,Y76_0,Y76_1,Y76_2,Y76_3,Y76_4,Y76_5⟩:=op6_ (W:=wr) BK1202.out
       go_wp2
       go_ret
       exact ⟨fi_,bel_⟩

def laws_toRow.f (a0_0:Int) (a0_1:Int) (a0_2:ByteArray):Option (Int×Int×ByteArray):=some (a0_0,a0_1,a0_2)
theorem laws_toRow.calls (a0_0:Int) (a0_1:Int) (a0_2:ByteArray) (r1:Int) (r2:Int) (r3:ByteArray) (w:World) (h:laws_toRow.f a0_0 a0_1 a0_2=some (r1,r2,r3)) :
  Calls Tryd.prog 142 #[.agg #[.int .i64 a0_0,.int .i64 a0_1,.string a0_2]] w fun e w'=>e=.returned (.agg #[.int .i64 r1,.int .i64 r2,.string r3])∧Below w.heap.size w w':=by
 have hu183:=Tryd.underlying183
 have hu69:=Tryd.underlying69
 have HB:=a_ (Below.refl w.heap.size w)
 unfold laws_toRow.f at h
 have H:=h
 clear h
 simp only [Option.some.injEq,Prod.mk.injEq] at H
 obtain ⟨rfl,rfl,rfl⟩:=H
 go_enter Tryd.func142,Tryd.ntmps142
 go_wp2_with (first|((with_reducible refine gD_ (N:=1) rfl ?_);refine bx_ 1 (#[.int .i64 a0_0,.int .i64 a0_1,.string a0_2]) 183 ?_;intro gb1211 hg w2 hbox hb;have n0_:=a_ (bS_ (bel_) hb);have n1_:=a_ (hbox);have n2_:=a_ ((by rw [hg];exact (below_size (bel_)):w.heap.size≤gb1211));have n3_:=a_ ((by rw [hg];exact (below_size (bel_)):w.heap.size≤gb1211));clear HB;have HB:=n0_;have BK1211:=n1_;have GW1211:=n2_;have GE1211:=n3_;clear n0_ n1_ n2_ n3_;clear hb hbox hg)|((with_reducible refine gD_ (N:=2) rfl ?_);refine bx_ 2 (#[.int .i64 0,.int .i64 0,.string (⟨#[]⟩:ByteArray)]) 69 ?_;intro gb1212 hg w3 hbox hb;have n0_:=a_ (bb_ BK1211.out hb);have n1_:=a_ (bS_ (bel_) hb);have n2_:=a_ (hbox);have n3_:=a_ ((by rw [hg];exact (below_size (bel_)):w.heap.size≤gb1212));have n4_:=a_ ((by rw [hg];exact (below_size (bel_)):w.heap.size≤gb1212));have n5_:=a_ ((by rw [hg];exact Nat.ne_of_lt (blk_lt (g:=gb1211) (o:=.cells #[.int .i64 a0_0,.int .i64 a0_1,.string a0_2] 183 (0,0)) (bp_ BK1211.out)):gb1211≠gb1212));have n6_:=a_ ((by rw [hg];exact Nat.ne_of_gt (blk_lt (g:=gb1211) (o:=.cells #[.int .i64 a0_0,.int .i64 a0_1,.string a0_2] 183 (0,0)) (bp_ BK1211.out)):gb1212≠gb1211));clear BK1211;clear HB;have BK1211:=n0_;have HB:=n1_;have BK1212:=n2_;have GW1212:=n3_;have GE1212:=n4_;have NB1211_1212:=n5_;have NB1212_1211:=n6_;clear n0_ n1_ n2_ n3_ n4_ n5_ n6_;clear hb hbox hg)|((with_reducible refine gD_ (N:=3) rfl ?_);refine bx_ 3 (#[.int .i64 0,.int .i64 0,.string (⟨#[]⟩:ByteArray)]) 69 ?_;intro gb1213 hg w4 hbox hb;have n0_:=a_ (bb_ BK1211.out hb);have n1_:=a_ (bb_ BK1212.out hb);have n2_:=a_ (bS_ (bel_) hb);have n3_:=a_ (hbox);have n4_:=a_ ((by rw [hg];exact (below_size (bel_)):w.heap.size≤gb1213));have n5_:=a_ ((by rw [hg];exact (below_size (bel_)):w.heap.size≤gb1213));have n6_:=a_ ((by rw [hg];exact Nat.ne_of_lt (blk_lt (g:=gb1211) (o:=.cells #[.int .i64 a0_0,.int .i64 a0_1,.string a0_2] 183 (0,0)) (bp_ BK1211.out)):gb1211≠gb1213));have n7_:=a_ ((by rw [hg];exact Nat.ne_of_gt (blk_lt (g:=gb1211) (o:=.cells #[.int .i64 a0_0,.int .i64 a0_1,.string a0_2] 183 (0,0)) (bp_ BK1211.out)):gb1213≠gb1211));have n8_:=a_ ((by rw [hg];exact Nat.ne_of_lt (blk_lt (g:=gb1212) (o:=.cells #[.int .i64 0,.int .i64 0,.string (⟨#[]⟩:ByteArray)] 69 (0,0)) (bp_ BK1212.out)):gb1212≠gb1213));have n9_:=a_ ((by rw [hg];exact Nat.ne_of_gt (blk_lt (g:=gb1212) (o:=.cells #[.int .i64 0,.int .i64 0,.string (⟨#[]⟩:ByteArray)] 69 (0,0)) (bp_ BK1212.out)):gb1213≠gb1212));clear BK1211;clear BK1212;clear HB;have BK1211:=n0_;have BK1212:=n1_;have HB:=n2_;have BK1213:=n3_;have GW1213:=n4_;have GE1213:=n5_;have NB1211_1213:=n6_;have NB1213_1211:=n7_;have NB1212_1213:=n8_;have NB1213_1212:=n9_;clear n0_ n1_ n2_ n3_ n4_ n5_ n6_ n7_ n8_ n9_;clear hb hbox hg;have hnb5:=NB1211_1212.out;have hnc5:=NB1212_1211.out;have hnb6:=NB1211_1213.out;have hnc6:=NB1213_1211.out;obtain ⟨Z7_0,Z7_1,Z7_2,Y7_0,Y7_1,Y7_2⟩:=op3_ BK1211.out;have hnb8:=NB1213_1212.out;have hnc8:=NB1212_1213.out;obtain ⟨Z9_0,Z9_1,Z9_2,Y9_0,Y9_1,Y9_2⟩:=op3_ BK1213.out;obtain ⟨Z10_0,Z10_1,Z10_2,Y10_0,Y10_1,Y10_2⟩:=op3_ BK1212.out))
 refine bodyPost_ret (results_cell_row rfl _ _ gb1212 69 #[.int .i64 a0_0,.int .i64 a0_1,.string a0_2] (0,0) _ rfl (k3p1_ NB1212_1213.out BK1212.out) Tryd.underlying69 rfl (by kernel_rfl)) rfl ?_
 exact ⟨fi_,bel_⟩

def laws_toOp.f (a0_0:Int) (a0_1:Int) (a0_2:Int) (a0_3:Int) (a0_4:ByteArray):Option (Int×Int×Int×Int×ByteArray):=some (a0_0,a0_1,a0_2,a0_3,a0_4)
theorem laws_toOp.calls (a0_0:Int) (a0_1:Int) (a0_2:Int) (a0_3:Int) (a0_4:ByteArray) (r1:Int) (r2:Int) (r3:Int) (r4:Int) (r5:ByteArray) (w:World) (h:laws_toOp.f a0_0 a0_1 a0_2 a0_3 a0_4=some (r1,r2,r3,r4,r5)) :
  Calls Tryd.prog 68 #[.agg #[.int .i64 a0_0,.int .i64 a0_1,.int .i64 a0_2,.int .i64 a0_3,.string a0_4]] w fun e w'=>e=.returned (.agg #[.int .i64 r1,.int .i64 r2,.int .i64 r3,.int .i64 r4,.string r5])∧Below w.heap.size w w':=by
 have hu34:=Tryd.underlying34
 have hu42:=Tryd.underlying42
 have HB:=a_ (Below.refl w.heap.size w)
 unfold laws_toOp.f at h
 have H:=h
 clear h
 simp only [Option.some.injEq,Prod.mk.injEq] at H
 obtain ⟨rfl,rfl,rfl,rfl,rfl⟩:=H
 go_enter Tryd.func68,Tryd.ntmps68
 go_wp2_with (first|((with_reducible refine gD_ (N:=1) rfl ?_);refine bx_ 1 (#[.int .i64 a0_0,.int .i64 a0_1,.int .i64 a0_2,.int .i64 a0_3,.string a0_4]) 34 ?_;intro gb510 hg w2 hbox hb;have n0_:=a_ (bS_ (bel_) hb);have n1_:=a_ (hbox);have n2_:=a_ ((by rw [hg];exact (below_size (bel_)):w.heap.size≤gb510));have n3_:=a_ ((by rw [hg];exact (below_size (bel_)):w.heap.size≤gb510));clear HB;have HB:=n0_;have BK510:=n1_;have GW510:=n2_;have GE510:=n3_;clear n0_ n1_ n2_ n3_;clear hb hbox hg)|((with_reducible refine gD_ (N:=2) rfl ?_);refine bx_ 2 (#[.int .i64 0,.int .i64 0,.int .i64 0,.int .i64 0,.string (⟨#[]⟩:ByteArray)]) 42 ?_;intro gb511 hg w3 hbox hb;have n0_:=a_ (bb_ BK510.out hb);have n1_:=a_ (bS_ (bel_) hb);have n2_:=a_ (hbox);have n3_:=a_ ((by rw [hg];exact (below_size (bel_)):w.heap.size≤gb511));have n4_:=a_ ((by rw [hg];exact (below_size (bel_)):w.heap.size≤gb511));have n5_:=a_ ((by rw [hg];exact Nat.ne_of_lt (blk_lt (g:=gb510) (o:=.cells #[.int .i64 a0_0,.int .i64 a0_1,.int .i64 a0_2,.int .i64 a0_3,.string a0_4] 34 (0,0)) (bp_ BK510.out)):gb510≠gb511));have n6_:=a_ ((by rw [hg];exact Nat.ne_of_gt (blk_lt (g:=gb510) (o:=.cells #[.int .i64 a0_0,.int .i64 a0_1,.int .i64 a0_2,.int .i64 a0_3,.string a0_4] 34 (0,0)) (bp_ BK510.out)):gb511≠gb510));clear BK510;clear HB;have BK510:=n0_;have HB:=n1_;have BK511:=n2_;have GW511:=n3_;have GE511:=n4_;have NB510_511:=n5_;have NB511_510:=n6_;clear n0_ n1_ n2_ n3_ n4_ n5_ n6_;clear hb hbox hg)|((with_reducible refine gD_ (N:=3) rfl ?_);refine bx_ 3 (#[.int .i64 0,.int .i64 0,.int .i64 0,.int .i64 0,.string (⟨#[]⟩:ByteArray)]) 42 ?_;intro gb512 hg w4 hbox hb;have n0_:=a_ (bb_ BK510.out hb);have n1_:=a_ (bb_ BK511.out hb);have n2_:=a_ (bS_ (bel_) hb);have n3_:=a_ (hbox);have n4_:=a_ ((by rw [hg];exact (below_size (bel_)):w.heap.size≤gb512));have n5_:=a_ ((by rw [hg];exact (below_size (bel_)):w.heap.size≤gb512));have n6_:=a_ ((by rw [hg];exact Nat.ne_of_lt (blk_lt (g:=gb510) (o:=.cells #[.int .i64 a0_0,.int .i64 a0_1,.int .i64 a0_2,.int .i64 a0_3,.string a0_4] 34 (0,0)) (bp_ BK510.out)):gb510≠gb512));have n7_:=a_ ((by rw [hg];exact Nat.ne_of_gt (blk_lt (g:=gb510) (o:=.cells #[.int .i64 a0_0,.int .i64 a0_1,.int .i64 a0_2,.int .i64 a0_3,.string a0_4] 34 (0,0)) (bp_ BK510.out)):gb512≠gb510));have n8_:=a_ ((by rw [hg];exact Nat.ne_of_lt (blk_lt (g:=gb511) (o:=.cells #[.int .i64 0,.int .i64 0,.int .i64 0,.int .i64 0,.string (⟨#[]⟩:ByteArray)] 42 (0,0)) (bp_ BK511.out)):gb511≠gb512));have n9_:=a_ ((by rw [hg];exact Nat.ne_of_gt (blk_lt (g:=gb511) (o:=.cells #[.int .i64 0,.int .i64 0,.int .i64 0,.int .i64 0,.string (⟨#[]⟩:ByteArray)] 42 (0,0)) (bp_ BK511.out)):gb512≠gb511));clear BK510;clear BK511;clear HB;have BK510:=n0_;have BK511:=n1_;have HB:=n2_;have BK512:=n3_;have GW512:=n4_;have GE512:=n5_;have NB510_512:=n6_;have NB512_510:=n7_;have NB511_512:=n8_;have NB512_511:=n9_;clear n0_ n1_ n2_ n3_ n4_ n5_ n6_ n7_ n8_ n9_;clear hb hbox hg;have hnb5:=NB510_511.out;have hnc5:=NB511_510.out;have hnb6:=NB510_512.out;have hnc6:=NB512_510.out;obtain ⟨Z7_0,Z7_1,Z7_2,Z7_3,Z7_4,Y7_0,Y7_1,Y7_2,Y7_3,Y7_4⟩:=op5_ BK510.out;have hnb8:=NB512_511.out;have hnc8:=NB511_512.out;obtain ⟨Z9_0,Z9_1,Z9_2,Z9_3,Z9_4,Y9_0,Y9_1,Y9_2,Y9_3,Y9_4⟩:=op5_ BK512.out;obtain ⟨Z10_0,Z10_1,Z10_2,Z10_3,Z10_4,Y10_0,Y10_1,Y10_2,Y10_3,Y10_4⟩:=op5_ BK511.out))
 refine bodyPost_ret (results_cell_row rfl _ _ gb511 42 #[.int .i64 a0_0,.int .i64 a0_1,.int .i64 a0_2,.int .i64 a0_3,.string a0_4] (0,0) _ rfl (k5p1_ NB511_512.out BK511.out) Tryd.underlying42 rfl (by kernel_rfl)) rfl ?_
 exact ⟨fi_,bel_⟩

def laws_toEntry.f (a0_0:Int) (a0_1:Int) (a0_2:Int) (a0_3:Int) (a0_4:Int) (a0_5:Int) (a0_6:ByteArray):Option (Int×Int×Int×Int×Int×Int×ByteArray):=(laws_toOp.f a0_2 a0_3 a0_4 a0_5 a0_6).bind fun bt516=>(some (a0_0,a0_1,bt516.1,bt516.2.1,bt516.2.2.1,bt516.2.2.2.1,bt516.2.2.2.2))
theorem laws_toEntry.calls (a0_0:Int) (a0_1:Int) (a0_2:Int) (a0_3:Int) (a0_4:Int) (a0_5:Int) (a0_6:ByteArray) (r1:Int) (r2:Int) (r3:Int) (r4:Int) (r5:Int) (r6:Int) (r7:ByteArray) (w:World) (h:laws_toEntry.f a0_0 a0_1 a0_2 a0_3 a0_4 a0_5 a0_6=some (r1,r2,r3,r4,r5,r6,r7)) :
  Calls Tryd.prog 23 #[.agg #[.int .i64 a0_0,.int .i64 a0_1,.int .i64 a0_2,.int .i64 a0_3,.int .i64 a0_4,.int .i64 a0_5,.string a0_6]] w fun e w'=>e=.returned (.agg #[.int .i64 r1,.int .i64 r2,.int .i64 r3,.int .i64 r4,.int .i64 r5,.int .i64 r6,.string r7])∧Below w.heap.size w w':=by
 have hu36:=Tryd.underlying36
 have hu44:=Tryd.underlying44
 have hu34:=Tryd.underlying34
 have hu42:=Tryd.underlying42
 have HB:=a_ (Below.refl w.heap.size w)
 unfold laws_toEntry.f at h
 have H:=h
 clear h
 replace H:=bs_ H
 obtain ⟨⟨t516,t517,t518,t519,t520⟩,A20,H⟩:=H
 try dsimp only at H
 have A2:=a_ A20
 clear A20
 simp only [Option.some.injEq,Prod.mk.injEq] at H
 obtain ⟨rfl,rfl,rfl,rfl,rfl,rfl,rfl⟩:=H
 go_enter Tryd.func23,Tryd.ntmps23
 go_wp2_with (first|((with_reducible refine gD_ (N:=1) rfl ?_);refine bx_ 1 (#[.int .i64 a0_0,.int .i64 a0_1,.int .i64 a0_2,.int .i64 a0_3,.int .i64 a0_4,.int .i64 a0_5,.string a0_6]) 36 ?_;intro gb513 hg w3 hbox hb;have n0_:=a_ (bS_ (bel_) hb);have n1_:=a_ (hbox);have n2_:=a_ ((by rw [hg];exact (below_size (bel_)):w.heap.size≤gb513));have n3_:=a_ ((by rw [hg];exact (below_size (bel_)):w.heap.size≤gb513));clear HB;have HB:=n0_;have BK513:=n1_;have GW513:=n2_;have GE513:=n3_;clear n0_ n1_ n2_ n3_;clear hb hbox hg)|((with_reducible refine gD_ (N:=2) rfl ?_);refine bx_ 2 (#[.int .i64 0,.int .i64 0,.int .i64 0,.int .i64 0,.int .i64 0,.int .i64 0,.string (⟨#[]⟩:ByteArray)]) 44 ?_;intro gb514 hg w4 hbox hb;have n0_:=a_ (bb_ BK513.out hb);have n1_:=a_ (bS_ (bel_) hb);have n2_:=a_ (hbox);have n3_:=a_ ((by rw [hg];exact (below_size (bel_)):w.heap.size≤gb514));have n4_:=a_ ((by rw [hg];exact (below_size (bel_)):w.heap.size≤gb514));have n5_:=a_ ((by rw [hg];exact Nat.ne_of_lt (blk_lt (g:=gb513) (o:=.cells #[.int .i64 a0_0,.int .i64 a0_1,.int .i64 a0_2,.int .i64 a0_3,.int .i64 a0_4,.int .i64 a0_5,.string a0_6] 36 (0,0)) (bp_ BK513.out)):gb513≠gb514));have n6_:=a_ ((by rw [hg];exact Nat.ne_of_gt (blk_lt (g:=gb513) (o:=.cells #[.int .i64 a0_0,.int .i64 a0_1,.int .i64 a0_2,.int .i64 a0_3,.int .i64 a0_4,.int .i64 a0_5,.string a0_6] 36 (0,0)) (bp_ BK513.out)):gb514≠gb513));clear BK513;clear HB;have BK513:=n0_;have HB:=n1_;have BK514:=n2_;have GW514:=n3_;have GE514:=n4_;have NB513_514:=n5_;have NB514_513:=n6_;clear n0_ n1_ n2_ n3_ n4_ n5_ n6_;clear hb hbox hg)|((with_reducible refine gD_ (N:=3) rfl ?_);refine bx_ 3 (#[.int .i64 0,.int .i64 0,.int .i64 0,.int .i64 0,.int .i64 0,.int .i64 0,.string (⟨#[]⟩:ByteArray)]) 44 ?_;intro gb515 hg w5 hbox hb;have n0_:=a_ (bb_ BK513.out hb);have n1_:=a_ (bb_ BK514.out hb);have n2_:=a_ (bS_ (bel_) hb);have n3_:=a_ (hbox);have n4_:=a_ ((by rw [hg];exact (below_size (bel_)):w.heap.size≤gb515));have n5_:=a_ ((by rw [hg];exact (below_size (bel_)):w.heap.size≤gb515));have n6_:=a_ ((by rw [hg];exact Nat.ne_of_lt (blk_lt (g:=gb513) (o:=.cells #[.int .i64 a0_0,.int .i64 a0_1,.int .i64 a0_2,.int .i64 a0_3,.int .i64 a0_4,.int .i64 a0_5,.string a0_6] 36 (0,0)) (bp_ BK513.out)):gb513≠gb515));have n7_:=a_ ((by rw [hg];exact Nat.ne_of_gt (blk_lt (g:=gb513) (o:=.cells #[.int .i64 a0_0,.int .i64 a0_1,.int .i64 a0_2,.int .i64 a0_3,.int .i64 a0_4,.int .i64 a0_5,.string a0_6] 36 (0,0)) (bp_ BK513.out)):gb515≠gb513));have n8_:=a_ ((by rw [hg];exact Nat.ne_of_lt (blk_lt (g:=gb514) (o:=.cells #[.int .i64 0,.int .i64 0,.int .i64 0,.int .i64 0,.int .i64 0,.int .i64 0,.string (⟨#[]⟩:ByteArray)] 44 (0,0)) (bp_ BK514.out)):gb514≠gb515));have n9_:=a_ ((by rw [hg];exact Nat.ne_of_gt (blk_lt (g:=gb514) (o:=.cells #[.int .i64 0,.int .i64 0,.int .i64 0,.int .i64 0,.int .i64 0,.int .i64 0,.string (⟨#[]⟩:ByteArray)] 44 (0,0)) (bp_ BK514.out)):gb515≠gb514));clear BK513;clear BK514;clear HB;have BK513:=n0_;have BK514:=n1_;have HB:=n2_;have BK515:=n3_;have GW515:=n4_;have GE515:=n5_;have NB513_515:=n6_;have NB515_513:=n7_;have NB514_515:=n8_;have NB515_514:=n9_;clear n0_ n1_ n2_ n3_ n4_ n5_ n6_ n7_ n8_ n9_;clear hb hbox hg;have hnb6:=NB513_514.out;have hnc6:=NB514_513.out;have hnb7:=NB513_515.out;have hnc7:=NB515_513.out;have Z8_0:=cz_ BK513.out 0 (.int .i64 a0_0);have Z8_1:=cz_ BK513.out 1 (.int .i64 a0_1);have Z8_2:=cz_ BK513.out 2 (.int .i64 a0_2);have Z8_3:=cz_ BK513.out 3 (.int .i64 a0_3);have Z8_4:=cz_ BK513.out 4 (.int .i64 a0_4);have Z8_5:=cz_ BK513.out 5 (.int .i64 a0_5);have Z8_6:=cz_ BK513.out 6 (.string a0_6);have Y8_0:=bF_ BK513.out 0;have Y8_1:=bF_ BK513.out 1;have Y8_2:=bF_ BK513.out 2;have Y8_3:=bF_ BK513.out 3;have Y8_4:=bF_ BK513.out 4;have Y8_5:=bF_ BK513.out 5;have Y8_6:=bF_ BK513.out 6;have hnb9:=NB515_514.out;have hnc9:=NB514_515.out;have Z10_0:=cz_ BK515.out 0 (.int .i64 0);have Z10_1:=cz_ BK515.out 1 (.int .i64 0);have Z10_2:=cz_ BK515.out 2 (.int .i64 0);have Z10_3:=cz_ BK515.out 3 (.int .i64 0);have Z10_4:=cz_ BK515.out 4 (.int .i64 0);have Z10_5:=cz_ BK515.out 5 (.int .i64 0);have Z10_6:=cz_ BK515.out 6 (.string (⟨#[]⟩:ByteArray));have Y10_0:=bF_ BK515.out 0;have Y10_1:=bF_ BK515.out 1;have Y10_2:=bF_ BK515.out 2;have Y10_3:=bF_ BK515.out 3;have Y10_4:=bF_ BK515.out 4;have Y10_5:=bF_ BK515.out 5;have Y10_6:=bF_ BK515.out 6)|((with_reducible refine gC_ (f:=68) rfl ?_);refine gl_ 12 Tryd.func68 #[.agg #[.int .i64 a0_2,.int .i64 a0_3,.int .i64 a0_4,.int .i64 a0_5,.string a0_6]] ?_;(with_reducible refine (laws_toOp.calls a0_2 a0_3 a0_4 a0_5 a0_6 t516 t517 t518 t519 t520 _ A2.out).mono ?_);rintro e w11 ⟨rfl,hb⟩;refine ⟨_,rfl,?_⟩;have n0_:=a_ (blk_below (g:=gb513) (o:=.cells #[.int .i64 a0_0,.int .i64 a0_1,.int .i64 a0_2,.int .i64 a0_3,.int .i64 a0_4,.int .i64 a0_5,.string a0_6] 36 (0,0)) (fp1_ NB513_515.out BK513.out) hb);have n1_:=a_ (blk_below (g:=gb514) (o:=.cells #[.int .i64 0,.int .i64 0,.int .i64 0,.int .i64 0,.int .i64 0,.int .i64 0,.string (⟨#[]⟩:ByteArray)] 44 (0,0)) (fp1_ NB514_515.out BK514.out) hb);have n2_:=a_ (blk_below (g:=gb515) (o:=.cells #[.int .i64 a0_0,.int .i64 a0_1,.int .i64 0,.int .i64 0,.int .i64 0,.int .i64 0,.string (⟨#[]⟩:ByteArray)] 44 (0,0)) (by (with_reducible repeat (first|refine bN_ ?_ _|refine bD_ ?_|refine bA_ ?_ _));refine blk_put (cs:=#[.int .i64 a0_0,.int .i64 0,.int .i64 0,.int .i64 0,.int .i64 0,.int .i64 0,.string (⟨#[]⟩:ByteArray)]) ?_ 1 _ rfl;(with_reducible repeat (first|refine bN_ ?_ _|refine bD_ ?_|refine bA_ ?_ _));refine blk_put (cs:=#[.int .i64 0,.int .i64 0,.int .i64 0,.int .i64 0,.int .i64 0,.int .i64 0,.string (⟨#[]⟩:ByteArray)]) ?_ 0 _ rfl;(with_reducible repeat (first|refine bN_ ?_ _|refine bD_ ?_|refine bA_ ?_ _));exact BK515.out) hb);have n3_:=a_ (bS_ (bel_) hb);clear BK513;clear BK514;clear BK515;clear HB;have BK513:=n0_;have BK514:=n1_;have BK515:=n2_;have HB:=n3_;clear n0_ n1_ n2_ n3_;(try clear hb);have Z12_0:=cz_ BK515.out 0 (.int .i64 a0_0);have Z12_1:=cz_ BK515.out 1 (.int .i64 a0_1);have Z12_2:=cz_ BK515.out 2 (.int .i64 0);have Z12_3:=cz_ BK515.out 3 (.int .i64 0);have Z12_4:=cz_ BK515.out 4 (.int .i64 0);have Z12_5:=cz_ BK515.out 5 (.int .i64 0);have Z12_6:=cz_ BK515.out 6 (.string (⟨#[]⟩:ByteArray));have Y12_0:=bF_ BK515.out 0;have Y12_1:=bF_ BK515.out 1;have Y12_2:=bF_ BK515.out 2;have Y12_3:=bF_ BK515.out 3;have Y12_4:=bF_ BK515.out 4;have Y12_5:=bF_ BK515.out 5;have Y12_6:=bF_ BK515.out 6;have Z13_0:=cz_ BK514.out 0 (.int .i64 0);have Z13_1:=cz_ BK514.out 1 (.int .i64 0);have Z13_2:=cz_ BK514.out 2 (.int .i64 0);have Z13_3:=cz_ BK514.out 3 (.int .i64 0);have Z13_4:=cz_ BK514.out 4 (.int .i64 0);have Z13_5:=cz_ BK514.out 5 (.int .i64 0);have Z13_6:=cz_ BK514.out 6 (.string (⟨#[]⟩:ByteArray));have Y13_0:=bF_ BK514.out 0;have Y13_1:=bF_ BK514.out 1;have Y13_2:=bF_ BK514.out 2;have Y13_3:=bF_ BK514.out 3;have Y13_4:=bF_ BK514.out 4;have Y13_5:=bF_ BK514.out 5;have Y13_6:=bF_ BK514.out 6))
 refine bodyPost_ret (results_cell_row rfl _ _ gb514 44 #[.int .i64 a0_0,.int .i64 a0_1,.int .i64 t516,.int .i64 t517,.int .i64 t518,.int .i64 t519,.string t520] (0,0) _ rfl (k7p1_ NB514_515.out BK514.out) Tryd.underlying44 rfl (by kernel_rfl)) rfl ?_
 exact ⟨fi_,bel_⟩

def laws_toEntryS.l0:Nat→List (S36)→List (S44)→Int→Option ((List (S44)))
 | 0,_,_,_=>none
 | k+1,x0,x3,x4=>if x4 < (x0.length:Int) then (if 0≤x4 then ((laws_toEntry.f ((rd_T36 x0 x4).f0) ((rd_T36 x0 x4).f1) ((rd_T36 x0 x4).f2.f0) ((rd_T36 x0 x4).f2.f1) ((rd_T36 x0 x4).f2.f2) ((rd_T36 x0 x4).f2.f3) ((rd_T36 x0 x4).f2.f4)).bind fun bt525=>(if x4 < (x3.length:Int) then (laws_toEntryS.l0 k x0 (x3.set (x4:Int).toNat (⟨bt525.1,bt525.2.1,(⟨bt525.2.2.1,bt525.2.2.2.1,bt525.2.2.2.2.1,bt525.2.2.2.2.2.1,bt525.2.2.2.2.2.2⟩:S42)⟩:S44)) (wrap64 (x4+1))) else (none))) else (none)) else (some x3)
def laws_toEntryS.f (k:Nat) (l0:List (S36)):Option ((List (S44))):=if 0≤(l0.length:Int) then (if ((l0.length:Int):Int).toNat≤4398046511104 then (laws_toEntryS.l0 k l0 (List.replicate ((l0.length:Int):Int).toNat z44) 0) else (none)) else (none)
theorem laws_toEntryS.calls (k:Nat) (A0:Option Addr) (c0:Nat) (l0:List (S36)) (r:List (S44)) (w:World) (hr0:Kd.C k36 w A0 l0.length l0) (hc0:l0.length≤c0) (h:laws_toEntryS.f k l0=some r) :
  Calls Tryd.prog 50 #[.slice A0 l0.length c0] w fun e w'=>∃ v0_:Value,e=.returned (v0_)∧Kd.R k44 44 w' w.heap.size (fun _=>True) v0_ r∧Below w.heap.size w w':=by
 have hu36:=Tryd.underlying36
 have hu44:=Tryd.underlying44
 have HR0:=a_ hr0
 have HC0:=a_ hc0
 clear hr0 hc0
 have HB:=a_ (Below.refl w.heap.size w)
 unfold laws_toEntryS.f at h
 have H:=h
 clear h
 by_cases c2:0≤(l0.length:Int)
 ·rw [if_pos c2] at H
  have c2b0:=eq_true c2
  have c2b1:decide (0≤(l0.length:Int))=true:=dt_ c2
  clear c2
  by_cases c3:((l0.length:Int):Int).toNat≤4398046511104
  ·rw [if_pos c3] at H
   have c3b0:=eq_true c3
   have c3b1:decide (((l0.length:Int):Int).toNat≤4398046511104)=true:=dt_ c3
   clear c3
   obtain ⟨y521,hy521⟩:∃ y_:List (S44),y_=(List.replicate ((l0.length:Int):Int).toNat z44):=⟨_,rfl⟩
   replace H:(laws_toEntryS.l0 k l0 y521 0)=some r:=by first|(rw [hy521];with_reducible exact H)|(have H2_:=(Option.bind_some _ _).symm.trans H;rw [hy521];with_reducible exact H2_)|(have H2_:=(Option.bind_some _ _).symm.trans H;with_reducible exact H2_)|with_reducible exact H|(rw [hy521];exact H)|exact H
   have Ny521:=a_ hy521
   clear hy521
   have H':=a_ H
   clear H
   go_enter Tryd.func50,Tryd.ntmps50
   go_wp2_with (first|((with_reducible refine gD_ (N:=7) rfl ?_);refine Kd.R_make k44 _ 44 rfl (N:=7) rfl 23 _ _ rfl (l0.length:Int) rfl rfl Tryd.underlying23 (.agg #[(.int .i64 0),(.int .i64 0),(.int .i64 0),(.int .i64 0),(.int .i64 0),(.int .i64 0),(.string ⟨#[]⟩)]) 64 info44 rfl (by decide) (by omega) z44 (ok:=fun _=>True) (okp:=fun _=>True) (k44_mkM _ _ _ z44 ) (fun _ hk=>hk) trivial (od_) (Nat.le_trans (Nat.mul_le_mul_right _ (od_:(l0.length:Int).toNat≤4398046511104)) (by omega)) (Below.refl _ _) (Nat.le_refl _) ?_;intro v522 w4 ho5 hb hg_ hnew_;clear hg_ hnew_;(first|rw [←Ny521.out] at ho5|(simp only [Int.reduceToNat] at ho5;rw [←Ny521.out] at ho5));have HO523:=a_ (Kd.R_lower ho5 (below_size (bel_)));replace HB:=a_ (bS_ (bel_) hb);clear hb ho5))
   go_loopg [4] k (fun kq v4 w'=>∃ (x3_1:List (S44)) (x4_1:Int),v4=.int .i64 x4_1∧Aside0 (laws_toEntryS.l0 kq l0 x3_1 x4_1=some r)∧Aside0 (kq≤k)∧Aside0 (Kd.R k44 44 w' w.heap.size (fun _=>True) v522 x3_1)∧Aside0 (Below w.heap.size w w'))
   case atStart=>exact ⟨(y521),(0),(si_),H',⟨Nat.le_refl _⟩,⟨by (with_reducible repeat (first|apply Kd.R_alloc|apply Kd.R_drewN|apply Kd.R_drew));exact HO523.out⟩,⟨bel_⟩⟩
   case round =>
    clear H'
    try clear c2
    try clear c2b0
    try clear c2b1
    try clear p2
    try clear c3
    try clear c3b0
    try clear c3b1
    try clear c5
    obtain ⟨x3_1,x4_1,rfl,HA,HK1,HO_3,HB⟩:=hrel
    cases gk with
    | zero=>exact absurd HA.out (by simp [laws_toEntryS.l0])
    | succ k1 =>
     have H:=HA.out
     clear HA
     simp only [laws_toEntryS.l0] at H
     by_cases c6:x4_1 < (l0.length:Int)
     ·rw [if_pos c6] at H
      have c6b0:decide (x4_1 < (l0.length:Int))=true:=dt_ c6
      clear c6
      by_cases c7:0≤x4_1
      ·rw [if_pos c7] at H
       have c7b0:decide (0≤x4_1)=true:=dt_ c7
       clear c7
       replace H:=bs_ H
       obtain ⟨⟨t525,t526,t527,t528,t529,t530,t531⟩,A80,H⟩:=H
       try dsimp only at H
       have A8:=a_ A80
       clear A80
       by_cases c9:x4_1 < (x3_1.length:Int)
       ·rw [if_pos c9] at H
        have c9b0:decide (x4_1 < (x3_1.length:Int))=true:=dt_ c9
        clear c9
        obtain ⟨y532,hy532⟩:∃ y_:List (S44),y_=(x3_1.set (x4_1:Int).toNat (⟨t525,t526,(⟨t527,t528,t529,t530,t531⟩:S42)⟩:S44)):=⟨_,rfl⟩
        replace H:(laws_toEntryS.l0 k1 l0 y532 (wrap64 (x4_1+1)))=some r:=by first|(rw [hy532];with_reducible exact H)|(have H2_:=(Option.bind_some _ _).symm.trans H;rw [hy532];with_reducible exact H2_)|(have H2_:=(Option.bind_some _ _).symm.trans H;with_reducible exact H2_)|with_reducible exact H|(rw [hy532];exact H)|exact H
        have Ny532:=a_ hy532
        clear hy532
        have H':=a_ H
        clear H
        have p524:0≤(x4_1:Int):=od_
        have q524:x4_1 < (l0.length:Int):=od_
        obtain ⟨ad524,e524,hx524_0,hx524_1,hx524_2,hx524_3,hx524_4,hx524_5,hx524_6⟩:=at_T36 HR0.out x4_1 p524 q524
        cases e524
        replace hx524_0:=(cb_ HB.out hx524_0 :)
        replace hx524_1:=(cb_ HB.out hx524_1 :)
        replace hx524_2:=(cb_ HB.out hx524_2 :)
        replace hx524_3:=(cb_ HB.out hx524_3 :)
        replace hx524_4:=(cb_ HB.out hx524_4 :)
        replace hx524_5:=(cb_ HB.out hx524_5 :)
        replace hx524_6:=(cb_ HB.out hx524_6 :)
        replace p524:=eq_true p524
        replace q524:=eq_true q524
        go_wp2_with (first|((with_reducible refine gC_ (f:=23) rfl ?_);refine gl_ 20 Tryd.func23 #[.agg #[.int .i64 ((rd_T36 l0 x4_1).f0),.int .i64 ((rd_T36 l0 x4_1).f1),.int .i64 ((rd_T36 l0 x4_1).f2.f0),.int .i64 ((rd_T36 l0 x4_1).f2.f1),.int .i64 ((rd_T36 l0 x4_1).f2.f2),.int .i64 ((rd_T36 l0 x4_1).f2.f3),.string ((rd_T36 l0 x4_1).f2.f4)]] ?_;(with_reducible refine (laws_toEntry.calls ((rd_T36 l0 x4_1).f0) ((rd_T36 l0 x4_1).f1) ((rd_T36 l0 x4_1).f2.f0) ((rd_T36 l0 x4_1).f2.f1) ((rd_T36 l0 x4_1).f2.f2) ((rd_T36 l0 x4_1).f2.f3) ((rd_T36 l0 x4_1).f2.f4) t525 t526 t527 t528 t529 t530 t531 _ A8.out).mono ?_);rintro e w11 ⟨rfl,hb⟩;refine ⟨_,rfl,?_⟩;replace HO_3:=a_ (Kd.R_below (rp_ HO_3.out) hb);replace HB:=a_ (bS_ (bel_) hb);(try clear hb);have p10:0≤(x4_1:Int):=od_;have q10:(x4_1:Int) < ((x3_1.length:Int):Int):=od_;obtain ⟨go10,co10,eo10,gb10,gl10,cl10,HG10⟩:=Kd.R_form HO_3.out (by omega);(first|cases eo10|(injection eo10 with ea_ en_ ec_;(first|subst ea_|(injection ea_ with ea_;subst ea_));subst ec_;clear en_));have GB10:=a_ gb10;have GG10:=a_ HG10;clear gb10 gl10 HG10;obtain ⟨ce10,hcl10,hM10,hcc10,hfr10⟩:=Kd.R_elem HO_3.out z44 (x4_1:Int) p10 q10;obtain rfl:=k44_openM hM10;have hx10_0:w11.cell? ⟨go10,(x4_1:Int).toNat * 7,none⟩=some (.int .i64 ((rd_T44 x3_1 x4_1).f0)):=hcc10 0 _ rfl;have hx10_1:w11.cell? ⟨go10,(x4_1:Int).toNat * 7+1,none⟩=some (.int .i64 ((rd_T44 x3_1 x4_1).f1)):=hcc10 1 _ rfl;have hx10_2:w11.cell? ⟨go10,(x4_1:Int).toNat * 7+2,none⟩=some (.int .i64 ((rd_T44 x3_1 x4_1).f2.f0)):=hcc10 2 _ rfl;have hx10_3:w11.cell? ⟨go10,(x4_1:Int).toNat * 7+3,none⟩=some (.int .i64 ((rd_T44 x3_1 x4_1).f2.f1)):=hcc10 3 _ rfl;have hx10_4:w11.cell? ⟨go10,(x4_1:Int).toNat * 7+4,none⟩=some (.int .i64 ((rd_T44 x3_1 x4_1).f2.f2)):=hcc10 4 _ rfl;have hx10_5:w11.cell? ⟨go10,(x4_1:Int).toNat * 7+5,none⟩=some (.int .i64 ((rd_T44 x3_1 x4_1).f2.f3)):=hcc10 5 _ rfl;have hx10_6:w11.cell? ⟨go10,(x4_1:Int).toNat * 7+6,none⟩=some (.string ((rd_T44 x3_1 x4_1).f2.f4)):=hcc10 6 _ rfl;have hf10_0:w11.frozen? ⟨go10,(x4_1:Int).toNat * 7,none⟩=false:=hfr10 0;have hf10_1:w11.frozen? ⟨go10,(x4_1:Int).toNat * 7+1,none⟩=false:=hfr10 1;have hf10_2:w11.frozen? ⟨go10,(x4_1:Int).toNat * 7+2,none⟩=false:=hfr10 2;have hf10_3:w11.frozen? ⟨go10,(x4_1:Int).toNat * 7+3,none⟩=false:=hfr10 3;have hf10_4:w11.frozen? ⟨go10,(x4_1:Int).toNat * 7+4,none⟩=false:=hfr10 4;have hf10_5:w11.frozen? ⟨go10,(x4_1:Int).toNat * 7+5,none⟩=false:=hfr10 5;have hf10_6:w11.frozen? ⟨go10,(x4_1:Int).toNat * 7+6,none⟩=false:=hfr10 6;clear hcl10 hcc10 hfr10 hM10;replace p10:=eq_true p10;replace q10:=eq_true q10;have HX12:=a_ (show Kd.R k44 44 w11 w.heap.size (fun _=>True) (.slice (some ⟨go10,0,none⟩) x3_1.length co10) x3_1 from (rp_ HO_3.out));obtain ⟨ce12,hcl12,hM12,hcc12,hfr12⟩:=Kd.R_elem HX12.out z44 (x4_1:Int) (od_) (by have h_:(x4_1:Int) < ((x3_1.length:Int):Int):=od_;first|exact h_|(have e_:=(Kd.R_reads' HO_3.out).1;omega)|simpa using h_);obtain rfl:=k44_openM hM12;have HP12:=Kd.R_seg HX12.out (x4_1:Int) (od_) (by have h_:(x4_1:Int) < ((x3_1.length:Int):Int):=od_;first|exact h_|(have e_:=(Kd.R_reads' HO_3.out).1;omega)|simpa using h_) (seg:=[.int .i64 t525,.int .i64 t526,.int .i64 t527,.int .i64 t528,.int .i64 t529,.int .i64 t530,.string t531]) (j:=0) hcl12 hcc12 (show 7≤7 from by decide) (x':=(⟨t525,t526,(⟨t527,t528,t529,t530,t531⟩:S42)⟩:S44)) (k44_mkM _ _ _ (⟨t525,t526,(⟨t527,t528,t529,t530,t531⟩:S42)⟩:S44) ) (fun _ hk=>hk);have hx12_0:=hcc12 0 _ rfl;(try simp only [show (k44).sz=7 from rfl,Nat.mul_one,Nat.add_zero] at hx12_0);have hf12_0:=hfr12 0;(try simp only [show (k44).sz=7 from rfl,Nat.mul_one,Nat.add_zero] at hf12_0);have hx12_1:=hcc12 1 _ rfl;(try simp only [show (k44).sz=7 from rfl,Nat.mul_one,Nat.add_zero] at hx12_1);have hf12_1:=hfr12 1;(try simp only [show (k44).sz=7 from rfl,Nat.mul_one,Nat.add_zero] at hf12_1);have hx12_2:=hcc12 2 _ rfl;(try simp only [show (k44).sz=7 from rfl,Nat.mul_one,Nat.add_zero] at hx12_2);have hf12_2:=hfr12 2;(try simp only [show (k44).sz=7 from rfl,Nat.mul_one,Nat.add_zero] at hf12_2);have hx12_3:=hcc12 3 _ rfl;(try simp only [show (k44).sz=7 from rfl,Nat.mul_one,Nat.add_zero] at hx12_3);have hf12_3:=hfr12 3;(try simp only [show (k44).sz=7 from rfl,Nat.mul_one,Nat.add_zero] at hf12_3);have hx12_4:=hcc12 4 _ rfl;(try simp only [show (k44).sz=7 from rfl,Nat.mul_one,Nat.add_zero] at hx12_4);have hf12_4:=hfr12 4;(try simp only [show (k44).sz=7 from rfl,Nat.mul_one,Nat.add_zero] at hf12_4);have hx12_5:=hcc12 5 _ rfl;(try simp only [show (k44).sz=7 from rfl,Nat.mul_one,Nat.add_zero] at hx12_5);have hf12_5:=hfr12 5;(try simp only [show (k44).sz=7 from rfl,Nat.mul_one,Nat.add_zero] at hf12_5);have hx12_6:=hcc12 6 _ rfl;(try simp only [show (k44).sz=7 from rfl,Nat.mul_one,Nat.add_zero] at hx12_6);have hf12_6:=hfr12 6;(try simp only [show (k44).sz=7 from rfl,Nat.mul_one,Nat.add_zero] at hf12_6);clear hcl12 hcc12 hfr12 hM12)|((with_reducible refine gate_store (t:=44) (p:=21) rfl ?_);refine store_event (t:=44) (p:=21) (v:=?vo_w13) (w1:=(((((((w11.setCell ⟨go10,(x4_1:Int).toNat * 7,none⟩ (.int .i64 t525)).setCell ⟨go10,(x4_1:Int).toNat * 7+1,none⟩ (.int .i64 t526)).setCell ⟨go10,(x4_1:Int).toNat * 7+2,none⟩ (.int .i64 t527)).setCell ⟨go10,(x4_1:Int).toNat * 7+3,none⟩ (.int .i64 t528)).setCell ⟨go10,(x4_1:Int).toNat * 7+4,none⟩ (.int .i64 t529)).setCell ⟨go10,(x4_1:Int).toNat * 7+5,none⟩ (.int .i64 t530)).setCell ⟨go10,(x4_1:Int).toNat * 7+6,none⟩ (.string t531))) ?hg ?ho ?hn ?hr ?_;(case ho=>rfl);(case hg=>rfl);(case hn=>rfl);(case hr=>first|(go_simp;done)|(go_simp;rfl));intro w13 hw;have hg:w11.grownBy w13 (some go10):=(by rw [hw];exact HP12.2);have hp_:Kd.R k44 44 w13 w.heap.size (fun _=>True) (.slice (some ⟨go10,0,none⟩) x3_1.length co10) y532:=(by rw [hw,Ny532.out];exact HP12.1);clear HP12;have n0_:=a_ (hp_);have n1_:=a_ ((by rw [hw];exact wS_ (wS_ (wS_ (wS_ (wS_ (wS_ (wS_ (HB.out) GB10.out) GB10.out) GB10.out) GB10.out) GB10.out) GB10.out) GB10.out:Below w.heap.size w w13));clear HO_3;clear HB;have HO_3:=n0_;have HB:=n1_;clear n0_ n1_;clear hg hw hp_))
        go_roundg k1
        case measure=>have:=HK1.out;omega
        case rel=>exact ⟨(y532),(wrap64 (x4_1+1)),(si_),H',⟨by have:=HK1.out;omega⟩,⟨by (with_reducible repeat (first|apply Kd.R_alloc|apply Kd.R_drewN|apply Kd.R_drew));exact HO_3.out⟩,⟨bel_⟩⟩
       ·rw [if_neg c9] at H
        exact absurd H (by simp)
      ·rw [if_neg c7] at H
       exact absurd H (by simp)
     ·rw [if_neg c6] at H
      have c6b0:decide (x4_1 < (l0.length:Int))=false:=df_ c6
      clear c6
      obtain rfl:=sj_ H
      go_wp2
      go_ret
      exact ⟨_,fi_,by (with_reducible repeat (first|apply Kd.R_alloc|apply Kd.R_drewN|apply Kd.R_drew));exact HO_3.out,bel_⟩
  ·rw [if_neg c3] at H
   exact absurd H (by simp)
 ·rw [if_neg c2] at H
  exact absurd H (by simp)

def laws_eqOp.f (a0_0:Int) (a0_1:Int) (a0_2:Int) (a0_3:Int) (a0_4:ByteArray) (a1_0:Int) (a1_1:Int) (a1_2:Int) (a1_3:Int) (a1_4:ByteArray):Option (Bool):=if a0_0=a1_0 then (if a0_1=a1_1 then (if a0_2=a1_2 then (if a0_3=a1_3 then (if a0_4.toList=a1_4.toList then (some true) else (some false)) else (some false)) else (some false)) else (some false)) else (some false)
theorem laws_eqOp.calls (a0_0:Int) (a0_1:Int) (a0_2:Int) (a0_3:Int) (a0_4:ByteArray) (a1_0:Int) (a1_1:Int) (a1_2:Int) (a1_3:Int) (a1_4:ByteArray) (r:Bool) (w:World) (h:laws_eqOp.f a0_0 a0_1 a0_2 a0_3 a0_4 a1_0 a1_1 a1_2 a1_3 a1_4=some r) :
  Calls Tryd.prog 137 #[.agg #[.int .i64 a0_0,.int .i64 a0_1,.int .i64 a0_2,.int .i64 a0_3,.string a0_4],.agg #[.int .i64 a1_0,.int .i64 a1_1,.int .i64 a1_2,.int .i64 a1_3,.string a1_4]] w fun e w'=>e=.returned (.bool r)∧Below w.heap.size w w':=by
 have hu42:=Tryd.underlying42
 have HB:=a_ (Below.refl w.heap.size w)
 unfold laws_eqOp.f at h
 have H:=h
 clear h
 by_cases c3:a0_0=a1_0
 ·rw [if_pos c3] at H
  have c3b0:(a0_0==a1_0)=true:=beq_iff_eq.mpr c3
  have c3b1:(a0_0 != a1_0)=false:=be_ c3
  clear c3
  by_cases c4:a0_1=a1_1
  ·rw [if_pos c4] at H
   have c4b0:(a0_1==a1_1)=true:=beq_iff_eq.mpr c4
   have c4b1:(a0_1 != a1_1)=false:=be_ c4
   clear c4
   by_cases c5:a0_2=a1_2
   ·rw [if_pos c5] at H
    have c5b0:(a0_2==a1_2)=true:=beq_iff_eq.mpr c5
    have c5b1:(a0_2 != a1_2)=false:=be_ c5
    clear c5
    by_cases c6:a0_3=a1_3
    ·rw [if_pos c6] at H
     have c6b0:(a0_3==a1_3)=true:=beq_iff_eq.mpr c6
     have c6b1:(a0_3 != a1_3)=false:=be_ c6
     clear c6
     by_cases c7:a0_4.toList=a1_4.toList
     ·rw [if_pos c7] at H
      have c7b0:(a0_4.toList==a1_4.toList)=true:=beq_iff_eq.mpr c7
      have c7b1:(a0_4.toList != a1_4.toList)=false:=be_ c7
      clear c7
      obtain rfl:=sj_ H
      go_enter Tryd.func137,Tryd.ntmps137
      go_wp2_with (first|((with_reducible refine gD_ (N:=2) rfl ?_);refine bx_ 2 (#[.int .i64 a0_0,.int .i64 a0_1,.int .i64 a0_2,.int .i64 a0_3,.string a0_4]) 42 ?_;intro gb552 hg w8 hbox hb;have n0_:=a_ (bS_ (bel_) hb);have n1_:=a_ (hbox);have n2_:=a_ ((by rw [hg];exact (below_size (bel_)):w.heap.size≤gb552));have n3_:=a_ ((by rw [hg];exact (below_size (bel_)):w.heap.size≤gb552));clear HB;have HB:=n0_;have BK552:=n1_;have GW552:=n2_;have GE552:=n3_;clear n0_ n1_ n2_ n3_;clear hb hbox hg)|((with_reducible refine gD_ (N:=3) rfl ?_);refine bx_ 3 (#[.int .i64 a1_0,.int .i64 a1_1,.int .i64 a1_2,.int .i64 a1_3,.string a1_4]) 42 ?_;intro gb553 hg w9 hbox hb;have n0_:=a_ (bb_ BK552.out hb);have n1_:=a_ (bS_ (bel_) hb);have n2_:=a_ (hbox);have n3_:=a_ ((by rw [hg];exact (below_size (bel_)):w.heap.size≤gb553));have n4_:=a_ ((by rw [hg];exact (below_size (bel_)):w.heap.size≤gb553));have n5_:=a_ ((by rw [hg];exact Nat.ne_of_lt (blk_lt (g:=gb552) (o:=.cells #[.int .i64 a0_0,.int .i64 a0_1,.int .i64 a0_2,.int .i64 a0_3,.string a0_4] 42 (0,0)) (bp_ BK552.out)):gb552≠gb553));have n6_:=a_ ((by rw [hg];exact Nat.ne_of_gt (blk_lt (g:=gb552) (o:=.cells #[.int .i64 a0_0,.int .i64 a0_1,.int .i64 a0_2,.int .i64 a0_3,.string a0_4] 42 (0,0)) (bp_ BK552.out)):gb553≠gb552));clear BK552;clear HB;have BK552:=n0_;have HB:=n1_;have BK553:=n2_;have GW553:=n3_;have GE553:=n4_;have NB552_553:=n5_;have NB553_552:=n6_;clear n0_ n1_ n2_ n3_ n4_ n5_ n6_;clear hb hbox hg;have hnb10:=NB552_553.out;have hnc10:=NB553_552.out;obtain ⟨Z11_0,Z11_1,Z11_2,Z11_3,Z11_4,Y11_0,Y11_1,Y11_2,Y11_3,Y11_4⟩:=op5_ BK552.out;obtain ⟨Z12_0,Z12_1,Z12_2,Z12_3,Z12_4,Y12_0,Y12_1,Y12_2,Y12_3,Y12_4⟩:=op5_ BK553.out))
      go_ret
      exact ⟨fi_,bel_⟩
     ·rw [if_neg c7] at H
      have c7b0:(a0_4.toList==a1_4.toList)=false:=bn_ c7
      have c7b1:(a0_4.toList != a1_4.toList)=true:=bne_iff_ne.mpr c7
      obtain rfl:=sj_ H
      go_enter Tryd.func137,Tryd.ntmps137
      go_wp2_with (first|((with_reducible refine gD_ (N:=2) rfl ?_);refine bx_ 2 (#[.int .i64 a0_0,.int .i64 a0_1,.int .i64 a0_2,.int .i64 a0_3,.string a0_4]) 42 ?_;intro gb552 hg w13 hbox hb;have n0_:=a_ (bS_ (bel_) hb);have n1_:=a_ (hbox);have n2_:=a_ ((by rw [hg];exact (below_size (bel_)):w.heap.size≤gb552));have n3_:=a_ ((by rw [hg];exact (below_size (bel_)):w.heap.size≤gb552));clear HB;have HB:=n0_;have BK552:=n1_;have GW552:=n2_;have GE552:=n3_;clear n0_ n1_ n2_ n3_;clear hb hbox hg)|((with_reducible refine gD_ (N:=3) rfl ?_);refine bx_ 3 (#[.int .i64 a1_0,.int .i64 a1_1,.int .i64 a1_2,.int .i64 a1_3,.string a1_4]) 42 ?_;intro gb553 hg w14 hbox hb;have n0_:=a_ (bb_ BK552.out hb);have n1_:=a_ (bS_ (bel_) hb);have n2_:=a_ (hbox);have n3_:=a_ ((by rw [hg];exact (below_size (bel_)):w.heap.size≤gb553));have n4_:=a_ ((by rw [hg];exact (below_size (bel_)):w.heap.size≤gb553));have n5_:=a_ ((by rw [hg];exact Nat.ne_of_lt (blk_lt (g:=gb552) (o:=.cells #[.int .i64 a0_0,.int .i64 a0_1,.int .i64 a0_2,.int .i64 a0_3,.string a0_4] 42 (0,0)) (bp_ BK552.out)):gb552≠gb553));have n6_:=a_ ((by rw [hg];exact Nat.ne_of_gt (blk_lt (g:=gb552) (o:=.cells #[.int .i64 a0_0,.int .i64 a0_1,.int .i64 a0_2,.int .i64 a0_3,.string a0_4] 42 (0,0)) (bp_ BK552.out)):gb553≠gb552));clear BK552;clear HB;have BK552:=n0_;have HB:=n1_;have BK553:=n2_;have GW553:=n3_;have GE553:=n4_;have NB552_553:=n5_;have NB553_552:=n6_;clear n0_ n1_ n2_ n3_ n4_ n5_ n6_;clear hb hbox hg;have hnb15:=NB552_553.out;have hnc15:=NB553_552.out;obtain ⟨Z16_0,Z16_1,Z16_2,Z16_3,Z16_4,Y16_0,Y16_1,Y16_2,Y16_3,Y16_4⟩:=op5_ BK552.out;obtain ⟨Z17_0,Z17_1,Z17_2,Z17_3,Z17_4,Y17_0,Y17_1,Y17_2,Y17_3,Y17_4⟩:=op5_ BK553.out))
      go_ret
      exact ⟨fi_,bel_⟩
    ·rw [if_neg c6] at H
     have c6b0:(a0_3==a1_3)=false:=bn_ c6
     have c6b1:(a0_3 != a1_3)=true:=bne_iff_ne.mpr c6
     obtain rfl:=sj_ H
     go_enter Tryd.func137,Tryd.ntmps137
     go_wp2_with (first|((with_reducible refine gD_ (N:=2) rfl ?_);refine bx_ 2 (#[.int .i64 a0_0,.int .i64 a0_1,.int .i64 a0_2,.int .i64 a0_3,.string a0_4]) 42 ?_;intro gb552 hg w18 hbox hb;have n0_:=a_ (bS_ (bel_) hb);have n1_:=a_ (hbox);have n2_:=a_ ((by rw [hg];exact (below_size (bel_)):w.heap.size≤gb552));have n3_:=a_ ((by rw [hg];exact (below_size (bel_)):w.heap.size≤gb552));clear HB;have HB:=n0_;have BK552:=n1_;have GW552:=n2_;have GE552:=n3_;clear n0_ n1_ n2_ n3_;clear hb hbox hg)|((with_reducible refine gD_ (N:=3) rfl ?_);refine bx_ 3 (#[.int .i64 a1_0,.int .i64 a1_1,.int .i64 a1_2,.int .i64 a1_3,.string a1_4]) 42 ?_;intro gb553 hg w19 hbox hb;have n0_:=a_ (bb_ BK552.out hb);have n1_:=a_ (bS_ (bel_) hb);have n2_:=a_ (hbox);have n3_:=a_ ((by rw [hg];exact (below_size (bel_)):w.heap.size≤gb553));have n4_:=a_ ((by rw [hg];exact (below_size (bel_)):w.heap.size≤gb553));have n5_:=a_ ((by rw [hg];exact Nat.ne_of_lt (blk_lt (g:=gb552) (o:=.cells #[.int .i64 a0_0,.int .i64 a0_1,.int .i64 a0_2,.int .i64 a0_3,.string a0_4] 42 (0,0)) (bp_ BK552.out)):gb552≠gb553));have n6_:=a_ ((by rw [hg];exact Nat.ne_of_gt (blk_lt (g:=gb552) (o:=.cells #[.int .i64 a0_0,.int .i64 a0_1,.int .i64 a0_2,.int .i64 a0_3,.string a0_4] 42 (0,0)) (bp_ BK552.out)):gb553≠gb552));clear BK552;clear HB;have BK552:=n0_;have HB:=n1_;have BK553:=n2_;have GW553:=n3_;have GE553:=n4_;have NB552_553:=n5_;have NB553_552:=n6_;clear n0_ n1_ n2_ n3_ n4_ n5_ n6_;clear hb hbox hg;have hnb20:=NB552_553.out;have hnc20:=NB553_552.out;obtain ⟨Z21_0,Z21_1,Z21_2,Z21_3,Z21_4,Y21_0,Y21_1,Y21_2,Y21_3,Y21_4⟩:=op5_ BK552.out;obtain ⟨Z22_0,Z22_1,Z22_2,Z22_3,Z22_4,Y22_0,Y22_1,Y22_2,Y22_3,Y22_4⟩:=op5_ BK553.out))
     go_ret
     exact ⟨fi_,bel_⟩
   ·rw [if_neg c5] at H
    have c5b0:(a0_2==a1_2)=false:=bn_ c5
    have c5b1:(a0_2 != a1_2)=true:=bne_iff_ne.mpr c5
    obtain rfl:=sj_ H
    go_enter Tryd.func137,Tryd.ntmps137
    go_wp2_with (first|((with_reducible refine gD_ (N:=2) rfl ?_);refine bx_ 2 (#[.int .i64 a0_0,.int .i64 a0_1,.int .i64 a0_2,.int .i64 a0_3,.string a0_4]) 42 ?_;intro gb552 hg w23 hbox hb;have n0_:=a_ (bS_ (bel_) hb);have n1_:=a_ (hbox);have n2_:=a_ ((by rw [hg];exact (below_size (bel_)):w.heap.size≤gb552));have n3_:=a_ ((by rw [hg];exact (below_size (bel_)):w.heap.size≤gb552));clear HB;have HB:=n0_;have BK552:=n1_;have GW552:=n2_;have GE552:=n3_;clear n0_ n1_ n2_ n3_;clear hb hbox hg)|((with_reducible refine gD_ (N:=3) rfl ?_);refine bx_ 3 (#[.int .i64 a1_0,.int .i64 a1_1,.int .i64 a1_2,.int .i64 a1_3,.string a1_4]) 42 ?_;intro gb553 hg w24 hbox hb;have n0_:=a_ (bb_ BK552.out hb);have n1_:=a_ (bS_ (bel_) hb);have n2_:=a_ (hbox);have n3_:=a_ ((by rw [hg];exact (below_size (bel_)):w.heap.size≤gb553));have n4_:=a_ ((by rw [hg];exact (below_size (bel_)):w.heap.size≤gb553));have n5_:=a_ ((by rw [hg];exact Nat.ne_of_lt (blk_lt (g:=gb552) (o:=.cells #[.int .i64 a0_0,.int .i64 a0_1,.int .i64 a0_2,.int .i64 a0_3,.string a0_4] 42 (0,0)) (bp_ BK552.out)):gb552≠gb553));have n6_:=a_ ((by rw [hg];exact Nat.ne_of_gt (blk_lt (g:=gb552) (o:=.cells #[.int .i64 a0_0,.int .i64 a0_1,.int .i64 a0_2,.int .i64 a0_3,.string a0_4] 42 (0,0)) (bp_ BK552.out)):gb553≠gb552));clear BK552;clear HB;have BK552:=n0_;have HB:=n1_;have BK553:=n2_;have GW553:=n3_;have GE553:=n4_;have NB552_553:=n5_;have NB553_552:=n6_;clear n0_ n1_ n2_ n3_ n4_ n5_ n6_;clear hb hbox hg;have hnb25:=NB552_553.out;have hnc25:=NB553_552.out;obtain ⟨Z26_0,Z26_1,Z26_2,Z26_3,Z26_4,Y26_0,Y26_1,Y26_2,Y26_3,Y26_4⟩:=op5_ BK552.out;obtain ⟨Z27_0,Z27_1,Z27_2,Z27_3,Z27_4,Y27_0,Y27_1,Y27_2,Y27_3,Y27_4⟩:=op5_ BK553.out))
    go_ret
    exact ⟨fi_,bel_⟩
  ·rw [if_neg c4] at H
   have c4b0:(a0_1==a1_1)=false:=bn_ c4
   have c4b1:(a0_1 != a1_1)=true:=bne_iff_ne.mpr c4
   obtain rfl:=sj_ H
   go_enter Tryd.func137,Tryd.ntmps137
   go_wp2_with (first|((with_reducible refine gD_ (N:=2) rfl ?_);refine bx_ 2 (#[.int .i64 a0_0,.int .i64 a0_1,.int .i64 a0_2,.int .i64 a0_3,.string a0_4]) 42 ?_;intro gb552 hg w28 hbox hb;have n0_:=a_ (bS_ (bel_) hb);have n1_:=a_ (hbox);have n2_:=a_ ((by rw [hg];exact (below_size (bel_)):w.heap.size≤gb552));have n3_:=a_ ((by rw [hg];exact (below_size (bel_)):w.heap.size≤gb552));clear HB;have HB:=n0_;have BK552:=n1_;have GW552:=n2_;have GE552:=n3_;clear n0_ n1_ n2_ n3_;clear hb hbox hg)|((with_reducible refine gD_ (N:=3) rfl ?_);refine bx_ 3 (#[.int .i64 a1_0,.int .i64 a1_1,.int .i64 a1_2,.int .i64 a1_3,.string a1_4]) 42 ?_;intro gb553 hg w29 hbox hb;have n0_:=a_ (bb_ BK552.out hb);have n1_:=a_ (bS_ (bel_) hb);have n2_:=a_ (hbox);have n3_:=a_ ((by rw [hg];exact (below_size (bel_)):w.heap.size≤gb553));have n4_:=a_ ((by rw [hg];exact (below_size (bel_)):w.heap.size≤gb553));have n5_:=a_ ((by rw [hg];exact Nat.ne_of_lt (blk_lt (g:=gb552) (o:=.cells #[.int .i64 a0_0,.int .i64 a0_1,.int .i64 a0_2,.int .i64 a0_3,.string a0_4] 42 (0,0)) (bp_ BK552.out)):gb552≠gb553));have n6_:=a_ ((by rw [hg];exact Nat.ne_of_gt (blk_lt (g:=gb552) (o:=.cells #[.int .i64 a0_0,.int .i64 a0_1,.int .i64 a0_2,.int .i64 a0_3,.string a0_4] 42 (0,0)) (bp_ BK552.out)):gb553≠gb552));clear BK552;clear HB;have BK552:=n0_;have HB:=n1_;have BK553:=n2_;have GW553:=n3_;have GE553:=n4_;have NB552_553:=n5_;have NB553_552:=n6_;clear n0_ n1_ n2_ n3_ n4_ n5_ n6_;clear hb hbox hg;have hnb30:=NB552_553.out;have hnc30:=NB553_552.out;obtain ⟨Z31_0,Z31_1,Z31_2,Z31_3,Z31_4,Y31_0,Y31_1,Y31_2,Y31_3,Y31_4⟩:=op5_ BK552.out;obtain ⟨Z32_0,Z32_1,Z32_2,Z32_3,Z32_4,Y32_0,Y32_1,Y32_2,Y32_3,Y32_4⟩:=op5_ BK553.out))
   go_ret
   exact ⟨fi_,bel_⟩
 ·rw [if_neg c3] at H
  have c3b0:(a0_0==a1_0)=false:=bn_ c3
  have c3b1:(a0_0 != a1_0)=true:=bne_iff_ne.mpr c3
  obtain rfl:=sj_ H
  go_enter Tryd.func137,Tryd.ntmps137
  go_wp2_with (first|((with_reducible refine gD_ (N:=2) rfl ?_);refine bx_ 2 (#[.int .i64 a0_0,.int .i64 a0_1,.int .i64 a0_2,.int .i64 a0_3,.string a0_4]) 42 ?_;intro gb552 hg w33 hbox hb;have n0_:=a_ (bS_ (bel_) hb);have n1_:=a_ (hbox);have n2_:=a_ ((by rw [hg];exact (below_size (bel_)):w.heap.size≤gb552));have n3_:=a_ ((by rw [hg];exact (below_size (bel_)):w.heap.size≤gb552));clear HB;have HB:=n0_;have BK552:=n1_;have GW552:=n2_;have GE552:=n3_;clear n0_ n1_ n2_ n3_;clear hb hbox hg)|((with_reducible refine gD_ (N:=3) rfl ?_);refine bx_ 3 (#[.int .i64 a1_0,.int .i64 a1_1,.int .i64 a1_2,.int .i64 a1_3,.string a1_4]) 42 ?_;intro gb553 hg w34 hbox hb;have n0_:=a_ (bb_ BK552.out hb);have n1_:=a_ (bS_ (bel_) hb);have n2_:=a_ (hbox);have n3_:=a_ ((by rw [hg];exact (below_size (bel_)):w.heap.size≤gb553));have n4_:=a_ ((by rw [hg];exact (below_size (bel_)):w.heap.size≤gb553));have n5_:=a_ ((by rw [hg];exact Nat.ne_of_lt (blk_lt (g:=gb552) (o:=.cells #[.int .i64 a0_0,.int .i64 a0_1,.int .i64 a0_2,.int .i64 a0_3,.string a0_4] 42 (0,0)) (bp_ BK552.out)):gb552≠gb553));have n6_:=a_ ((by rw [hg];exact Nat.ne_of_gt (blk_lt (g:=gb552) (o:=.cells #[.int .i64 a0_0,.int .i64 a0_1,.int .i64 a0_2,.int .i64 a0_3,.string a0_4] 42 (0,0)) (bp_ BK552.out)):gb553≠gb552));clear BK552;clear HB;have BK552:=n0_;have HB:=n1_;have BK553:=n2_;have GW553:=n3_;have GE553:=n4_;have NB552_553:=n5_;have NB553_552:=n6_;clear n0_ n1_ n2_ n3_ n4_ n5_ n6_;clear hb hbox hg;have hnb35:=NB552_553.out;have hnc35:=NB553_552.out;obtain ⟨Z36_0,Z36_1,Z36_2,Z36_3,Z36_4,Y36_0,Y36_1,Y36_2,Y36_3,Y36_4⟩:=op5_ BK552.out;obtain ⟨Z37_0,Z37_1,Z37_2,Z37_3,Z37_4,Y37_0,Y37_1,Y37_2,Y37_3,Y37_4⟩:=op5_ BK553.out))
  go_ret
  exact ⟨fi_,bel_⟩

def laws_eqEntry.f (a0_0:Int) (a0_1:Int) (a0_2:Int) (a0_3:Int) (a0_4:Int) (a0_5:Int) (a0_6:ByteArray) (a1_0:Int) (a1_1:Int) (a1_2:Int) (a1_3:Int) (a1_4:Int) (a1_5:Int) (a1_6:ByteArray):Option (Bool):=if a0_0=a1_0 then (if a0_1=a1_1 then ((laws_eqOp.f a0_2 a0_3 a0_4 a0_5 a0_6 a1_2 a1_3 a1_4 a1_5 a1_6).bind fun t556=>(if t556=true then (some true) else (some false))) else (some false)) else (some false)
theorem laws_eqEntry.calls (a0_0:Int) (a0_1:Int) (a0_2:Int) (a0_3:Int) (a0_4:Int) (a0_5:Int) (a0_6:ByteArray) (a1_0:Int) (a1_1:Int) (a1_2:Int) (a1_3:Int) (a1_4:Int) (a1_5:Int) (a1_6:ByteArray) (r:Bool) (w:World) (h:laws_eqEntry.f a0_0 a0_1 a0_2 a0_3 a0_4 a0_5 a0_6 a1_0 a1_1 a1_2 a1_3 a1_4 a1_5 a1_6=some r) :
  Calls Tryd.prog 102 #[.agg #[.int .i64 a0_0,.int .i64 a0_1,.int .i64 a0_2,.int .i64 a0_3,.int .i64 a0_4,.int .i64 a0_5,.string a0_6],.agg #[.int .i64 a1_0,.int .i64 a1_1,.int .i64 a1_2,.int .i64 a1_3,.int .i64 a1_4,.int .i64 a1_5,.string a1_6]] w fun e w'=>e=.returned (.bool r)∧Below w.heap.size w w':=by
 have hu44:=Tryd.underlying44
 have hu42:=Tryd.underlying42
 have HB:=a_ (Below.refl w.heap.size w)
 unfold laws_eqEntry.f at h
 have H:=h
 clear h
 by_cases c3:a0_0=a1_0
 ·rw [if_pos c3] at H
  have c3b0:(a0_0==a1_0)=true:=beq_iff_eq.mpr c3
  have c3b1:(a0_0 != a1_0)=false:=be_ c3
  clear c3
  by_cases c4:a0_1=a1_1
  ·rw [if_pos c4] at H
   have c4b0:(a0_1==a1_1)=true:=beq_iff_eq.mpr c4
   have c4b1:(a0_1 != a1_1)=false:=be_ c4
   clear c4
   replace H:=bs_ H
   obtain ⟨t556,A50,H⟩:=H
   try dsimp only at H
   have A5:=a_ A50
   clear A50
   by_cases c6:t556=true
   ·subst c6
    have H1:(some true)=some r:=by rw [if_pos rfl] at H;exact H
    clear H
    have H:=H1
    clear H1
    obtain rfl:=sj_ H
    go_enter Tryd.func102,Tryd.ntmps102
    go_wp2_with (first|((with_reducible refine gD_ (N:=2) rfl ?_);refine bx_ 2 (#[.int .i64 a0_0,.int .i64 a0_1,.int .i64 a0_2,.int .i64 a0_3,.int .i64 a0_4,.int .i64 a0_5,.string a0_6]) 44 ?_;intro gb554 hg w7 hbox hb;have n0_:=a_ (bS_ (bel_) hb);have n1_:=a_ (hbox);have n2_:=a_ ((by rw [hg];exact (below_size (bel_)):w.heap.size≤gb554));have n3_:=a_ ((by rw [hg];exact (below_size (bel_)):w.heap.size≤gb554));clear HB;have HB:=n0_;have BK554:=n1_;have GW554:=n2_;have GE554:=n3_;clear n0_ n1_ n2_ n3_;clear hb hbox hg)|((with_reducible refine gD_ (N:=3) rfl ?_);refine bx_ 3 (#[.int .i64 a1_0,.int .i64 a1_1,.int .i64 a1_2,.int .i64 a1_3,.int .i64 a1_4,.int .i64 a1_5,.string a1_6]) 44 ?_;intro gb555 hg w8 hbox hb;have n0_:=a_ (bb_ BK554.out hb);have n1_:=a_ (bS_ (bel_) hb);have n2_:=a_ (hbox);have n3_:=a_ ((by rw [hg];exact (below_size (bel_)):w.heap.size≤gb555));have n4_:=a_ ((by rw [hg];exact (below_size (bel_)):w.heap.size≤gb555));have n5_:=a_ ((by rw [hg];exact Nat.ne_of_lt (blk_lt (g:=gb554) (o:=.cells #[.int .i64 a0_0,.int .i64 a0_1,.int .i64 a0_2,.int .i64 a0_3,.int .i64 a0_4,.int .i64 a0_5,.string a0_6] 44 (0,0)) (bp_ BK554.out)):gb554≠gb555));have n6_:=a_ ((by rw [hg];exact Nat.ne_of_gt (blk_lt (g:=gb554) (o:=.cells #[.int .i64 a0_0,.int .i64 a0_1,.int .i64 a0_2,.int .i64 a0_3,.int .i64 a0_4,.int .i64 a0_5,.string a0_6] 44 (0,0)) (bp_ BK554.out)):gb555≠gb554));clear BK554;clear HB;have BK554:=n0_;have HB:=n1_;have BK555:=n2_;have GW555:=n3_;have GE555:=n4_;have NB554_555:=n5_;have NB555_554:=n6_;clear n0_ n1_ n2_ n3_ n4_ n5_ n6_;clear hb hbox hg;have hnb9:=NB554_555.out;have hnc9:=NB555_554.out;obtain ⟨Z10_0,Z10_1,Z10_2,Z10_3,Z10_4,Z10_5,Z10_6,Y10_0,Y10_1,Y10_2,Y10_3,Y10_4,Y10_5,Y10_6⟩:=op7_ BK554.out;obtain ⟨Z11_0,Z11_1,Z11_2,Z11_3,Z11_4,Z11_5,Z11_6,Y11_0,Y11_1,Y11_2,Y11_3,Y11_4,Y11_5,Y11_6⟩:=op7_ BK555.out)|((with_reducible refine gC_ (f:=137) rfl ?_);refine gl_ 19 Tryd.func137 #[.agg #[.int .i64 a0_2,.int .i64 a0_3,.int .i64 a0_4,.int .i64 a0_5,.string a0_6],.agg #[.int .i64 a1_2,.int .i64 a1_3,.int .i64 a1_4,.int .i64 a1_5,.string a1_6]] ?_;(with_reducible refine (laws_eqOp.calls a0_2 a0_3 a0_4 a0_5 a0_6 a1_2 a1_3 a1_4 a1_5 a1_6 true _ A5.out).mono ?_);rintro e w12 ⟨rfl,hb⟩;refine ⟨_,rfl,?_⟩;replace HB:=a_ (bS_ (bel_) hb);replace BK554:=a_ (bb_ BK554.out hb);replace BK555:=a_ (bb_ BK555.out hb);(try clear hb)))
    go_ret
    exact ⟨fi_,bel_⟩
   ·replace c6:=Bool.eq_false_iff.mpr c6
    subst c6
    have H1:(some false)=some r:=by rw [if_neg (show ¬ (false=true) by decide)] at H;exact H
    clear H
    have H:=H1
    clear H1
    obtain rfl:=sj_ H
    go_enter Tryd.func102,Tryd.ntmps102
    go_wp2_with (first|((with_reducible refine gD_ (N:=2) rfl ?_);refine bx_ 2 (#[.int .i64 a0_0,.int .i64 a0_1,.int .i64 a0_2,.int .i64 a0_3,.int .i64 a0_4,.int .i64 a0_5,.string a0_6]) 44 ?_;intro gb554 hg w13 hbox hb;have n0_:=a_ (bS_ (bel_) hb);have n1_:=a_ (hbox);have n2_:=a_ ((by rw [hg];exact (below_size (bel_)):w.heap.size≤gb554));have n3_:=a_ ((by rw [hg];exact (below_size (bel_)):w.heap.size≤gb554));clear HB;have HB:=n0_;have BK554:=n1_;have GW554:=n2_;have GE554:=n3_;clear n0_ n1_ n2_ n3_;clear hb hbox hg)|((with_reducible refine gD_ (N:=3) rfl ?_);refine bx_ 3 (#[.int .i64 a1_0,.int .i64 a1_1,.int .i64 a1_2,.int .i64 a1_3,.int .i64 a1_4,.int .i64 a1_5,.string a1_6]) 44 ?_;intro gb555 hg w14 hbox hb;have n0_:=a_ (bb_ BK554.out hb);have n1_:=a_ (bS_ (bel_) hb);have n2_:=a_ (hbox);have n3_:=a_ ((by rw [hg];exact (below_size (bel_)):w.heap.size≤gb555));have n4_:=a_ ((by rw [hg];exact (below_size (bel_)):w.heap.size≤gb555));have n5_:=a_ ((by rw [hg];exact Nat.ne_of_lt (blk_lt (g:=gb554) (o:=.cells #[.int .i64 a0_0,.int .i64 a0_1,.int .i64 a0_2,.int .i64 a0_3,.int .i64 a0_4,.int .i64 a0_5,.string a0_6] 44 (0,0)) (bp_ BK554.out)):gb554≠gb555));have n6_:=a_ ((by rw [hg];exact Nat.ne_of_gt (blk_lt (g:=gb554) (o:=.cells #[.int .i64 a0_0,.int .i64 a0_1,.int .i64 a0_2,.int .i64 a0_3,.int .i64 a0_4,.int .i64 a0_5,.string a0_6] 44 (0,0)) (bp_ BK554.out)):gb555≠gb554));clear BK554;clear HB;have BK554:=n0_;have HB:=n1_;have BK555:=n2_;have GW555:=n3_;have GE555:=n4_;have NB554_555:=n5_;have NB555_554:=n6_;clear n0_ n1_ n2_ n3_ n4_ n5_ n6_;clear hb hbox hg;have hnb15:=NB554_555.out;have hnc15:=NB555_554.out;obtain ⟨Z16_0,Z16_1,Z16_2,Z16_3,Z16_4,Z16_5,Z16_6,Y16_0,Y16_1,Y16_2,Y16_3,Y16_4,Y16_5,Y16_6⟩:=op7_ BK554.out;obtain ⟨Z17_0,Z17_1,Z17_2,Z17_3,Z17_4,Z17_5,Z17_6,Y17_0,Y17_1,Y17_2,Y17_3,Y17_4,Y17_5,Y17_6⟩:=op7_ BK555.out)|((with_reducible refine gC_ (f:=137) rfl ?_);refine gl_ 19 Tryd.func137 #[.agg #[.int .i64 a0_2,.int .i64 a0_3,.int .i64 a0_4,.int .i64 a0_5,.string a0_6],.agg #[.int .i64 a1_2,.int .i64 a1_3,.int .i64 a1_4,.int .i64 a1_5,.string a1_6]] ?_;(with_reducible refine (laws_eqOp.calls a0_2 a0_3 a0_4 a0_5 a0_6 a1_2 a1_3 a1_4 a1_5 a1_6 false _ A5.out).mono ?_);rintro e w18 ⟨rfl,hb⟩;refine ⟨_,rfl,?_⟩;replace HB:=a_ (bS_ (bel_) hb);replace BK554:=a_ (bb_ BK554.out hb);replace BK555:=a_ (bb_ BK555.out hb);(try clear hb)))
    go_ret
    exact ⟨fi_,bel_⟩
  ·rw [if_neg c4] at H
   have c4b0:(a0_1==a1_1)=false:=bn_ c4
   have c4b1:(a0_1 != a1_1)=true:=bne_iff_ne.mpr c4
   obtain rfl:=sj_ H
   go_enter Tryd.func102,Tryd.ntmps102
   go_wp2_with (first|((with_reducible refine gD_ (N:=2) rfl ?_);refine bx_ 2 (#[.int .i64 a0_0,.int .i64 a0_1,.int .i64 a0_2,.int .i64 a0_3,.int .i64 a0_4,.int .i64 a0_5,.string a0_6]) 44 ?_;intro gb554 hg w19 hbox hb;have n0_:=a_ (bS_ (bel_) hb);have n1_:=a_ (hbox);have n2_:=a_ ((by rw [hg];exact (below_size (bel_)):w.heap.size≤gb554));have n3_:=a_ ((by rw [hg];exact (below_size (bel_)):w.heap.size≤gb554));clear HB;have HB:=n0_;have BK554:=n1_;have GW554:=n2_;have GE554:=n3_;clear n0_ n1_ n2_ n3_;clear hb hbox hg)|((with_reducible refine gD_ (N:=3) rfl ?_);refine bx_ 3 (#[.int .i64 a1_0,.int .i64 a1_1,.int .i64 a1_2,.int .i64 a1_3,.int .i64 a1_4,.int .i64 a1_5,.string a1_6]) 44 ?_;intro gb555 hg w20 hbox hb;have n0_:=a_ (bb_ BK554.out hb);have n1_:=a_ (bS_ (bel_) hb);have n2_:=a_ (hbox);have n3_:=a_ ((by rw [hg];exact (below_size (bel_)):w.heap.size≤gb555));have n4_:=a_ ((by rw [hg];exact (below_size (bel_)):w.heap.size≤gb555));have n5_:=a_ ((by rw [hg];exact Nat.ne_of_lt (blk_lt (g:=gb554) (o:=.cells #[.int .i64 a0_0,.int .i64 a0_1,.int .i64 a0_2,.int .i64 a0_3,.int .i64 a0_4,.int .i64 a0_5,.string a0_6] 44 (0,0)) (bp_ BK554.out)):gb554≠gb555));have n6_:=a_ ((by rw [hg];exact Nat.ne_of_gt (blk_lt (g:=gb554) (o:=.cells #[.int .i64 a0_0,.int .i64 a0_1,.int .i64 a0_2,.int .i64 a0_3,.int .i64 a0_4,.int .i64 a0_5,.string a0_6] 44 (0,0)) (bp_ BK554.out)):gb555≠gb554));clear BK554;clear HB;have BK554:=n0_;have HB:=n1_;have BK555:=n2_;have GW555:=n3_;have GE555:=n4_;have NB554_555:=n5_;have NB555_554:=n6_;clear n0_ n1_ n2_ n3_ n4_ n5_ n6_;clear hb hbox hg;have hnb21:=NB554_555.out;have hnc21:=NB555_554.out;obtain ⟨Z22_0,Z22_1,Z22_2,Z22_3,Z22_4,Z22_5,Z22_6,Y22_0,Y22_1,Y22_2,Y22_3,Y22_4,Y22_5,Y22_6⟩:=op7_ BK554.out;obtain ⟨Z23_0,Z23_1,Z23_2,Z23_3,Z23_4,Z23_5,Z23_6,Y23_0,Y23_1,Y23_2,Y23_3,Y23_4,Y23_5,Y23_6⟩:=op7_ BK555.out))
   go_ret
   exact ⟨fi_,bel_⟩
 ·rw [if_neg c3] at H
  have c3b0:(a0_0==a1_0)=false:=bn_ c3
  have c3b1:(a0_0 != a1_0)=true:=bne_iff_ne.mpr c3
  obtain rfl:=sj_ H
  go_enter Tryd.func102,Tryd.ntmps102
  go_wp2_with (first|((with_reducible refine gD_ (N:=2) rfl ?_);refine bx_ 2 (#[.int .i64 a0_0,.int .i64 a0_1,.int .i64 a0_2,.int .i64 a0_3,.int .i64 a0_4,.int .i64 a0_5,.string a0_6]) 44 ?_;intro gb554 hg w24 hbox hb;have n0_:=a_ (bS_ (bel_) hb);have n1_:=a_ (hbox);have n2_:=a_ ((by rw [hg];exact (below_size (bel_)):w.heap.size≤gb554));have n3_:=a_ ((by rw [hg];exact (below_size (bel_)):w.heap.size≤gb554));clear HB;have HB:=n0_;have BK554:=n1_;have GW554:=n2_;have GE554:=n3_;clear n0_ n1_ n2_ n3_;clear hb hbox hg)|((with_reducible refine gD_ (N:=3) rfl ?_);refine bx_ 3 (#[.int .i64 a1_0,.int .i64 a1_1,.int .i64 a1_2,.int .i64 a1_3,.int .i64 a1_4,.int .i64 a1_5,.string a1_6]) 44 ?_;intro gb555 hg w25 hbox hb;have n0_:=a_ (bb_ BK554.out hb);have n1_:=a_ (bS_ (bel_) hb);have n2_:=a_ (hbox);have n3_:=a_ ((by rw [hg];exact (below_size (bel_)):w.heap.size≤gb555));have n4_:=a_ ((by rw [hg];exact (below_size (bel_)):w.heap.size≤gb555));have n5_:=a_ ((by rw [hg];exact Nat.ne_of_lt (blk_lt (g:=gb554) (o:=.cells #[.int .i64 a0_0,.int .i64 a0_1,.int .i64 a0_2,.int .i64 a0_3,.int .i64 a0_4,.int .i64 a0_5,.string a0_6] 44 (0,0)) (bp_ BK554.out)):gb554≠gb555));have n6_:=a_ ((by rw [hg];exact Nat.ne_of_gt (blk_lt (g:=gb554) (o:=.cells #[.int .i64 a0_0,.int .i64 a0_1,.int .i64 a0_2,.int .i64 a0_3,.int .i64 a0_4,.int .i64 a0_5,.string a0_6] 44 (0,0)) (bp_ BK554.out)):gb555≠gb554));clear BK554;clear HB;have BK554:=n0_;have HB:=n1_;have BK555:=n2_;have GW555:=n3_;have GE555:=n4_;have NB554_555:=n5_;have NB555_554:=n6_;clear n0_ n1_ n2_ n3_ n4_ n5_ n6_;clear hb hbox hg;have hnb26:=NB554_555.out;have hnc26:=NB555_554.out;obtain ⟨Z27_0,Z27_1,Z27_2,Z27_3,Z27_4,Z27_5,Z27_6,Y27_0,Y27_1,Y27_2,Y27_3,Y27_4,Y27_5,Y27_6⟩:=op7_ BK554.out;obtain ⟨Z28_0,Z28_1,Z28_2,Z28_3,Z28_4,Z28_5,Z28_6,Y28_0,Y28_1,Y28_2,Y28_3,Y28_4,Y28_5,Y28_6⟩:=op7_ BK555.out))
  go_ret
  exact ⟨fi_,bel_⟩

def laws_eqEntryS.l0:Nat→List (S44)→List (S44)→Int→Option (Bool)
 | 0,_,_,_=>none
 | k+1,x0,x1,x5=>if x5 < (x0.length:Int) then (if 0≤x5 then (if x5 < (x1.length:Int) then ((laws_eqEntry.f ((rd_T44 x0 x5).f0) ((rd_T44 x0 x5).f1) ((rd_T44 x0 x5).f2.f0) ((rd_T44 x0 x5).f2.f1) ((rd_T44 x0 x5).f2.f2) ((rd_T44 x0 x5).f2.f3) ((rd_T44 x0 x5).f2.f4) ((rd_T44 x1 x5).f0) ((rd_T44 x1 x5).f1) ((rd_T44 x1 x5).f2.f0) ((rd_T44 x1 x5).f2.f1) ((rd_T44 x1 x5).f2.f2) ((rd_T44 x1 x5).f2.f3) ((rd_T44 x1 x5).f2.f4)).bind fun t559=>(if t559=true then (laws_eqEntryS.l0 k x0 x1 (wrap64 (x5+1))) else (some false))) else (none)) else (none)) else (some true)
def laws_eqEntryS.f (k:Nat) (l0:List (S44)) (l1:List (S44)):Option (Bool):=if (l0.length:Int)=(l1.length:Int) then (laws_eqEntryS.l0 k l0 l1 0) else (some false)
def laws_eqEntryS.T6:Bool×List (List Nat×List Nat):=(true,[([],[]),([],[]),([0,1],[0,1]),([2],[2]),([],[]),([],[]),([4,5],[4,5]),([6],[6]),([3,7],[3,7]),([8],[8])])
def laws_eqEntryS.B6:List Nat:=[0,0,3,7,0,0,48,112,255,511]
theorem laws_eqEntryS.tab6:rtab .any (opsOf Tryd.f52 6)=laws_eqEntryS.T6:=by kernel_rfl
theorem laws_eqEntryS.bits6:waitsOk laws_eqEntryS.T6.2 laws_eqEntryS.B6=true:=by kernel_rfl
theorem laws_eqEntryS.calls (k:Nat) (A0:Option Addr) (c0:Nat) (l0:List (S44)) (A1:Option Addr) (c1:Nat) (l1:List (S44)) (r:Bool) (w:World) (hr0:Kd.C k44 w A0 l0.length l0) (hc0:l0.length≤c0) (hr1:Kd.C k44 w A1 l1.length l1) (hc1:l1.length≤c1) (h:laws_eqEntryS.f k l0 l1=some r) :
  Calls Tryd.prog 52 #[.slice A0 l0.length c0,.slice A1 l1.length c1] w fun e w'=>e=.returned (.bool r)∧Below w.heap.size w w':=by
 have hu44:=Tryd.underlying44
 have HR0:=a_ hr0
 have HC0:=a_ hc0
 clear hr0 hc0
 have HR1:=a_ hr1
 have HC1:=a_ hc1
 clear hr1 hc1
 have HB:=a_ (Below.refl w.heap.size w)
 unfold laws_eqEntryS.f at h
 have H:=h
 clear h
 by_cases c3:(l0.length:Int)=(l1.length:Int)
 ·rw [if_pos c3] at H
  have c3b0:((l0.length:Int)==(l1.length:Int))=true:=beq_iff_eq.mpr c3
  have c3b1:((l0.length:Int) != (l1.length:Int))=false:=be_ c3
  have c3b2:(l0.length==l1.length)=true:=by first|simpa using c3|(simp at c3 ⊢;omega)
  clear c3
  have H':=a_ H
  clear H
  go_enter Tryd.func52,Tryd.ntmps52
  go_wp2
  go_loopg [5] k (fun kq v5 w'=>∃ (x5_1:Int),v5=.int .i64 x5_1∧Aside0 (laws_eqEntryS.l0 kq l0 l1 x5_1=some r)∧Aside0 (kq≤k)∧Aside0 (Below w.heap.size w w'))
  case atStart=>exact ⟨(0),(si_),H',⟨Nat.le_refl _⟩,⟨bel_⟩⟩
  case round =>
   clear H'
   try clear c1
   try clear p2
   try clear c3
   try clear c3b0
   try clear c3b1
   try clear c3b2
   obtain ⟨x5_1,rfl,HA,HK1,HB⟩:=hrel
   cases gk with
   | zero=>exact absurd HA.out (by simp [laws_eqEntryS.l0])
   | succ k1 =>
    have H:=HA.out
    clear HA
    simp only [laws_eqEntryS.l0] at H
    by_cases c4:x5_1 < (l0.length:Int)
    ·rw [if_pos c4] at H
     have c4b0:decide (x5_1 < (l0.length:Int))=true:=dt_ c4
     clear c4
     by_cases c5:0≤x5_1
     ·rw [if_pos c5] at H
      have c5b0:decide (0≤x5_1)=true:=dt_ c5
      clear c5
      by_cases c6:x5_1 < (l1.length:Int)
      ·rw [if_pos c6] at H
       have c6b0:decide (x5_1 < (l1.length:Int))=true:=dt_ c6
       clear c6
       replace H:=bs_ H
       obtain ⟨t559,A70,H⟩:=H
       try dsimp only at H
       have A7:=a_ A70
       clear A70
       by_cases c8:t559=true
       ·subst c8
        have H1:(laws_eqEntryS.l0 k1 l0 l1 (wrap64 (x5_1+1)))=some r:=by rw [if_pos rfl] at H;exact H
        clear H
        have H:=H1
        clear H1
        have H':=a_ H
        clear H
        try go_wp2
        replace HB:=a_ (below_drew1 HB.out)
        have p557:0≤(x5_1:Int):=od_
        have q557:x5_1 < (l0.length:Int):=od_
        obtain ⟨ad557,e557,hx557_0,hx557_1,hx557_2,hx557_3,hx557_4,hx557_5,hx557_6⟩:=at_T44 HR0.out x5_1 p557 q557
        have hw557_6:=hx557_6
        have hw557_5:=hx557_5
        have hw557_4:=hx557_4
        have hw557_3:=hx557_3
        have hw557_2:=hx557_2
        have hw557_1:=hx557_1
        have hw557_0:=hx557_0
        cases e557
        replace hx557_0:=(cb_ HB.out hx557_0 :)
        replace hx557_1:=(cb_ HB.out hx557_1 :)
        replace hx557_2:=(cb_ HB.out hx557_2 :)
        replace hx557_3:=(cb_ HB.out hx557_3 :)
        replace hx557_4:=(cb_ HB.out hx557_4 :)
        replace hx557_5:=(cb_ HB.out hx557_5 :)
        replace hx557_6:=(cb_ HB.out hx557_6 :)
        replace p557:=eq_true p557
        replace q557:=eq_true q557
        have p558:0≤(x5_1:Int):=od_
        have q558:x5_1 < (l1.length:Int):=od_
        obtain ⟨ad558,e558,hx558_0,hx558_1,hx558_2,hx558_3,hx558_4,hx558_5,hx558_6⟩:=at_T44 HR1.out x5_1 p558 q558
        have hw558_6:=hx558_6
        have hw558_5:=hx558_5
        have hw558_4:=hx558_4
        have hw558_3:=hx558_3
        have hw558_2:=hx558_2
        have hw558_1:=hx558_1
        have hw558_0:=hx558_0
        cases e558
        replace hx558_0:=(cb_ HB.out hx558_0 :)
        replace hx558_1:=(cb_ HB.out hx558_1 :)
        replace hx558_2:=(cb_ HB.out hx558_2 :)
        replace hx558_3:=(cb_ HB.out hx558_3 :)
        replace hx558_4:=(cb_ HB.out hx558_4 :)
        replace hx558_5:=(cb_ HB.out hx558_5 :)
        replace hx558_6:=(cb_ HB.out hx558_6 :)
        replace p558:=eq_true p558
        replace q558:=eq_true q558
        refine start_ (n:=10) (S:=fun w'=>w'.cell? (ad557.add ((x5_1).toNat * 7))=some (.int .i64 ((rd_T44 l0 x5_1).f0))∧w'.cell? ⟨(ad557.add ((x5_1).toNat * 7)).block,(ad557.add ((x5_1).toNat * 7)).off+1,none⟩=some (.int .i64 ((rd_T44 l0 x5_1).f1))∧w'.cell? ⟨(ad557.add ((x5_1).toNat * 7)).block,(ad557.add ((x5_1).toNat * 7)).off+2,none⟩=some (.int .i64 ((rd_T44 l0 x5_1).f2.f0))∧w'.cell? ⟨(ad557.add ((x5_1).toNat * 7)).block,(ad557.add ((x5_1).toNat * 7)).off+3,none⟩=some (.int .i64 ((rd_T44 l0 x5_1).f2.f1))∧w'.cell? ⟨(ad557.add ((x5_1).toNat * 7)).block,(ad557.add ((x5_1).toNat * 7)).off+4,none⟩=some (.int .i64 ((rd_T44 l0 x5_1).f2.f2))∧w'.cell? ⟨(ad557.add ((x5_1).toNat * 7)).block,(ad557.add ((x5_1).toNat * 7)).off+5,none⟩=some (.int .i64 ((rd_T44 l0 x5_1).f2.f3))∧w'.cell? ⟨(ad557.add ((x5_1).toNat * 7)).block,(ad557.add ((x5_1).toNat * 7)).off+6,none⟩=some (.string ((rd_T44 l0 x5_1).f2.f4))∧w'.cell? (ad558.add ((x5_1).toNat * 7))=some (.int .i64 ((rd_T44 l1 x5_1).f0))∧w'.cell? ⟨(ad558.add ((x5_1).toNat * 7)).block,(ad558.add ((x5_1).toNat * 7)).off+1,none⟩=some (.int .i64 ((rd_T44 l1 x5_1).f1))∧w'.cell? ⟨(ad558.add ((x5_1).toNat * 7)).block,(ad558.add ((x5_1).toNat * 7)).off+2,none⟩=some (.int .i64 ((rd_T44 l1 x5_1).f2.f0))∧w'.cell? ⟨(ad558.add ((x5_1).toNat * 7)).block,(ad558.add ((x5_1).toNat * 7)).off+3,none⟩=some (.int .i64 ((rd_T44 l1 x5_1).f2.f1))∧w'.cell? ⟨(ad558.add ((x5_1).toNat * 7)).block,(ad558.add ((x5_1).toNat * 7)).off+4,none⟩=some (.int .i64 ((rd_T44 l1 x5_1).f2.f2))∧w'.cell? ⟨(ad558.add ((x5_1).toNat * 7)).block,(ad558.add ((x5_1).toNat * 7)).off+5,none⟩=some (.int .i64 ((rd_T44 l1 x5_1).f2.f3))∧w'.cell? ⟨(ad558.add ((x5_1).toNat * 7)).block,(ad558.add ((x5_1).toNat * 7)).off+6,none⟩=some (.string ((rd_T44 l1 x5_1).f2.f4))) (ds:=[]) #[false,false,false,false,false,false,false,false,false,false] (by kernel_rfl) rfl rfl ⟨((cb_ HB.out hw557_0 :)),((cb_ HB.out hw557_1 :)),((cb_ HB.out hw557_2 :)),((cb_ HB.out hw557_3 :)),((cb_ HB.out hw557_4 :)),((cb_ HB.out hw557_5 :)),((cb_ HB.out hw557_6 :)),((cb_ HB.out hw558_0 :)),((cb_ HB.out hw558_1 :)),((cb_ HB.out hw558_2 :)),((cb_ HB.out hw558_3 :)),((cb_ HB.out hw558_4 :)),((cb_ HB.out hw558_5 :)),((cb_ HB.out hw558_6 :))⟩ (fun hHeld=>?_);refine with_tabW laws_eqEntryS.tab6 laws_eqEntryS.bits6 (fun HT_ HW_=>?_)
        generalize wr.drew=w9 at HB hx557_0 hx557_1 hx557_2 hx557_3 hx557_4 hx557_5 hx557_6 hx558_0 hx558_1 hx558_2 hx558_3 hx558_4 hx558_5 hx558_6 hHeld ⊢
        refine pa_ 0 17 ?_
        refine pa_ 1 18 ?_
        refine pa_ 2 19 ?_
        refine pa_ 4 21 ?_
        refine pa_ 5 22 ?_
        refine pa_ 6 23 ?_
        refine ta14_ 3 20 hHeld ?_
        refine ta14_ 7 24 hHeld ?_
        refine on_ 8 25 (fun K hK=>?_)
        refine goes_ Tryd.func102 (by kernel_rfl) rfl #[.agg #[.int .i64 ((rd_T44 l0 x5_1).f0),.int .i64 ((rd_T44 l0 x5_1).f1),.int .i64 ((rd_T44 l0 x5_1).f2.f0),.int .i64 ((rd_T44 l0 x5_1).f2.f1),.int .i64 ((rd_T44 l0 x5_1).f2.f2),.int .i64 ((rd_T44 l0 x5_1).f2.f3),.string ((rd_T44 l0 x5_1).f2.f4)],.agg #[.int .i64 ((rd_T44 l1 x5_1).f0),.int .i64 ((rd_T44 l1 x5_1).f1),.int .i64 ((rd_T44 l1 x5_1).f2.f0),.int .i64 ((rd_T44 l1 x5_1).f2.f1),.int .i64 ((rd_T44 l1 x5_1).f2.f2),.int .i64 ((rd_T44 l1 x5_1).f2.f3),.string ((rd_T44 l1 x5_1).f2.f4)]] (by rfl) rfl rfl ar_ ?_
        with_reducible refine (laws_eqEntry.calls ((rd_T44 l0 x5_1).f0) ((rd_T44 l0 x5_1).f1) ((rd_T44 l0 x5_1).f2.f0) ((rd_T44 l0 x5_1).f2.f1) ((rd_T44 l0 x5_1).f2.f2) ((rd_T44 l0 x5_1).f2.f3) ((rd_T44 l0 x5_1).f2.f4) ((rd_T44 l1 x5_1).f0) ((rd_T44 l1 x5_1).f1) ((rd_T44 l1 x5_1).f2.f0) ((rd_T44 l1 x5_1).f2.f1) ((rd_T44 l1 x5_1).f2.f2) ((rd_T44 l1 x5_1).f2.f3) ((rd_T44 l1 x5_1).f2.f4) true _ A7.out).mono ?_
        rintro e w10 ⟨rfl,hb⟩
        refine ⟨_,rfl,?_⟩
        replace HB:=a_ (bS_ (bel_) hb)
        try clear hb
        refine hK.out _ _ ⟨((cb_ HB.out hw557_0 :)),((cb_ HB.out hw557_1 :)),((cb_ HB.out hw557_2 :)),((cb_ HB.out hw557_3 :)),((cb_ HB.out hw557_4 :)),((cb_ HB.out hw557_5 :)),((cb_ HB.out hw557_6 :)),((cb_ HB.out hw558_0 :)),((cb_ HB.out hw558_1 :)),((cb_ HB.out hw558_2 :)),((cb_ HB.out hw558_3 :)),((cb_ HB.out hw558_4 :)),((cb_ HB.out hw558_5 :)),((cb_ HB.out hw558_6 :))⟩ (fun hHeld=>?_)
        clear hK K
        refine no_ 25 ?_
        refine pa_ 9 26 ?_
        refine done_ (done_of HT_.out (by kernel_rfl)) ?_
        try go_wp2
        go_roundg k1
        case measure=>have:=HK1.out;omega
        case rel=>exact ⟨(wrap64 (x5_1+1)),(si_),H',⟨by have:=HK1.out;omega⟩,⟨bel_⟩⟩
       ·replace c8:=Bool.eq_false_iff.mpr c8
        subst c8
        have H1:(some false)=some r:=by rw [if_neg (show ¬ (false=true) by decide)] at H;exact H
        clear H
        have H:=H1
        clear H1
        obtain rfl:=sj_ H
        try go_wp2
        replace HB:=a_ (below_drew1 HB.out)
        have p557:0≤(x5_1:Int):=od_
        have q557:x5_1 < (l0.length:Int):=od_
        obtain ⟨ad557,e557,hx557_0,hx557_1,hx557_2,hx557_3,hx557_4,hx557_5,hx557_6⟩:=at_T44 HR0.out x5_1 p557 q557
        have hw557_6:=hx557_6
        have hw557_5:=hx557_5
        have hw557_4:=hx557_4
        have hw557_3:=hx557_3
        have hw557_2:=hx557_2
        have hw557_1:=hx557_1
        have hw557_0:=hx557_0
        cases e557
        replace hx557_0:=(cb_ HB.out hx557_0 :)
        replace hx557_1:=(cb_ HB.out hx557_1 :)
        replace hx557_2:=(cb_ HB.out hx557_2 :)
        replace hx557_3:=(cb_ HB.out hx557_3 :)
        replace hx557_4:=(cb_ HB.out hx557_4 :)
        replace hx557_5:=(cb_ HB.out hx557_5 :)
        replace hx557_6:=(cb_ HB.out hx557_6 :)
        replace p557:=eq_true p557
        replace q557:=eq_true q557
        have p558:0≤(x5_1:Int):=od_
        have q558:x5_1 < (l1.length:Int):=od_
        obtain ⟨ad558,e558,hx558_0,hx558_1,hx558_2,hx558_3,hx558_4,hx558_5,hx558_6⟩:=at_T44 HR1.out x5_1 p558 q558
        have hw558_6:=hx558_6
        have hw558_5:=hx558_5
        have hw558_4:=hx558_4
        have hw558_3:=hx558_3
        have hw558_2:=hx558_2
        have hw558_1:=hx558_1
        have hw558_0:=hx558_0
        cases e558
        replace hx558_0:=(cb_ HB.out hx558_0 :)
        replace hx558_1:=(cb_ HB.out hx558_1 :)
        replace hx558_2:=(cb_ HB.out hx558_2 :)
        replace hx558_3:=(cb_ HB.out hx558_3 :)
        replace hx558_4:=(cb_ HB.out hx558_4 :)
        replace hx558_5:=(cb_ HB.out hx558_5 :)
        replace hx558_6:=(cb_ HB.out hx558_6 :)
        replace p558:=eq_true p558
        replace q558:=eq_true q558
        refine start_ (n:=10) (S:=fun w'=>w'.cell? (ad557.add ((x5_1).toNat * 7))=some (.int .i64 ((rd_T44 l0 x5_1).f0))∧w'.cell? ⟨(ad557.add ((x5_1).toNat * 7)).block,(ad557.add ((x5_1).toNat * 7)).off+1,none⟩=some (.int .i64 ((rd_T44 l0 x5_1).f1))∧w'.cell? ⟨(ad557.add ((x5_1).toNat * 7)).block,(ad557.add ((x5_1).toNat * 7)).off+2,none⟩=some (.int .i64 ((rd_T44 l0 x5_1).f2.f0))∧w'.cell? ⟨(ad557.add ((x5_1).toNat * 7)).block,(ad557.add ((x5_1).toNat * 7)).off+3,none⟩=some (.int .i64 ((rd_T44 l0 x5_1).f2.f1))∧w'.cell? ⟨(ad557.add ((x5_1).toNat * 7)).block,(ad557.add ((x5_1).toNat * 7)).off+4,none⟩=some (.int .i64 ((rd_T44 l0 x5_1).f2.f2))∧w'.cell? ⟨(ad557.add ((x5_1).toNat * 7)).block,(ad557.add ((x5_1).toNat * 7)).off+5,none⟩=some (.int .i64 ((rd_T44 l0 x5_1).f2.f3))∧w'.cell? ⟨(ad557.add ((x5_1).toNat * 7)).block,(ad557.add ((x5_1).toNat * 7)).off+6,none⟩=some (.string ((rd_T44 l0 x5_1).f2.f4))∧w'.cell? (ad558.add ((x5_1).toNat * 7))=some (.int .i64 ((rd_T44 l1 x5_1).f0))∧w'.cell? ⟨(ad558.add ((x5_1).toNat * 7)).block,(ad558.add ((x5_1).toNat * 7)).off+1,none⟩=some (.int .i64 ((rd_T44 l1 x5_1).f1))∧w'.cell? ⟨(ad558.add ((x5_1).toNat * 7)).block,(ad558.add ((x5_1).toNat * 7)).off+2,none⟩=some (.int .i64 ((rd_T44 l1 x5_1).f2.f0))∧w'.cell? ⟨(ad558.add ((x5_1).toNat * 7)).block,(ad558.add ((x5_1).toNat * 7)).off+3,none⟩=some (.int .i64 ((rd_T44 l1 x5_1).f2.f1))∧w'.cell? ⟨(ad558.add ((x5_1).toNat * 7)).block,(ad558.add ((x5_1).toNat * 7)).off+4,none⟩=some (.int .i64 ((rd_T44 l1 x5_1).f2.f2))∧w'.cell? ⟨(ad558.add ((x5_1).toNat * 7)).block,(ad558.add ((x5_1).toNat * 7)).off+5,none⟩=some (.int .i64 ((rd_T44 l1 x5_1).f2.f3))∧w'.cell? ⟨(ad558.add ((x5_1).toNat * 7)).block,(ad558.add ((x5_1).toNat * 7)).off+6,none⟩=some (.string ((rd_T44 l1 x5_1).f2.f4))) (ds:=[]) #[false,false,false,false,false,false,false,false,false,false] (by kernel_rfl) rfl rfl ⟨((cb_ HB.out hw557_0 :)),((cb_ HB.out hw557_1 :)),((cb_ HB.out hw557_2 :)),((cb_ HB.out hw557_3 :)),((cb_ HB.out hw557_4 :)),((cb_ HB.out hw557_5 :)),((cb_ HB.out hw557_6 :)),((cb_ HB.out hw558_0 :)),((cb_ HB.out hw558_1 :)),((cb_ HB.out hw558_2 :)),((cb_ HB.out hw558_3 :)),((cb_ HB.out hw558_4 :)),((cb_ HB.out hw558_5 :)),((cb_ HB.out hw558_6 :))⟩ (fun hHeld=>?_);refine with_tabW laws_eqEntryS.tab6 laws_eqEntryS.bits6 (fun HT_ HW_=>?_)
        generalize wr.drew=w11 at HB hx557_0 hx557_1 hx557_2 hx557_3 hx557_4 hx557_5 hx557_6 hx558_0 hx558_1 hx558_2 hx558_3 hx558_4 hx558_5 hx558_6 hHeld ⊢
        refine pa_ 0 17 ?_
        refine pa_ 1 18 ?_
        refine pa_ 2 19 ?_
        refine pa_ 4 21 ?_
        refine pa_ 5 22 ?_
        refine pa_ 6 23 ?_
        refine ta14_ 3 20 hHeld ?_
        refine ta14_ 7 24 hHeld ?_
        refine on_ 8 25 (fun K hK=>?_)
        refine goes_ Tryd.func102 (by kernel_rfl) rfl #[.agg #[.int .i64 ((rd_T44 l0 x5_1).f0),.int .i64 ((rd_T44 l0 x5_1).f1),.int .i64 ((rd_T44 l0 x5_1).f2.f0),.int .i64 ((rd_T44 l0 x5_1).f2.f1),.int .i64 ((rd_T44 l0 x5_1).f2.f2),.int .i64 ((rd_T44 l0 x5_1).f2.f3),.string ((rd_T44 l0 x5_1).f2.f4)],.agg #[.int .i64 ((rd_T44 l1 x5_1).f0),.int .i64 ((rd_T44 l1 x5_1).f1),.int .i64 ((rd_T44 l1 x5_1).f2.f0),.int .i64 ((rd_T44 l1 x5_1).f2.f1),.int .i64 ((rd_T44 l1 x5_1).f2.f2),.int .i64 ((rd_T44 l1 x5_1).f2.f3),.string ((rd_T44 l1 x5_1).f2.f4)]] (by rfl) rfl rfl ar_ ?_
        with_reducible refine (laws_eqEntry.calls ((rd_T44 l0 x5_1).f0) ((rd_T44 l0 x5_1).f1) ((rd_T44 l0 x5_1).f2.f0) ((rd_T44 l0 x5_1).f2.f1) ((rd_T44 l0 x5_1).f2.f2) ((rd_T44 l0 x5_1).f2.f3) ((rd_T44 l0 x5_1).f2.f4) ((rd_T44 l1 x5_1).f0) ((rd_T44 l1 x5_1).f1) ((rd_T44 l1 x5_1).f2.f0) ((rd_T44 l1 x5_1).f2.f1) ((rd_T44 l1 x5_1).f2.f2) ((rd_T44 l1 x5_1).f2.f3) ((rd_T44 l1 x5_1).f2.f4) false _ A7.out).mono ?_
        rintro e w12 ⟨rfl,hb⟩
        refine ⟨_,rfl,?_⟩
        replace HB:=a_ (bS_ (bel_) hb)
        try clear hb
        refine hK.out _ _ ⟨((cb_ HB.out hw557_0 :)),((cb_ HB.out hw557_1 :)),((cb_ HB.out hw557_2 :)),((cb_ HB.out hw557_3 :)),((cb_ HB.out hw557_4 :)),((cb_ HB.out hw557_5 :)),((cb_ HB.out hw557_6 :)),((cb_ HB.out hw558_0 :)),((cb_ HB.out hw558_1 :)),((cb_ HB.out hw558_2 :)),((cb_ HB.out hw558_3 :)),((cb_ HB.out hw558_4 :)),((cb_ HB.out hw558_5 :)),((cb_ HB.out hw558_6 :))⟩ (fun hHeld=>?_)
        clear hK K
        refine no_ 25 ?_
        refine pa_ 9 26 ?_
        refine done_ (done_of HT_.out (by kernel_rfl)) ?_
        try go_wp2
        go_ret
        exact ⟨fi_,bel_⟩
      ·rw [if_neg c6] at H
       exact absurd H (by simp)
     ·rw [if_neg c5] at H
      exact absurd H (by simp)
    ·rw [if_neg c4] at H
     have c4b0:decide (x5_1 < (l0.length:Int))=false:=df_ c4
     clear c4
     obtain rfl:=sj_ H
     go_wp2
     go_ret
     exact ⟨fi_,bel_⟩
 ·rw [if_neg c3] at H
  have c3b0:((l0.length:Int)==(l1.length:Int))=false:=bn_ c3
  have c3b1:((l0.length:Int) != (l1.length:Int))=true:=bne_iff_ne.mpr c3
  have c3b2:(l0.length==l1.length)=false:=by first|simpa using c3|(simp at c3 ⊢;omega)
  obtain rfl:=sj_ H
  go_enter Tryd.func52,Tryd.ntmps52
  go_wp2
  go_ret
  exact ⟨fi_,bel_⟩

def laws_eqRow.f (a0_0:Int) (a0_1:Int) (a0_2:ByteArray) (a1_0:Int) (a1_1:Int) (a1_2:ByteArray):Option (Bool):=if a0_0=a1_0 then (if a0_1=a1_1 then (if a0_2.toList=a1_2.toList then (some true) else (some false)) else (some false)) else (some false)
theorem laws_eqRow.calls (a0_0:Int) (a0_1:Int) (a0_2:ByteArray) (a1_0:Int) (a1_1:Int) (a1_2:ByteArray) (r:Bool) (w:World) (h:laws_eqRow.f a0_0 a0_1 a0_2 a1_0 a1_1 a1_2=some r) :
  Calls Tryd.prog 101 #[.agg #[.int .i64 a0_0,.int .i64 a0_1,.string a0_2],.agg #[.int .i64 a1_0,.int .i64 a1_1,.string a1_2]] w fun e w'=>e=.returned (.bool r)∧Below w.heap.size w w':=by
 have hu69:=Tryd.underlying69
 have HB:=a_ (Below.refl w.heap.size w)
 unfold laws_eqRow.f at h
 have H:=h
 clear h
 by_cases c3:a0_0=a1_0
 ·rw [if_pos c3] at H
  have c3b0:(a0_0==a1_0)=true:=beq_iff_eq.mpr c3
  have c3b1:(a0_0 != a1_0)=false:=be_ c3
  clear c3
  by_cases c4:a0_1=a1_1
  ·rw [if_pos c4] at H
   have c4b0:(a0_1==a1_1)=true:=beq_iff_eq.mpr c4
   have c4b1:(a0_1 != a1_1)=false:=be_ c4
   clear c4
   by_cases c5:a0_2.toList=a1_2.toList
   ·rw [if_pos c5] at H
    have c5b0:(a0_2.toList==a1_2.toList)=true:=beq_iff_eq.mpr c5
    have c5b1:(a0_2.toList != a1_2.toList)=false:=be_ c5
    clear c5
    obtain rfl:=sj_ H
    go_enter Tryd.func101,Tryd.ntmps101
    go_wp2_with (first|((with_reducible refine gD_ (N:=2) rfl ?_);refine bx_ 2 (#[.int .i64 a0_0,.int .i64 a0_1,.string a0_2]) 69 ?_;intro gb1069 hg w6 hbox hb;have n0_:=a_ (bS_ (bel_) hb);have n1_:=a_ (hbox);have n2_:=a_ ((by rw [hg];exact (below_size (bel_)):w.heap.size≤gb1069));have n3_:=a_ ((by rw [hg];exact (below_size (bel_)):w.heap.size≤gb1069));clear HB;have HB:=n0_;have BK1069:=n1_;have GW1069:=n2_;have GE1069:=n3_;clear n0_ n1_ n2_ n3_;clear hb hbox hg)|((with_reducible refine gD_ (N:=3) rfl ?_);refine bx_ 3 (#[.int .i64 a1_0,.int .i64 a1_1,.string a1_2]) 69 ?_;intro gb1070 hg w7 hbox hb;have n0_:=a_ (bb_ BK1069.out hb);have n1_:=a_ (bS_ (bel_) hb);have n2_:=a_ (hbox);have n3_:=a_ ((by rw [hg];exact (below_size (bel_)):w.heap.size≤gb1070));have n4_:=a_ ((by rw [hg];exact (below_size (bel_)):w.heap.size≤gb1070));have n5_:=a_ ((by rw [hg];exact Nat.ne_of_lt (blk_lt (g:=gb1069) (o:=.cells #[.int .i64 a0_0,.int .i64 a0_1,.string a0_2] 69 (0,0)) (bp_ BK1069.out)):gb1069≠gb1070));have n6_:=a_ ((by rw [hg];exact Nat.ne_of_gt (blk_lt (g:=gb1069) (o:=.cells #[.int .i64 a0_0,.int .i64 a0_1,.string a0_2] 69 (0,0)) (bp_ BK1069.out)):gb1070≠gb1069));clear BK1069;clear HB;have BK1069:=n0_;have HB:=n1_;have BK1070:=n2_;have GW1070:=n3_;have GE1070:=n4_;have NB1069_1070:=n5_;have NB1070_1069:=n6_;clear n0_ n1_ n2_ n3_ n4_ n5_ n6_;clear hb hbox hg;have hnb8:=NB1069_1070.out;have hnc8:=NB1070_1069.out;obtain ⟨Z9_0,Z9_1,Z9_2,Y9_0,Y9_1,Y9_2⟩:=op3_ BK1069.out;obtain ⟨Z10_0,Z10_1,Z10_2,Y10_0,Y10_1,Y10_2⟩:=op3_ BK1070.out))
    go_ret
    exact ⟨fi_,bel_⟩
   ·rw [if_neg c5] at H
    have c5b0:(a0_2.toList==a1_2.toList)=false:=bn_ c5
    have c5b1:(a0_2.toList != a1_2.toList)=true:=bne_iff_ne.mpr c5
    obtain rfl:=sj_ H
    go_enter Tryd.func101,Tryd.ntmps101
    go_wp2_with (first|((with_reducible refine gD_ (N:=2) rfl ?_);refine bx_ 2 (#[.int .i64 a0_0,.int .i64 a0_1,.string a0_2]) 69 ?_;intro gb1069 hg w11 hbox hb;have n0_:=a_ (bS_ (bel_) hb);have n1_:=a_ (hbox);have n2_:=a_ ((by rw [hg];exact (below_size (bel_)):w.heap.size≤gb1069));have n3_:=a_ ((by rw [hg];exact (below_size (bel_)):w.heap.size≤gb1069));clear HB;have HB:=n0_;have BK1069:=n1_;have GW1069:=n2_;have GE1069:=n3_;clear n0_ n1_ n2_ n3_;clear hb hbox hg)|((with_reducible refine gD_ (N:=3) rfl ?_);refine bx_ 3 (#[.int .i64 a1_0,.int .i64 a1_1,.string a1_2]) 69 ?_;intro gb1070 hg w12 hbox hb;have n0_:=a_ (bb_ BK1069.out hb);have n1_:=a_ (bS_ (bel_) hb);have n2_:=a_ (hbox);have n3_:=a_ ((by rw [hg];exact (below_size (bel_)):w.heap.size≤gb1070));have n4_:=a_ ((by rw [hg];exact (below_size (bel_)):w.heap.size≤gb1070));have n5_:=a_ ((by rw [hg];exact Nat.ne_of_lt (blk_lt (g:=gb1069) (o:=.cells #[.int .i64 a0_0,.int .i64 a0_1,.string a0_2] 69 (0,0)) (bp_ BK1069.out)):gb1069≠gb1070));have n6_:=a_ ((by rw [hg];exact Nat.ne_of_gt (blk_lt (g:=gb1069) (o:=.cells #[.int .i64 a0_0,.int .i64 a0_1,.string a0_2] 69 (0,0)) (bp_ BK1069.out)):gb1070≠gb1069));clear BK1069;clear HB;have BK1069:=n0_;have HB:=n1_;have BK1070:=n2_;have GW1070:=n3_;have GE1070:=n4_;have NB1069_1070:=n5_;have NB1070_1069:=n6_;clear n0_ n1_ n2_ n3_ n4_ n5_ n6_;clear hb hbox hg;have hnb13:=NB1069_1070.out;have hnc13:=NB1070_1069.out;obtain ⟨Z14_0,Z14_1,Z14_2,Y14_0,Y14_1,Y14_2⟩:=op3_ BK1069.out;obtain ⟨Z15_0,Z15_1,Z15_2,Y15_0,Y15_1,Y15_2⟩:=op3_ BK1070.out))
    go_ret
    exact ⟨fi_,bel_⟩
  ·rw [if_neg c4] at H
   have c4b0:(a0_1==a1_1)=false:=bn_ c4
   have c4b1:(a0_1 != a1_1)=true:=bne_iff_ne.mpr c4
   obtain rfl:=sj_ H
   go_enter Tryd.func101,Tryd.ntmps101
   go_wp2_with (first|((with_reducible refine gD_ (N:=2) rfl ?_);refine bx_ 2 (#[.int .i64 a0_0,.int .i64 a0_1,.string a0_2]) 69 ?_;intro gb1069 hg w16 hbox hb;have n0_:=a_ (bS_ (bel_) hb);have n1_:=a_ (hbox);have n2_:=a_ ((by rw [hg];exact (below_size (bel_)):w.heap.size≤gb1069));have n3_:=a_ ((by rw [hg];exact (below_size (bel_)):w.heap.size≤gb1069));clear HB;have HB:=n0_;have BK1069:=n1_;have GW1069:=n2_;have GE1069:=n3_;clear n0_ n1_ n2_ n3_;clear hb hbox hg)|((with_reducible refine gD_ (N:=3) rfl ?_);refine bx_ 3 (#[.int .i64 a1_0,.int .i64 a1_1,.string a1_2]) 69 ?_;intro gb1070 hg w17 hbox hb;have n0_:=a_ (bb_ BK1069.out hb);have n1_:=a_ (bS_ (bel_) hb);have n2_:=a_ (hbox);have n3_:=a_ ((by rw [hg];exact (below_size (bel_)):w.heap.size≤gb1070));have n4_:=a_ ((by rw [hg];exact (below_size (bel_)):w.heap.size≤gb1070));have n5_:=a_ ((by rw [hg];exact Nat.ne_of_lt (blk_lt (g:=gb1069) (o:=.cells #[.int .i64 a0_0,.int .i64 a0_1,.string a0_2] 69 (0,0)) (bp_ BK1069.out)):gb1069≠gb1070));have n6_:=a_ ((by rw [hg];exact Nat.ne_of_gt (blk_lt (g:=gb1069) (o:=.cells #[.int .i64 a0_0,.int .i64 a0_1,.string a0_2] 69 (0,0)) (bp_ BK1069.out)):gb1070≠gb1069));clear BK1069;clear HB;have BK1069:=n0_;have HB:=n1_;have BK1070:=n2_;have GW1070:=n3_;have GE1070:=n4_;have NB1069_1070:=n5_;have NB1070_1069:=n6_;clear n0_ n1_ n2_ n3_ n4_ n5_ n6_;clear hb hbox hg;have hnb18:=NB1069_1070.out;have hnc18:=NB1070_1069.out;obtain ⟨Z19_0,Z19_1,Z19_2,Y19_0,Y19_1,Y19_2⟩:=op3_ BK1069.out;obtain ⟨Z20_0,Z20_1,Z20_2,Y20_0,Y20_1,Y20_2⟩:=op3_ BK1070.out))
   go_ret
   exact ⟨fi_,bel_⟩
 ·rw [if_neg c3] at H
  have c3b0:(a0_0==a1_0)=false:=bn_ c3
  have c3b1:(a0_0 != a1_0)=true:=bne_iff_ne.mpr c3
  obtain rfl:=sj_ H
  go_enter Tryd.func101,Tryd.ntmps101
  go_wp2_with (first|((with_reducible refine gD_ (N:=2) rfl ?_);refine bx_ 2 (#[.int .i64 a0_0,.int .i64 a0_1,.string a0_2]) 69 ?_;intro gb1069 hg w21 hbox hb;have n0_:=a_ (bS_ (bel_) hb);have n1_:=a_ (hbox);have n2_:=a_ ((by rw [hg];exact (below_size (bel_)):w.heap.size≤gb1069));have n3_:=a_ ((by rw [hg];exact (below_size (bel_)):w.heap.size≤gb1069));clear HB;have HB:=n0_;have BK1069:=n1_;have GW1069:=n2_;have GE1069:=n3_;clear n0_ n1_ n2_ n3_;clear hb hbox hg)|((with_reducible refine gD_ (N:=3) rfl ?_);refine bx_ 3 (#[.int .i64 a1_0,.int .i64 a1_1,.string a1_2]) 69 ?_;intro gb1070 hg w22 hbox hb;have n0_:=a_ (bb_ BK1069.out hb);have n1_:=a_ (bS_ (bel_) hb);have n2_:=a_ (hbox);have n3_:=a_ ((by rw [hg];exact (below_size (bel_)):w.heap.size≤gb1070));have n4_:=a_ ((by rw [hg];exact (below_size (bel_)):w.heap.size≤gb1070));have n5_:=a_ ((by rw [hg];exact Nat.ne_of_lt (blk_lt (g:=gb1069) (o:=.cells #[.int .i64 a0_0,.int .i64 a0_1,.string a0_2] 69 (0,0)) (bp_ BK1069.out)):gb1069≠gb1070));have n6_:=a_ ((by rw [hg];exact Nat.ne_of_gt (blk_lt (g:=gb1069) (o:=.cells #[.int .i64 a0_0,.int .i64 a0_1,.string a0_2] 69 (0,0)) (bp_ BK1069.out)):gb1070≠gb1069));clear BK1069;clear HB;have BK1069:=n0_;have HB:=n1_;have BK1070:=n2_;have GW1070:=n3_;have GE1070:=n4_;have NB1069_1070:=n5_;have NB1070_1069:=n6_;clear n0_ n1_ n2_ n3_ n4_ n5_ n6_;clear hb hbox hg;have hnb23:=NB1069_1070.out;have hnc23:=NB1070_1069.out;obtain ⟨Z24_0,Z24_1,Z24_2,Y24_0,Y24_1,Y24_2⟩:=op3_ BK1069.out;obtain ⟨Z25_0,Z25_1,Z25_2,Y25_0,Y25_1,Y25_2⟩:=op3_ BK1070.out))
  go_ret
  exact ⟨fi_,bel_⟩

def laws_eqRowS.l0:Nat→List (S69)→List (S69)→Int→Option (Bool)
 | 0,_,_,_=>none
 | k+1,x0,x1,x5=>if x5 < (x0.length:Int) then (if 0≤x5 then (if x5 < (x1.length:Int) then ((laws_eqRow.f ((rd_T69 x0 x5).f0) ((rd_T69 x0 x5).f1) ((rd_T69 x0 x5).f2) ((rd_T69 x1 x5).f0) ((rd_T69 x1 x5).f1) ((rd_T69 x1 x5).f2)).bind fun t1073=>(if t1073=true then (laws_eqRowS.l0 k x0 x1 (wrap64 (x5+1))) else (some false))) else (none)) else (none)) else (some true)
def laws_eqRowS.f (k:Nat) (l0:List (S69)) (l1:List (S69)):Option (Bool):=if (l0.length:Int)=(l1.length:Int) then (laws_eqRowS.l0 k l0 l1 0) else (some false)
def laws_eqRowS.T6:Bool×List (List Nat×List Nat):=(true,[([],[]),([],[]),([0,1],[0,1]),([2],[2]),([],[]),([],[]),([4,5],[4,5]),([6],[6]),([3,7],[3,7]),([8],[8])])
def laws_eqRowS.B6:List Nat:=[0,0,3,7,0,0,48,112,255,511]
theorem laws_eqRowS.tab6:rtab .any (opsOf Tryd.f51 6)=laws_eqRowS.T6:=by kernel_rfl
theorem laws_eqRowS.bits6:waitsOk laws_eqRowS.T6.2 laws_eqRowS.B6=true:=by kernel_rfl
theorem laws_eqRowS.calls (k:Nat) (A0:Option Addr) (c0:Nat) (l0:List (S69)) (A1:Option Addr) (c1:Nat) (l1:List (S69)) (r:Bool) (w:World) (hr0:Kd.C k69 w A0 l0.length l0) (hc0:l0.length≤c0) (hr1:Kd.C k69 w A1 l1.length l1) (hc1:l1.length≤c1) (h:laws_eqRowS.f k l0 l1=some r) :
  Calls Tryd.prog 51 #[.slice A0 l0.length c0,.slice A1 l1.length c1] w fun e w'=>e=.returned (.bool r)∧Below w.heap.size w w':=by
 have hu69:=Tryd.underlying69
 have HR0:=a_ hr0
 have HC0:=a_ hc0
 clear hr0 hc0
 have HR1:=a_ hr1
 have HC1:=a_ hc1
 clear hr1 hc1
 have HB:=a_ (Below.refl w.heap.size w)
 unfold laws_eqRowS.f at h
 have H:=h
 clear h
 by_cases c3:(l0.length:Int)=(l1.length:Int)
 ·rw [if_pos c3] at H
  have c3b0:((l0.length:Int)==(l1.length:Int))=true:=beq_iff_eq.mpr c3
  have c3b1:((l0.length:Int) != (l1.length:Int))=false:=be_ c3
  have c3b2:(l0.length==l1.length)=true:=by first|simpa using c3|(simp at c3 ⊢;omega)
  clear c3
  have H':=a_ H
  clear H
  go_enter Tryd.func51,Tryd.ntmps51
  go_wp2
  go_loopg [5] k (fun kq v5 w'=>∃ (x5_1:Int),v5=.int .i64 x5_1∧Aside0 (laws_eqRowS.l0 kq l0 l1 x5_1=some r)∧Aside0 (kq≤k)∧Aside0 (Below w.heap.size w w'))
  case atStart=>exact ⟨(0),(si_),H',⟨Nat.le_refl _⟩,⟨bel_⟩⟩
  case round =>
   clear H'
   try clear c1
   try clear p2
   try clear c3
   try clear c3b0
   try clear c3b1
   try clear c3b2
   obtain ⟨x5_1,rfl,HA,HK1,HB⟩:=hrel
   cases gk with
   | zero=>exact absurd HA.out (by simp [laws_eqRowS.l0])
   | succ k1 =>
    have H:=HA.out
    clear HA
    simp only [laws_eqRowS.l0] at H
    by_cases c4:x5_1 < (l0.length:Int)
    ·rw [if_pos c4] at H
     have c4b0:decide (x5_1 < (l0.length:Int))=true:=dt_ c4
     clear c4
     by_cases c5:0≤x5_1
     ·rw [if_pos c5] at H
      have c5b0:decide (0≤x5_1)=true:=dt_ c5
      clear c5
      by_cases c6:x5_1 < (l1.length:Int)
      ·rw [if_pos c6] at H
       have c6b0:decide (x5_1 < (l1.length:Int))=true:=dt_ c6
       clear c6
       replace H:=bs_ H
       obtain ⟨t1073,A70,H⟩:=H
       try dsimp only at H
       have A7:=a_ A70
       clear A70
       by_cases c8:t1073=true
       ·subst c8
        have H1:(laws_eqRowS.l0 k1 l0 l1 (wrap64 (x5_1+1)))=some r:=by rw [if_pos rfl] at H;exact H
        clear H
        have H:=H1
        clear H1
        have H':=a_ H
        clear H
        try go_wp2
        replace HB:=a_ (below_drew1 HB.out)
        have p1071:0≤(x5_1:Int):=od_
        have q1071:x5_1 < (l0.length:Int):=od_
        obtain ⟨ad1071,e1071,hx1071_0,hx1071_1,hx1071_2⟩:=at_T69 HR0.out x5_1 p1071 q1071
        have hw1071_2:=hx1071_2
        have hw1071_1:=hx1071_1
        have hw1071_0:=hx1071_0
        cases e1071
        replace hx1071_0:=(cb_ HB.out hx1071_0 :)
        replace hx1071_1:=(cb_ HB.out hx1071_1 :)
        replace hx1071_2:=(cb_ HB.out hx1071_2 :)
        replace p1071:=eq_true p1071
        replace q1071:=eq_true q1071
        have p1072:0≤(x5_1:Int):=od_
        have q1072:x5_1 < (l1.length:Int):=od_
        obtain ⟨ad1072,e1072,hx1072_0,hx1072_1,hx1072_2⟩:=at_T69 HR1.out x5_1 p1072 q1072
        have hw1072_2:=hx1072_2
        have hw1072_1:=hx1072_1
        have hw1072_0:=hx1072_0
        cases e1072
        replace hx1072_0:=(cb_ HB.out hx1072_0 :)
        replace hx1072_1:=(cb_ HB.out hx1072_1 :)
        replace hx1072_2:=(cb_ HB.out hx1072_2 :)
        replace p1072:=eq_true p1072
        replace q1072:=eq_true q1072
        refine start_ (n:=10) (S:=fun w'=>w'.cell? (ad1071.add ((x5_1).toNat * 3))=some (.int .i64 ((rd_T69 l0 x5_1).f0))∧w'.cell? ⟨(ad1071.add ((x5_1).toNat * 3)).block,(ad1071.add ((x5_1).toNat * 3)).off+1,none⟩=some (.int .i64 ((rd_T69 l0 x5_1).f1))∧w'.cell? ⟨(ad1071.add ((x5_1).toNat * 3)).block,(ad1071.add ((x5_1).toNat * 3)).off+2,none⟩=some (.string ((rd_T69 l0 x5_1).f2))∧w'.cell? (ad1072.add ((x5_1).toNat * 3))=some (.int .i64 ((rd_T69 l1 x5_1).f0))∧w'.cell? ⟨(ad1072.add ((x5_1).toNat * 3)).block,(ad1072.add ((x5_1).toNat * 3)).off+1,none⟩=some (.int .i64 ((rd_T69 l1 x5_1).f1))∧w'.cell? ⟨(ad1072.add ((x5_1).toNat * 3)).block,(ad1072.add ((x5_1).toNat * 3)).off+2,none⟩=some (.string ((rd_T69 l1 x5_1).f2))) (ds:=[]) #[false,false,false,false,false,false,false,false,false,false] (by kernel_rfl) rfl rfl ⟨((cb_ HB.out hw1071_0 :)),((cb_ HB.out hw1071_1 :)),((cb_ HB.out hw1071_2 :)),((cb_ HB.out hw1072_0 :)),((cb_ HB.out hw1072_1 :)),((cb_ HB.out hw1072_2 :))⟩ (fun hHeld=>?_);refine with_tabW laws_eqRowS.tab6 laws_eqRowS.bits6 (fun HT_ HW_=>?_)
        generalize wr.drew=w9 at HB hx1071_0 hx1071_1 hx1071_2 hx1072_0 hx1072_1 hx1072_2 hHeld ⊢
        refine pa_ 0 17 ?_
        refine pa_ 1 18 ?_
        refine pa_ 2 19 ?_
        refine pa_ 4 21 ?_
        refine pa_ 5 22 ?_
        refine pa_ 6 23 ?_
        refine ta6_ 3 20 hHeld ?_
        refine ta6_ 7 24 hHeld ?_
        refine on_ 8 25 (fun K hK=>?_)
        refine goes_ Tryd.func101 (by kernel_rfl) rfl #[.agg #[.int .i64 ((rd_T69 l0 x5_1).f0),.int .i64 ((rd_T69 l0 x5_1).f1),.string ((rd_T69 l0 x5_1).f2)],.agg #[.int .i64 ((rd_T69 l1 x5_1).f0),.int .i64 ((rd_T69 l1 x5_1).f1),.string ((rd_T69 l1 x5_1).f2)]] (by rfl) rfl rfl ar_ ?_
        with_reducible refine (laws_eqRow.calls ((rd_T69 l0 x5_1).f0) ((rd_T69 l0 x5_1).f1) ((rd_T69 l0 x5_1).f2) ((rd_T69 l1 x5_1).f0) ((rd_T69 l1 x5_1).f1) ((rd_T69 l1 x5_1).f2) true _ A7.out).mono ?_
        rintro e w10 ⟨rfl,hb⟩
        refine ⟨_,rfl,?_⟩
        replace HB:=a_ (bS_ (bel_) hb)
        try clear hb
        refine hK.out _ _ ⟨((cb_ HB.out hw1071_0 :)),((cb_ HB.out hw1071_1 :)),((cb_ HB.out hw1071_2 :)),((cb_ HB.out hw1072_0 :)),((cb_ HB.out hw1072_1 :)),((cb_ HB.out hw1072_2 :))⟩ (fun hHeld=>?_)
        clear hK K
        refine no_ 25 ?_
        refine pa_ 9 26 ?_
        refine done_ (done_of HT_.out (by kernel_rfl)) ?_
        try go_wp2
        go_roundg k1
        case measure=>have:=HK1.out;omega
        case rel=>exact ⟨(wrap64 (x5_1+1)),(si_),H',⟨by have:=HK1.out;omega⟩,⟨bel_⟩⟩
       ·replace c8:=Bool.eq_false_iff.mpr c8
        subst c8
        have H1:(some false)=some r:=by rw [if_neg (show ¬ (false=true) by decide)] at H;exact H
        clear H
        have H:=H1
        clear H1
        obtain rfl:=sj_ H
        try go_wp2
        replace HB:=a_ (below_drew1 HB.out)
        have p1071:0≤(x5_1:Int):=od_
        have q1071:x5_1 < (l0.length:Int):=od_
        obtain ⟨ad1071,e1071,hx1071_0,hx1071_1,hx1071_2⟩:=at_T69 HR0.out x5_1 p1071 q1071
        have hw1071_2:=hx1071_2
        have hw1071_1:=hx1071_1
        have hw1071_0:=hx1071_0
        cases e1071
        replace hx1071_0:=(cb_ HB.out hx1071_0 :)
        replace hx1071_1:=(cb_ HB.out hx1071_1 :)
        replace hx1071_2:=(cb_ HB.out hx1071_2 :)
        replace p1071:=eq_true p1071
        replace q1071:=eq_true q1071
        have p1072:0≤(x5_1:Int):=od_
        have q1072:x5_1 < (l1.length:Int):=od_
        obtain ⟨ad1072,e1072,hx1072_0,hx1072_1,hx1072_2⟩:=at_T69 HR1.out x5_1 p1072 q1072
        have hw1072_2:=hx1072_2
        have hw1072_1:=hx1072_1
        have hw1072_0:=hx1072_0
        cases e1072
        replace hx1072_0:=(cb_ HB.out hx1072_0 :)
        replace hx1072_1:=(cb_ HB.out hx1072_1 :)
        replace hx1072_2:=(cb_ HB.out hx1072_2 :)
        replace p1072:=eq_true p1072
        replace q1072:=eq_true q1072
        refine start_ (n:=10) (S:=fun w'=>w'.cell? (ad1071.add ((x5_1).toNat * 3))=some (.int .i64 ((rd_T69 l0 x5_1).f0))∧w'.cell? ⟨(ad1071.add ((x5_1).toNat * 3)).block,(ad1071.add ((x5_1).toNat * 3)).off+1,none⟩=some (.int .i64 ((rd_T69 l0 x5_1).f1))∧w'.cell? ⟨(ad1071.add ((x5_1).toNat * 3)).block,(ad1071.add ((x5_1).toNat * 3)).off+2,none⟩=some (.string ((rd_T69 l0 x5_1).f2))∧w'.cell? (ad1072.add ((x5_1).toNat * 3))=some (.int .i64 ((rd_T69 l1 x5_1).f0))∧w'.cell? ⟨(ad1072.add ((x5_1).toNat * 3)).block,(ad1072.add ((x5_1).toNat * 3)).off+1,none⟩=some (.int .i64 ((rd_T69 l1 x5_1).f1))∧w'.cell? ⟨(ad1072.add ((x5_1).toNat * 3)).block,(ad1072.add ((x5_1).toNat * 3)).off+2,none⟩=some (.string ((rd_T69 l1 x5_1).f2))) (ds:=[]) #[false,false,false,false,false,false,false,false,false,false] (by kernel_rfl) rfl rfl ⟨((cb_ HB.out hw1071_0 :)),((cb_ HB.out hw1071_1 :)),((cb_ HB.out hw1071_2 :)),((cb_ HB.out hw1072_0 :)),((cb_ HB.out hw1072_1 :)),((cb_ HB.out hw1072_2 :))⟩ (fun hHeld=>?_);refine with_tabW laws_eqRowS.tab6 laws_eqRowS.bits6 (fun HT_ HW_=>?_)
        generalize wr.drew=w11 at HB hx1071_0 hx1071_1 hx1071_2 hx1072_0 hx1072_1 hx1072_2 hHeld ⊢
        refine pa_ 0 17 ?_
        refine pa_ 1 18 ?_
        refine pa_ 2 19 ?_
        refine pa_ 4 21 ?_
        refine pa_ 5 22 ?_
        refine pa_ 6 23 ?_
        refine ta6_ 3 20 hHeld ?_
        refine ta6_ 7 24 hHeld ?_
        refine on_ 8 25 (fun K hK=>?_)
        refine goes_ Tryd.func101 (by kernel_rfl) rfl #[.agg #[.int .i64 ((rd_T69 l0 x5_1).f0),.int .i64 ((rd_T69 l0 x5_1).f1),.string ((rd_T69 l0 x5_1).f2)],.agg #[.int .i64 ((rd_T69 l1 x5_1).f0),.int .i64 ((rd_T69 l1 x5_1).f1),.string ((rd_T69 l1 x5_1).f2)]] (by rfl) rfl rfl ar_ ?_
        with_reducible refine (laws_eqRow.calls ((rd_T69 l0 x5_1).f0) ((rd_T69 l0 x5_1).f1) ((rd_T69 l0 x5_1).f2) ((rd_T69 l1 x5_1).f0) ((rd_T69 l1 x5_1).f1) ((rd_T69 l1 x5_1).f2) false _ A7.out).mono ?_
        rintro e w12 ⟨rfl,hb⟩
        refine ⟨_,rfl,?_⟩
        replace HB:=a_ (bS_ (bel_) hb)
        try clear hb
        refine hK.out _ _ ⟨((cb_ HB.out hw1071_0 :)),((cb_ HB.out hw1071_1 :)),((cb_ HB.out hw1071_2 :)),((cb_ HB.out hw1072_0 :)),((cb_ HB.out hw1072_1 :)),((cb_ HB.out hw1072_2 :))⟩ (fun hHeld=>?_)
        clear hK K
        refine no_ 25 ?_
        refine pa_ 9 26 ?_
        refine done_ (done_of HT_.out (by kernel_rfl)) ?_
        try go_wp2
        go_ret
        exact ⟨fi_,bel_⟩
      ·rw [if_neg c6] at H
       exact absurd H (by simp)
     ·rw [if_neg c5] at H
      exact absurd H (by simp)
    ·rw [if_neg c4] at H
     have c4b0:decide (x5_1 < (l0.length:Int))=false:=df_ c4
     clear c4
     obtain rfl:=sj_ H
     go_wp2
     go_ret
     exact ⟨fi_,bel_⟩
 ·rw [if_neg c3] at H
  have c3b0:((l0.length:Int)==(l1.length:Int))=false:=bn_ c3
  have c3b1:((l0.length:Int) != (l1.length:Int))=true:=bne_iff_ne.mpr c3
  have c3b2:(l0.length==l1.length)=false:=by first|simpa using c3|(simp at c3 ⊢;omega)
  obtain rfl:=sj_ H
  go_enter Tryd.func51,Tryd.ntmps51
  go_wp2
  go_ret
  exact ⟨fi_,bel_⟩

def laws_toRowS.l0:Nat→List (S183)→List (S69)→Int→Option ((List (S69)))
 | 0,_,_,_=>none
 | k+1,x0,x3,x4=>if x4 < (x0.length:Int) then (if 0≤x4 then ((laws_toRow.f ((rd_T183 x0 x4).f0) ((rd_T183 x0 x4).f1) ((rd_T183 x0 x4).f2)).bind fun bt1218=>(if x4 < (x3.length:Int) then (laws_toRowS.l0 k x0 (x3.set (x4:Int).toNat (⟨bt1218.1,bt1218.2.1,bt1218.2.2⟩:S69)) (wrap64 (x4+1))) else (none))) else (none)) else (some x3)
def laws_toRowS.f (k:Nat) (l0:List (S183)):Option ((List (S69))):=if 0≤(l0.length:Int) then (if ((l0.length:Int):Int).toNat≤8796093022208 then (laws_toRowS.l0 k l0 (List.replicate ((l0.length:Int):Int).toNat z69) 0) else (none)) else (none)
theorem laws_toRowS.calls (k:Nat) (A0:Option Addr) (c0:Nat) (l0:List (S183)) (r:List (S69)) (w:World) (hr0:Kd.C k183 w A0 l0.length l0) (hc0:l0.length≤c0) (h:laws_toRowS.f k l0=some r) :
  Calls Tryd.prog 111 #[.slice A0 l0.length c0] w fun e w'=>∃ v0_:Value,e=.returned (v0_)∧Kd.R k69 69 w' w.heap.size (fun _=>True) v0_ r∧Below w.heap.size w w':=by
 have hu183:=Tryd.underlying183
 have hu69:=Tryd.underlying69
 have HR0:=a_ hr0
 have HC0:=a_ hc0
 clear hr0 hc0
 have HB:=a_ (Below.refl w.heap.size w)
 unfold laws_toRowS.f at h
 have H:=h
 clear h
 by_cases c2:0≤(l0.length:Int)
 ·rw [if_pos c2] at H
  have c2b0:=eq_true c2
  have c2b1:decide (0≤(l0.length:Int))=true:=dt_ c2
  clear c2
  by_cases c3:((l0.length:Int):Int).toNat≤8796093022208
  ·rw [if_pos c3] at H
   have c3b0:=eq_true c3
   have c3b1:decide (((l0.length:Int):Int).toNat≤8796093022208)=true:=dt_ c3
   clear c3
   obtain ⟨y1214,hy1214⟩:∃ y_:List (S69),y_=(List.replicate ((l0.length:Int):Int).toNat z69):=⟨_,rfl⟩
   replace H:(laws_toRowS.l0 k l0 y1214 0)=some r:=by first|(rw [hy1214];with_reducible exact H)|(have H2_:=(Option.bind_some _ _).symm.trans H;rw [hy1214];with_reducible exact H2_)|(have H2_:=(Option.bind_some _ _).symm.trans H;with_reducible exact H2_)|with_reducible exact H|(rw [hy1214];exact H)|exact H
   have Ny1214:=a_ hy1214
   clear hy1214
   have H':=a_ H
   clear H
   go_enter Tryd.func111,Tryd.ntmps111
   go_wp2_with (first|((with_reducible refine gD_ (N:=7) rfl ?_);refine Kd.R_make k69 _ 69 rfl (N:=7) rfl 62 _ _ rfl (l0.length:Int) rfl rfl Tryd.underlying62 (.agg #[(.int .i64 0),(.int .i64 0),(.string ⟨#[]⟩)]) 32 info69 rfl (by decide) (by omega) z69 (ok:=fun _=>True) (okp:=fun _=>True) (k69_mkM _ _ _ z69 ) (fun _ hk=>hk) trivial (od_) (Nat.le_trans (Nat.mul_le_mul_right _ (od_:(l0.length:Int).toNat≤8796093022208)) (by omega)) (Below.refl _ _) (Nat.le_refl _) ?_;intro v1215 w4 ho5 hb hg_ hnew_;clear hg_ hnew_;(first|rw [←Ny1214.out] at ho5|(simp only [Int.reduceToNat] at ho5;rw [←Ny1214.out] at ho5));have HO1216:=a_ (Kd.R_lower ho5 (below_size (bel_)));replace HB:=a_ (bS_ (bel_) hb);clear hb ho5))
   go_loopg [4] k (fun kq v4 w'=>∃ (x3_1:List (S69)) (x4_1:Int),v4=.int .i64 x4_1∧Aside0 (laws_toRowS.l0 kq l0 x3_1 x4_1=some r)∧Aside0 (kq≤k)∧Aside0 (Kd.R k69 69 w' w.heap.size (fun _=>True) v1215 x3_1)∧Aside0 (Below w.heap.size w w'))
   case atStart=>exact ⟨(y1214),(0),(si_),H',⟨Nat.le_refl _⟩,⟨by (with_reducible repeat (first|apply Kd.R_alloc|apply Kd.R_drewN|apply Kd.R_drew));exact HO1216.out⟩,⟨bel_⟩⟩
   case round =>
    clear H'
    try clear c1
    try clear c2
    try clear c2b0
    try clear c2b1
    try clear p2
    try clear c3
    try clear c3b0
    try clear c3b1
    obtain ⟨x3_1,x4_1,rfl,HA,HK1,HO_3,HB⟩:=hrel
    cases gk with
    | zero=>exact absurd HA.out (by simp [laws_toRowS.l0])
    | succ k1 =>
     have H:=HA.out
     clear HA
     simp only [laws_toRowS.l0] at H
     by_cases c6:x4_1 < (l0.length:Int)
     ·rw [if_pos c6] at H
      have c6b0:decide (x4_1 < (l0.length:Int))=true:=dt_ c6
      clear c6
      by_cases c7:0≤x4_1
      ·rw [if_pos c7] at H
       have c7b0:decide (0≤x4_1)=true:=dt_ c7
       clear c7
       replace H:=bs_ H
       obtain ⟨⟨t1218,t1219,t1220⟩,A80,H⟩:=H
       try dsimp only at H
       have A8:=a_ A80
       clear A80
       by_cases c9:x4_1 < (x3_1.length:Int)
       ·rw [if_pos c9] at H
        have c9b0:decide (x4_1 < (x3_1.length:Int))=true:=dt_ c9
        clear c9
        obtain ⟨y1221,hy1221⟩:∃ y_:List (S69),y_=(x3_1.set (x4_1:Int).toNat (⟨t1218,t1219,t1220⟩:S69)):=⟨_,rfl⟩
        replace H:(laws_toRowS.l0 k1 l0 y1221 (wrap64 (x4_1+1)))=some r:=by first|(rw [hy1221];with_reducible exact H)|(have H2_:=(Option.bind_some _ _).symm.trans H;rw [hy1221];with_reducible exact H2_)|(have H2_:=(Option.bind_some _ _).symm.trans H;with_reducible exact H2_)|with_reducible exact H|(rw [hy1221];exact H)|exact H
        have Ny1221:=a_ hy1221
        clear hy1221
        have H':=a_ H
        clear H
        have p1217:0≤(x4_1:Int):=od_
        have q1217:x4_1 < (l0.length:Int):=od_
        obtain ⟨ad1217,e1217,hx1217_0,hx1217_1,hx1217_2⟩:=at_T183 HR0.out x4_1 p1217 q1217
        cases e1217
        replace hx1217_0:=(cb_ HB.out hx1217_0 :)
        replace hx1217_1:=(cb_ HB.out hx1217_1 :)
        replace hx1217_2:=(cb_ HB.out hx1217_2 :)
        replace p1217:=eq_true p1217
        replace q1217:=eq_true q1217
        go_wp2_with (first|((with_reducible refine gC_ (f:=142) rfl ?_);refine gl_ 20 Tryd.func142 #[.agg #[.int .i64 ((rd_T183 l0 x4_1).f0),.int .i64 ((rd_T183 l0 x4_1).f1),.string ((rd_T183 l0 x4_1).f2)]] ?_;(with_reducible refine (laws_toRow.calls ((rd_T183 l0 x4_1).f0) ((rd_T183 l0 x4_1).f1) ((rd_T183 l0 x4_1).f2) t1218 t1219 t1220 _ A8.out).mono ?_);rintro e w11 ⟨rfl,hb⟩;refine ⟨_,rfl,?_⟩;replace HO_3:=a_ (Kd.R_below (rp_ HO_3.out) hb);replace HB:=a_ (bS_ (bel_) hb);(try clear hb);have p10:0≤(x4_1:Int):=od_;have q10:(x4_1:Int) < ((x3_1.length:Int):Int):=od_;obtain ⟨go10,co10,eo10,gb10,gl10,cl10,HG10⟩:=Kd.R_form HO_3.out (by omega);(first|cases eo10|(injection eo10 with ea_ en_ ec_;(first|subst ea_|(injection ea_ with ea_;subst ea_));subst ec_;clear en_));have GB10:=a_ gb10;have GG10:=a_ HG10;clear gb10 gl10 HG10;obtain ⟨ce10,hcl10,hM10,hcc10,hfr10⟩:=Kd.R_elem HO_3.out z69 (x4_1:Int) p10 q10;obtain rfl:=k69_openM hM10;have hx10_0:w11.cell? ⟨go10,(x4_1:Int).toNat * 3,none⟩=some (.int .i64 ((rd_T69 x3_1 x4_1).f0)):=hcc10 0 _ rfl;have hx10_1:w11.cell? ⟨go10,(x4_1:Int).toNat * 3+1,none⟩=some (.int .i64 ((rd_T69 x3_1 x4_1).f1)):=hcc10 1 _ rfl;have hx10_2:w11.cell? ⟨go10,(x4_1:Int).toNat * 3+2,none⟩=some (.string ((rd_T69 x3_1 x4_1).f2)):=hcc10 2 _ rfl;have hf10_0:w11.frozen? ⟨go10,(x4_1:Int).toNat * 3,none⟩=false:=hfr10 0;have hf10_1:w11.frozen? ⟨go10,(x4_1:Int).toNat * 3+1,none⟩=false:=hfr10 1;have hf10_2:w11.frozen? ⟨go10,(x4_1:Int).toNat * 3+2,none⟩=false:=hfr10 2;clear hcl10 hcc10 hfr10 hM10;replace p10:=eq_true p10;replace q10:=eq_true q10;have HX12:=a_ (show Kd.R k69 69 w11 w.heap.size (fun _=>True) (.slice (some ⟨go10,0,none⟩) x3_1.length co10) x3_1 from (rp_ HO_3.out));obtain ⟨ce12,hcl12,hM12,hcc12,hfr12⟩:=Kd.R_elem HX12.out z69 (x4_1:Int) (od_) (by have h_:(x4_1:Int) < ((x3_1.length:Int):Int):=od_;first|exact h_|(have e_:=(Kd.R_reads' HO_3.out).1;omega)|simpa using h_);obtain rfl:=k69_openM hM12;have HP12:=Kd.R_seg HX12.out (x4_1:Int) (od_) (by have h_:(x4_1:Int) < ((x3_1.length:Int):Int):=od_;first|exact h_|(have e_:=(Kd.R_reads' HO_3.out).1;omega)|simpa using h_) (seg:=[.int .i64 t1218,.int .i64 t1219,.string t1220]) (j:=0) hcl12 hcc12 (show 3≤3 from by decide) (x':=(⟨t1218,t1219,t1220⟩:S69)) (k69_mkM _ _ _ (⟨t1218,t1219,t1220⟩:S69) ) (fun _ hk=>hk);have hx12_0:=hcc12 0 _ rfl;(try simp only [show (k69).sz=3 from rfl,Nat.mul_one,Nat.add_zero] at hx12_0);have hf12_0:=hfr12 0;(try simp only [show (k69).sz=3 from rfl,Nat.mul_one,Nat.add_zero] at hf12_0);have hx12_1:=hcc12 1 _ rfl;(try simp only [show (k69).sz=3 from rfl,Nat.mul_one,Nat.add_zero] at hx12_1);have hf12_1:=hfr12 1;(try simp only [show (k69).sz=3 from rfl,Nat.mul_one,Nat.add_zero] at hf12_1);have hx12_2:=hcc12 2 _ rfl;(try simp only [show (k69).sz=3 from rfl,Nat.mul_one,Nat.add_zero] at hx12_2);have hf12_2:=hfr12 2;(try simp only [show (k69).sz=3 from rfl,Nat.mul_one,Nat.add_zero] at hf12_2);clear hcl12 hcc12 hfr12 hM12)|((with_reducible refine gate_store (t:=69) (p:=21) rfl ?_);refine store_event (t:=69) (p:=21) (v:=?vo_w13) (w1:=(((w11.setCell ⟨go10,(x4_1:Int).toNat * 3,none⟩ (.int .i64 t1218)).setCell ⟨go10,(x4_1:Int).toNat * 3+1,none⟩ (.int .i64 t1219)).setCell ⟨go10,(x4_1:Int).toNat * 3+2,none⟩ (.string t1220))) ?hg ?ho ?hn ?hr ?_;(case ho=>rfl);(case hg=>rfl);(case hn=>rfl);(case hr=>first|(go_simp;done)|(go_simp;rfl));intro w13 hw;have hg:w11.grownBy w13 (some go10):=(by rw [hw];exact HP12.2);have hp_:Kd.R k69 69 w13 w.heap.size (fun _=>True) (.slice (some ⟨go10,0,none⟩) x3_1.length co10) y1221:=(by rw [hw,Ny1221.out];exact HP12.1);clear HP12;have n0_:=a_ (hp_);have n1_:=a_ ((by rw [hw];exact wS_ (wS_ (wS_ (HB.out) GB10.out) GB10.out) GB10.out:Below w.heap.size w w13));clear HO_3;clear HB;have HO_3:=n0_;have HB:=n1_;clear n0_ n1_;clear hg hw hp_))
        go_roundg k1
        case measure=>have:=HK1.out;omega
        case rel=>exact ⟨(y1221),(wrap64 (x4_1+1)),(si_),H',⟨by have:=HK1.out;omega⟩,⟨by (with_reducible repeat (first|apply Kd.R_alloc|apply Kd.R_drewN|apply Kd.R_drew));exact HO_3.out⟩,⟨bel_⟩⟩
       ·rw [if_neg c9] at H
        exact absurd H (by simp)
      ·rw [if_neg c7] at H
       exact absurd H (by simp)
     ·rw [if_neg c6] at H
      have c6b0:decide (x4_1 < (l0.length:Int))=false:=df_ c6
      clear c6
      obtain rfl:=sj_ H
      go_wp2
      go_ret
      exact ⟨_,fi_,by (with_reducible repeat (first|apply Kd.R_alloc|apply Kd.R_drewN|apply Kd.R_drew));exact HO_3.out,bel_⟩
  ·rw [if_neg c3] at H
   exact absurd H (by simp)
 ·rw [if_neg c2] at H
  exact absurd H (by simp)

def laws_toClient.f (k:Nat) (a0_0:Int) (a0_1:Int) (l0_2:List (S183)) (l0_3:List (S36)) (a0_4:Int) (a0_5:Int):Option (Int×Int×(List (S69))×(List (S44))×Int×Int):=(laws_toRowS.f k l0_2).bind fun t1225=>((laws_toEntryS.f k l0_3).bind fun t1228=>(some (a0_0,a0_1,t1225,t1228,a0_4,a0_5)))
end Go.Proofs.YtdpklbomhdpimaaDoor.P
