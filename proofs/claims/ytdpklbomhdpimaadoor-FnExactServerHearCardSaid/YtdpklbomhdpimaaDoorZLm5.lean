/- Joined by a program (wip/shake.py): the declarations that 'YtdpklbomhdpimaaDoorCardFnExactServerHear' reaches. -/
import Derived.Test.YtdpklbomhdpimaaDoorZLm4
set_option linter.unusedVariables false
set_option linter.unusedSimpArgs false
set_option linter.unusedSectionVars false
set_option maxHeartbeats 8000000
set_option maxRecDepth 100000
namespace Go.Proofs.YtdpklbomhdpimaaDoor.P
open Go.RowKit Go.Proofs.YtdpklbomhdpimaaDoorW.PrintWords Go.Proofs.YtdpklbomhdpimaaDoorW.PrintLast
theorem laws_eqEntryS.calls (k:Nat) (A0:Option Addr) (c0:Nat) (l0:List (S44)) (A1:Option Addr) (c1:Nat) (l1:List (S44)) (r:Bool) (w:World) (hr0:Kd.C k44 w A0 l0.length l0) (hc0:l0.length≤c0) (hr1:Kd.C k44 w A1 l1.length l1) (hc1:l1.length≤c1) (h:laws_eqEntryS.f k l0 l1=some r) :
  Calls Tryd.prog 52 #[.slice A0 l0.length c0,.slice A1 l1.length c1] w fun e w'=>e=.returned (.bool r)∧Below w.heap.size w w':=by
 have hu44:=Tryd.underlying44
 have HR0:=a_ hr0
 have HC0:=a_ hc0
 clear hr0 hc0
 have HR1:=a_ hr1
 have HC1:=a_ hc1
 clear hr1 hc1
 have HB:=a_ (Below.refl w.heap.size w)
 unfold laws_eqEntryS.f at h
 have H:=h
 clear h
 by_cases c3:(l0.length:Int)=(l1.length:Int)
 ·rw [if_pos c3] at H
  have c3b0:((l0.length:Int)==(l1.length:Int))=true:=beq_iff_eq.mpr c3
  have c3b1:((l0.length:Int) != (l1.length:Int))=false:=be_ c3
  have c3b2:(l0.length==l1.length)=true:=by first|simpa using c3|(simp at c3 ⊢;omega)
  clear c3
  have H':=a_ H
  clear H
  go_enter Tryd.func52,Tryd.ntmps52
  go_wp2
  go_loopg [5] k (fun kq v5 w'=>∃ (x5_1:Int),v5=.int .i64 x5_1∧Aside0 (laws_eqEntryS.l0 kq l0 l1 x5_1=some r)∧Aside0 (kq≤k)∧Aside0 (Below w.heap.size w w'))
  case atStart=>exact ⟨(0),(si_),H',⟨Nat.le_refl _⟩,⟨bel_⟩⟩
  case round =>
   clear H'
   try clear c1
   try clear p2
   try clear c3
   try clear c3b0
   try clear c3b1
   try clear c3b2
   obtain ⟨x5_1,rfl,HA,HK1,HB⟩:=hrel
   cases gk with
   | zero=>exact absurd HA.out (by simp [laws_eqEntryS.l0])
   | succ k1 =>
    have H:=HA.out
    clear HA
    simp only [laws_eqEntryS.l0] at H
    by_cases c4:x5_1 < (l0.length:Int)
    ·rw [if_pos c4] at H
     have c4b0:decide (x5_1 < (l0.length:Int))=true:=dt_ c4
     clear c4
     by_cases c5:0≤x5_1
     ·rw [if_pos c5] at H
      have c5b0:decide (0≤x5_1)=true:=dt_ c5
      clear c5
      by_cases c6:x5_1 < (l1.length:Int)
      ·rw [if_pos c6] at H
       have c6b0:decide (x5_1 < (l1.length:Int))=true:=dt_ c6
       clear c6
       replace H:=bs_ H
       obtain ⟨t559,A70,H⟩:=H
       try dsimp only at H
       have A7:=a_ A70
       clear A70
       by_cases c8:t559=true
       ·subst c8
        have H1:(laws_eqEntryS.l0 k1 l0 l1 (wrap64 (x5_1+1)))=some r:=by rw [if_pos rfl] at H;exact H
        clear H
        have H:=H1
        clear H1
        have H':=a_ H
        clear H
        try go_wp2
        have n0_:=a_ (below_drew1 HB.out)
        clear HB
        have HB:=n0_
        clear n0_
        have p557:0≤(x5_1:Int):=od_
        have q557:x5_1 < (l0.length:Int):=od_
        obtain ⟨ad557,e557,hx557_0,hx557_1,hx557_2,hx557_3,hx557_4,hx557_5,hx557_6⟩:=at_T44 HR0.out x5_1 p557 q557
        have hw557_6:=hx557_6
        have hw557_5:=hx557_5
        have hw557_4:=hx557_4
        have hw557_3:=hx557_3
        have hw557_2:=hx557_2
        have hw557_1:=hx557_1
        have hw557_0:=hx557_0
        cases e557
        replace hx557_0:=(cb_ HB.out hx557_0 :)
        replace hx557_1:=(cb_ HB.out hx557_1 :)
        replace hx557_2:=(cb_ HB.out hx557_2 :)
        replace hx557_3:=(cb_ HB.out hx557_3 :)
        replace hx557_4:=(cb_ HB.out hx557_4 :)
        replace hx557_5:=(cb_ HB.out hx557_5 :)
        replace hx557_6:=(cb_ HB.out hx557_6 :)
        replace p557:=eq_true p557
        replace q557:=eq_true q557
        have p558:0≤(x5_1:Int):=od_
        have q558:x5_1 < (l1.length:Int):=od_
        obtain ⟨ad558,e558,hx558_0,hx558_1,hx558_2,hx558_3,hx558_4,hx558_5,hx558_6⟩:=at_T44 HR1.out x5_1 p558 q558
        have hw558_6:=hx558_6
        have hw558_5:=hx558_5
        have hw558_4:=hx558_4
        have hw558_3:=hx558_3
        have hw558_2:=hx558_2
        have hw558_1:=hx558_1
        have hw558_0:=hx558_0
        cases e558
        replace hx558_0:=(cb_ HB.out hx558_0 :)
        replace hx558_1:=(cb_ HB.out hx558_1 :)
        replace hx558_2:=(cb_ HB.out hx558_2 :)
        replace hx558_3:=(cb_ HB.out hx558_3 :)
        replace hx558_4:=(cb_ HB.out hx558_4 :)
        replace hx558_5:=(cb_ HB.out hx558_5 :)
        replace hx558_6:=(cb_ HB.out hx558_6 :)
        replace p558:=eq_true p558
        replace q558:=eq_true q558
        refine start_ (n:=10) (S:=fun w'=>w'.cell? (ad557.add ((x5_1).toNat * 7))=some (.int .i64 ((rd_T44 l0 x5_1).f0))∧w'.cell? ⟨(ad557.add ((x5_1).toNat * 7)).block,(ad557.add ((x5_1).toNat * 7)).off+1,none⟩=some (.int .i64 ((rd_T44 l0 x5_1).f1))∧w'.cell? ⟨(ad557.add ((x5_1).toNat * 7)).block,(ad557.add ((x5_1).toNat * 7)).off+2,none⟩=some (.int .i64 ((rd_T44 l0 x5_1).f2.f0))∧w'.cell? ⟨(ad557.add ((x5_1).toNat * 7)).block,(ad557.add ((x5_1).toNat * 7)).off+3,none⟩=some (.int .i64 ((rd_T44 l0 x5_1).f2.f1))∧w'.cell? ⟨(ad557.add ((x5_1).toNat * 7)).block,(ad557.add ((x5_1).toNat * 7)).off+4,none⟩=some (.int .i64 ((rd_T44 l0 x5_1).f2.f2))∧w'.cell? ⟨(ad557.add ((x5_1).toNat * 7)).block,(ad557.add ((x5_1).toNat * 7)).off+5,none⟩=some (.int .i64 ((rd_T44 l0 x5_1).f2.f3))∧w'.cell? ⟨(ad557.add ((x5_1).toNat * 7)).block,(ad557.add ((x5_1).toNat * 7)).off+6,none⟩=some (.string ((rd_T44 l0 x5_1).f2.f4))∧w'.cell? (ad558.add ((x5_1).toNat * 7))=some (.int .i64 ((rd_T44 l1 x5_1).f0))∧w'.cell? ⟨(ad558.add ((x5_1).toNat * 7)).block,(ad558.add ((x5_1).toNat * 7)).off+1,none⟩=some (.int .i64 ((rd_T44 l1 x5_1).f1))∧w'.cell? ⟨(ad558.add ((x5_1).toNat * 7)).block,(ad558.add ((x5_1).toNat * 7)).off+2,none⟩=some (.int .i64 ((rd_T44 l1 x5_1).f2.f0))∧w'.cell? ⟨(ad558.add ((x5_1).toNat * 7)).block,(ad558.add ((x5_1).toNat * 7)).off+3,none⟩=some (.int .i64 ((rd_T44 l1 x5_1).f2.f1))∧w'.cell? ⟨(ad558.add ((x5_1).toNat * 7)).block,(ad558.add ((x5_1).toNat * 7)).off+4,none⟩=some (.int .i64 ((rd_T44 l1 x5_1).f2.f2))∧w'.cell? ⟨(ad558.add ((x5_1).toNat * 7)).block,(ad558.add ((x5_1).toNat * 7)).off+5,none⟩=some (.int .i64 ((rd_T44 l1 x5_1).f2.f3))∧w'.cell? ⟨(ad558.add ((x5_1).toNat * 7)).block,(ad558.add ((x5_1).toNat * 7)).off+6,none⟩=some (.string ((rd_T44 l1 x5_1).f2.f4))) (ds:=[]) #[false,false,false,false,false,false,false,false,false,false] (by kernel_rfl) rfl rfl ⟨((cb_ HB.out hw557_0 :)),((cb_ HB.out hw557_1 :)),((cb_ HB.out hw557_2 :)),((cb_ HB.out hw557_3 :)),((cb_ HB.out hw557_4 :)),((cb_ HB.out hw557_5 :)),((cb_ HB.out hw557_6 :)),((cb_ HB.out hw558_0 :)),((cb_ HB.out hw558_1 :)),((cb_ HB.out hw558_2 :)),((cb_ HB.out hw558_3 :)),((cb_ HB.out hw558_4 :)),((cb_ HB.out hw558_5 :)),((cb_ HB.out hw558_6 :))⟩ (fun hHeld=>?_);refine with_tabW laws_eqEntryS.tab6 laws_eqEntryS.bits6 (fun HT_ HW_=>?_)
        generalize wr.drew=w9 at HB hx557_0 hx557_1 hx557_2 hx557_3 hx557_4 hx557_5 hx557_6 hx558_0 hx558_1 hx558_2 hx558_3 hx558_4 hx558_5 hx558_6 hHeld ⊢
        refine pa_ 0 17 ?_
        refine pa_ 1 18 ?_
        refine pa_ 2 19 ?_
        refine pa_ 4 21 ?_
        refine pa_ 5 22 ?_
        refine pa_ 6 23 ?_
        refine ta14_ 3 20 hHeld ?_
        refine ta14_ 7 24 hHeld ?_
        refine on_ 8 25 (fun K hK=>?_)
        refine goes_ Tryd.func102 (by kernel_rfl) rfl #[.agg #[.int .i64 ((rd_T44 l0 x5_1).f0),.int .i64 ((rd_T44 l0 x5_1).f1),.int .i64 ((rd_T44 l0 x5_1).f2.f0),.int .i64 ((rd_T44 l0 x5_1).f2.f1),.int .i64 ((rd_T44 l0 x5_1).f2.f2),.int .i64 ((rd_T44 l0 x5_1).f2.f3),.string ((rd_T44 l0 x5_1).f2.f4)],.agg #[.int .i64 ((rd_T44 l1 x5_1).f0),.int .i64 ((rd_T44 l1 x5_1).f1),.int .i64 ((rd_T44 l1 x5_1).f2.f0),.int .i64 ((rd_T44 l1 x5_1).f2.f1),.int .i64 ((rd_T44 l1 x5_1).f2.f2),.int .i64 ((rd_T44 l1 x5_1).f2.f3),.string ((rd_T44 l1 x5_1).f2.f4)]] (by rfl) rfl rfl ar_ ?_
        with_reducible refine (laws_eqEntry.calls ((rd_T44 l0 x5_1).f0) ((rd_T44 l0 x5_1).f1) ((rd_T44 l0 x5_1).f2.f0) ((rd_T44 l0 x5_1).f2.f1) ((rd_T44 l0 x5_1).f2.f2) ((rd_T44 l0 x5_1).f2.f3) ((rd_T44 l0 x5_1).f2.f4) ((rd_T44 l1 x5_1).f0) ((rd_T44 l1 x5_1).f1) ((rd_T44 l1 x5_1).f2.f0) ((rd_T44 l1 x5_1).f2.f1) ((rd_T44 l1 x5_1).f2.f2) ((rd_T44 l1 x5_1).f2.f3) ((rd_T44 l1 x5_1).f2.f4) true _ A7.out).mono ?_
        rintro e w10 ⟨rfl,hb⟩
        refine ⟨_,rfl,?_⟩
        have n0_:=a_ (bS_ (bel_) hb)
        clear HB
        have HB:=n0_
        clear n0_
        (try clear hb)
        (try clear hb2)
        (try clear hk)
        (try clear hi)
        refine hK.out _ _ ⟨((cb_ HB.out hw557_0 :)),((cb_ HB.out hw557_1 :)),((cb_ HB.out hw557_2 :)),((cb_ HB.out hw557_3 :)),((cb_ HB.out hw557_4 :)),((cb_ HB.out hw557_5 :)),((cb_ HB.out hw557_6 :)),((cb_ HB.out hw558_0 :)),((cb_ HB.out hw558_1 :)),((cb_ HB.out hw558_2 :)),((cb_ HB.out hw558_3 :)),((cb_ HB.out hw558_4 :)),((cb_ HB.out hw558_5 :)),((cb_ HB.out hw558_6 :))⟩ (fun hHeld=>?_)
        clear hK K
        refine no_ 25 ?_
        refine pa_ 9 26 ?_
        refine done_ (done_of HT_.out (by kernel_rfl)) ?_
        try go_wp2
        go_roundg k1
        case measure=>have:=HK1.out;omega
        case rel=>exact ⟨(wrap64 (x5_1+1)),(si_),H',⟨by have:=HK1.out;omega⟩,⟨bel_⟩⟩
       ·replace c8:=Bool.eq_false_iff.mpr c8
        subst c8
        have H1:(some false)=some r:=by rw [if_neg (show ¬ (false=true) by decide)] at H;exact H
        clear H
        have H:=H1
        clear H1
        obtain rfl:=sj_ H
        try go_wp2
        have n0_:=a_ (below_drew1 HB.out)
        clear HB
        have HB:=n0_
        clear n0_
        have p557:0≤(x5_1:Int):=od_
        have q557:x5_1 < (l0.length:Int):=od_
        obtain ⟨ad557,e557,hx557_0,hx557_1,hx557_2,hx557_3,hx557_4,hx557_5,hx557_6⟩:=at_T44 HR0.out x5_1 p557 q557
        have hw557_6:=hx557_6
        have hw557_5:=hx557_5
        have hw557_4:=hx557_4
        have hw557_3:=hx557_3
        have hw557_2:=hx557_2
        have hw557_1:=hx557_1
        have hw557_0:=hx557_0
        cases e557
        replace hx557_0:=(cb_ HB.out hx557_0 :)
        replace hx557_1:=(cb_ HB.out hx557_1 :)
        replace hx557_2:=(cb_ HB.out hx557_2 :)
        replace hx557_3:=(cb_ HB.out hx557_3 :)
        replace hx557_4:=(cb_ HB.out hx557_4 :)
        replace hx557_5:=(cb_ HB.out hx557_5 :)
        replace hx557_6:=(cb_ HB.out hx557_6 :)
        replace p557:=eq_true p557
        replace q557:=eq_true q557
        have p558:0≤(x5_1:Int):=od_
        have q558:x5_1 < (l1.length:Int):=od_
        obtain ⟨ad558,e558,hx558_0,hx558_1,hx558_2,hx558_3,hx558_4,hx558_5,hx558_6⟩:=at_T44 HR1.out x5_1 p558 q558
        have hw558_6:=hx558_6
        have hw558_5:=hx558_5
        have hw558_4:=hx558_4
        have hw558_3:=hx558_3
        have hw558_2:=hx558_2
        have hw558_1:=hx558_1
        have hw558_0:=hx558_0
        cases e558
        replace hx558_0:=(cb_ HB.out hx558_0 :)
        replace hx558_1:=(cb_ HB.out hx558_1 :)
        replace hx558_2:=(cb_ HB.out hx558_2 :)
        replace hx558_3:=(cb_ HB.out hx558_3 :)
        replace hx558_4:=(cb_ HB.out hx558_4 :)
        replace hx558_5:=(cb_ HB.out hx558_5 :)
        replace hx558_6:=(cb_ HB.out hx558_6 :)
        replace p558:=eq_true p558
        replace q558:=eq_true q558
        refine start_ (n:=10) (S:=fun w'=>w'.cell? (ad557.add ((x5_1).toNat * 7))=some (.int .i64 ((rd_T44 l0 x5_1).f0))∧w'.cell? ⟨(ad557.add ((x5_1).toNat * 7)).block,(ad557.add ((x5_1).toNat * 7)).off+1,none⟩=some (.int .i64 ((rd_T44 l0 x5_1).f1))∧w'.cell? ⟨(ad557.add ((x5_1).toNat * 7)).block,(ad557.add ((x5_1).toNat * 7)).off+2,none⟩=some (.int .i64 ((rd_T44 l0 x5_1).f2.f0))∧w'.cell? ⟨(ad557.add ((x5_1).toNat * 7)).block,(ad557.add ((x5_1).toNat * 7)).off+3,none⟩=some (.int .i64 ((rd_T44 l0 x5_1).f2.f1))∧w'.cell? ⟨(ad557.add ((x5_1).toNat * 7)).block,(ad557.add ((x5_1).toNat * 7)).off+4,none⟩=some (.int .i64 ((rd_T44 l0 x5_1).f2.f2))∧w'.cell? ⟨(ad557.add ((x5_1).toNat * 7)).block,(ad557.add ((x5_1).toNat * 7)).off+5,none⟩=some (.int .i64 ((rd_T44 l0 x5_1).f2.f3))∧w'.cell? ⟨(ad557.add ((x5_1).toNat * 7)).block,(ad557.add ((x5_1).toNat * 7)).off+6,none⟩=some (.string ((rd_T44 l0 x5_1).f2.f4))∧w'.cell? (ad558.add ((x5_1).toNat * 7))=some (.int .i64 ((rd_T44 l1 x5_1).f0))∧w'.cell? ⟨(ad558.add ((x5_1).toNat * 7)).block,(ad558.add ((x5_1).toNat * 7)).off+1,none⟩=some (.int .i64 ((rd_T44 l1 x5_1).f1))∧w'.cell? ⟨(ad558.add ((x5_1).toNat * 7)).block,(ad558.add ((x5_1).toNat * 7)).off+2,none⟩=some (.int .i64 ((rd_T44 l1 x5_1).f2.f0))∧w'.cell? ⟨(ad558.add ((x5_1).toNat * 7)).block,(ad558.add ((x5_1).toNat * 7)).off+3,none⟩=some (.int .i64 ((rd_T44 l1 x5_1).f2.f1))∧w'.cell? ⟨(ad558.add ((x5_1).toNat * 7)).block,(ad558.add ((x5_1).toNat * 7)).off+4,none⟩=some (.int .i64 ((rd_T44 l1 x5_1).f2.f2))∧w'.cell? ⟨(ad558.add ((x5_1).toNat * 7)).block,(ad558.add ((x5_1).toNat * 7)).off+5,none⟩=some (.int .i64 ((rd_T44 l1 x5_1).f2.f3))∧w'.cell? ⟨(ad558.add ((x5_1).toNat * 7)).block,(ad558.add ((x5_1).toNat * 7)).off+6,none⟩=some (.string ((rd_T44 l1 x5_1).f2.f4))) (ds:=[]) #[false,false,false,false,false,false,false,false,false,false] (by kernel_rfl) rfl rfl ⟨((cb_ HB.out hw557_0 :)),((cb_ HB.out hw557_1 :)),((cb_ HB.out hw557_2 :)),((cb_ HB.out hw557_3 :)),((cb_ HB.out hw557_4 :)),((cb_ HB.out hw557_5 :)),((cb_ HB.out hw557_6 :)),((cb_ HB.out hw558_0 :)),((cb_ HB.out hw558_1 :)),((cb_ HB.out hw558_2 :)),((cb_ HB.out hw558_3 :)),((cb_ HB.out hw558_4 :)),((cb_ HB.out hw558_5 :)),((cb_ HB.out hw558_6 :))⟩ (fun hHeld=>?_);refine with_tabW laws_eqEntryS.tab6 laws_eqEntryS.bits6 (fun HT_ HW_=>?_)
        generalize wr.drew=w11 at HB hx557_0 hx557_1 hx557_2 hx557_3 hx557_4 hx557_5 hx557_6 hx558_0 hx558_1 hx558_2 hx558_3 hx558_4 hx558_5 hx558_6 hHeld ⊢
        refine pa_ 0 17 ?_
        refine pa_ 1 18 ?_
        refine pa_ 2 19 ?_
        refine pa_ 4 21 ?_
        refine pa_ 5 22 ?_
        refine pa_ 6 23 ?_
        refine ta14_ 3 20 hHeld ?_
        refine ta14_ 7 24 hHeld ?_
        refine on_ 8 25 (fun K hK=>?_)
        refine goes_ Tryd.func102 (by kernel_rfl) rfl #[.agg #[.int .i64 ((rd_T44 l0 x5_1).f0),.int .i64 ((rd_T44 l0 x5_1).f1),.int .i64 ((rd_T44 l0 x5_1).f2.f0),.int .i64 ((rd_T44 l0 x5_1).f2.f1),.int .i64 ((rd_T44 l0 x5_1).f2.f2),.int .i64 ((rd_T44 l0 x5_1).f2.f3),.string ((rd_T44 l0 x5_1).f2.f4)],.agg #[.int .i64 ((rd_T44 l1 x5_1).f0),.int .i64 ((rd_T44 l1 x5_1).f1),.int .i64 ((rd_T44 l1 x5_1).f2.f0),.int .i64 ((rd_T44 l1 x5_1).f2.f1),.int .i64 ((rd_T44 l1 x5_1).f2.f2),.int .i64 ((rd_T44 l1 x5_1).f2.f3),.string ((rd_T44 l1 x5_1).f2.f4)]] (by rfl) rfl rfl ar_ ?_
        with_reducible refine (laws_eqEntry.calls ((rd_T44 l0 x5_1).f0) ((rd_T44 l0 x5_1).f1) ((rd_T44 l0 x5_1).f2.f0) ((rd_T44 l0 x5_1).f2.f1) ((rd_T44 l0 x5_1).f2.f2) ((rd_T44 l0 x5_1).f2.f3) ((rd_T44 l0 x5_1).f2.f4) ((rd_T44 l1 x5_1).f0) ((rd_T44 l1 x5_1).f1) ((rd_T44 l1 x5_1).f2.f0) ((rd_T44 l1 x5_1).f2.f1) ((rd_T44 l1 x5_1).f2.f2) ((rd_T44 l1 x5_1).f2.f3) ((rd_T44 l1 x5_1).f2.f4) false _ A7.out).mono ?_
        rintro e w12 ⟨rfl,hb⟩
        refine ⟨_,rfl,?_⟩
        have n0_:=a_ (bS_ (bel_) hb)
        clear HB
        have HB:=n0_
        clear n0_
        (try clear hb)
        (try clear hb2)
        (try clear hk)
        (try clear hi)
        refine hK.out _ _ ⟨((cb_ HB.out hw557_0 :)),((cb_ HB.out hw557_1 :)),((cb_ HB.out hw557_2 :)),((cb_ HB.out hw557_3 :)),((cb_ HB.out hw557_4 :)),((cb_ HB.out hw557_5 :)),((cb_ HB.out hw557_6 :)),((cb_ HB.out hw558_0 :)),((cb_ HB.out hw558_1 :)),((cb_ HB.out hw558_2 :)),((cb_ HB.out hw558_3 :)),((cb_ HB.out hw558_4 :)),((cb_ HB.out hw558_5 :)),((cb_ HB.out hw558_6 :))⟩ (fun hHeld=>?_)
        clear hK K
        refine no_ 25 ?_
        refine pa_ 9 26 ?_
        refine done_ (done_of HT_.out (by kernel_rfl)) ?_
        try go_wp2
        go_ret
        exact ⟨fi_,bel_⟩
      ·rw [if_neg c6] at H
       exact absurd H (by simp)
     ·rw [if_neg c5] at H
      exact absurd H (by simp)
    ·rw [if_neg c4] at H
     have c4b0:decide (x5_1 < (l0.length:Int))=false:=df_ c4
     clear c4
     obtain rfl:=sj_ H
     go_wp2
     go_ret
     exact ⟨fi_,bel_⟩
 ·rw [if_neg c3] at H
  have c3b0:((l0.length:Int)==(l1.length:Int))=false:=bn_ c3
  have c3b1:((l0.length:Int) != (l1.length:Int))=true:=bne_iff_ne.mpr c3
  have c3b2:(l0.length==l1.length)=false:=by first|simpa using c3|(simp at c3 ⊢;omega)
  obtain rfl:=sj_ H
  go_enter Tryd.func52,Tryd.ntmps52
  go_wp2
  go_ret
  exact ⟨fi_,bel_⟩

def laws_eqServer.f (k:Nat) (l0_0:List (S44)) (a0_1:Int) (a0_2:Bool) (l1_0:List (S44)) (a1_1:Int) (a1_2:Bool):Option (Bool):=(laws_eqEntryS.f k l0_0 l1_0).bind fun t562=>(if t562=true then (if a0_1=a1_1 then (if (a0_2 != a1_2)=true then (some false) else (some true)) else (some false)) else (some false))
theorem laws_eqServer.mono:∀ a0 a1 a2 a3 a4 a5 k,LeO (laws_eqServer.f k a0 a1 a2 a3 a4 a5) (laws_eqServer.f (k+1) a0 a1 a2 a3 a4 a5):=by
 intro a0 a1 a2 a3 a4 a5 k
 unfold laws_eqServer.f
 repeat' first
   | (with_reducible exact laws_eqEntryS.mono _ _ _)
   | (with_reducible exact LeO.refl _)
   | (with_reducible exact LeO.none _)
   | (with_reducible refine LeO.ite ?_ ?_)
   | (with_reducible refine LeO.bind ?_ (fun _=>?_))
   | exact laws_eqEntryS.mono _ _ _
   | exact LeO.none _
   | refine LeO.ite ?_ ?_
   | refine LeO.bind ?_ (fun _=>?_)
theorem laws_eqServer.calls (k:Nat) (A0_0:Option Addr) (c0_0:Nat) (l0_0:List (S44)) (a0_1:Int) (a0_2:Bool) (A1_0:Option Addr) (c1_0:Nat) (l1_0:List (S44)) (a1_1:Int) (a1_2:Bool) (r:Bool) (w:World) (hr0_0:Kd.C k44 w A0_0 l0_0.length l0_0) (hc0_0:l0_0.length≤c0_0) (hr1_0:Kd.C k44 w A1_0 l1_0.length l1_0) (hc1_0:l1_0.length≤c1_0) (h:laws_eqServer.f k l0_0 a0_1 a0_2 l1_0 a1_1 a1_2=some r) :
  Calls Tryd.prog 25 #[.agg #[.slice A0_0 l0_0.length c0_0,.int .i64 a0_1,.bool a0_2],.agg #[.slice A1_0 l1_0.length c1_0,.int .i64 a1_1,.bool a1_2]] w fun e w'=>e=.returned (.bool r)∧Below w.heap.size w w':=by
 have hu25:=Tryd.underlying25
 have HR0_0:=a_ hr0_0
 have HC0_0:=a_ hc0_0
 clear hr0_0 hc0_0
 have HR1_0:=a_ hr1_0
 have HC1_0:=a_ hc1_0
 clear hr1_0 hc1_0
 have HB:=a_ (Below.refl w.heap.size w)
 unfold laws_eqServer.f at h
 have H:=h
 clear h
 replace H:=bs_ H
 obtain ⟨t562,A30,H⟩:=H
 try dsimp only at H
 have A3:=a_ A30
 clear A30
 by_cases c4:t562=true
 ·subst c4
  have H1:(if a0_1=a1_1 then (if (a0_2 != a1_2)=true then (some false) else (some true)) else (some false))=some r:=by rw [if_pos rfl] at H;exact H
  clear H
  have H:=H1
  clear H1
  by_cases c5:a0_1=a1_1
  ·rw [if_pos c5] at H
   have c5b0:(a0_1==a1_1)=true:=beq_iff_eq.mpr c5
   have c5b1:(a0_1 != a1_1)=false:=be_ c5
   clear c5
   by_cases c6:(a0_2 != a1_2)=true
   ·rw [if_pos c6] at H
    have c6b0:(a0_2 != a1_2)=true:=c6
    (try (have c6b1:decide (a0_2=a1_2)=false:=by simpa using c6))
    (try (have c6b2:(a0_2==a1_2)=false:=by simpa using c6))
    (try (have c6b3:¬ (a0_2=a1_2):=by simpa using c6))
    clear c6
    obtain rfl:=sj_ H
    go_enter Tryd.func25,Tryd.ntmps25
    go_wp2_with (first|((with_reducible refine gD_ (N:=2) rfl ?_);refine bx_ 2 (#[.slice A0_0 l0_0.length c0_0,.int .i64 a0_1,.bool a0_2]) 25 ?_;intro gb560 hg w7 hbox hb;have n0_:=a_ (bS_ (bel_) hb);have n1_:=a_ (hbox);have n2_:=a_ ((by rw [hg];exact (below_size (bel_)):w.heap.size≤gb560));have n3_:=a_ ((by rw [hg];exact (below_size (bel_)):w.heap.size≤gb560));clear HB;have HB:=n0_;have BK560:=n1_;have GW560:=n2_;have GE560:=n3_;clear n0_ n1_ n2_ n3_;clear hb hbox hg)|((with_reducible refine gD_ (N:=3) rfl ?_);refine bx_ 3 (#[.slice A1_0 l1_0.length c1_0,.int .i64 a1_1,.bool a1_2]) 25 ?_;intro gb561 hg w8 hbox hb;have n0_:=a_ (bb_ BK560.out hb);have n1_:=a_ (bS_ (bel_) hb);have n2_:=a_ (hbox);have n3_:=a_ ((by rw [hg];exact (below_size (bel_)):w.heap.size≤gb561));have n4_:=a_ ((by rw [hg];exact (below_size (bel_)):w.heap.size≤gb561));have n5_:=a_ ((by rw [hg];exact Nat.ne_of_lt (blk_lt (g:=gb560) (o:=.cells #[.slice A0_0 l0_0.length c0_0,.int .i64 a0_1,.bool a0_2] 25 (0,0)) (bp_ BK560.out)):gb560≠gb561));have n6_:=a_ ((by rw [hg];exact Nat.ne_of_gt (blk_lt (g:=gb560) (o:=.cells #[.slice A0_0 l0_0.length c0_0,.int .i64 a0_1,.bool a0_2] 25 (0,0)) (bp_ BK560.out)):gb561≠gb560));clear BK560;clear HB;have BK560:=n0_;have HB:=n1_;have BK561:=n2_;have GW561:=n3_;have GE561:=n4_;have NB560_561:=n5_;have NB561_560:=n6_;clear n0_ n1_ n2_ n3_ n4_ n5_ n6_;clear hb hbox hg;have hnb9:=NB560_561.out;have hnc9:=NB561_560.out;have Z10_0:=cz_ BK560.out 0 (.slice A0_0 l0_0.length c0_0);have Z10_1:=cz_ BK560.out 1 (.int .i64 a0_1);have Z10_2:=cz_ BK560.out 2 (.bool a0_2);have Y10_0:=bF_ BK560.out 0;have Y10_1:=bF_ BK560.out 1;have Y10_2:=bF_ BK560.out 2;have Z11_0:=cz_ BK561.out 0 (.slice A1_0 l1_0.length c1_0);have Z11_1:=cz_ BK561.out 1 (.int .i64 a1_1);have Z11_2:=cz_ BK561.out 2 (.bool a1_2);have Y11_0:=bF_ BK561.out 0;have Y11_1:=bF_ BK561.out 1;have Y11_2:=bF_ BK561.out 2)|((with_reducible refine gC_ (f:=52) rfl ?_);refine gl_ 9 Tryd.func52 #[.slice A0_0 l0_0.length c0_0,.slice A1_0 l1_0.length c1_0] ?_;(with_reducible refine (laws_eqEntryS.calls k _ _ l0_0 _ _ l1_0 true _ ?side1 ?side2 ?side3 ?side4 A3.out).mono ?_);(case side1=>exact cp_ HR0_0.out);(case side2=>exact HC0_0.out);(case side3=>exact cx_ (Kd.C_below HR1_0.out HB.out));(case side4=>exact HC1_0.out);rintro e w12 ⟨rfl,hb⟩;refine ⟨_,rfl,?_⟩;replace HB:=a_ (bS_ (bel_) hb);replace BK560:=a_ (bb_ BK560.out hb);replace BK561:=a_ (bb_ BK561.out hb);(try clear hb);have Z13_0:=cz_ BK560.out 0 (.slice A0_0 l0_0.length c0_0);have Z13_1:=cz_ BK560.out 1 (.int .i64 a0_1);have Z13_2:=cz_ BK560.out 2 (.bool a0_2);have Y13_0:=bF_ BK560.out 0;have Y13_1:=bF_ BK560.out 1;have Y13_2:=bF_ BK560.out 2;have Z14_0:=cz_ BK561.out 0 (.slice A1_0 l1_0.length c1_0);have Z14_1:=cz_ BK561.out 1 (.int .i64 a1_1);have Z14_2:=cz_ BK561.out 2 (.bool a1_2);have Y14_0:=bF_ BK561.out 0;have Y14_1:=bF_ BK561.out 1;have Y14_2:=bF_ BK561.out 2))
    go_ret
    exact ⟨fi_,bel_⟩
   ·rw [if_neg c6] at H
    have c6b0:(a0_2 != a1_2)=false:=by simpa using c6
    (try (have c6b1:decide (a0_2=a1_2)=true:=by simpa using c6))
    (try (have c6b2:(a0_2==a1_2)=true:=by simpa using c6))
    clear c6
    obtain rfl:=sj_ H
    go_enter Tryd.func25,Tryd.ntmps25
    go_wp2_with (first|((with_reducible refine gD_ (N:=2) rfl ?_);refine bx_ 2 (#[.slice A0_0 l0_0.length c0_0,.int .i64 a0_1,.bool a0_2]) 25 ?_;intro gb560 hg w15 hbox hb;have n0_:=a_ (bS_ (bel_) hb);have n1_:=a_ (hbox);have n2_:=a_ ((by rw [hg];exact (below_size (bel_)):w.heap.size≤gb560));have n3_:=a_ ((by rw [hg];exact (below_size (bel_)):w.heap.size≤gb560));clear HB;have HB:=n0_;have BK560:=n1_;have GW560:=n2_;have GE560:=n3_;clear n0_ n1_ n2_ n3_;clear hb hbox hg)|((with_reducible refine gD_ (N:=3) rfl ?_);refine bx_ 3 (#[.slice A1_0 l1_0.length c1_0,.int .i64 a1_1,.bool a1_2]) 25 ?_;intro gb561 hg w16 hbox hb;have n0_:=a_ (bb_ BK560.out hb);have n1_:=a_ (bS_ (bel_) hb);have n2_:=a_ (hbox);have n3_:=a_ ((by rw [hg];exact (below_size (bel_)):w.heap.size≤gb561));have n4_:=a_ ((by rw [hg];exact (below_size (bel_)):w.heap.size≤gb561));have n5_:=a_ ((by rw [hg];exact Nat.ne_of_lt (blk_lt (g:=gb560) (o:=.cells #[.slice A0_0 l0_0.length c0_0,.int .i64 a0_1,.bool a0_2] 25 (0,0)) (bp_ BK560.out)):gb560≠gb561));have n6_:=a_ ((by rw [hg];exact Nat.ne_of_gt (blk_lt (g:=gb560) (o:=.cells #[.slice A0_0 l0_0.length c0_0,.int .i64 a0_1,.bool a0_2] 25 (0,0)) (bp_ BK560.out)):gb561≠gb560));clear BK560;clear HB;have BK560:=n0_;have HB:=n1_;have BK561:=n2_;have GW561:=n3_;have GE561:=n4_;have NB560_561:=n5_;have NB561_560:=n6_;clear n0_ n1_ n2_ n3_ n4_ n5_ n6_;clear hb hbox hg;have hnb17:=NB560_561.out;have hnc17:=NB561_560.out;have Z18_0:=cz_ BK560.out 0 (.slice A0_0 l0_0.length c0_0);have Z18_1:=cz_ BK560.out 1 (.int .i64 a0_1);have Z18_2:=cz_ BK560.out 2 (.bool a0_2);have Y18_0:=bF_ BK560.out 0;have Y18_1:=bF_ BK560.out 1;have Y18_2:=bF_ BK560.out 2;have Z19_0:=cz_ BK561.out 0 (.slice A1_0 l1_0.length c1_0);have Z19_1:=cz_ BK561.out 1 (.int .i64 a1_1);have Z19_2:=cz_ BK561.out 2 (.bool a1_2);have Y19_0:=bF_ BK561.out 0;have Y19_1:=bF_ BK561.out 1;have Y19_2:=bF_ BK561.out 2)|((with_reducible refine gC_ (f:=52) rfl ?_);refine gl_ 9 Tryd.func52 #[.slice A0_0 l0_0.length c0_0,.slice A1_0 l1_0.length c1_0] ?_;(with_reducible refine (laws_eqEntryS.calls k _ _ l0_0 _ _ l1_0 true _ ?side1 ?side2 ?side3 ?side4 A3.out).mono ?_);(case side1=>exact cp_ HR0_0.out);(case side2=>exact HC0_0.out);(case side3=>exact cx_ (Kd.C_below HR1_0.out HB.out));(case side4=>exact HC1_0.out);rintro e w20 ⟨rfl,hb⟩;refine ⟨_,rfl,?_⟩;replace HB:=a_ (bS_ (bel_) hb);replace BK560:=a_ (bb_ BK560.out hb);replace BK561:=a_ (bb_ BK561.out hb);(try clear hb);have Z21_0:=cz_ BK560.out 0 (.slice A0_0 l0_0.length c0_0);have Z21_1:=cz_ BK560.out 1 (.int .i64 a0_1);have Z21_2:=cz_ BK560.out 2 (.bool a0_2);have Y21_0:=bF_ BK560.out 0;have Y21_1:=bF_ BK560.out 1;have Y21_2:=bF_ BK560.out 2;have Z22_0:=cz_ BK561.out 0 (.slice A1_0 l1_0.length c1_0);have Z22_1:=cz_ BK561.out 1 (.int .i64 a1_1);have Z22_2:=cz_ BK561.out 2 (.bool a1_2);have Y22_0:=bF_ BK561.out 0;have Y22_1:=bF_ BK561.out 1;have Y22_2:=bF_ BK561.out 2))
    go_ret
    exact ⟨fi_,bel_⟩
  ·rw [if_neg c5] at H
   have c5b0:(a0_1==a1_1)=false:=bn_ c5
   have c5b1:(a0_1 != a1_1)=true:=bne_iff_ne.mpr c5
   obtain rfl:=sj_ H
   go_enter Tryd.func25,Tryd.ntmps25
   go_wp2_with (first|((with_reducible refine gD_ (N:=2) rfl ?_);refine bx_ 2 (#[.slice A0_0 l0_0.length c0_0,.int .i64 a0_1,.bool a0_2]) 25 ?_;intro gb560 hg w23 hbox hb;have n0_:=a_ (bS_ (bel_) hb);have n1_:=a_ (hbox);have n2_:=a_ ((by rw [hg];exact (below_size (bel_)):w.heap.size≤gb560));have n3_:=a_ ((by rw [hg];exact (below_size (bel_)):w.heap.size≤gb560));clear HB;have HB:=n0_;have BK560:=n1_;have GW560:=n2_;have GE560:=n3_;clear n0_ n1_ n2_ n3_;clear hb hbox hg)|((with_reducible refine gD_ (N:=3) rfl ?_);refine bx_ 3 (#[.slice A1_0 l1_0.length c1_0,.int .i64 a1_1,.bool a1_2]) 25 ?_;intro gb561 hg w24 hbox hb;have n0_:=a_ (bb_ BK560.out hb);have n1_:=a_ (bS_ (bel_) hb);have n2_:=a_ (hbox);have n3_:=a_ ((by rw [hg];exact (below_size (bel_)):w.heap.size≤gb561));have n4_:=a_ ((by rw [hg];exact (below_size (bel_)):w.heap.size≤gb561));have n5_:=a_ ((by rw [hg];exact Nat.ne_of_lt (blk_lt (g:=gb560) (o:=.cells #[.slice A0_0 l0_0.length c0_0,.int .i64 a0_1,.bool a0_2] 25 (0,0)) (bp_ BK560.out)):gb560≠gb561));have n6_:=a_ ((by rw [hg];exact Nat.ne_of_gt (blk_lt (g:=gb560) (o:=.cells #[.slice A0_0 l0_0.length c0_0,.int .i64 a0_1,.bool a0_2] 25 (0,0)) (bp_ BK560.out)):gb561≠gb560));clear BK560;clear HB;have BK560:=n0_;have HB:=n1_;have BK561:=n2_;have GW561:=n3_;have GE561:=n4_;have NB560_561:=n5_;have NB561_560:=n6_;clear n0_ n1_ n2_ n3_ n4_ n5_ n6_;clear hb hbox hg;have hnb25:=NB560_561.out;have hnc25:=NB561_560.out;have Z26_0:=cz_ BK560.out 0 (.slice A0_0 l0_0.length c0_0);have Z26_1:=cz_ BK560.out 1 (.int .i64 a0_1);have Z26_2:=cz_ BK560.out 2 (.bool a0_2);have Y26_0:=bF_ BK560.out 0;have Y26_1:=bF_ BK560.out 1;have Y26_2:=bF_ BK560.out 2;have Z27_0:=cz_ BK561.out 0 (.slice A1_0 l1_0.length c1_0);have Z27_1:=cz_ BK561.out 1 (.int .i64 a1_1);have Z27_2:=cz_ BK561.out 2 (.bool a1_2);have Y27_0:=bF_ BK561.out 0;have Y27_1:=bF_ BK561.out 1;have Y27_2:=bF_ BK561.out 2)|((with_reducible refine gC_ (f:=52) rfl ?_);refine gl_ 9 Tryd.func52 #[.slice A0_0 l0_0.length c0_0,.slice A1_0 l1_0.length c1_0] ?_;(with_reducible refine (laws_eqEntryS.calls k _ _ l0_0 _ _ l1_0 true _ ?side1 ?side2 ?side3 ?side4 A3.out).mono ?_);(case side1=>exact cp_ HR0_0.out);(case side2=>exact HC0_0.out);(case side3=>exact cx_ (Kd.C_below HR1_0.out HB.out));(case side4=>exact HC1_0.out);rintro e w28 ⟨rfl,hb⟩;refine ⟨_,rfl,?_⟩;replace HB:=a_ (bS_ (bel_) hb);replace BK560:=a_ (bb_ BK560.out hb);replace BK561:=a_ (bb_ BK561.out hb);(try clear hb);have Z29_0:=cz_ BK560.out 0 (.slice A0_0 l0_0.length c0_0);have Z29_1:=cz_ BK560.out 1 (.int .i64 a0_1);have Z29_2:=cz_ BK560.out 2 (.bool a0_2);have Y29_0:=bF_ BK560.out 0;have Y29_1:=bF_ BK560.out 1;have Y29_2:=bF_ BK560.out 2;have Z30_0:=cz_ BK561.out 0 (.slice A1_0 l1_0.length c1_0);have Z30_1:=cz_ BK561.out 1 (.int .i64 a1_1);have Z30_2:=cz_ BK561.out 2 (.bool a1_2);have Y30_0:=bF_ BK561.out 0;have Y30_1:=bF_ BK561.out 1;have Y30_2:=bF_ BK561.out 2))
   go_ret
   exact ⟨fi_,bel_⟩
 ·replace c4:=Bool.eq_false_iff.mpr c4
  subst c4
  have H1:(some false)=some r:=by rw [if_neg (show ¬ (false=true) by decide)] at H;exact H
  clear H
  have H:=H1
  clear H1
  obtain rfl:=sj_ H
  go_enter Tryd.func25,Tryd.ntmps25
  go_wp2_with (first|((with_reducible refine gD_ (N:=2) rfl ?_);refine bx_ 2 (#[.slice A0_0 l0_0.length c0_0,.int .i64 a0_1,.bool a0_2]) 25 ?_;intro gb560 hg w31 hbox hb;have n0_:=a_ (bS_ (bel_) hb);have n1_:=a_ (hbox);have n2_:=a_ ((by rw [hg];exact (below_size (bel_)):w.heap.size≤gb560));have n3_:=a_ ((by rw [hg];exact (below_size (bel_)):w.heap.size≤gb560));clear HB;have HB:=n0_;have BK560:=n1_;have GW560:=n2_;have GE560:=n3_;clear n0_ n1_ n2_ n3_;clear hb hbox hg)|((with_reducible refine gD_ (N:=3) rfl ?_);refine bx_ 3 (#[.slice A1_0 l1_0.length c1_0,.int .i64 a1_1,.bool a1_2]) 25 ?_;intro gb561 hg w32 hbox hb;have n0_:=a_ (bb_ BK560.out hb);have n1_:=a_ (bS_ (bel_) hb);have n2_:=a_ (hbox);have n3_:=a_ ((by rw [hg];exact (below_size (bel_)):w.heap.size≤gb561));have n4_:=a_ ((by rw [hg];exact (below_size (bel_)):w.heap.size≤gb561));have n5_:=a_ ((by rw [hg];exact Nat.ne_of_lt (blk_lt (g:=gb560) (o:=.cells #[.slice A0_0 l0_0.length c0_0,.int .i64 a0_1,.bool a0_2] 25 (0,0)) (bp_ BK560.out)):gb560≠gb561));have n6_:=a_ ((by rw [hg];exact Nat.ne_of_gt (blk_lt (g:=gb560) (o:=.cells #[.slice A0_0 l0_0.length c0_0,.int .i64 a0_1,.bool a0_2] 25 (0,0)) (bp_ BK560.out)):gb561≠gb560));clear BK560;clear HB;have BK560:=n0_;have HB:=n1_;have BK561:=n2_;have GW561:=n3_;have GE561:=n4_;have NB560_561:=n5_;have NB561_560:=n6_;clear n0_ n1_ n2_ n3_ n4_ n5_ n6_;clear hb hbox hg;have hnb33:=NB560_561.out;have hnc33:=NB561_560.out;have Z34_0:=cz_ BK560.out 0 (.slice A0_0 l0_0.length c0_0);have Z34_1:=cz_ BK560.out 1 (.int .i64 a0_1);have Z34_2:=cz_ BK560.out 2 (.bool a0_2);have Y34_0:=bF_ BK560.out 0;have Y34_1:=bF_ BK560.out 1;have Y34_2:=bF_ BK560.out 2;have Z35_0:=cz_ BK561.out 0 (.slice A1_0 l1_0.length c1_0);have Z35_1:=cz_ BK561.out 1 (.int .i64 a1_1);have Z35_2:=cz_ BK561.out 2 (.bool a1_2);have Y35_0:=bF_ BK561.out 0;have Y35_1:=bF_ BK561.out 1;have Y35_2:=bF_ BK561.out 2)|((with_reducible refine gC_ (f:=52) rfl ?_);refine gl_ 9 Tryd.func52 #[.slice A0_0 l0_0.length c0_0,.slice A1_0 l1_0.length c1_0] ?_;(with_reducible refine (laws_eqEntryS.calls k _ _ l0_0 _ _ l1_0 false _ ?side1 ?side2 ?side3 ?side4 A3.out).mono ?_);(case side1=>exact cp_ HR0_0.out);(case side2=>exact HC0_0.out);(case side3=>exact cx_ (Kd.C_below HR1_0.out HB.out));(case side4=>exact HC1_0.out);rintro e w36 ⟨rfl,hb⟩;refine ⟨_,rfl,?_⟩;replace HB:=a_ (bS_ (bel_) hb);replace BK560:=a_ (bb_ BK560.out hb);replace BK561:=a_ (bb_ BK561.out hb);(try clear hb)))
  go_ret
  exact ⟨fi_,bel_⟩

def laws_markText.l0:Nat→Int→ByteArray→Option (ByteArray)
 | 0,_,_=>none
 | k+1,x0,x3=>if x0 > 0 then ((some (([(wrap64 (48+(Int.tmod x0 10))) % 256]:List Int):List Int)).bind fun y563=>(if (strOfNums y563).size+x3.size≤9223372036854775807 then (laws_markText.l0 k (wrap64 (Int.tdiv x0 10)) ((strOfNums y563)++x3)) else (none))) else (if 1+x3.size≤9223372036854775807 then (some ((⟨#[109]⟩:ByteArray)++x3)) else (none))
def laws_markText.f (k:Nat) (a0:Int):Option (ByteArray):=if a0≤0 then (some (⟨#[109,48]⟩:ByteArray)) else (laws_markText.l0 k a0 (⟨#[]⟩:ByteArray))
theorem laws_markText.mono_l:∀ k,(∀ y0 y1,LeO (laws_markText.l0 k y0 y1) (laws_markText.l0 (k+1) y0 y1))
 | 0=>fun _ _ r h=>by simp [laws_markText.l0] at h
 | k+1=>by
  have ih0:=laws_markText.mono_l k
  ·intro y0 y1
   unfold laws_markText.l0
   repeat' first
   | (with_reducible exact ih0 _ _)
   | (with_reducible exact LeO.refl _)
   | (with_reducible exact LeO.none _)
   | (with_reducible refine LeO.ite ?_ ?_)
   | (with_reducible refine LeO.bind ?_ (fun _=>?_))
   | exact ih0 _ _
   | exact LeO.none _
   | refine LeO.ite ?_ ?_
   | refine LeO.bind ?_ (fun _=>?_)
theorem laws_markText.mono:∀ a0 k,LeO (laws_markText.f k a0) (laws_markText.f (k+1) a0):=by
 intro a0 k
 have ih0:=laws_markText.mono_l k
 unfold laws_markText.f
 repeat' first
   | (with_reducible exact ih0 _ _)
   | (with_reducible exact LeO.refl _)
   | (with_reducible exact LeO.none _)
   | (with_reducible refine LeO.ite ?_ ?_)
   | (with_reducible refine LeO.bind ?_ (fun _=>?_))
   | exact ih0 _ _
   | exact LeO.none _
   | refine LeO.ite ?_ ?_
   | refine LeO.bind ?_ (fun _=>?_)
theorem laws_markText.calls (k:Nat) (a0:Int) (r:ByteArray) (w:World) (h:laws_markText.f k a0=some r) :
  Calls Tryd.prog 103 #[.int .i64 a0] w fun e w'=>e=.returned (.string r)∧Below w.heap.size w w':=by
 have HB:=a_ (Below.refl w.heap.size w)
 unfold laws_markText.f at h
 have H:=h
 clear h
 by_cases c2:a0≤0
 ·rw [if_pos c2] at H
  have c2b0:decide (a0≤0)=true:=dt_ c2
  clear c2
  obtain rfl:=sj_ H
  go_enter Tryd.func103,Tryd.ntmps103
  go_wp2
  go_ret
  exact ⟨fi_,bel_⟩
 ·rw [if_neg c2] at H
  have c2b0:decide (a0≤0)=false:=df_ c2
  clear c2
  have H':=a_ H
  clear H
  go_enter Tryd.func103,Tryd.ntmps103
  go_wp2
  go_loopg [0,3] k (fun kq v0 v3 w'=>∃ (x0_1:Int) (x3_1:ByteArray),v0=.int .i64 x0_1∧v3=.string x3_1∧Aside0 (laws_markText.l0 kq x0_1 x3_1=some r)∧Aside0 (kq≤k)∧Aside0 (Below w.heap.size w w'))
  case atStart=>exact ⟨(a0),((⟨#[]⟩:ByteArray)),(si_),(si_),H',⟨Nat.le_refl _⟩,⟨bel_⟩⟩
  case round =>
   clear H'
   try clear c1
   try clear c2
   try clear c2b0
   try clear p2
   obtain ⟨x0_1,x3_1,rfl,rfl,HA,HK1,HB⟩:=hrel
   cases gk with
   | zero=>exact absurd HA.out (by simp [laws_markText.l0])
   | succ k1 =>
    have H:=HA.out
    clear HA
    simp only [laws_markText.l0] at H
    by_cases c3:x0_1 > 0
    ·rw [if_pos c3] at H
     have c3b0:decide (0 < x0_1)=true:=dt_ c3
     clear c3
     obtain ⟨y563,hy563⟩:∃ y_:List Int,y_=(([(wrap64 (48+(Int.tmod x0_1 10))) % 256]:List Int)):=⟨_,rfl⟩
     replace H:(if (strOfNums y563).size+x3_1.size≤9223372036854775807 then (laws_markText.l0 k1 (wrap64 (Int.tdiv x0_1 10)) ((strOfNums y563)++x3_1)) else (none))=some r:=by first|(rw [hy563];with_reducible exact H)|(have H2_:=(Option.bind_some _ _).symm.trans H;rw [hy563];with_reducible exact H2_)|(have H2_:=(Option.bind_some _ _).symm.trans H;with_reducible exact H2_)|with_reducible exact H|(rw [hy563];exact H)|exact H
     have Ny563:=a_ hy563
     clear hy563
     by_cases c4:(strOfNums y563).size+x3_1.size≤9223372036854775807
     ·rw [if_pos c4] at H
      have c4b0:=eq_true c4
      have c4b1:decide ((strOfNums y563).size+x3_1.size≤9223372036854775807)=true:=dt_ c4
      try have c4b2:(9223372036854775807 < (strOfNums y563).size+x3_1.size)=False:=eq_false (Nat.not_lt.2 c4)
      have H':=a_ H
      clear H
      go_wp2_with (first|((with_reducible refine gD_ (N:=12) rfl ?_);refine Kd.R_lit (Kd.int .u8) _ 5 ?hg (N:=12) ?hd (xs:=([(wrap64 (48+(Int.tmod x0_1 10))) % 256]:List Int)) (inner:=[.int .u8 ((wrap64 (48+(Int.tmod x0_1 10))) % 256)]) (ok:=fun _=>True) (okp:=fun _=>True) ?hr ?hp (fun _ hk=>hk) trivial (Below.refl _ _) (Nat.le_refl _) (by simp) ?_;(case hd=>rfl);(case hg=>rfl);(case hr=>first|(go_simp;done)|(go_simp;rfl));(case hp=>exact (Reps.one (show Kd.M (Kd.int .u8) _ _ _ ((wrap64 (48+(Int.tmod x0_1 10))) % 256) [.int .u8 ((wrap64 (48+(Int.tmod x0_1 10))) % 256)] from rfl) (Reps.none _ _)));intro v564 w5 ho6 hb hg_ hnew_;clear hg_ hnew_;(first|rw [←Ny563.out] at ho6|(simp only [Int.reduceToNat] at ho6;rw [←Ny563.out] at ho6));have HO565:=a_ (Kd.R_lower ho6 (below_size (bel_)));replace HB:=a_ (bS_ (bel_) hb);clear hb ho6;have hcv7:=own_string (P:=Tryd.prog) Tryd.underlying22 Tryd.underlying5 Tryd.underlying9 (Kd.own_of_R HO565.out)))
      go_roundg k1
      case measure=>have:=HK1.out;omega
      case rel=>exact ⟨(wrap64 (Int.tdiv x0_1 10)),((strOfNums y563)++x3_1),(si_),(si_),H',⟨by have:=HK1.out;omega⟩,⟨bel_⟩⟩
     ·rw [if_neg c4] at H
      exact absurd H (by simp)
    ·rw [if_neg c3] at H
     have c3b0:decide (0 < x0_1)=false:=df_ c3
     clear c3
     by_cases c8:1+x3_1.size≤9223372036854775807
     ·rw [if_pos c8] at H
      have c8b0:=eq_true c8
      have c8b1:decide (1+x3_1.size≤9223372036854775807)=true:=dt_ c8
      try have c8b2:(9223372036854775807 < 1+x3_1.size)=False:=eq_false (Nat.not_lt.2 c8)
      obtain rfl:=sj_ H
      go_wp2
      go_ret
      exact ⟨fi_,bel_⟩
     ·rw [if_neg c8] at H
      exact absurd H (by simp)

def laws_markEntryS.l0:Nat→List (S44)→Int→Int→Option (Int×(List (S44)))
 | 0,_,_,_=>none
 | k+1,x0,x1,x5=>if x5 < (x0.length:Int) then (if 0≤x5 then ((some (x0.set (x5:Int).toNat (⟨x1,(rd_T44 x0 x5).f1,(⟨(rd_T44 x0 x5).f2.f0,(rd_T44 x0 x5).f2.f1,(rd_T44 x0 x5).f2.f2,(rd_T44 x0 x5).f2.f3,(rd_T44 x0 x5).f2.f4⟩:S42)⟩:S44):List (S44))).bind fun y566=>((some (y566.set (x5:Int).toNat (⟨(rd_T44 y566 x5).f0,wrap64 (x1+1),(⟨(rd_T44 y566 x5).f2.f0,(rd_T44 y566 x5).f2.f1,(rd_T44 y566 x5).f2.f2,(rd_T44 y566 x5).f2.f3,(rd_T44 y566 x5).f2.f4⟩:S42)⟩:S44):List (S44))).bind fun y567=>((some (y567.set (x5:Int).toNat (⟨(rd_T44 y567 x5).f0,(rd_T44 y567 x5).f1,(⟨wrap64 ((wrap64 (x1+1))+1),(rd_T44 y567 x5).f2.f1,(rd_T44 y567 x5).f2.f2,(rd_T44 y567 x5).f2.f3,(rd_T44 y567 x5).f2.f4⟩:S42)⟩:S44):List (S44))).bind fun y568=>((some (y568.set (x5:Int).toNat (⟨(rd_T44 y568 x5).f0,(rd_T44 y568 x5).f1,(⟨(rd_T44 y568 x5).f2.f0,wrap64 ((wrap64 ((wrap64 (x1+1))+1))+1),(rd_T44 y568 x5).f2.f2,(rd_T44 y568 x5).f2.f3,(rd_T44 y568 x5).f2.f4⟩:S42)⟩:S44):List (S44))).bind fun y569=>((some (y569.set (x5:Int).toNat (⟨(rd_T44 y569 x5).f0,(rd_T44 y569 x5).f1,(⟨(rd_T44 y569 x5).f2.f0,(rd_T44 y569 x5).f2.f1,wrap64 ((wrap64 ((wrap64 ((wrap64 (x1+1))+1))+1))+1),(rd_T44 y569 x5).f2.f3,(rd_T44 y569 x5).f2.f4⟩:S42)⟩:S44):List (S44))).bind fun y570=>((some (y570.set (x5:Int).toNat (⟨(rd_T44 y570 x5).f0,(rd_T44 y570 x5).f1,(⟨(rd_T44 y570 x5).f2.f0,(rd_T44 y570 x5).f2.f1,(rd_T44 y570 x5).f2.f2,wrap64 ((wrap64 ((wrap64 ((wrap64 ((wrap64 (x1+1))+1))+1))+1))+1),(rd_T44 y570 x5).f2.f4⟩:S42)⟩:S44):List (S44))).bind fun y571=>((laws_markText.f k (wrap64 ((wrap64 ((wrap64 ((wrap64 ((wrap64 ((wrap64 (x1+1))+1))+1))+1))+1))+1))).bind fun t572=>(laws_markEntryS.l0 k (y571.set (x5:Int).toNat (⟨(rd_T44 y571 x5).f0,(rd_T44 y571 x5).f1,(⟨(rd_T44 y571 x5).f2.f0,(rd_T44 y571 x5).f2.f1,(rd_T44 y571 x5).f2.f2,(rd_T44 y571 x5).f2.f3,t572⟩:S42)⟩:S44)) (wrap64 ((wrap64 ((wrap64 ((wrap64 ((wrap64 ((wrap64 ((wrap64 (x1+1))+1))+1))+1))+1))+1))+1)) (wrap64 (x5+1)))))))))) else (none)) else (some (x1,x0))
def laws_markEntryS.f (k:Nat) (l0:List (S44)) (a1:Int):Option (Int×(List (S44))):=laws_markEntryS.l0 k l0 a1 0
theorem laws_markEntryS.mono_l:∀ k,(∀ y0 y1 y2,LeO (laws_markEntryS.l0 k y0 y1 y2) (laws_markEntryS.l0 (k+1) y0 y1 y2))
 | 0=>fun _ _ _ r h=>by simp [laws_markEntryS.l0] at h
 | k+1=>by
  have ih0:=laws_markEntryS.mono_l k
  ·intro y0 y1 y2
   unfold laws_markEntryS.l0
   repeat' first
   | (with_reducible exact ih0 _ _ _)
   | (with_reducible exact laws_markText.mono _ _)
   | (with_reducible exact LeO.refl _)
   | (with_reducible exact LeO.none _)
   | (with_reducible refine LeO.ite ?_ ?_)
   | (with_reducible refine LeO.bind ?_ (fun _=>?_))
   | exact ih0 _ _ _
   | exact laws_markText.mono _ _
   | exact LeO.none _
   | refine LeO.ite ?_ ?_
   | refine LeO.bind ?_ (fun _=>?_)
theorem laws_markEntryS.mono:∀ a0 a1 k,LeO (laws_markEntryS.f k a0 a1) (laws_markEntryS.f (k+1) a0 a1):=by
 intro a0 a1 k
 have ih0:=laws_markEntryS.mono_l k
 unfold laws_markEntryS.f
 repeat' first
   | (with_reducible exact ih0 _ _ _)
   | (with_reducible exact laws_markText.mono _ _)
   | (with_reducible exact LeO.refl _)
   | (with_reducible exact LeO.none _)
   | (with_reducible refine LeO.ite ?_ ?_)
   | (with_reducible refine LeO.bind ?_ (fun _=>?_))
   | exact ih0 _ _ _
   | exact laws_markText.mono _ _
   | exact LeO.none _
   | refine LeO.ite ?_ ?_
   | refine LeO.bind ?_ (fun _=>?_)
theorem laws_markEntryS.calls (k:Nat) (P0_:Nat→Prop) (u9000_:Value) (l0:List (S44)) (a1:Int) (r1:Int) (r2:List (S44)) (w0 w:World) (hB:Below w0.heap.size w0 w) (ho0:Kd.R k44 44 w w0.heap.size P0_ u9000_ l0) (h:laws_markEntryS.f k l0 a1=some (r1,r2)) :
  Calls Tryd.prog 53 #[u9000_,.int .i64 a1] w fun e w'=>e=.returned (.int .i64 r1)∧Kd.R k44 44 w' w0.heap.size (fun k_=>(P0_ k_∨w.heap.size≤k_)) u9000_ r2∧Below w0.heap.size w0 w'∧Kept w w' (fun k_=>P0_ k_):=by
 have HO0:=a_ (show Kd.R k44 44 w w0.heap.size (fun k_=>(P0_ k_∨w.heap.size≤k_)) u9000_ l0 from Kd.R_mono ho0 (fun k_ hk=>(.inl hk)))
 have HK:=a_ (Kept.refl w (fun k_=>P0_ k_))
 have HW0:=a_ hB.size
 have HB:=a_ hB
 clear hB
 unfold laws_markEntryS.f at h
 have H:=h
 clear h
 have H':=a_ H
 clear H
 go_enter Tryd.func53,Tryd.ntmps53
 go_wp2
 go_loopg [1,5] k (fun kq v1 v5 w'=>∃ (x0_1:List (S44)) (x1_1:Int) (x5_1:Int),v1=.int .i64 x1_1∧v5=.int .i64 x5_1∧Aside0 (laws_markEntryS.l0 kq x0_1 x1_1 x5_1=some (r1,r2))∧Aside0 (kq≤k)∧Aside0 (Kd.R k44 44 w' w0.heap.size (fun k_=>(P0_ k_∨w.heap.size≤k_)) u9000_ x0_1)∧Aside0 (Kept w w' (fun k_=>P0_ k_))∧Aside0 (Below w0.heap.size w0 w'))
 case atStart=>exact ⟨(l0),(a1),(0),(si_),(si_),H',⟨Nat.le_refl _⟩,⟨by (with_reducible repeat (first|apply Kd.R_alloc|apply Kd.R_drewN|apply Kd.R_drew));exact HO0.out⟩,⟨by repeat (first|(with_reducible first|exact HK.out|apply Kept.alloc|apply Kept.drewN|apply Kept.drew)|exact HK.out)⟩,⟨bel_⟩⟩
 case round =>
  clear H'
  try clear p2
  obtain ⟨x0_1,x1_1,x5_1,rfl,rfl,HA,HK1,HO_0,HK,HB⟩:=hrel
  cases gk with
  | zero=>exact absurd HA.out (by simp [laws_markEntryS.l0])
  | succ k1 =>
   have H:=HA.out
   clear HA
   simp only [laws_markEntryS.l0] at H
   by_cases c3:x5_1 < (x0_1.length:Int)
   ·rw [if_pos c3] at H
    have c3b0:decide (x5_1 < (x0_1.length:Int))=true:=dt_ c3
    clear c3
    by_cases c4:0≤x5_1
    ·rw [if_pos c4] at H
     have c4b0:decide (0≤x5_1)=true:=dt_ c4
     clear c4
     obtain ⟨y566,hy566⟩:∃ y_:List (S44),y_=(x0_1.set (x5_1:Int).toNat (⟨x1_1,(rd_T44 x0_1 x5_1).f1,(⟨(rd_T44 x0_1 x5_1).f2.f0,(rd_T44 x0_1 x5_1).f2.f1,(rd_T44 x0_1 x5_1).f2.f2,(rd_T44 x0_1 x5_1).f2.f3,(rd_T44 x0_1 x5_1).f2.f4⟩:S42)⟩:S44)):=⟨_,rfl⟩
     replace H:((some (y566.set (x5_1:Int).toNat (⟨(rd_T44 y566 x5_1).f0,wrap64 (x1_1+1),(⟨(rd_T44 y566 x5_1).f2.f0,(rd_T44 y566 x5_1).f2.f1,(rd_T44 y566 x5_1).f2.f2,(rd_T44 y566 x5_1).f2.f3,(rd_T44 y566 x5_1).f2.f4⟩:S42)⟩:S44):List (S44))).bind fun y567=>((some (y567.set (x5_1:Int).toNat (⟨(rd_T44 y567 x5_1).f0,(rd_T44 y567 x5_1).f1,(⟨wrap64 ((wrap64 (x1_1+1))+1),(rd_T44 y567 x5_1).f2.f1,(rd_T44 y567 x5_1).f2.f2,(rd_T44 y567 x5_1).f2.f3,(rd_T44 y567 x5_1).f2.f4⟩:S42)⟩:S44):List (S44))).bind fun y568=>((some (y568.set (x5_1:Int).toNat (⟨(rd_T44 y568 x5_1).f0,(rd_T44 y568 x5_1).f1,(⟨(rd_T44 y568 x5_1).f2.f0,wrap64 ((wrap64 ((wrap64 (x1_1+1))+1))+1),(rd_T44 y568 x5_1).f2.f2,(rd_T44 y568 x5_1).f2.f3,(rd_T44 y568 x5_1).f2.f4⟩:S42)⟩:S44):List (S44))).bind fun y569=>((some (y569.set (x5_1:Int).toNat (⟨(rd_T44 y569 x5_1).f0,(rd_T44 y569 x5_1).f1,(⟨(rd_T44 y569 x5_1).f2.f0,(rd_T44 y569 x5_1).f2.f1,wrap64 ((wrap64 ((wrap64 ((wrap64 (x1_1+1))+1))+1))+1),(rd_T44 y569 x5_1).f2.f3,(rd_T44 y569 x5_1).f2.f4⟩:S42)⟩:S44):List (S44))).bind fun y570=>((some (y570.set (x5_1:Int).toNat (⟨(rd_T44 y570 x5_1).f0,(rd_T44 y570 x5_1).f1,(⟨(rd_T44 y570 x5_1).f2.f0,(rd_T44 y570 x5_1).f2.f1,(rd_T44 y570 x5_1).f2.f2,wrap64 ((wrap64 ((wrap64 ((wrap64 ((wrap64 (x1_1+1))+1))+1))+1))+1),(rd_T44 y570 x5_1).f2.f4⟩:S42)⟩:S44):List (S44))).bind fun y571=>((laws_markText.f k1 (wrap64 ((wrap64 ((wrap64 ((wrap64 ((wrap64 ((wrap64 (x1_1+1))+1))+1))+1))+1))+1))).bind fun t572=>(laws_markEntryS.l0 k1 (y571.set (x5_1:Int).toNat (⟨(rd_T44 y571 x5_1).f0,(rd_T44 y571 x5_1).f1,(⟨(rd_T44 y571 x5_1).f2.f0,(rd_T44 y571 x5_1).f2.f1,(rd_T44 y571 x5_1).f2.f2,(rd_T44 y571 x5_1).f2.f3,t572⟩:S42)⟩:S44)) (wrap64 ((wrap64 ((wrap64 ((wrap64 ((wrap64 ((wrap64 ((wrap64 (x1_1+1))+1))+1))+1))+1))+1))+1)) (wrap64 (x5_1+1)))))))))=some (r1,r2):=by first|(rw [hy566];with_reducible exact H)|(have H2_:=(Option.bind_some _ _).symm.trans H;rw [hy566];with_reducible exact H2_)|(have H2_:=(Option.bind_some _ _).symm.trans H;with_reducible exact H2_)|with_reducible exact H|(rw [hy566];exact H)|exact H
     have Ny566:=a_ hy566
     clear hy566
     obtain ⟨y567,hy567⟩:∃ y_:List (S44),y_=(y566.set (x5_1:Int).toNat (⟨(rd_T44 y566 x5_1).f0,wrap64 (x1_1+1),(⟨(rd_T44 y566 x5_1).f2.f0,(rd_T44 y566 x5_1).f2.f1,(rd_T44 y566 x5_1).f2.f2,(rd_T44 y566 x5_1).f2.f3,(rd_T44 y566 x5_1).f2.f4⟩:S42)⟩:S44)):=⟨_,rfl⟩
     replace H:((some (y567.set (x5_1:Int).toNat (⟨(rd_T44 y567 x5_1).f0,(rd_T44 y567 x5_1).f1,(⟨wrap64 ((wrap64 (x1_1+1))+1),(rd_T44 y567 x5_1).f2.f1,(rd_T44 y567 x5_1).f2.f2,(rd_T44 y567 x5_1).f2.f3,(rd_T44 y567 x5_1).f2.f4⟩:S42)⟩:S44):List (S44))).bind fun y568=>((some (y568.set (x5_1:Int).toNat (⟨(rd_T44 y568 x5_1).f0,(rd_T44 y568 x5_1).f1,(⟨(rd_T44 y568 x5_1).f2.f0,wrap64 ((wrap64 ((wrap64 (x1_1+1))+1))+1),(rd_T44 y568 x5_1).f2.f2,(rd_T44 y568 x5_1).f2.f3,(rd_T44 y568 x5_1).f2.f4⟩:S42)⟩:S44):List (S44))).bind fun y569=>((some (y569.set (x5_1:Int).toNat (⟨(rd_T44 y569 x5_1).f0,(rd_T44 y569 x5_1).f1,(⟨(rd_T44 y569 x5_1).f2.f0,(rd_T44 y569 x5_1).f2.f1,wrap64 ((wrap64 ((wrap64 ((wrap64 (x1_1+1))+1))+1))+1),(rd_T44 y569 x5_1).f2.f3,(rd_T44 y569 x5_1).f2.f4⟩:S42)⟩:S44):List (S44))).bind fun y570=>((some (y570.set (x5_1:Int).toNat (⟨(rd_T44 y570 x5_1).f0,(rd_T44 y570 x5_1).f1,(⟨(rd_T44 y570 x5_1).f2.f0,(rd_T44 y570 x5_1).f2.f1,(rd_T44 y570 x5_1).f2.f2,wrap64 ((wrap64 ((wrap64 ((wrap64 ((wrap64 (x1_1+1))+1))+1))+1))+1),(rd_T44 y570 x5_1).f2.f4⟩:S42)⟩:S44):List (S44))).bind fun y571=>((laws_markText.f k1 (wrap64 ((wrap64 ((wrap64 ((wrap64 ((wrap64 ((wrap64 (x1_1+1))+1))+1))+1))+1))+1))).bind fun t572=>(laws_markEntryS.l0 k1 (y571.set (x5_1:Int).toNat (⟨(rd_T44 y571 x5_1).f0,(rd_T44 y571 x5_1).f1,(⟨(rd_T44 y571 x5_1).f2.f0,(rd_T44 y571 x5_1).f2.f1,(rd_T44 y571 x5_1).f2.f2,(rd_T44 y571 x5_1).f2.f3,t572⟩:S42)⟩:S44)) (wrap64 ((wrap64 ((wrap64 ((wrap64 ((wrap64 ((wrap64 ((wrap64 (x1_1+1))+1))+1))+1))+1))+1))+1)) (wrap64 (x5_1+1))))))))=some (r1,r2):=by first|(rw [hy567];with_reducible exact H)|(have H2_:=(Option.bind_some _ _).symm.trans H;rw [hy567];with_reducible exact H2_)|(have H2_:=(Option.bind_some _ _).symm.trans H;with_reducible exact H2_)|with_reducible exact H|(rw [hy567];exact H)|exact H
     have Ny567:=a_ hy567
     clear hy567
     obtain ⟨y568,hy568⟩:∃ y_:List (S44),y_=(y567.set (x5_1:Int).toNat (⟨(rd_T44 y567 x5_1).f0,(rd_T44 y567 x5_1).f1,(⟨wrap64 ((wrap64 (x1_1+1))+1),(rd_T44 y567 x5_1).f2.f1,(rd_T44 y567 x5_1).f2.f2,(rd_T44 y567 x5_1).f2.f3,(rd_T44 y567 x5_1).f2.f4⟩:S42)⟩:S44)):=⟨_,rfl⟩
     replace H:((some (y568.set (x5_1:Int).toNat (⟨(rd_T44 y568 x5_1).f0,(rd_T44 y568 x5_1).f1,(⟨(rd_T44 y568 x5_1).f2.f0,wrap64 ((wrap64 ((wrap64 (x1_1+1))+1))+1),(rd_T44 y568 x5_1).f2.f2,(rd_T44 y568 x5_1).f2.f3,(rd_T44 y568 x5_1).f2.f4⟩:S42)⟩:S44):List (S44))).bind fun y569=>((some (y569.set (x5_1:Int).toNat (⟨(rd_T44 y569 x5_1).f0,(rd_T44 y569 x5_1).f1,(⟨(rd_T44 y569 x5_1).f2.f0,(rd_T44 y569 x5_1).f2.f1,wrap64 ((wrap64 ((wrap64 ((wrap64 (x1_1+1))+1))+1))+1),(rd_T44 y569 x5_1).f2.f3,(rd_T44 y569 x5_1).f2.f4⟩:S42)⟩:S44):List (S44))).bind fun y570=>((some (y570.set (x5_1:Int).toNat (⟨(rd_T44 y570 x5_1).f0,(rd_T44 y570 x5_1).f1,(⟨(rd_T44 y570 x5_1).f2.f0,(rd_T44 y570 x5_1).f2.f1,(rd_T44 y570 x5_1).f2.f2,wrap64 ((wrap64 ((wrap64 ((wrap64 ((wrap64 (x1_1+1))+1))+1))+1))+1),(rd_T44 y570 x5_1).f2.f4⟩:S42)⟩:S44):List (S44))).bind fun y571=>((laws_markText.f k1 (wrap64 ((wrap64 ((wrap64 ((wrap64 ((wrap64 ((wrap64 (x1_1+1))+1))+1))+1))+1))+1))).bind fun t572=>(laws_markEntryS.l0 k1 (y571.set (x5_1:Int).toNat (⟨(rd_T44 y571 x5_1).f0,(rd_T44 y571 x5_1).f1,(⟨(rd_T44 y571 x5_1).f2.f0,(rd_T44 y571 x5_1).f2.f1,(rd_T44 y571 x5_1).f2.f2,(rd_T44 y571 x5_1).f2.f3,t572⟩:S42)⟩:S44)) (wrap64 ((wrap64 ((wrap64 ((wrap64 ((wrap64 ((wrap64 ((wrap64 (x1_1+1))+1))+1))+1))+1))+1))+1)) (wrap64 (x5_1+1)))))))=some (r1,r2):=by first|(rw [hy568];with_reducible exact H)|(have H2_:=(Option.bind_some _ _).symm.trans H;rw [hy568];with_reducible exact H2_)|(have H2_:=(Option.bind_some _ _).symm.trans H;with_reducible exact H2_)|with_reducible exact H|(rw [hy568];exact H)|exact H
     have Ny568:=a_ hy568
     clear hy568
     obtain ⟨y569,hy569⟩:∃ y_:List (S44),y_=(y568.set (x5_1:Int).toNat (⟨(rd_T44 y568 x5_1).f0,(rd_T44 y568 x5_1).f1,(⟨(rd_T44 y568 x5_1).f2.f0,wrap64 ((wrap64 ((wrap64 (x1_1+1))+1))+1),(rd_T44 y568 x5_1).f2.f2,(rd_T44 y568 x5_1).f2.f3,(rd_T44 y568 x5_1).f2.f4⟩:S42)⟩:S44)):=⟨_,rfl⟩
     replace H:((some (y569.set (x5_1:Int).toNat (⟨(rd_T44 y569 x5_1).f0,(rd_T44 y569 x5_1).f1,(⟨(rd_T44 y569 x5_1).f2.f0,(rd_T44 y569 x5_1).f2.f1,wrap64 ((wrap64 ((wrap64 ((wrap64 (x1_1+1))+1))+1))+1),(rd_T44 y569 x5_1).f2.f3,(rd_T44 y569 x5_1).f2.f4⟩:S42)⟩:S44):List (S44))).bind fun y570=>((some (y570.set (x5_1:Int).toNat (⟨(rd_T44 y570 x5_1).f0,(rd_T44 y570 x5_1).f1,(⟨(rd_T44 y570 x5_1).f2.f0,(rd_T44 y570 x5_1).f2.f1,(rd_T44 y570 x5_1).f2.f2,wrap64 ((wrap64 ((wrap64 ((wrap64 ((wrap64 (x1_1+1))+1))+1))+1))+1),(rd_T44 y570 x5_1).f2.f4⟩:S42)⟩:S44):List (S44))).bind fun y571=>((laws_markText.f k1 (wrap64 ((wrap64 ((wrap64 ((wrap64 ((wrap64 ((wrap64 (x1_1+1))+1))+1))+1))+1))+1))).bind fun t572=>(laws_markEntryS.l0 k1 (y571.set (x5_1:Int).toNat (⟨(rd_T44 y571 x5_1).f0,(rd_T44 y571 x5_1).f1,(⟨(rd_T44 y571 x5_1).f2.f0,(rd_T44 y571 x5_1).f2.f1,(rd_T44 y571 x5_1).f2.f2,(rd_T44 y571 x5_1).f2.f3,t572⟩:S42)⟩:S44)) (wrap64 ((wrap64 ((wrap64 ((wrap64 ((wrap64 ((wrap64 ((wrap64 (x1_1+1))+1))+1))+1))+1))+1))+1)) (wrap64 (x5_1+1))))))=some (r1,r2):=by first|(rw [hy569];with_reducible exact H)|(have H2_:=(Option.bind_some _ _).symm.trans H;rw [hy569];with_reducible exact H2_)|(have H2_:=(Option.bind_some _ _).symm.trans H;with_reducible exact H2_)|with_reducible exact H|(rw [hy569];exact H)|exact H
     have Ny569:=a_ hy569
     clear hy569
     obtain ⟨y570,hy570⟩:∃ y_:List (S44),y_=(y569.set (x5_1:Int).toNat (⟨(rd_T44 y569 x5_1).f0,(rd_T44 y569 x5_1).f1,(⟨(rd_T44 y569 x5_1).f2.f0,(rd_T44 y569 x5_1).f2.f1,wrap64 ((wrap64 ((wrap64 ((wrap64 (x1_1+1))+1))+1))+1),(rd_T44 y569 x5_1).f2.f3,(rd_T44 y569 x5_1).f2.f4⟩:S42)⟩:S44)):=⟨_,rfl⟩
     replace H:((some (y570.set (x5_1:Int).toNat (⟨(rd_T44 y570 x5_1).f0,(rd_T44 y570 x5_1).f1,(⟨(rd_T44 y570 x5_1).f2.f0,(rd_T44 y570 x5_1).f2.f1,(rd_T44 y570 x5_1).f2.f2,wrap64 ((wrap64 ((wrap64 ((wrap64 ((wrap64 (x1_1+1))+1))+1))+1))+1),(rd_T44 y570 x5_1).f2.f4⟩:S42)⟩:S44):List (S44))).bind fun y571=>((laws_markText.f k1 (wrap64 ((wrap64 ((wrap64 ((wrap64 ((wrap64 ((wrap64 (x1_1+1))+1))+1))+1))+1))+1))).bind fun t572=>(laws_markEntryS.l0 k1 (y571.set (x5_1:Int).toNat (⟨(rd_T44 y571 x5_1).f0,(rd_T44 y571 x5_1).f1,(⟨(rd_T44 y571 x5_1).f2.f0,(rd_T44 y571 x5_1).f2.f1,(rd_T44 y571 x5_1).f2.f2,(rd_T44 y571 x5_1).f2.f3,t572⟩:S42)⟩:S44)) (wrap64 ((wrap64 ((wrap64 ((wrap64 ((wrap64 ((wrap64 ((wrap64 (x1_1+1))+1))+1))+1))+1))+1))+1)) (wrap64 (x5_1+1)))))=some (r1,r2):=by first|(rw [hy570];with_reducible exact H)|(have H2_:=(Option.bind_some _ _).symm.trans H;rw [hy570];with_reducible exact H2_)|(have H2_:=(Option.bind_some _ _).symm.trans H;with_reducible exact H2_)|with_reducible exact H|(rw [hy570];exact H)|exact H
     have Ny570:=a_ hy570
     clear hy570
     obtain ⟨y571,hy571⟩:∃ y_:List (S44),y_=(y570.set (x5_1:Int).toNat (⟨(rd_T44 y570 x5_1).f0,(rd_T44 y570 x5_1).f1,(⟨(rd_T44 y570 x5_1).f2.f0,(rd_T44 y570 x5_1).f2.f1,(rd_T44 y570 x5_1).f2.f2,wrap64 ((wrap64 ((wrap64 ((wrap64 ((wrap64 (x1_1+1))+1))+1))+1))+1),(rd_T44 y570 x5_1).f2.f4⟩:S42)⟩:S44)):=⟨_,rfl⟩
     replace H:((laws_markText.f k1 (wrap64 ((wrap64 ((wrap64 ((wrap64 ((wrap64 ((wrap64 (x1_1+1))+1))+1))+1))+1))+1))).bind fun t572=>(laws_markEntryS.l0 k1 (y571.set (x5_1:Int).toNat (⟨(rd_T44 y571 x5_1).f0,(rd_T44 y571 x5_1).f1,(⟨(rd_T44 y571 x5_1).f2.f0,(rd_T44 y571 x5_1).f2.f1,(rd_T44 y571 x5_1).f2.f2,(rd_T44 y571 x5_1).f2.f3,t572⟩:S42)⟩:S44)) (wrap64 ((wrap64 ((wrap64 ((wrap64 ((wrap64 ((wrap64 ((wrap64 (x1_1+1))+1))+1))+1))+1))+1))+1)) (wrap64 (x5_1+1))))=some (r1,r2):=by first|(rw [hy571];with_reducible exact H)|(have H2_:=(Option.bind_some _ _).symm.trans H;rw [hy571];with_reducible exact H2_)|(have H2_:=(Option.bind_some _ _).symm.trans H;with_reducible exact H2_)|with_reducible exact H|(rw [hy571];exact H)|exact H
     have Ny571:=a_ hy571
     clear hy571
     replace H:=bs_ H
     obtain ⟨t572,A110,H⟩:=H
     try dsimp only at H
     have A11:=a_ A110
     clear A110
     obtain ⟨y573,hy573⟩:∃ y_:List (S44),y_=(y571.set (x5_1:Int).toNat (⟨(rd_T44 y571 x5_1).f0,(rd_T44 y571 x5_1).f1,(⟨(rd_T44 y571 x5_1).f2.f0,(rd_T44 y571 x5_1).f2.f1,(rd_T44 y571 x5_1).f2.f2,(rd_T44 y571 x5_1).f2.f3,t572⟩:S42)⟩:S44)):=⟨_,rfl⟩
     replace H:(laws_markEntryS.l0 k1 y573 (wrap64 ((wrap64 ((wrap64 ((wrap64 ((wrap64 ((wrap64 ((wrap64 (x1_1+1))+1))+1))+1))+1))+1))+1)) (wrap64 (x5_1+1)))=some (r1,r2):=by first|(rw [hy573];with_reducible exact H)|(have H2_:=(Option.bind_some _ _).symm.trans H;rw [hy573];with_reducible exact H2_)|(have H2_:=(Option.bind_some _ _).symm.trans H;with_reducible exact H2_)|with_reducible exact H|(rw [hy573];exact H)|exact H
     have Ny573:=a_ hy573
     clear hy573
     have H':=a_ H
     clear H
     obtain ⟨Ao13,co13,eo13⟩:=Kd.R_slice HO_0.out
     subst eo13
     have p5:0≤(x5_1:Int):=od_
     have q5:(x5_1:Int) < ((x0_1.length:Int):Int):=od_
     obtain ⟨go5,co5,eo5,gb5,gl5,cl5,HG5⟩:=Kd.R_form HO_0.out (by omega)
     (first|cases eo5|(injection eo5 with ea_ en_ ec_;(first|subst ea_|(injection ea_ with ea_;subst ea_));subst ec_;clear en_))
     have GB5:=a_ gb5
     have GG5:=a_ HG5
     clear gb5 gl5 HG5
     have HMgo5:=a_ (show (P0_ go5∨w.heap.size≤go5) from (HO_0.out.1 _ rfl))
     obtain ⟨ce5,hcl5,hM5,hcc5,hfr5⟩:=Kd.R_elem HO_0.out z44 (x5_1:Int) p5 q5
     obtain rfl:=k44_openM hM5
     have hx5_0:wr.cell? ⟨go5,(x5_1:Int).toNat * 7,none⟩=some (.int .i64 ((rd_T44 x0_1 x5_1).f0)):=hcc5 0 _ rfl
     have hx5_1:wr.cell? ⟨go5,(x5_1:Int).toNat * 7+1,none⟩=some (.int .i64 ((rd_T44 x0_1 x5_1).f1)):=hcc5 1 _ rfl
     have hx5_2:wr.cell? ⟨go5,(x5_1:Int).toNat * 7+2,none⟩=some (.int .i64 ((rd_T44 x0_1 x5_1).f2.f0)):=hcc5 2 _ rfl
     have hx5_3:wr.cell? ⟨go5,(x5_1:Int).toNat * 7+3,none⟩=some (.int .i64 ((rd_T44 x0_1 x5_1).f2.f1)):=hcc5 3 _ rfl
     have hx5_4:wr.cell? ⟨go5,(x5_1:Int).toNat * 7+4,none⟩=some (.int .i64 ((rd_T44 x0_1 x5_1).f2.f2)):=hcc5 4 _ rfl
     have hx5_5:wr.cell? ⟨go5,(x5_1:Int).toNat * 7+5,none⟩=some (.int .i64 ((rd_T44 x0_1 x5_1).f2.f3)):=hcc5 5 _ rfl
     have hx5_6:wr.cell? ⟨go5,(x5_1:Int).toNat * 7+6,none⟩=some (.string ((rd_T44 x0_1 x5_1).f2.f4)):=hcc5 6 _ rfl
     have hf5_0:wr.frozen? ⟨go5,(x5_1:Int).toNat * 7,none⟩=false:=hfr5 0
     have hf5_1:wr.frozen? ⟨go5,(x5_1:Int).toNat * 7+1,none⟩=false:=hfr5 1
     have hf5_2:wr.frozen? ⟨go5,(x5_1:Int).toNat * 7+2,none⟩=false:=hfr5 2
     have hf5_3:wr.frozen? ⟨go5,(x5_1:Int).toNat * 7+3,none⟩=false:=hfr5 3
     have hf5_4:wr.frozen? ⟨go5,(x5_1:Int).toNat * 7+4,none⟩=false:=hfr5 4
     have hf5_5:wr.frozen? ⟨go5,(x5_1:Int).toNat * 7+5,none⟩=false:=hfr5 5
     have hf5_6:wr.frozen? ⟨go5,(x5_1:Int).toNat * 7+6,none⟩=false:=hfr5 6
     clear hcl5 hcc5 hfr5 hM5
     replace p5:=eq_true p5
     replace q5:=eq_true q5
     have HX14:=a_ (show Kd.R k44 44 wr w0.heap.size (fun k_=>(P0_ k_∨w.heap.size≤k_)) (.slice (some ⟨go5,0,none⟩) x0_1.length co13) x0_1 from (rp_ HO_0.out))
     obtain ⟨ce14,hcl14,hM14,hcc14,hfr14⟩:=Kd.R_elem HX14.out z44 (x5_1:Int) (od_) (by have h_:(x5_1:Int) < ((x0_1.length:Int):Int):=od_;first|exact h_|(have e_:=(Kd.R_reads' HO_0.out).1;omega)|simpa using h_)
     obtain rfl:=k44_openM hM14
     have HP14:=Kd.R_seg HX14.out (x5_1:Int) (od_) (by have h_:(x5_1:Int) < ((x0_1.length:Int):Int):=od_;first|exact h_|(have e_:=(Kd.R_reads' HO_0.out).1;omega)|simpa using h_) (seg:=[.int .i64 x1_1]) (j:=0) hcl14 hcc14 (show 1≤7 from by decide) (x':=(⟨x1_1,(rd_T44 x0_1 x5_1).f1,(⟨(rd_T44 x0_1 x5_1).f2.f0,(rd_T44 x0_1 x5_1).f2.f1,(rd_T44 x0_1 x5_1).f2.f2,(rd_T44 x0_1 x5_1).f2.f3,(rd_T44 x0_1 x5_1).f2.f4⟩:S42)⟩:S44)) (k44_mkM _ _ _ (⟨x1_1,(rd_T44 x0_1 x5_1).f1,(⟨(rd_T44 x0_1 x5_1).f2.f0,(rd_T44 x0_1 x5_1).f2.f1,(rd_T44 x0_1 x5_1).f2.f2,(rd_T44 x0_1 x5_1).f2.f3,(rd_T44 x0_1 x5_1).f2.f4⟩:S42)⟩:S44) ) (fun _ hk=>hk)
     have hx14_0:=hcc14 0 _ rfl
     (try simp only [show (k44).sz=7 from rfl,Nat.mul_one,Nat.add_zero] at hx14_0)
     have hf14_0:=hfr14 0
     (try simp only [show (k44).sz=7 from rfl,Nat.mul_one,Nat.add_zero] at hf14_0)
     clear hcl14 hcc14 hfr14 hM14
     go_wp2_with (first|((with_reducible refine gate_store (t:=3) (p:=16) rfl ?_);refine store_event (t:=3) (p:=16) (v:=?vo_w15) (w1:=(wr.setCell ⟨go5,(x5_1:Int).toNat * 7,none⟩ (.int .i64 x1_1))) ?hg ?ho ?hn ?hr ?_;(case ho=>rfl);(case hg=>rfl);(case hn=>rfl);(case hr=>first|(go_simp;done)|(go_simp;rfl));intro w15 hw;have hg:wr.grownBy w15 (some go5):=(by rw [hw];exact HP14.2);have hp_:Kd.R k44 44 w15 w0.heap.size (fun k_=>(P0_ k_∨w.heap.size≤k_)) (.slice (some ⟨go5,0,none⟩) x0_1.length co13) y566:=(by rw [hw,Ny566.out];exact HP14.1);clear HP14;have n0_:=a_ (hp_);have n1_:=a_ ((by rw [hw];exact wS_ (HB.out) GB5.out:Below w0.heap.size w0 w15));have n2_:=a_ (Kept.of_grown (S:=(fun k_=>P0_ k_)) hg (by repeat (first|(with_reducible first|exact HK.out|apply Kept.alloc|apply Kept.drewN|apply Kept.drew)|exact HK.out)) (fun k_ e_=>(HO_0.out.1 k_ e_)));clear HO_0;clear HB;clear HK;have HO_0:=n0_;have HB:=n1_;have HK:=n2_;clear n0_ n1_ n2_;clear hg hw hp_;have p6:0≤(x5_1:Int):=od_;have q6:(x5_1:Int) < ((x0_1.length:Int):Int):=od_;obtain ⟨ce6,hcl6,hM6,hcc6,hfr6⟩:=Kd.R_elem HO_0.out z44 (x5_1:Int) p6 q6;obtain rfl:=k44_openM hM6;have hx6_0:w15.cell? ⟨go5,(x5_1:Int).toNat * 7,none⟩=some (.int .i64 ((rd_T44 y566 x5_1).f0)):=hcc6 0 _ rfl;have hx6_1:w15.cell? ⟨go5,(x5_1:Int).toNat * 7+1,none⟩=some (.int .i64 ((rd_T44 y566 x5_1).f1)):=hcc6 1 _ rfl;have hx6_2:w15.cell? ⟨go5,(x5_1:Int).toNat * 7+2,none⟩=some (.int .i64 ((rd_T44 y566 x5_1).f2.f0)):=hcc6 2 _ rfl;have hx6_3:w15.cell? ⟨go5,(x5_1:Int).toNat * 7+3,none⟩=some (.int .i64 ((rd_T44 y566 x5_1).f2.f1)):=hcc6 3 _ rfl;have hx6_4:w15.cell? ⟨go5,(x5_1:Int).toNat * 7+4,none⟩=some (.int .i64 ((rd_T44 y566 x5_1).f2.f2)):=hcc6 4 _ rfl;have hx6_5:w15.cell? ⟨go5,(x5_1:Int).toNat * 7+5,none⟩=some (.int .i64 ((rd_T44 y566 x5_1).f2.f3)):=hcc6 5 _ rfl;have hx6_6:w15.cell? ⟨go5,(x5_1:Int).toNat * 7+6,none⟩=some (.string ((rd_T44 y566 x5_1).f2.f4)):=hcc6 6 _ rfl;have hf6_0:w15.frozen? ⟨go5,(x5_1:Int).toNat * 7,none⟩=false:=hfr6 0;have hf6_1:w15.frozen? ⟨go5,(x5_1:Int).toNat * 7+1,none⟩=false:=hfr6 1;have hf6_2:w15.frozen? ⟨go5,(x5_1:Int).toNat * 7+2,none⟩=false:=hfr6 2;have hf6_3:w15.frozen? ⟨go5,(x5_1:Int).toNat * 7+3,none⟩=false:=hfr6 3;have hf6_4:w15.frozen? ⟨go5,(x5_1:Int).toNat * 7+4,none⟩=false:=hfr6 4;have hf6_5:w15.frozen? ⟨go5,(x5_1:Int).toNat * 7+5,none⟩=false:=hfr6 5;have hf6_6:w15.frozen? ⟨go5,(x5_1:Int).toNat * 7+6,none⟩=false:=hfr6 6;clear hcl6 hcc6 hfr6 hM6;replace p6:=eq_true p6;replace q6:=eq_true q6;have HX16:=a_ (show Kd.R k44 44 w15 w0.heap.size (fun k_=>(P0_ k_∨w.heap.size≤k_)) (.slice (some ⟨go5,0,none⟩) x0_1.length co13) y566 from (rp_ HO_0.out));obtain ⟨ce16,hcl16,hM16,hcc16,hfr16⟩:=Kd.R_elem HX16.out z44 (x5_1:Int) (od_) (by have h_:(x5_1:Int) < ((x0_1.length:Int):Int):=od_;first|exact h_|(have e_:=(Kd.R_reads' HO_0.out).1;omega)|simpa using h_);obtain rfl:=k44_openM hM16;have HP16:=Kd.R_seg HX16.out (x5_1:Int) (od_) (by have h_:(x5_1:Int) < ((x0_1.length:Int):Int):=od_;first|exact h_|(have e_:=(Kd.R_reads' HO_0.out).1;omega)|simpa using h_) (seg:=[.int .i64 (wrap64 (x1_1+1))]) (j:=1) hcl16 hcc16 (show 2≤7 from by decide) (x':=(⟨(rd_T44 y566 x5_1).f0,wrap64 (x1_1+1),(⟨(rd_T44 y566 x5_1).f2.f0,(rd_T44 y566 x5_1).f2.f1,(rd_T44 y566 x5_1).f2.f2,(rd_T44 y566 x5_1).f2.f3,(rd_T44 y566 x5_1).f2.f4⟩:S42)⟩:S44)) (k44_mkM _ _ _ (⟨(rd_T44 y566 x5_1).f0,wrap64 (x1_1+1),(⟨(rd_T44 y566 x5_1).f2.f0,(rd_T44 y566 x5_1).f2.f1,(rd_T44 y566 x5_1).f2.f2,(rd_T44 y566 x5_1).f2.f3,(rd_T44 y566 x5_1).f2.f4⟩:S42)⟩:S44) ) (fun _ hk=>hk);have hx16_1:=hcc16 1 _ rfl;(try simp only [show (k44).sz=7 from rfl,Nat.mul_one,Nat.add_zero] at hx16_1);have hf16_1:=hfr16 1;(try simp only [show (k44).sz=7 from rfl,Nat.mul_one,Nat.add_zero] at hf16_1);clear hcl16 hcc16 hfr16 hM16)|((with_reducible refine gate_store (t:=3) (p:=23) rfl ?_);refine store_event (t:=3) (p:=23) (v:=?vo_w17) (w1:=(w15.setCell ⟨go5,(x5_1:Int).toNat * 7+1,none⟩ (.int .i64 (wrap64 (x1_1+1))))) ?hg ?ho ?hn ?hr ?_;(case ho=>rfl);(case hg=>rfl);(case hn=>rfl);(case hr=>first|(go_simp;done)|(go_simp;rfl));intro w17 hw;have hg:w15.grownBy w17 (some go5):=(by rw [hw];exact HP16.2);have hp_:Kd.R k44 44 w17 w0.heap.size (fun k_=>(P0_ k_∨w.heap.size≤k_)) (.slice (some ⟨go5,0,none⟩) x0_1.length co13) y567:=(by rw [hw,Ny567.out];exact HP16.1);clear HP16;have n0_:=a_ (hp_);have n1_:=a_ ((by rw [hw];exact wS_ (HB.out) GB5.out:Below w0.heap.size w0 w17));have n2_:=a_ (Kept.of_grown (S:=(fun k_=>P0_ k_)) hg (by repeat (first|(with_reducible first|exact HK.out|apply Kept.alloc|apply Kept.drewN|apply Kept.drew)|exact HK.out)) (fun k_ e_=>(HO_0.out.1 k_ e_)));clear HO_0;clear HB;clear HK;have HO_0:=n0_;have HB:=n1_;have HK:=n2_;clear n0_ n1_ n2_;clear hg hw hp_;have p7:0≤(x5_1:Int):=od_;have q7:(x5_1:Int) < ((x0_1.length:Int):Int):=od_;obtain ⟨ce7,hcl7,hM7,hcc7,hfr7⟩:=Kd.R_elem HO_0.out z44 (x5_1:Int) p7 q7;obtain rfl:=k44_openM hM7;have hx7_0:w17.cell? ⟨go5,(x5_1:Int).toNat * 7,none⟩=some (.int .i64 ((rd_T44 y567 x5_1).f0)):=hcc7 0 _ rfl;have hx7_1:w17.cell? ⟨go5,(x5_1:Int).toNat * 7+1,none⟩=some (.int .i64 ((rd_T44 y567 x5_1).f1)):=hcc7 1 _ rfl;have hx7_2:w17.cell? ⟨go5,(x5_1:Int).toNat * 7+2,none⟩=some (.int .i64 ((rd_T44 y567 x5_1).f2.f0)):=hcc7 2 _ rfl;have hx7_3:w17.cell? ⟨go5,(x5_1:Int).toNat * 7+3,none⟩=some (.int .i64 ((rd_T44 y567 x5_1).f2.f1)):=hcc7 3 _ rfl;have hx7_4:w17.cell? ⟨go5,(x5_1:Int).toNat * 7+4,none⟩=some (.int .i64 ((rd_T44 y567 x5_1).f2.f2)):=hcc7 4 _ rfl;have hx7_5:w17.cell? ⟨go5,(x5_1:Int).toNat * 7+5,none⟩=some (.int .i64 ((rd_T44 y567 x5_1).f2.f3)):=hcc7 5 _ rfl;have hx7_6:w17.cell? ⟨go5,(x5_1:Int).toNat * 7+6,none⟩=some (.string ((rd_T44 y567 x5_1).f2.f4)):=hcc7 6 _ rfl;have hf7_0:w17.frozen? ⟨go5,(x5_1:Int).toNat * 7,none⟩=false:=hfr7 0;have hf7_1:w17.frozen? ⟨go5,(x5_1:Int).toNat * 7+1,none⟩=false:=hfr7 1;have hf7_2:w17.frozen? ⟨go5,(x5_1:Int).toNat * 7+2,none⟩=false:=hfr7 2;have hf7_3:w17.frozen? ⟨go5,(x5_1:Int).toNat * 7+3,none⟩=false:=hfr7 3;have hf7_4:w17.frozen? ⟨go5,(x5_1:Int).toNat * 7+4,none⟩=false:=hfr7 4;have hf7_5:w17.frozen? ⟨go5,(x5_1:Int).toNat * 7+5,none⟩=false:=hfr7 5;have hf7_6:w17.frozen? ⟨go5,(x5_1:Int).toNat * 7+6,none⟩=false:=hfr7 6;clear hcl7 hcc7 hfr7 hM7;replace p7:=eq_true p7;replace q7:=eq_true q7;have HX18:=a_ (show Kd.R k44 44 w17 w0.heap.size (fun k_=>(P0_ k_∨w.heap.size≤k_)) (.slice (some ⟨go5,0,none⟩) x0_1.length co13) y567 from (rp_ HO_0.out));obtain ⟨ce18,hcl18,hM18,hcc18,hfr18⟩:=Kd.R_elem HX18.out z44 (x5_1:Int) (od_) (by have h_:(x5_1:Int) < ((x0_1.length:Int):Int):=od_;first|exact h_|(have e_:=(Kd.R_reads' HO_0.out).1;omega)|simpa using h_);obtain rfl:=k44_openM hM18;have HP18:=Kd.R_seg HX18.out (x5_1:Int) (od_) (by have h_:(x5_1:Int) < ((x0_1.length:Int):Int):=od_;first|exact h_|(have e_:=(Kd.R_reads' HO_0.out).1;omega)|simpa using h_) (seg:=[.int .i64 (wrap64 ((wrap64 (x1_1+1))+1))]) (j:=2) hcl18 hcc18 (show 3≤7 from by decide) (x':=(⟨(rd_T44 y567 x5_1).f0,(rd_T44 y567 x5_1).f1,(⟨wrap64 ((wrap64 (x1_1+1))+1),(rd_T44 y567 x5_1).f2.f1,(rd_T44 y567 x5_1).f2.f2,(rd_T44 y567 x5_1).f2.f3,(rd_T44 y567 x5_1).f2.f4⟩:S42)⟩:S44)) (k44_mkM _ _ _ (⟨(rd_T44 y567 x5_1).f0,(rd_T44 y567 x5_1).f1,(⟨wrap64 ((wrap64 (x1_1+1))+1),(rd_T44 y567 x5_1).f2.f1,(rd_T44 y567 x5_1).f2.f2,(rd_T44 y567 x5_1).f2.f3,(rd_T44 y567 x5_1).f2.f4⟩:S42)⟩:S44) ) (fun _ hk=>hk);have hx18_2:=hcc18 2 _ rfl;(try simp only [show (k44).sz=7 from rfl,Nat.mul_one,Nat.add_zero] at hx18_2);have hf18_2:=hfr18 2;(try simp only [show (k44).sz=7 from rfl,Nat.mul_one,Nat.add_zero] at hf18_2);clear hcl18 hcc18 hfr18 hM18)|((with_reducible refine gate_store (t:=3) (p:=31) rfl ?_);refine store_event (t:=3) (p:=31) (v:=?vo_w19) (w1:=(w17.setCell ⟨go5,(x5_1:Int).toNat * 7+2,none⟩ (.int .i64 (wrap64 ((wrap64 (x1_1+1))+1))))) ?hg ?ho ?hn ?hr ?_;(case ho=>rfl);(case hg=>rfl);(case hn=>rfl);(case hr=>first|(go_simp;done)|(go_simp;rfl));intro w19 hw;have hg:w17.grownBy w19 (some go5):=(by rw [hw];exact HP18.2);have hp_:Kd.R k44 44 w19 w0.heap.size (fun k_=>(P0_ k_∨w.heap.size≤k_)) (.slice (some ⟨go5,0,none⟩) x0_1.length co13) y568:=(by rw [hw,Ny568.out];exact HP18.1);clear HP18;have n0_:=a_ (hp_);have n1_:=a_ ((by rw [hw];exact wS_ (HB.out) GB5.out:Below w0.heap.size w0 w19));have n2_:=a_ (Kept.of_grown (S:=(fun k_=>P0_ k_)) hg (by repeat (first|(with_reducible first|exact HK.out|apply Kept.alloc|apply Kept.drewN|apply Kept.drew)|exact HK.out)) (fun k_ e_=>(HO_0.out.1 k_ e_)));clear HO_0;clear HB;clear HK;have HO_0:=n0_;have HB:=n1_;have HK:=n2_;clear n0_ n1_ n2_;clear hg hw hp_;have p8:0≤(x5_1:Int):=od_;have q8:(x5_1:Int) < ((x0_1.length:Int):Int):=od_;obtain ⟨ce8,hcl8,hM8,hcc8,hfr8⟩:=Kd.R_elem HO_0.out z44 (x5_1:Int) p8 q8;obtain rfl:=k44_openM hM8;have hx8_0:w19.cell? ⟨go5,(x5_1:Int).toNat * 7,none⟩=some (.int .i64 ((rd_T44 y568 x5_1).f0)):=hcc8 0 _ rfl;have hx8_1:w19.cell? ⟨go5,(x5_1:Int).toNat * 7+1,none⟩=some (.int .i64 ((rd_T44 y568 x5_1).f1)):=hcc8 1 _ rfl;have hx8_2:w19.cell? ⟨go5,(x5_1:Int).toNat * 7+2,none⟩=some (.int .i64 ((rd_T44 y568 x5_1).f2.f0)):=hcc8 2 _ rfl;have hx8_3:w19.cell? ⟨go5,(x5_1:Int).toNat * 7+3,none⟩=some (.int .i64 ((rd_T44 y568 x5_1).f2.f1)):=hcc8 3 _ rfl;have hx8_4:w19.cell? ⟨go5,(x5_1:Int).toNat * 7+4,none⟩=some (.int .i64 ((rd_T44 y568 x5_1).f2.f2)):=hcc8 4 _ rfl;have hx8_5:w19.cell? ⟨go5,(x5_1:Int).toNat * 7+5,none⟩=some (.int .i64 ((rd_T44 y568 x5_1).f2.f3)):=hcc8 5 _ rfl;have hx8_6:w19.cell? ⟨go5,(x5_1:Int).toNat * 7+6,none⟩=some (.string ((rd_T44 y568 x5_1).f2.f4)):=hcc8 6 _ rfl;have hf8_0:w19.frozen? ⟨go5,(x5_1:Int).toNat * 7,none⟩=false:=hfr8 0;have hf8_1:w19.frozen? ⟨go5,(x5_1:Int).toNat * 7+1,none⟩=false:=hfr8 1;have hf8_2:w19.frozen? ⟨go5,(x5_1:Int).toNat * 7+2,none⟩=false:=hfr8 2;have hf8_3:w19.frozen? ⟨go5,(x5_1:Int).toNat * 7+3,none⟩=false:=hfr8 3;have hf8_4:w19.frozen? ⟨go5,(x5_1:Int).toNat * 7+4,none⟩=false:=hfr8 4;have hf8_5:w19.frozen? ⟨go5,(x5_1:Int).toNat * 7+5,none⟩=false:=hfr8 5;have hf8_6:w19.frozen? ⟨go5,(x5_1:Int).toNat * 7+6,none⟩=false:=hfr8 6;clear hcl8 hcc8 hfr8 hM8;replace p8:=eq_true p8;replace q8:=eq_true q8;have HX20:=a_ (show Kd.R k44 44 w19 w0.heap.size (fun k_=>(P0_ k_∨w.heap.size≤k_)) (.slice (some ⟨go5,0,none⟩) x0_1.length co13) y568 from (rp_ HO_0.out));obtain ⟨ce20,hcl20,hM20,hcc20,hfr20⟩:=Kd.R_elem HX20.out z44 (x5_1:Int) (od_) (by have h_:(x5_1:Int) < ((x0_1.length:Int):Int):=od_;first|exact h_|(have e_:=(Kd.R_reads' HO_0.out).1;omega)|simpa using h_);obtain rfl:=k44_openM hM20;have HP20:=Kd.R_seg HX20.out (x5_1:Int) (od_) (by have h_:(x5_1:Int) < ((x0_1.length:Int):Int):=od_;first|exact h_|(have e_:=(Kd.R_reads' HO_0.out).1;omega)|simpa using h_) (seg:=[.int .i64 (wrap64 ((wrap64 ((wrap64 (x1_1+1))+1))+1))]) (j:=3) hcl20 hcc20 (show 4≤7 from by decide) (x':=(⟨(rd_T44 y568 x5_1).f0,(rd_T44 y568 x5_1).f1,(⟨(rd_T44 y568 x5_1).f2.f0,wrap64 ((wrap64 ((wrap64 (x1_1+1))+1))+1),(rd_T44 y568 x5_1).f2.f2,(rd_T44 y568 x5_1).f2.f3,(rd_T44 y568 x5_1).f2.f4⟩:S42)⟩:S44)) (k44_mkM _ _ _ (⟨(rd_T44 y568 x5_1).f0,(rd_T44 y568 x5_1).f1,(⟨(rd_T44 y568 x5_1).f2.f0,wrap64 ((wrap64 ((wrap64 (x1_1+1))+1))+1),(rd_T44 y568 x5_1).f2.f2,(rd_T44 y568 x5_1).f2.f3,(rd_T44 y568 x5_1).f2.f4⟩:S42)⟩:S44) ) (fun _ hk=>hk);have hx20_3:=hcc20 3 _ rfl;(try simp only [show (k44).sz=7 from rfl,Nat.mul_one,Nat.add_zero] at hx20_3);have hf20_3:=hfr20 3;(try simp only [show (k44).sz=7 from rfl,Nat.mul_one,Nat.add_zero] at hf20_3);clear hcl20 hcc20 hfr20 hM20)|((with_reducible refine gate_store (t:=3) (p:=39) rfl ?_);refine store_event (t:=3) (p:=39) (v:=?vo_w21) (w1:=(w19.setCell ⟨go5,(x5_1:Int).toNat * 7+3,none⟩ (.int .i64 (wrap64 ((wrap64 ((wrap64 (x1_1+1))+1))+1))))) ?hg ?ho ?hn ?hr ?_;(case ho=>rfl);(case hg=>rfl);(case hn=>rfl);(case hr=>first|(go_simp;done)|(go_simp;rfl));intro w21 hw;have hg:w19.grownBy w21 (some go5):=(by rw [hw];exact HP20.2);have hp_:Kd.R k44 44 w21 w0.heap.size (fun k_=>(P0_ k_∨w.heap.size≤k_)) (.slice (some ⟨go5,0,none⟩) x0_1.length co13) y569:=(by rw [hw,Ny569.out];exact HP20.1);clear HP20;have n0_:=a_ (hp_);have n1_:=a_ ((by rw [hw];exact wS_ (HB.out) GB5.out:Below w0.heap.size w0 w21));have n2_:=a_ (Kept.of_grown (S:=(fun k_=>P0_ k_)) hg (by repeat (first|(with_reducible first|exact HK.out|apply Kept.alloc|apply Kept.drewN|apply Kept.drew)|exact HK.out)) (fun k_ e_=>(HO_0.out.1 k_ e_)));clear HO_0;clear HB;clear HK;have HO_0:=n0_;have HB:=n1_;have HK:=n2_;clear n0_ n1_ n2_;clear hg hw hp_;have p9:0≤(x5_1:Int):=od_;have q9:(x5_1:Int) < ((x0_1.length:Int):Int):=od_;obtain ⟨ce9,hcl9,hM9,hcc9,hfr9⟩:=Kd.R_elem HO_0.out z44 (x5_1:Int) p9 q9;obtain rfl:=k44_openM hM9;have hx9_0:w21.cell? ⟨go5,(x5_1:Int).toNat * 7,none⟩=some (.int .i64 ((rd_T44 y569 x5_1).f0)):=hcc9 0 _ rfl;have hx9_1:w21.cell? ⟨go5,(x5_1:Int).toNat * 7+1,none⟩=some (.int .i64 ((rd_T44 y569 x5_1).f1)):=hcc9 1 _ rfl;have hx9_2:w21.cell? ⟨go5,(x5_1:Int).toNat * 7+2,none⟩=some (.int .i64 ((rd_T44 y569 x5_1).f2.f0)):=hcc9 2 _ rfl;have hx9_3:w21.cell? ⟨go5,(x5_1:Int).toNat * 7+3,none⟩=some (.int .i64 ((rd_T44 y569 x5_1).f2.f1)):=hcc9 3 _ rfl;have hx9_4:w21.cell? ⟨go5,(x5_1:Int).toNat * 7+4,none⟩=some (.int .i64 ((rd_T44 y569 x5_1).f2.f2)):=hcc9 4 _ rfl;have hx9_5:w21.cell? ⟨go5,(x5_1:Int).toNat * 7+5,none⟩=some (.int .i64 ((rd_T44 y569 x5_1).f2.f3)):=hcc9 5 _ rfl;have hx9_6:w21.cell? ⟨go5,(x5_1:Int).toNat * 7+6,none⟩=some (.string ((rd_T44 y569 x5_1).f2.f4)):=hcc9 6 _ rfl;have hf9_0:w21.frozen? ⟨go5,(x5_1:Int).toNat * 7,none⟩=false:=hfr9 0;have hf9_1:w21.frozen? ⟨go5,(x5_1:Int).toNat * 7+1,none⟩=false:=hfr9 1;have hf9_2:w21.frozen? ⟨go5,(x5_1:Int).toNat * 7+2,none⟩=false:=hfr9 2;have hf9_3:w21.frozen? ⟨go5,(x5_1:Int).toNat * 7+3,none⟩=false:=hfr9 3;have hf9_4:w21.frozen? ⟨go5,(x5_1:Int).toNat * 7+4,none⟩=false:=hfr9 4;have hf9_5:w21.frozen? ⟨go5,(x5_1:Int).toNat * 7+5,none⟩=false:=hfr9 5;have hf9_6:w21.frozen? ⟨go5,(x5_1:Int).toNat * 7+6,none⟩=false:=hfr9 6;clear hcl9 hcc9 hfr9 hM9;replace p9:=eq_true p9;replace q9:=eq_true q9;have HX22:=a_ (show Kd.R k44 44 w21 w0.heap.size (fun k_=>(P0_ k_∨w.heap.size≤k_)) (.slice (some ⟨go5,0,none⟩) x0_1.length co13) y569 from (rp_ HO_0.out));obtain ⟨ce22,hcl22,hM22,hcc22,hfr22⟩:=Kd.R_elem HX22.out z44 (x5_1:Int) (od_) (by have h_:(x5_1:Int) < ((x0_1.length:Int):Int):=od_;first|exact h_|(have e_:=(Kd.R_reads' HO_0.out).1;omega)|simpa using h_);obtain rfl:=k44_openM hM22;have HP22:=Kd.R_seg HX22.out (x5_1:Int) (od_) (by have h_:(x5_1:Int) < ((x0_1.length:Int):Int):=od_;first|exact h_|(have e_:=(Kd.R_reads' HO_0.out).1;omega)|simpa using h_) (seg:=[.int .i64 (wrap64 ((wrap64 ((wrap64 ((wrap64 (x1_1+1))+1))+1))+1))]) (j:=4) hcl22 hcc22 (show 5≤7 from by decide) (x':=(⟨(rd_T44 y569 x5_1).f0,(rd_T44 y569 x5_1).f1,(⟨(rd_T44 y569 x5_1).f2.f0,(rd_T44 y569 x5_1).f2.f1,wrap64 ((wrap64 ((wrap64 ((wrap64 (x1_1+1))+1))+1))+1),(rd_T44 y569 x5_1).f2.f3,(rd_T44 y569 x5_1).f2.f4⟩:S42)⟩:S44)) (k44_mkM _ _ _ (⟨(rd_T44 y569 x5_1).f0,(rd_T44 y569 x5_1).f1,(⟨(rd_T44 y569 x5_1).f2.f0,(rd_T44 y569 x5_1).f2.f1,wrap64 ((wrap64 ((wrap64 ((wrap64 (x1_1+1))+1))+1))+1),(rd_T44 y569 x5_1).f2.f3,(rd_T44 y569 x5_1).f2.f4⟩:S42)⟩:S44) ) (fun _ hk=>hk);have hx22_4:=hcc22 4 _ rfl;(try simp only [show (k44).sz=7 from rfl,Nat.mul_one,Nat.add_zero] at hx22_4);have hf22_4:=hfr22 4;(try simp only [show (k44).sz=7 from rfl,Nat.mul_one,Nat.add_zero] at hf22_4);clear hcl22 hcc22 hfr22 hM22)|((with_reducible refine gate_store (t:=3) (p:=47) rfl ?_);refine store_event (t:=3) (p:=47) (v:=?vo_w23) (w1:=(w21.setCell ⟨go5,(x5_1:Int).toNat * 7+4,none⟩ (.int .i64 (wrap64 ((wrap64 ((wrap64 ((wrap64 (x1_1+1))+1))+1))+1))))) ?hg ?ho ?hn ?hr ?_;(case ho=>rfl);(case hg=>rfl);(case hn=>rfl);(case hr=>first|(go_simp;done)|(go_simp;rfl));intro w23 hw;have hg:w21.grownBy w23 (some go5):=(by rw [hw];exact HP22.2);have hp_:Kd.R k44 44 w23 w0.heap.size (fun k_=>(P0_ k_∨w.heap.size≤k_)) (.slice (some ⟨go5,0,none⟩) x0_1.length co13) y570:=(by rw [hw,Ny570.out];exact HP22.1);clear HP22;have n0_:=a_ (hp_);have n1_:=a_ ((by rw [hw];exact wS_ (HB.out) GB5.out:Below w0.heap.size w0 w23));have n2_:=a_ (Kept.of_grown (S:=(fun k_=>P0_ k_)) hg (by repeat (first|(with_reducible first|exact HK.out|apply Kept.alloc|apply Kept.drewN|apply Kept.drew)|exact HK.out)) (fun k_ e_=>(HO_0.out.1 k_ e_)));clear HO_0;clear HB;clear HK;have HO_0:=n0_;have HB:=n1_;have HK:=n2_;clear n0_ n1_ n2_;clear hg hw hp_;have p10:0≤(x5_1:Int):=od_;have q10:(x5_1:Int) < ((x0_1.length:Int):Int):=od_;obtain ⟨ce10,hcl10,hM10,hcc10,hfr10⟩:=Kd.R_elem HO_0.out z44 (x5_1:Int) p10 q10;obtain rfl:=k44_openM hM10;have hx10_0:w23.cell? ⟨go5,(x5_1:Int).toNat * 7,none⟩=some (.int .i64 ((rd_T44 y570 x5_1).f0)):=hcc10 0 _ rfl;have hx10_1:w23.cell? ⟨go5,(x5_1:Int).toNat * 7+1,none⟩=some (.int .i64 ((rd_T44 y570 x5_1).f1)):=hcc10 1 _ rfl;have hx10_2:w23.cell? ⟨go5,(x5_1:Int).toNat * 7+2,none⟩=some (.int .i64 ((rd_T44 y570 x5_1).f2.f0)):=hcc10 2 _ rfl;have hx10_3:w23.cell? ⟨go5,(x5_1:Int).toNat * 7+3,none⟩=some (.int .i64 ((rd_T44 y570 x5_1).f2.f1)):=hcc10 3 _ rfl;have hx10_4:w23.cell? ⟨go5,(x5_1:Int).toNat * 7+4,none⟩=some (.int .i64 ((rd_T44 y570 x5_1).f2.f2)):=hcc10 4 _ rfl;have hx10_5:w23.cell? ⟨go5,(x5_1:Int).toNat * 7+5,none⟩=some (.int .i64 ((rd_T44 y570 x5_1).f2.f3)):=hcc10 5 _ rfl;have hx10_6:w23.cell? ⟨go5,(x5_1:Int).toNat * 7+6,none⟩=some (.string ((rd_T44 y570 x5_1).f2.f4)):=hcc10 6 _ rfl;have hf10_0:w23.frozen? ⟨go5,(x5_1:Int).toNat * 7,none⟩=false:=hfr10 0;have hf10_1:w23.frozen? ⟨go5,(x5_1:Int).toNat * 7+1,none⟩=false:=hfr10 1;have hf10_2:w23.frozen? ⟨go5,(x5_1:Int).toNat * 7+2,none⟩=false:=hfr10 2;have hf10_3:w23.frozen? ⟨go5,(x5_1:Int).toNat * 7+3,none⟩=false:=hfr10 3;have hf10_4:w23.frozen? ⟨go5,(x5_1:Int).toNat * 7+4,none⟩=false:=hfr10 4;have hf10_5:w23.frozen? ⟨go5,(x5_1:Int).toNat * 7+5,none⟩=false:=hfr10 5;have hf10_6:w23.frozen? ⟨go5,(x5_1:Int).toNat * 7+6,none⟩=false:=hfr10 6;clear hcl10 hcc10 hfr10 hM10;replace p10:=eq_true p10;replace q10:=eq_true q10;have HX24:=a_ (show Kd.R k44 44 w23 w0.heap.size (fun k_=>(P0_ k_∨w.heap.size≤k_)) (.slice (some ⟨go5,0,none⟩) x0_1.length co13) y570 from (rp_ HO_0.out));obtain ⟨ce24,hcl24,hM24,hcc24,hfr24⟩:=Kd.R_elem HX24.out z44 (x5_1:Int) (od_) (by have h_:(x5_1:Int) < ((x0_1.length:Int):Int):=od_;first|exact h_|(have e_:=(Kd.R_reads' HO_0.out).1;omega)|simpa using h_);obtain rfl:=k44_openM hM24;have HP24:=Kd.R_seg HX24.out (x5_1:Int) (od_) (by have h_:(x5_1:Int) < ((x0_1.length:Int):Int):=od_;first|exact h_|(have e_:=(Kd.R_reads' HO_0.out).1;omega)|simpa using h_) (seg:=[.int .i64 (wrap64 ((wrap64 ((wrap64 ((wrap64 ((wrap64 (x1_1+1))+1))+1))+1))+1))]) (j:=5) hcl24 hcc24 (show 6≤7 from by decide) (x':=(⟨(rd_T44 y570 x5_1).f0,(rd_T44 y570 x5_1).f1,(⟨(rd_T44 y570 x5_1).f2.f0,(rd_T44 y570 x5_1).f2.f1,(rd_T44 y570 x5_1).f2.f2,wrap64 ((wrap64 ((wrap64 ((wrap64 ((wrap64 (x1_1+1))+1))+1))+1))+1),(rd_T44 y570 x5_1).f2.f4⟩:S42)⟩:S44)) (k44_mkM _ _ _ (⟨(rd_T44 y570 x5_1).f0,(rd_T44 y570 x5_1).f1,(⟨(rd_T44 y570 x5_1).f2.f0,(rd_T44 y570 x5_1).f2.f1,(rd_T44 y570 x5_1).f2.f2,wrap64 ((wrap64 ((wrap64 ((wrap64 ((wrap64 (x1_1+1))+1))+1))+1))+1),(rd_T44 y570 x5_1).f2.f4⟩:S42)⟩:S44) ) (fun _ hk=>hk);have hx24_5:=hcc24 5 _ rfl;(try simp only [show (k44).sz=7 from rfl,Nat.mul_one,Nat.add_zero] at hx24_5);have hf24_5:=hfr24 5;(try simp only [show (k44).sz=7 from rfl,Nat.mul_one,Nat.add_zero] at hf24_5);clear hcl24 hcc24 hfr24 hM24)|((with_reducible refine gate_store (t:=3) (p:=55) rfl ?_);refine store_event (t:=3) (p:=55) (v:=?vo_w25) (w1:=(w23.setCell ⟨go5,(x5_1:Int).toNat * 7+5,none⟩ (.int .i64 (wrap64 ((wrap64 ((wrap64 ((wrap64 ((wrap64 (x1_1+1))+1))+1))+1))+1))))) ?hg ?ho ?hn ?hr ?_;(case ho=>rfl);(case hg=>rfl);(case hn=>rfl);(case hr=>first|(go_simp;done)|(go_simp;rfl));intro w25 hw;have hg:w23.grownBy w25 (some go5):=(by rw [hw];exact HP24.2);have hp_:Kd.R k44 44 w25 w0.heap.size (fun k_=>(P0_ k_∨w.heap.size≤k_)) (.slice (some ⟨go5,0,none⟩) x0_1.length co13) y571:=(by rw [hw,Ny571.out];exact HP24.1);clear HP24;have n0_:=a_ (hp_);have n1_:=a_ ((by rw [hw];exact wS_ (HB.out) GB5.out:Below w0.heap.size w0 w25));have n2_:=a_ (Kept.of_grown (S:=(fun k_=>P0_ k_)) hg (by repeat (first|(with_reducible first|exact HK.out|apply Kept.alloc|apply Kept.drewN|apply Kept.drew)|exact HK.out)) (fun k_ e_=>(HO_0.out.1 k_ e_)));clear HO_0;clear HB;clear HK;have HO_0:=n0_;have HB:=n1_;have HK:=n2_;clear n0_ n1_ n2_;clear hg hw hp_)|((with_reducible refine gC_ (f:=103) rfl ?_);refine gl_ 61 Tryd.func103 #[.int .i64 (wrap64 ((wrap64 ((wrap64 ((wrap64 ((wrap64 ((wrap64 (x1_1+1))+1))+1))+1))+1))+1))] ?_;(with_reducible refine (laws_markText.calls k1 (wrap64 ((wrap64 ((wrap64 ((wrap64 ((wrap64 ((wrap64 (x1_1+1))+1))+1))+1))+1))+1)) t572 _ A11.out).mono ?_);rintro e w26 ⟨rfl,hb⟩;refine ⟨_,rfl,?_⟩;replace HO_0:=a_ (Kd.R_below (rp_ HO_0.out) hb);replace HK:=a_ (Kept.below (S:=(fun k_=>P0_ k_)) (by repeat (first|(with_reducible first|exact HK.out|apply Kept.alloc|apply Kept.drewN|apply Kept.drew)|exact HK.out)) hb);replace HB:=a_ (bS_ (bel_) hb);(try clear hb);have p12:0≤(x5_1:Int):=od_;have q12:(x5_1:Int) < ((x0_1.length:Int):Int):=od_;obtain ⟨ce12,hcl12,hM12,hcc12,hfr12⟩:=Kd.R_elem HO_0.out z44 (x5_1:Int) p12 q12;obtain rfl:=k44_openM hM12;have hx12_0:w26.cell? ⟨go5,(x5_1:Int).toNat * 7,none⟩=some (.int .i64 ((rd_T44 y571 x5_1).f0)):=hcc12 0 _ rfl;have hx12_1:w26.cell? ⟨go5,(x5_1:Int).toNat * 7+1,none⟩=some (.int .i64 ((rd_T44 y571 x5_1).f1)):=hcc12 1 _ rfl;have hx12_2:w26.cell? ⟨go5,(x5_1:Int).toNat * 7+2,none⟩=some (.int .i64 ((rd_T44 y571 x5_1).f2.f0)):=hcc12 2 _ rfl;have hx12_3:w26.cell? ⟨go5,(x5_1:Int).toNat * 7+3,none⟩=some (.int .i64 ((rd_T44 y571 x5_1).f2.f1)):=hcc12 3 _ rfl;have hx12_4:w26.cell? ⟨go5,(x5_1:Int).toNat * 7+4,none⟩=some (.int .i64 ((rd_T44 y571 x5_1).f2.f2)):=hcc12 4 _ rfl;have hx12_5:w26.cell? ⟨go5,(x5_1:Int).toNat * 7+5,none⟩=some (.int .i64 ((rd_T44 y571 x5_1).f2.f3)):=hcc12 5 _ rfl;have hx12_6:w26.cell? ⟨go5,(x5_1:Int).toNat * 7+6,none⟩=some (.string ((rd_T44 y571 x5_1).f2.f4)):=hcc12 6 _ rfl;have hf12_0:w26.frozen? ⟨go5,(x5_1:Int).toNat * 7,none⟩=false:=hfr12 0;have hf12_1:w26.frozen? ⟨go5,(x5_1:Int).toNat * 7+1,none⟩=false:=hfr12 1;have hf12_2:w26.frozen? ⟨go5,(x5_1:Int).toNat * 7+2,none⟩=false:=hfr12 2;have hf12_3:w26.frozen? ⟨go5,(x5_1:Int).toNat * 7+3,none⟩=false:=hfr12 3;have hf12_4:w26.frozen? ⟨go5,(x5_1:Int).toNat * 7+4,none⟩=false:=hfr12 4;have hf12_5:w26.frozen? ⟨go5,(x5_1:Int).toNat * 7+5,none⟩=false:=hfr12 5;have hf12_6:w26.frozen? ⟨go5,(x5_1:Int).toNat * 7+6,none⟩=false:=hfr12 6;clear hcl12 hcc12 hfr12 hM12;replace p12:=eq_true p12;replace q12:=eq_true q12;have HX27:=a_ (show Kd.R k44 44 w26 w0.heap.size (fun k_=>(P0_ k_∨w.heap.size≤k_)) (.slice (some ⟨go5,0,none⟩) x0_1.length co13) y571 from (rp_ HO_0.out));obtain ⟨ce27,hcl27,hM27,hcc27,hfr27⟩:=Kd.R_elem HX27.out z44 (x5_1:Int) (od_) (by have h_:(x5_1:Int) < ((x0_1.length:Int):Int):=od_;first|exact h_|(have e_:=(Kd.R_reads' HO_0.out).1;omega)|simpa using h_);obtain rfl:=k44_openM hM27;have HP27:=Kd.R_seg HX27.out (x5_1:Int) (od_) (by have h_:(x5_1:Int) < ((x0_1.length:Int):Int):=od_;first|exact h_|(have e_:=(Kd.R_reads' HO_0.out).1;omega)|simpa using h_) (seg:=[.string t572]) (j:=6) hcl27 hcc27 (show 7≤7 from by decide) (x':=(⟨(rd_T44 y571 x5_1).f0,(rd_T44 y571 x5_1).f1,(⟨(rd_T44 y571 x5_1).f2.f0,(rd_T44 y571 x5_1).f2.f1,(rd_T44 y571 x5_1).f2.f2,(rd_T44 y571 x5_1).f2.f3,t572⟩:S42)⟩:S44)) (k44_mkM _ _ _ (⟨(rd_T44 y571 x5_1).f0,(rd_T44 y571 x5_1).f1,(⟨(rd_T44 y571 x5_1).f2.f0,(rd_T44 y571 x5_1).f2.f1,(rd_T44 y571 x5_1).f2.f2,(rd_T44 y571 x5_1).f2.f3,t572⟩:S42)⟩:S44) ) (fun _ hk=>hk);have hx27_6:=hcc27 6 _ rfl;(try simp only [show (k44).sz=7 from rfl,Nat.mul_one,Nat.add_zero] at hx27_6);have hf27_6:=hfr27 6;(try simp only [show (k44).sz=7 from rfl,Nat.mul_one,Nat.add_zero] at hf27_6);clear hcl27 hcc27 hfr27 hM27)|((with_reducible refine gate_store (t:=9) (p:=64) rfl ?_);refine store_event (t:=9) (p:=64) (v:=?vo_w28) (w1:=(w26.setCell ⟨go5,(x5_1:Int).toNat * 7+6,none⟩ (.string t572))) ?hg ?ho ?hn ?hr ?_;(case ho=>rfl);(case hg=>rfl);(case hn=>rfl);(case hr=>first|(go_simp;done)|(go_simp;rfl));intro w28 hw;have hg:w26.grownBy w28 (some go5):=(by rw [hw];exact HP27.2);have hp_:Kd.R k44 44 w28 w0.heap.size (fun k_=>(P0_ k_∨w.heap.size≤k_)) (.slice (some ⟨go5,0,none⟩) x0_1.length co13) y573:=(by rw [hw,Ny573.out];exact HP27.1);clear HP27;have n0_:=a_ (hp_);have n1_:=a_ ((by rw [hw];exact wS_ (HB.out) GB5.out:Below w0.heap.size w0 w28));have n2_:=a_ (Kept.of_grown (S:=(fun k_=>P0_ k_)) hg (by repeat (first|(with_reducible first|exact HK.out|apply Kept.alloc|apply Kept.drewN|apply Kept.drew)|exact HK.out)) (fun k_ e_=>(HO_0.out.1 k_ e_)));clear HO_0;clear HB;clear HK;have HO_0:=n0_;have HB:=n1_;have HK:=n2_;clear n0_ n1_ n2_;clear hg hw hp_))
     go_roundg k1
     case measure=>have:=HK1.out;omega
     case rel=>exact ⟨(y573),(wrap64 ((wrap64 ((wrap64 ((wrap64 ((wrap64 ((wrap64 ((wrap64 (x1_1+1))+1))+1))+1))+1))+1))+1)),(wrap64 (x5_1+1)),(si_),(si_),H',⟨by have:=HK1.out;omega⟩,⟨by (with_reducible repeat (first|apply Kd.R_alloc|apply Kd.R_drewN|apply Kd.R_drew));exact HO_0.out⟩,⟨by repeat (first|(with_reducible first|exact HK.out|apply Kept.alloc|apply Kept.drewN|apply Kept.drew)|exact HK.out)⟩,⟨bel_⟩⟩
    ·rw [if_neg c4] at H
     exact absurd H (by simp)
   ·rw [if_neg c3] at H
    have c3b0:decide (x5_1 < (x0_1.length:Int))=false:=df_ c3
    clear c3
    simp only [Option.some.injEq,Prod.mk.injEq] at H
    obtain ⟨rfl,rfl⟩:=H
    obtain ⟨Ao29,co29,eo29⟩:=Kd.R_slice HO_0.out
    subst eo29
    go_wp2
    go_ret
    exact ⟨fi_,by (with_reducible repeat (first|apply Kd.R_alloc|apply Kd.R_drewN|apply Kd.R_drew));exact HO_0.out,bel_,by repeat (first|(with_reducible first|exact HK.out|apply Kept.alloc|apply Kept.drewN|apply Kept.drew)|exact HK.out)⟩

def laws_markServer.f (k:Nat) (l0_0:List (S44)) (a0_1:Int) (a0_2:Bool) (a1:Int):Option (Int×(List (S44))):=(laws_markEntryS.f k l0_0 a1).bind fun bt575=>(some (bt575.1,bt575.2))
theorem laws_markServer.mono:∀ a0 a1 a2 a3 k,LeO (laws_markServer.f k a0 a1 a2 a3) (laws_markServer.f (k+1) a0 a1 a2 a3):=by
 intro a0 a1 a2 a3 k
 unfold laws_markServer.f
 repeat' first
   | (with_reducible exact laws_markEntryS.mono _ _ _)
   | (with_reducible exact LeO.refl _)
   | (with_reducible exact LeO.none _)
   | (with_reducible refine LeO.ite ?_ ?_)
   | (with_reducible refine LeO.bind ?_ (fun _=>?_))
   | exact laws_markEntryS.mono _ _ _
   | exact LeO.none _
   | refine LeO.ite ?_ ?_
   | refine LeO.bind ?_ (fun _=>?_)
theorem laws_markServer.calls (k:Nat) (P0_0_:Nat→Prop) (u9000_:Value) (l0_0:List (S44)) (a0_1:Int) (a0_2:Bool) (a1:Int) (r1:Int) (r2:List (S44)) (w0 w:World) (hB:Below w0.heap.size w0 w) (ho0_0:Kd.R k44 44 w w0.heap.size P0_0_ u9000_ l0_0) (h:laws_markServer.f k l0_0 a0_1 a0_2 a1=some (r1,r2)) :
  Calls Tryd.prog 26 #[.agg #[u9000_,.int .i64 a0_1,.bool a0_2],.int .i64 a1] w fun e w'=>e=.returned (.int .i64 r1)∧Kd.R k44 44 w' w0.heap.size (fun k_=>(P0_0_ k_∨w.heap.size≤k_)) u9000_ r2∧Below w0.heap.size w0 w'∧Kept w w' (fun k_=>P0_0_ k_):=by
 have hu25:=Tryd.underlying25
 have HO0_0:=a_ (show Kd.R k44 44 w w0.heap.size (fun k_=>(P0_0_ k_∨w.heap.size≤k_)) u9000_ l0_0 from Kd.R_mono ho0_0 (fun k_ hk=>(.inl hk)))
 have HK:=a_ (Kept.refl w (fun k_=>P0_0_ k_))
 have HW0:=a_ hB.size
 have HB:=a_ hB
 clear hB
 unfold laws_markServer.f at h
 have H:=h
 clear h
 replace H:=bs_ H
 obtain ⟨⟨t575,t576⟩,A30,H⟩:=H
 try dsimp only at H
 have A3:=a_ A30
 clear A30
 simp only [Option.some.injEq,Prod.mk.injEq] at H
 obtain ⟨rfl,rfl⟩:=H
 obtain ⟨Ao4,co4,eo4⟩:=Kd.R_slice HO0_0.out
 subst eo4
 go_enter Tryd.func26,Tryd.ntmps26
 go_wp2_with (first|((with_reducible refine gD_ (N:=2) rfl ?_);refine bx_ 2 (#[.slice Ao4 l0_0.length co4,.int .i64 a0_1,.bool a0_2]) 25 ?_;intro gb574 hg w5 hbox hb;have n0_:=a_ (Kd.R_below (rp_ HO0_0.out) hb);have n1_:=a_ (Kept.below (S:=(fun k_=>P0_0_ k_)) (by repeat (first|(with_reducible first|exact HK.out|apply Kept.alloc|apply Kept.drewN|apply Kept.drew)|exact HK.out)) hb);have n2_:=a_ (bS_ (bel_) hb);have n3_:=a_ (hbox);have n4_:=a_ ((by rw [hg];exact (by first|exact HK.out.1|exact (show Kept w _ (fun k_=>P0_0_ k_) from by repeat (first|(with_reducible first|exact HK.out|apply Kept.alloc|apply Kept.drewN|apply Kept.drew)|exact HK.out)).1):w.heap.size≤gb574));have n5_:=a_ ((by rw [hg];exact (below_size (bel_)):w0.heap.size≤gb574));clear HO0_0;clear HK;clear HB;have HO0_0:=n0_;have HK:=n1_;have HB:=n2_;have BK574:=n3_;have GW574:=n4_;have GE574:=n5_;clear n0_ n1_ n2_ n3_ n4_ n5_;clear hb hbox hg;have Z6_0:=cz_ BK574.out 0 (.slice Ao4 l0_0.length co4);have Z6_1:=cz_ BK574.out 1 (.int .i64 a0_1);have Z6_2:=cz_ BK574.out 2 (.bool a0_2);have Y6_0:=bF_ BK574.out 0;have Y6_1:=bF_ BK574.out 1;have Y6_2:=bF_ BK574.out 2)|((with_reducible refine gC_ (f:=53) rfl ?_);refine gl_ 8 Tryd.func53 #[.slice Ao4 l0_0.length co4,.int .i64 a1] ?_;(with_reducible refine (laws_markEntryS.calls k (fun k_=>some k_=(.slice Ao4 l0_0.length co4:Value).ownBlock) (.slice Ao4 l0_0.length co4) l0_0 a1 t575 t576 w0 _ ?side1 ?side2 A3.out).mono ?_);(case side1=>exact bel_);(case side2=>exact Kd.R_tight rfl HO0_0.out);rintro e w7 ⟨rfl,hy0,hb,hkp⟩;refine ⟨_,rfl,?_⟩;replace BK574:=a_ (blk_kept (bp_ BK574.out) hkp (fun hs_=>(fun e_=>(Kd.R_ne HO0_0.out BK574.out (by decide)) e_) hs_));replace HK:=a_ (Kept.then_ (S:=(fun k_=>P0_0_ k_)) (by repeat (first|(with_reducible first|exact HK.out|apply Kept.alloc|apply Kept.drewN|apply Kept.drew|refine Kept.setCell ?_ (.inr GW574.out) _)|exact HK.out)) hkp (fun k_ hs_=>(fun e_=>(HO0_0.out.1 k_ e_.symm)) hs_));replace HO0_0:=a_ (Kd.R_reok rfl hy0 (fun k_ e_=>HO0_0.out.1 k_ e_));replace HB:=a_ (hb);(try clear hb hkp hy0)))
 go_ret
 exact ⟨fi_,by (with_reducible repeat (first|apply Kd.R_alloc|apply Kd.R_drewN|apply Kd.R_drew));exact HO0_0.out,bel_,by repeat (first|(with_reducible first|exact HK.out|apply Kept.alloc|apply Kept.drewN|apply Kept.drew|refine Kept.setCell ?_ (.inr GW574.out) _)|exact HK.out)⟩

theorem eqA69 (d:Nat) (w:World) (x0 y0:Int) (x1 y1:Int) (x2 y2:ByteArray) :
  (Op.equalIn (d+2) 69 (.agg #[.int .i64 x0,.int .i64 x1,.string x2]) (.agg #[.int .i64 y0,.int .i64 y1,.string y2])).run Tryd.prog w=.ok (x0==y0&&(x1==y1&&(x2.toList==y2.toList))) w:=by
 refine eqA_of Tryd.underlying69 (by kernel_rfl) ?_
 refine eqf_cons (by rfl) (by go_simp;rfl) (by go_simp;rfl) (by go_simp) ?_
 refine eqf_cons (by rfl) (by go_simp;rfl) (by go_simp;rfl) (by go_simp) ?_
 exact eqf_last (by rfl) (by go_simp;rfl) (by go_simp;rfl) (by go_simp)
def laws_heldEntryS.l0:Nat→List (S44)→Int→Int→Option (Int)
 | 0,_,_,_=>none
 | k+1,x0,x1,x5=>if x5 < (x0.length:Int) then (if 0≤x5 then (if ((rd_T44 x0 x5).f0)=x1 then (if ((rd_T44 x0 x5).f1)=(wrap64 (x1+1)) then (if ((rd_T44 x0 x5).f2.f0)=(wrap64 ((wrap64 (x1+1))+1)) then (if ((rd_T44 x0 x5).f2.f1)=(wrap64 ((wrap64 ((wrap64 (x1+1))+1))+1)) then (if ((rd_T44 x0 x5).f2.f2)=(wrap64 ((wrap64 ((wrap64 ((wrap64 (x1+1))+1))+1))+1)) then (if ((rd_T44 x0 x5).f2.f3)=(wrap64 ((wrap64 ((wrap64 ((wrap64 ((wrap64 (x1+1))+1))+1))+1))+1)) then ((laws_markText.f k (wrap64 ((wrap64 ((wrap64 ((wrap64 ((wrap64 ((wrap64 (x1+1))+1))+1))+1))+1))+1))).bind fun t584=>(if ((rd_T44 x0 x5).f2.f4).toList=t584.toList then (laws_heldEntryS.l0 k x0 (wrap64 ((wrap64 ((wrap64 ((wrap64 ((wrap64 ((wrap64 ((wrap64 (x1+1))+1))+1))+1))+1))+1))+1)) (wrap64 (x5+1))) else (some (-1)))) else (some (-1))) else (some (-1))) else (some (-1))) else (some (-1))) else (some (-1))) else (some (-1))) else (none)) else (some x1)
def laws_heldEntryS.f (k:Nat) (l0:List (S44)) (a1:Int):Option (Int):=laws_heldEntryS.l0 k l0 a1 0
theorem laws_heldEntryS.mono_l:∀ k,(∀ y0 y1 y2,LeO (laws_heldEntryS.l0 k y0 y1 y2) (laws_heldEntryS.l0 (k+1) y0 y1 y2))
 | 0=>fun _ _ _ r h=>by simp [laws_heldEntryS.l0] at h
 | k+1=>by
  have ih0:=laws_heldEntryS.mono_l k
  ·intro y0 y1 y2
   unfold laws_heldEntryS.l0
   repeat' first
   | (with_reducible exact ih0 _ _ _)
   | (with_reducible exact laws_markText.mono _ _)
   | (with_reducible exact LeO.refl _)
   | (with_reducible exact LeO.none _)
   | (with_reducible refine LeO.ite ?_ ?_)
   | (with_reducible refine LeO.bind ?_ (fun _=>?_))
   | exact ih0 _ _ _
   | exact laws_markText.mono _ _
   | exact LeO.none _
   | refine LeO.ite ?_ ?_
   | refine LeO.bind ?_ (fun _=>?_)
theorem laws_heldEntryS.mono:∀ a0 a1 k,LeO (laws_heldEntryS.f k a0 a1) (laws_heldEntryS.f (k+1) a0 a1):=by
 intro a0 a1 k
 have ih0:=laws_heldEntryS.mono_l k
 unfold laws_heldEntryS.f
 repeat' first
   | (with_reducible exact ih0 _ _ _)
   | (with_reducible exact laws_markText.mono _ _)
   | (with_reducible exact LeO.refl _)
   | (with_reducible exact LeO.none _)
   | (with_reducible refine LeO.ite ?_ ?_)
   | (with_reducible refine LeO.bind ?_ (fun _=>?_))
   | exact ih0 _ _ _
   | exact laws_markText.mono _ _
   | exact LeO.none _
   | refine LeO.ite ?_ ?_
   | refine LeO.bind ?_ (fun _=>?_)
def laws_heldEntryS.T22:Bool×List (List Nat×List Nat):=(true,[([],[]),([],[]),([0,1],[0,1]),([2],[2]),([3],[3]),([4],[4]),([],[]),([6],[6]),([5,7],[5,7])])
def laws_heldEntryS.B22:List Nat:=[0,0,3,7,15,31,0,64,255]
theorem laws_heldEntryS.tab22:rtab .any (opsOf Tryd.f83 22)=laws_heldEntryS.T22:=by kernel_rfl
theorem laws_heldEntryS.bits22:waitsOk laws_heldEntryS.T22.2 laws_heldEntryS.B22=true:=by kernel_rfl
theorem laws_heldEntryS.calls (k:Nat) (A0:Option Addr) (c0:Nat) (l0:List (S44)) (a1:Int) (r:Int) (w:World) (hr0:Kd.C k44 w A0 l0.length l0) (hc0:l0.length≤c0) (h:laws_heldEntryS.f k l0 a1=some r) :
  Calls Tryd.prog 83 #[.slice A0 l0.length c0,.int .i64 a1] w fun e w'=>e=.returned (.int .i64 r)∧Below w.heap.size w w':=by
 have HR0:=a_ hr0
 have HC0:=a_ hc0
 clear hr0 hc0
 have HB:=a_ (Below.refl w.heap.size w)
 unfold laws_heldEntryS.f at h
 have H:=h
 clear h
 have H':=a_ H
 clear H
 go_enter Tryd.func83,Tryd.ntmps83
 go_wp2
 go_loopg [1,5] k (fun kq v1 v5 w'=>∃ (x1_1:Int) (x5_1:Int),v1=.int .i64 x1_1∧v5=.int .i64 x5_1∧Aside0 (laws_heldEntryS.l0 kq l0 x1_1 x5_1=some r)∧Aside0 (kq≤k)∧Aside0 (Below w.heap.size w w'))
 case atStart=>exact ⟨(a1),(0),(si_),(si_),H',⟨Nat.le_refl _⟩,⟨bel_⟩⟩
 case round =>
  clear H'
  try clear p2
  obtain ⟨x1_1,x5_1,rfl,rfl,HA,HK1,HB⟩:=hrel
  cases gk with
  | zero=>exact absurd HA.out (by simp [laws_heldEntryS.l0])
  | succ k1 =>
   have H:=HA.out
   clear HA
   simp only [laws_heldEntryS.l0] at H
   by_cases c3:x5_1 < (l0.length:Int)
   ·rw [if_pos c3] at H
    have c3b0:decide (x5_1 < (l0.length:Int))=true:=dt_ c3
    clear c3
    by_cases c4:0≤x5_1
    ·rw [if_pos c4] at H
     have c4b0:decide (0≤x5_1)=true:=dt_ c4
     clear c4
     by_cases c5:((rd_T44 l0 x5_1).f0)=x1_1
     ·rw [if_pos c5] at H
      have c5b0:(((rd_T44 l0 x5_1).f0)==x1_1)=true:=beq_iff_eq.mpr c5
      have c5b1:(((rd_T44 l0 x5_1).f0) != x1_1)=false:=be_ c5
      clear c5
      by_cases c6:((rd_T44 l0 x5_1).f1)=(wrap64 (x1_1+1))
      ·rw [if_pos c6] at H
       have c6b0:(((rd_T44 l0 x5_1).f1)==(wrap64 (x1_1+1)))=true:=beq_iff_eq.mpr c6
       have c6b1:(((rd_T44 l0 x5_1).f1) != (wrap64 (x1_1+1)))=false:=be_ c6
       clear c6
       by_cases c7:((rd_T44 l0 x5_1).f2.f0)=(wrap64 ((wrap64 (x1_1+1))+1))
       ·rw [if_pos c7] at H
        have c7b0:(((rd_T44 l0 x5_1).f2.f0)==(wrap64 ((wrap64 (x1_1+1))+1)))=true:=beq_iff_eq.mpr c7
        have c7b1:(((rd_T44 l0 x5_1).f2.f0) != (wrap64 ((wrap64 (x1_1+1))+1)))=false:=be_ c7
        clear c7
        by_cases c8:((rd_T44 l0 x5_1).f2.f1)=(wrap64 ((wrap64 ((wrap64 (x1_1+1))+1))+1))
        ·rw [if_pos c8] at H
         have c8b0:(((rd_T44 l0 x5_1).f2.f1)==(wrap64 ((wrap64 ((wrap64 (x1_1+1))+1))+1)))=true:=beq_iff_eq.mpr c8
         have c8b1:(((rd_T44 l0 x5_1).f2.f1) != (wrap64 ((wrap64 ((wrap64 (x1_1+1))+1))+1)))=false:=be_ c8
         clear c8
         by_cases c9:((rd_T44 l0 x5_1).f2.f2)=(wrap64 ((wrap64 ((wrap64 ((wrap64 (x1_1+1))+1))+1))+1))
         ·rw [if_pos c9] at H
          have c9b0:(((rd_T44 l0 x5_1).f2.f2)==(wrap64 ((wrap64 ((wrap64 ((wrap64 (x1_1+1))+1))+1))+1)))=true:=beq_iff_eq.mpr c9
          have c9b1:(((rd_T44 l0 x5_1).f2.f2) != (wrap64 ((wrap64 ((wrap64 ((wrap64 (x1_1+1))+1))+1))+1)))=false:=be_ c9
          clear c9
          by_cases c10:((rd_T44 l0 x5_1).f2.f3)=(wrap64 ((wrap64 ((wrap64 ((wrap64 ((wrap64 (x1_1+1))+1))+1))+1))+1))
          ·rw [if_pos c10] at H
           have c10b0:(((rd_T44 l0 x5_1).f2.f3)==(wrap64 ((wrap64 ((wrap64 ((wrap64 ((wrap64 (x1_1+1))+1))+1))+1))+1)))=true:=beq_iff_eq.mpr c10
           have c10b1:(((rd_T44 l0 x5_1).f2.f3) != (wrap64 ((wrap64 ((wrap64 ((wrap64 ((wrap64 (x1_1+1))+1))+1))+1))+1)))=false:=be_ c10
           clear c10
           replace H:=bs_ H
           obtain ⟨t584,A110,H⟩:=H
           try dsimp only at H
           have A11:=a_ A110
           clear A110
           by_cases c12:((rd_T44 l0 x5_1).f2.f4).toList=t584.toList
           ·rw [if_pos c12] at H
            have c12b0:(((rd_T44 l0 x5_1).f2.f4).toList==t584.toList)=true:=beq_iff_eq.mpr c12
            have c12b1:(((rd_T44 l0 x5_1).f2.f4).toList != t584.toList)=false:=be_ c12
            clear c12
            have H':=a_ H
            clear H
            have p577:0≤(x5_1:Int):=od_
            have q577:x5_1 < (l0.length:Int):=od_
            obtain ⟨ad577,e577,hx577_0,hx577_1,hx577_2,hx577_3,hx577_4,hx577_5,hx577_6⟩:=at_T44 HR0.out x5_1 p577 q577
            cases e577
            replace hx577_0:=(cb_ HB.out hx577_0 :)
            replace hx577_1:=(cb_ HB.out hx577_1 :)
            replace hx577_2:=(cb_ HB.out hx577_2 :)
            replace hx577_3:=(cb_ HB.out hx577_3 :)
            replace hx577_4:=(cb_ HB.out hx577_4 :)
            replace hx577_5:=(cb_ HB.out hx577_5 :)
            replace hx577_6:=(cb_ HB.out hx577_6 :)
            replace p577:=eq_true p577
            replace q577:=eq_true q577
            have p578:0≤(x5_1:Int):=od_
            have q578:x5_1 < (l0.length:Int):=od_
            obtain ⟨ad578,e578,hx578_0,hx578_1,hx578_2,hx578_3,hx578_4,hx578_5,hx578_6⟩:=at_T44 HR0.out x5_1 p578 q578
            obtain rfl:ad577=ad578:=(by injection e578)
            replace hx578_0:=(cb_ HB.out hx578_0 :)
            replace hx578_1:=(cb_ HB.out hx578_1 :)
            replace hx578_2:=(cb_ HB.out hx578_2 :)
            replace hx578_3:=(cb_ HB.out hx578_3 :)
            replace hx578_4:=(cb_ HB.out hx578_4 :)
            replace hx578_5:=(cb_ HB.out hx578_5 :)
            replace hx578_6:=(cb_ HB.out hx578_6 :)
            replace p578:=eq_true p578
            replace q578:=eq_true q578
            have p579:0≤(x5_1:Int):=od_
            have q579:x5_1 < (l0.length:Int):=od_
            obtain ⟨ad579,e579,hx579_0,hx579_1,hx579_2,hx579_3,hx579_4,hx579_5,hx579_6⟩:=at_T44 HR0.out x5_1 p579 q579
            obtain rfl:ad577=ad579:=(by injection e579)
            replace hx579_0:=(cb_ HB.out hx579_0 :)
            replace hx579_1:=(cb_ HB.out hx579_1 :)
            replace hx579_2:=(cb_ HB.out hx579_2 :)
            replace hx579_3:=(cb_ HB.out hx579_3 :)
            replace hx579_4:=(cb_ HB.out hx579_4 :)
            replace hx579_5:=(cb_ HB.out hx579_5 :)
            replace hx579_6:=(cb_ HB.out hx579_6 :)
            replace p579:=eq_true p579
            replace q579:=eq_true q579
            have p580:0≤(x5_1:Int):=od_
            have q580:x5_1 < (l0.length:Int):=od_
            obtain ⟨ad580,e580,hx580_0,hx580_1,hx580_2,hx580_3,hx580_4,hx580_5,hx580_6⟩:=at_T44 HR0.out x5_1 p580 q580
            obtain rfl:ad577=ad580:=(by injection e580)
            replace hx580_0:=(cb_ HB.out hx580_0 :)
            replace hx580_1:=(cb_ HB.out hx580_1 :)
            replace hx580_2:=(cb_ HB.out hx580_2 :)
            replace hx580_3:=(cb_ HB.out hx580_3 :)
            replace hx580_4:=(cb_ HB.out hx580_4 :)
            replace hx580_5:=(cb_ HB.out hx580_5 :)
            replace hx580_6:=(cb_ HB.out hx580_6 :)
            replace p580:=eq_true p580
            replace q580:=eq_true q580
            have p581:0≤(x5_1:Int):=od_
            have q581:x5_1 < (l0.length:Int):=od_
            obtain ⟨ad581,e581,hx581_0,hx581_1,hx581_2,hx581_3,hx581_4,hx581_5,hx581_6⟩:=at_T44 HR0.out x5_1 p581 q581
            obtain rfl:ad577=ad581:=(by injection e581)
            replace hx581_0:=(cb_ HB.out hx581_0 :)
            replace hx581_1:=(cb_ HB.out hx581_1 :)
            replace hx581_2:=(cb_ HB.out hx581_2 :)
            replace hx581_3:=(cb_ HB.out hx581_3 :)
            replace hx581_4:=(cb_ HB.out hx581_4 :)
            replace hx581_5:=(cb_ HB.out hx581_5 :)
            replace hx581_6:=(cb_ HB.out hx581_6 :)
            replace p581:=eq_true p581
            replace q581:=eq_true q581
            have p582:0≤(x5_1:Int):=od_
            have q582:x5_1 < (l0.length:Int):=od_
            obtain ⟨ad582,e582,hx582_0,hx582_1,hx582_2,hx582_3,hx582_4,hx582_5,hx582_6⟩:=at_T44 HR0.out x5_1 p582 q582
            obtain rfl:ad577=ad582:=(by injection e582)
            replace hx582_0:=(cb_ HB.out hx582_0 :)
            replace hx582_1:=(cb_ HB.out hx582_1 :)
            replace hx582_2:=(cb_ HB.out hx582_2 :)
            replace hx582_3:=(cb_ HB.out hx582_3 :)
            replace hx582_4:=(cb_ HB.out hx582_4 :)
            replace hx582_5:=(cb_ HB.out hx582_5 :)
            replace hx582_6:=(cb_ HB.out hx582_6 :)
            replace p582:=eq_true p582
            replace q582:=eq_true q582
            try go_wp2
            have n0_:=a_ (below_drew1 HB.out)
            clear HB
            have HB:=n0_
            clear n0_
            have p583:0≤(x5_1:Int):=od_
            have q583:x5_1 < (l0.length:Int):=od_
            obtain ⟨ad583,e583,hx583_0,hx583_1,hx583_2,hx583_3,hx583_4,hx583_5,hx583_6⟩:=at_T44 HR0.out x5_1 p583 q583
            have hw583_6:=hx583_6
            have hw583_5:=hx583_5
            have hw583_4:=hx583_4
            have hw583_3:=hx583_3
            have hw583_2:=hx583_2
            have hw583_1:=hx583_1
            have hw583_0:=hx583_0
            obtain rfl:ad577=ad583:=(by injection e583)
            replace hx583_0:=(cb_ HB.out hx583_0 :)
            replace hx583_1:=(cb_ HB.out hx583_1 :)
            replace hx583_2:=(cb_ HB.out hx583_2 :)
            replace hx583_3:=(cb_ HB.out hx583_3 :)
            replace hx583_4:=(cb_ HB.out hx583_4 :)
            replace hx583_5:=(cb_ HB.out hx583_5 :)
            replace hx583_6:=(cb_ HB.out hx583_6 :)
            replace p583:=eq_true p583
            replace q583:=eq_true q583
            refine start_ (n:=9) (S:=fun w'=>w'.cell? (ad577.add ((x5_1).toNat * 7))=some (.int .i64 ((rd_T44 l0 x5_1).f0))∧w'.cell? ⟨(ad577.add ((x5_1).toNat * 7)).block,(ad577.add ((x5_1).toNat * 7)).off+1,none⟩=some (.int .i64 ((rd_T44 l0 x5_1).f1))∧w'.cell? ⟨(ad577.add ((x5_1).toNat * 7)).block,(ad577.add ((x5_1).toNat * 7)).off+2,none⟩=some (.int .i64 ((rd_T44 l0 x5_1).f2.f0))∧w'.cell? ⟨(ad577.add ((x5_1).toNat * 7)).block,(ad577.add ((x5_1).toNat * 7)).off+3,none⟩=some (.int .i64 ((rd_T44 l0 x5_1).f2.f1))∧w'.cell? ⟨(ad577.add ((x5_1).toNat * 7)).block,(ad577.add ((x5_1).toNat * 7)).off+4,none⟩=some (.int .i64 ((rd_T44 l0 x5_1).f2.f2))∧w'.cell? ⟨(ad577.add ((x5_1).toNat * 7)).block,(ad577.add ((x5_1).toNat * 7)).off+5,none⟩=some (.int .i64 ((rd_T44 l0 x5_1).f2.f3))∧w'.cell? ⟨(ad577.add ((x5_1).toNat * 7)).block,(ad577.add ((x5_1).toNat * 7)).off+6,none⟩=some (.string ((rd_T44 l0 x5_1).f2.f4))) (ds:=[]) #[false,false,false,false,false,false,false,false,false] (by kernel_rfl) rfl rfl ⟨((cb_ HB.out hw583_0 :)),((cb_ HB.out hw583_1 :)),((cb_ HB.out hw583_2 :)),((cb_ HB.out hw583_3 :)),((cb_ HB.out hw583_4 :)),((cb_ HB.out hw583_5 :)),((cb_ HB.out hw583_6 :))⟩ (fun hHeld=>?_);refine with_tabW laws_heldEntryS.tab22 laws_heldEntryS.bits22 (fun HT_ HW_=>?_)
            generalize wr.drew=w13 at HB hx583_0 hx583_1 hx583_2 hx583_3 hx583_4 hx583_5 hx583_6 hHeld ⊢
            refine pa_ 0 70 ?_
            refine pa_ 1 71 ?_
            refine pa_ 2 72 ?_
            refine pa_ 3 73 ?_
            refine pa_ 4 74 ?_
            refine pa_ 6 76 ?_
            refine ta7_ 5 75 hHeld ?_
            refine on_ 7 77 (fun K hK=>?_)
            refine goes_ Tryd.func103 (by kernel_rfl) rfl #[.int .i64 (wrap64 ((wrap64 ((wrap64 ((wrap64 ((wrap64 ((wrap64 (x1_1+1))+1))+1))+1))+1))+1))] (by rfl) rfl rfl ar_ ?_
            with_reducible refine (laws_markText.calls k1 (wrap64 ((wrap64 ((wrap64 ((wrap64 ((wrap64 ((wrap64 (x1_1+1))+1))+1))+1))+1))+1)) t584 _ A11.out).mono ?_
            rintro e w14 ⟨rfl,hb⟩
            refine ⟨_,rfl,?_⟩
            have n0_:=a_ (bS_ (bel_) hb)
            clear HB
            have HB:=n0_
            clear n0_
            (try clear hb)
            (try clear hb2)
            (try clear hk)
            (try clear hi)
            refine hK.out _ _ ⟨((cb_ HB.out hw583_0 :)),((cb_ HB.out hw583_1 :)),((cb_ HB.out hw583_2 :)),((cb_ HB.out hw583_3 :)),((cb_ HB.out hw583_4 :)),((cb_ HB.out hw583_5 :)),((cb_ HB.out hw583_6 :))⟩ (fun hHeld=>?_)
            clear hK K
            refine no_ 77 ?_
            refine pa_ 8 78 ?_
            refine done_ (done_of HT_.out (by kernel_rfl)) ?_
            try go_wp2
            go_roundg k1
            case measure=>have:=HK1.out;omega
            case rel=>exact ⟨(wrap64 ((wrap64 ((wrap64 ((wrap64 ((wrap64 ((wrap64 ((wrap64 (x1_1+1))+1))+1))+1))+1))+1))+1)),(wrap64 (x5_1+1)),(si_),(si_),H',⟨by have:=HK1.out;omega⟩,⟨bel_⟩⟩
           ·rw [if_neg c12] at H
            have c12b0:(((rd_T44 l0 x5_1).f2.f4).toList==t584.toList)=false:=bn_ c12
            have c12b1:(((rd_T44 l0 x5_1).f2.f4).toList != t584.toList)=true:=bne_iff_ne.mpr c12
            obtain rfl:=sj_ H
            have p577:0≤(x5_1:Int):=od_
            have q577:x5_1 < (l0.length:Int):=od_
            obtain ⟨ad577,e577,hx577_0,hx577_1,hx577_2,hx577_3,hx577_4,hx577_5,hx577_6⟩:=at_T44 HR0.out x5_1 p577 q577
            cases e577
            replace hx577_0:=(cb_ HB.out hx577_0 :)
            replace hx577_1:=(cb_ HB.out hx577_1 :)
            replace hx577_2:=(cb_ HB.out hx577_2 :)
            replace hx577_3:=(cb_ HB.out hx577_3 :)
            replace hx577_4:=(cb_ HB.out hx577_4 :)
            replace hx577_5:=(cb_ HB.out hx577_5 :)
            replace hx577_6:=(cb_ HB.out hx577_6 :)
            replace p577:=eq_true p577
            replace q577:=eq_true q577
            have p578:0≤(x5_1:Int):=od_
            have q578:x5_1 < (l0.length:Int):=od_
            obtain ⟨ad578,e578,hx578_0,hx578_1,hx578_2,hx578_3,hx578_4,hx578_5,hx578_6⟩:=at_T44 HR0.out x5_1 p578 q578
            obtain rfl:ad577=ad578:=(by injection e578)
            replace hx578_0:=(cb_ HB.out hx578_0 :)
            replace hx578_1:=(cb_ HB.out hx578_1 :)
            replace hx578_2:=(cb_ HB.out hx578_2 :)
            replace hx578_3:=(cb_ HB.out hx578_3 :)
            replace hx578_4:=(cb_ HB.out hx578_4 :)
            replace hx578_5:=(cb_ HB.out hx578_5 :)
            replace hx578_6:=(cb_ HB.out hx578_6 :)
            replace p578:=eq_true p578
            replace q578:=eq_true q578
            have p579:0≤(x5_1:Int):=od_
            have q579:x5_1 < (l0.length:Int):=od_
            obtain ⟨ad579,e579,hx579_0,hx579_1,hx579_2,hx579_3,hx579_4,hx579_5,hx579_6⟩:=at_T44 HR0.out x5_1 p579 q579
            obtain rfl:ad577=ad579:=(by injection e579)
            replace hx579_0:=(cb_ HB.out hx579_0 :)
            replace hx579_1:=(cb_ HB.out hx579_1 :)
            replace hx579_2:=(cb_ HB.out hx579_2 :)
            replace hx579_3:=(cb_ HB.out hx579_3 :)
            replace hx579_4:=(cb_ HB.out hx579_4 :)
            replace hx579_5:=(cb_ HB.out hx579_5 :)
            replace hx579_6:=(cb_ HB.out hx579_6 :)
            replace p579:=eq_true p579
            replace q579:=eq_true q579
            have p580:0≤(x5_1:Int):=od_
            have q580:x5_1 < (l0.length:Int):=od_
            obtain ⟨ad580,e580,hx580_0,hx580_1,hx580_2,hx580_3,hx580_4,hx580_5,hx580_6⟩:=at_T44 HR0.out x5_1 p580 q580
            obtain rfl:ad577=ad580:=(by injection e580)
            replace hx580_0:=(cb_ HB.out hx580_0 :)
            replace hx580_1:=(cb_ HB.out hx580_1 :)
            replace hx580_2:=(cb_ HB.out hx580_2 :)
            replace hx580_3:=(cb_ HB.out hx580_3 :)
            replace hx580_4:=(cb_ HB.out hx580_4 :)
            replace hx580_5:=(cb_ HB.out hx580_5 :)
            replace hx580_6:=(cb_ HB.out hx580_6 :)
            replace p580:=eq_true p580
            replace q580:=eq_true q580
            have p581:0≤(x5_1:Int):=od_
            have q581:x5_1 < (l0.length:Int):=od_
            obtain ⟨ad581,e581,hx581_0,hx581_1,hx581_2,hx581_3,hx581_4,hx581_5,hx581_6⟩:=at_T44 HR0.out x5_1 p581 q581
            obtain rfl:ad577=ad581:=(by injection e581)
            replace hx581_0:=(cb_ HB.out hx581_0 :)
            replace hx581_1:=(cb_ HB.out hx581_1 :)
            replace hx581_2:=(cb_ HB.out hx581_2 :)
            replace hx581_3:=(cb_ HB.out hx581_3 :)
            replace hx581_4:=(cb_ HB.out hx581_4 :)
            replace hx581_5:=(cb_ HB.out hx581_5 :)
            replace hx581_6:=(cb_ HB.out hx581_6 :)
            replace p581:=eq_true p581
            replace q581:=eq_true q581
            have p582:0≤(x5_1:Int):=od_
            have q582:x5_1 < (l0.length:Int):=od_
            obtain ⟨ad582,e582,hx582_0,hx582_1,hx582_2,hx582_3,hx582_4,hx582_5,hx582_6⟩:=at_T44 HR0.out x5_1 p582 q582
            obtain rfl:ad577=ad582:=(by injection e582)
            replace hx582_0:=(cb_ HB.out hx582_0 :)
            replace hx582_1:=(cb_ HB.out hx582_1 :)
            replace hx582_2:=(cb_ HB.out hx582_2 :)
            replace hx582_3:=(cb_ HB.out hx582_3 :)
            replace hx582_4:=(cb_ HB.out hx582_4 :)
            replace hx582_5:=(cb_ HB.out hx582_5 :)
            replace hx582_6:=(cb_ HB.out hx582_6 :)
            replace p582:=eq_true p582
            replace q582:=eq_true q582
            try go_wp2
            have n0_:=a_ (below_drew1 HB.out)
            clear HB
            have HB:=n0_
            clear n0_
            have p583:0≤(x5_1:Int):=od_
            have q583:x5_1 < (l0.length:Int):=od_
            obtain ⟨ad583,e583,hx583_0,hx583_1,hx583_2,hx583_3,hx583_4,hx583_5,hx583_6⟩:=at_T44 HR0.out x5_1 p583 q583
            have hw583_6:=hx583_6
            have hw583_5:=hx583_5
            have hw583_4:=hx583_4
            have hw583_3:=hx583_3
            have hw583_2:=hx583_2
            have hw583_1:=hx583_1
            have hw583_0:=hx583_0
            obtain rfl:ad577=ad583:=(by injection e583)
            replace hx583_0:=(cb_ HB.out hx583_0 :)
            replace hx583_1:=(cb_ HB.out hx583_1 :)
            replace hx583_2:=(cb_ HB.out hx583_2 :)
            replace hx583_3:=(cb_ HB.out hx583_3 :)
            replace hx583_4:=(cb_ HB.out hx583_4 :)
            replace hx583_5:=(cb_ HB.out hx583_5 :)
            replace hx583_6:=(cb_ HB.out hx583_6 :)
            replace p583:=eq_true p583
            replace q583:=eq_true q583
            refine start_ (n:=9) (S:=fun w'=>w'.cell? (ad577.add ((x5_1).toNat * 7))=some (.int .i64 ((rd_T44 l0 x5_1).f0))∧w'.cell? ⟨(ad577.add ((x5_1).toNat * 7)).block,(ad577.add ((x5_1).toNat * 7)).off+1,none⟩=some (.int .i64 ((rd_T44 l0 x5_1).f1))∧w'.cell? ⟨(ad577.add ((x5_1).toNat * 7)).block,(ad577.add ((x5_1).toNat * 7)).off+2,none⟩=some (.int .i64 ((rd_T44 l0 x5_1).f2.f0))∧w'.cell? ⟨(ad577.add ((x5_1).toNat * 7)).block,(ad577.add ((x5_1).toNat * 7)).off+3,none⟩=some (.int .i64 ((rd_T44 l0 x5_1).f2.f1))∧w'.cell? ⟨(ad577.add ((x5_1).toNat * 7)).block,(ad577.add ((x5_1).toNat * 7)).off+4,none⟩=some (.int .i64 ((rd_T44 l0 x5_1).f2.f2))∧w'.cell? ⟨(ad577.add ((x5_1).toNat * 7)).block,(ad577.add ((x5_1).toNat * 7)).off+5,none⟩=some (.int .i64 ((rd_T44 l0 x5_1).f2.f3))∧w'.cell? ⟨(ad577.add ((x5_1).toNat * 7)).block,(ad577.add ((x5_1).toNat * 7)).off+6,none⟩=some (.string ((rd_T44 l0 x5_1).f2.f4))) (ds:=[]) #[false,false,false,false,false,false,false,false,false] (by kernel_rfl) rfl rfl ⟨((cb_ HB.out hw583_0 :)),((cb_ HB.out hw583_1 :)),((cb_ HB.out hw583_2 :)),((cb_ HB.out hw583_3 :)),((cb_ HB.out hw583_4 :)),((cb_ HB.out hw583_5 :)),((cb_ HB.out hw583_6 :))⟩ (fun hHeld=>?_);refine with_tabW laws_heldEntryS.tab22 laws_heldEntryS.bits22 (fun HT_ HW_=>?_)
            generalize wr.drew=w15 at HB hx583_0 hx583_1 hx583_2 hx583_3 hx583_4 hx583_5 hx583_6 hHeld ⊢
            refine pa_ 0 70 ?_
            refine pa_ 1 71 ?_
            refine pa_ 2 72 ?_
            refine pa_ 3 73 ?_
            refine pa_ 4 74 ?_
            refine pa_ 6 76 ?_
            refine ta7_ 5 75 hHeld ?_
            refine on_ 7 77 (fun K hK=>?_)
            refine goes_ Tryd.func103 (by kernel_rfl) rfl #[.int .i64 (wrap64 ((wrap64 ((wrap64 ((wrap64 ((wrap64 ((wrap64 (x1_1+1))+1))+1))+1))+1))+1))] (by rfl) rfl rfl ar_ ?_
            with_reducible refine (laws_markText.calls k1 (wrap64 ((wrap64 ((wrap64 ((wrap64 ((wrap64 ((wrap64 (x1_1+1))+1))+1))+1))+1))+1)) t584 _ A11.out).mono ?_
            rintro e w16 ⟨rfl,hb⟩
            refine ⟨_,rfl,?_⟩
            have n0_:=a_ (bS_ (bel_) hb)
            clear HB
            have HB:=n0_
            clear n0_
            (try clear hb)
            (try clear hb2)
            (try clear hk)
            (try clear hi)
            refine hK.out _ _ ⟨((cb_ HB.out hw583_0 :)),((cb_ HB.out hw583_1 :)),((cb_ HB.out hw583_2 :)),((cb_ HB.out hw583_3 :)),((cb_ HB.out hw583_4 :)),((cb_ HB.out hw583_5 :)),((cb_ HB.out hw583_6 :))⟩ (fun hHeld=>?_)
            clear hK K
            refine no_ 77 ?_
            refine pa_ 8 78 ?_
            refine done_ (done_of HT_.out (by kernel_rfl)) ?_
            try go_wp2
            go_ret
            exact ⟨fi_,bel_⟩
          ·rw [if_neg c10] at H
           have c10b0:(((rd_T44 l0 x5_1).f2.f3)==(wrap64 ((wrap64 ((wrap64 ((wrap64 ((wrap64 (x1_1+1))+1))+1))+1))+1)))=false:=bn_ c10
           have c10b1:(((rd_T44 l0 x5_1).f2.f3) != (wrap64 ((wrap64 ((wrap64 ((wrap64 ((wrap64 (x1_1+1))+1))+1))+1))+1)))=true:=bne_iff_ne.mpr c10
           obtain rfl:=sj_ H
           have p577:0≤(x5_1:Int):=od_
           have q577:x5_1 < (l0.length:Int):=od_
           obtain ⟨ad577,e577,hx577_0,hx577_1,hx577_2,hx577_3,hx577_4,hx577_5,hx577_6⟩:=at_T44 HR0.out x5_1 p577 q577
           cases e577
           replace hx577_0:=(cb_ HB.out hx577_0 :)
           replace hx577_1:=(cb_ HB.out hx577_1 :)
           replace hx577_2:=(cb_ HB.out hx577_2 :)
           replace hx577_3:=(cb_ HB.out hx577_3 :)
           replace hx577_4:=(cb_ HB.out hx577_4 :)
           replace hx577_5:=(cb_ HB.out hx577_5 :)
           replace hx577_6:=(cb_ HB.out hx577_6 :)
           replace p577:=eq_true p577
           replace q577:=eq_true q577
           have p578:0≤(x5_1:Int):=od_
           have q578:x5_1 < (l0.length:Int):=od_
           obtain ⟨ad578,e578,hx578_0,hx578_1,hx578_2,hx578_3,hx578_4,hx578_5,hx578_6⟩:=at_T44 HR0.out x5_1 p578 q578
           obtain rfl:ad577=ad578:=(by injection e578)
           replace hx578_0:=(cb_ HB.out hx578_0 :)
           replace hx578_1:=(cb_ HB.out hx578_1 :)
           replace hx578_2:=(cb_ HB.out hx578_2 :)
           replace hx578_3:=(cb_ HB.out hx578_3 :)
           replace hx578_4:=(cb_ HB.out hx578_4 :)
           replace hx578_5:=(cb_ HB.out hx578_5 :)
           replace hx578_6:=(cb_ HB.out hx578_6 :)
           replace p578:=eq_true p578
           replace q578:=eq_true q578
           have p579:0≤(x5_1:Int):=od_
           have q579:x5_1 < (l0.length:Int):=od_
           obtain ⟨ad579,e579,hx579_0,hx579_1,hx579_2,hx579_3,hx579_4,hx579_5,hx579_6⟩:=at_T44 HR0.out x5_1 p579 q579
           obtain rfl:ad577=ad579:=(by injection e579)
           replace hx579_0:=(cb_ HB.out hx579_0 :)
           replace hx579_1:=(cb_ HB.out hx579_1 :)
           replace hx579_2:=(cb_ HB.out hx579_2 :)
           replace hx579_3:=(cb_ HB.out hx579_3 :)
           replace hx579_4:=(cb_ HB.out hx579_4 :)
           replace hx579_5:=(cb_ HB.out hx579_5 :)
           replace hx579_6:=(cb_ HB.out hx579_6 :)
           replace p579:=eq_true p579
           replace q579:=eq_true q579
           have p580:0≤(x5_1:Int):=od_
           have q580:x5_1 < (l0.length:Int):=od_
           obtain ⟨ad580,e580,hx580_0,hx580_1,hx580_2,hx580_3,hx580_4,hx580_5,hx580_6⟩:=at_T44 HR0.out x5_1 p580 q580
           obtain rfl:ad577=ad580:=(by injection e580)
           replace hx580_0:=(cb_ HB.out hx580_0 :)
           replace hx580_1:=(cb_ HB.out hx580_1 :)
           replace hx580_2:=(cb_ HB.out hx580_2 :)
           replace hx580_3:=(cb_ HB.out hx580_3 :)
           replace hx580_4:=(cb_ HB.out hx580_4 :)
           replace hx580_5:=(cb_ HB.out hx580_5 :)
           replace hx580_6:=(cb_ HB.out hx580_6 :)
           replace p580:=eq_true p580
           replace q580:=eq_true q580
           have p581:0≤(x5_1:Int):=od_
           have q581:x5_1 < (l0.length:Int):=od_
           obtain ⟨ad581,e581,hx581_0,hx581_1,hx581_2,hx581_3,hx581_4,hx581_5,hx581_6⟩:=at_T44 HR0.out x5_1 p581 q581
           obtain rfl:ad577=ad581:=(by injection e581)
           replace hx581_0:=(cb_ HB.out hx581_0 :)
           replace hx581_1:=(cb_ HB.out hx581_1 :)
           replace hx581_2:=(cb_ HB.out hx581_2 :)
           replace hx581_3:=(cb_ HB.out hx581_3 :)
           replace hx581_4:=(cb_ HB.out hx581_4 :)
           replace hx581_5:=(cb_ HB.out hx581_5 :)
           replace hx581_6:=(cb_ HB.out hx581_6 :)
           replace p581:=eq_true p581
           replace q581:=eq_true q581
           have p582:0≤(x5_1:Int):=od_
           have q582:x5_1 < (l0.length:Int):=od_
           obtain ⟨ad582,e582,hx582_0,hx582_1,hx582_2,hx582_3,hx582_4,hx582_5,hx582_6⟩:=at_T44 HR0.out x5_1 p582 q582
           obtain rfl:ad577=ad582:=(by injection e582)
           replace hx582_0:=(cb_ HB.out hx582_0 :)
           replace hx582_1:=(cb_ HB.out hx582_1 :)
           replace hx582_2:=(cb_ HB.out hx582_2 :)
           replace hx582_3:=(cb_ HB.out hx582_3 :)
           replace hx582_4:=(cb_ HB.out hx582_4 :)
           replace hx582_5:=(cb_ HB.out hx582_5 :)
           replace hx582_6:=(cb_ HB.out hx582_6 :)
           replace p582:=eq_true p582
           replace q582:=eq_true q582
           go_wp2
           go_ret
           exact ⟨fi_,bel_⟩
         ·rw [if_neg c9] at H
          have c9b0:(((rd_T44 l0 x5_1).f2.f2)==(wrap64 ((wrap64 ((wrap64 ((wrap64 (x1_1+1))+1))+1))+1)))=false:=bn_ c9
          have c9b1:(((rd_T44 l0 x5_1).f2.f2) != (wrap64 ((wrap64 ((wrap64 ((wrap64 (x1_1+1))+1))+1))+1)))=true:=bne_iff_ne.mpr c9
          obtain rfl:=sj_ H
          have p577:0≤(x5_1:Int):=od_
          have q577:x5_1 < (l0.length:Int):=od_
          obtain ⟨ad577,e577,hx577_0,hx577_1,hx577_2,hx577_3,hx577_4,hx577_5,hx577_6⟩:=at_T44 HR0.out x5_1 p577 q577
          cases e577
          replace hx577_0:=(cb_ HB.out hx577_0 :)
          replace hx577_1:=(cb_ HB.out hx577_1 :)
          replace hx577_2:=(cb_ HB.out hx577_2 :)
          replace hx577_3:=(cb_ HB.out hx577_3 :)
          replace hx577_4:=(cb_ HB.out hx577_4 :)
          replace hx577_5:=(cb_ HB.out hx577_5 :)
          replace hx577_6:=(cb_ HB.out hx577_6 :)
          replace p577:=eq_true p577
          replace q577:=eq_true q577
          have p578:0≤(x5_1:Int):=od_
          have q578:x5_1 < (l0.length:Int):=od_
          obtain ⟨ad578,e578,hx578_0,hx578_1,hx578_2,hx578_3,hx578_4,hx578_5,hx578_6⟩:=at_T44 HR0.out x5_1 p578 q578
          obtain rfl:ad577=ad578:=(by injection e578)
          replace hx578_0:=(cb_ HB.out hx578_0 :)
          replace hx578_1:=(cb_ HB.out hx578_1 :)
          replace hx578_2:=(cb_ HB.out hx578_2 :)
          replace hx578_3:=(cb_ HB.out hx578_3 :)
          replace hx578_4:=(cb_ HB.out hx578_4 :)
          replace hx578_5:=(cb_ HB.out hx578_5 :)
          replace hx578_6:=(cb_ HB.out hx578_6 :)
          replace p578:=eq_true p578
          replace q578:=eq_true q578
          have p579:0≤(x5_1:Int):=od_
          have q579:x5_1 < (l0.length:Int):=od_
          obtain ⟨ad579,e579,hx579_0,hx579_1,hx579_2,hx579_3,hx579_4,hx579_5,hx579_6⟩:=at_T44 HR0.out x5_1 p579 q579
          obtain rfl:ad577=ad579:=(by injection e579)
          replace hx579_0:=(cb_ HB.out hx579_0 :)
          replace hx579_1:=(cb_ HB.out hx579_1 :)
          replace hx579_2:=(cb_ HB.out hx579_2 :)
          replace hx579_3:=(cb_ HB.out hx579_3 :)
          replace hx579_4:=(cb_ HB.out hx579_4 :)
          replace hx579_5:=(cb_ HB.out hx579_5 :)
          replace hx579_6:=(cb_ HB.out hx579_6 :)
          replace p579:=eq_true p579
          replace q579:=eq_true q579
          have p580:0≤(x5_1:Int):=od_
          have q580:x5_1 < (l0.length:Int):=od_
          obtain ⟨ad580,e580,hx580_0,hx580_1,hx580_2,hx580_3,hx580_4,hx580_5,hx580_6⟩:=at_T44 HR0.out x5_1 p580 q580
          obtain rfl:ad577=ad580:=(by injection e580)
          replace hx580_0:=(cb_ HB.out hx580_0 :)
          replace hx580_1:=(cb_ HB.out hx580_1 :)
          replace hx580_2:=(cb_ HB.out hx580_2 :)
          replace hx580_3:=(cb_ HB.out hx580_3 :)
          replace hx580_4:=(cb_ HB.out hx580_4 :)
          replace hx580_5:=(cb_ HB.out hx580_5 :)
          replace hx580_6:=(cb_ HB.out hx580_6 :)
          replace p580:=eq_true p580
          replace q580:=eq_true q580
          have p581:0≤(x5_1:Int):=od_
          have q581:x5_1 < (l0.length:Int):=od_
          obtain ⟨ad581,e581,hx581_0,hx581_1,hx581_2,hx581_3,hx581_4,hx581_5,hx581_6⟩:=at_T44 HR0.out x5_1 p581 q581
          obtain rfl:ad577=ad581:=(by injection e581)
          replace hx581_0:=(cb_ HB.out hx581_0 :)
          replace hx581_1:=(cb_ HB.out hx581_1 :)
          replace hx581_2:=(cb_ HB.out hx581_2 :)
          replace hx581_3:=(cb_ HB.out hx581_3 :)
          replace hx581_4:=(cb_ HB.out hx581_4 :)
          replace hx581_5:=(cb_ HB.out hx581_5 :)
          replace hx581_6:=(cb_ HB.out hx581_6 :)
          replace p581:=eq_true p581
          replace q581:=eq_true q581
          go_wp2
          go_ret
          exact ⟨fi_,bel_⟩
        ·rw [if_neg c8] at H
         have c8b0:(((rd_T44 l0 x5_1).f2.f1)==(wrap64 ((wrap64 ((wrap64 (x1_1+1))+1))+1)))=false:=bn_ c8
         have c8b1:(((rd_T44 l0 x5_1).f2.f1) != (wrap64 ((wrap64 ((wrap64 (x1_1+1))+1))+1)))=true:=bne_iff_ne.mpr c8
         obtain rfl:=sj_ H
         have p577:0≤(x5_1:Int):=od_
         have q577:x5_1 < (l0.length:Int):=od_
         obtain ⟨ad577,e577,hx577_0,hx577_1,hx577_2,hx577_3,hx577_4,hx577_5,hx577_6⟩:=at_T44 HR0.out x5_1 p577 q577
         cases e577
         replace hx577_0:=(cb_ HB.out hx577_0 :)
         replace hx577_1:=(cb_ HB.out hx577_1 :)
         replace hx577_2:=(cb_ HB.out hx577_2 :)
         replace hx577_3:=(cb_ HB.out hx577_3 :)
         replace hx577_4:=(cb_ HB.out hx577_4 :)
         replace hx577_5:=(cb_ HB.out hx577_5 :)
         replace hx577_6:=(cb_ HB.out hx577_6 :)
         replace p577:=eq_true p577
         replace q577:=eq_true q577
         have p578:0≤(x5_1:Int):=od_
         have q578:x5_1 < (l0.length:Int):=od_
         obtain ⟨ad578,e578,hx578_0,hx578_1,hx578_2,hx578_3,hx578_4,hx578_5,hx578_6⟩:=at_T44 HR0.out x5_1 p578 q578
         obtain rfl:ad577=ad578:=(by injection e578)
         replace hx578_0:=(cb_ HB.out hx578_0 :)
         replace hx578_1:=(cb_ HB.out hx578_1 :)
         replace hx578_2:=(cb_ HB.out hx578_2 :)
         replace hx578_3:=(cb_ HB.out hx578_3 :)
         replace hx578_4:=(cb_ HB.out hx578_4 :)
         replace hx578_5:=(cb_ HB.out hx578_5 :)
         replace hx578_6:=(cb_ HB.out hx578_6 :)
         replace p578:=eq_true p578
         replace q578:=eq_true q578
         have p579:0≤(x5_1:Int):=od_
         have q579:x5_1 < (l0.length:Int):=od_
         obtain ⟨ad579,e579,hx579_0,hx579_1,hx579_2,hx579_3,hx579_4,hx579_5,hx579_6⟩:=at_T44 HR0.out x5_1 p579 q579
         obtain rfl:ad577=ad579:=(by injection e579)
         replace hx579_0:=(cb_ HB.out hx579_0 :)
         replace hx579_1:=(cb_ HB.out hx579_1 :)
         replace hx579_2:=(cb_ HB.out hx579_2 :)
         replace hx579_3:=(cb_ HB.out hx579_3 :)
         replace hx579_4:=(cb_ HB.out hx579_4 :)
         replace hx579_5:=(cb_ HB.out hx579_5 :)
         replace hx579_6:=(cb_ HB.out hx579_6 :)
         replace p579:=eq_true p579
         replace q579:=eq_true q579
         have p580:0≤(x5_1:Int):=od_
         have q580:x5_1 < (l0.length:Int):=od_
         obtain ⟨ad580,e580,hx580_0,hx580_1,hx580_2,hx580_3,hx580_4,hx580_5,hx580_6⟩:=at_T44 HR0.out x5_1 p580 q580
         obtain rfl:ad577=ad580:=(by injection e580)
         replace hx580_0:=(cb_ HB.out hx580_0 :)
         replace hx580_1:=(cb_ HB.out hx580_1 :)
         replace hx580_2:=(cb_ HB.out hx580_2 :)
         replace hx580_3:=(cb_ HB.out hx580_3 :)
         replace hx580_4:=(cb_ HB.out hx580_4 :)
         replace hx580_5:=(cb_ HB.out hx580_5 :)
         replace hx580_6:=(cb_ HB.out hx580_6 :)
         replace p580:=eq_true p580
         replace q580:=eq_true q580
         go_wp2
         go_ret
         exact ⟨fi_,bel_⟩
       ·rw [if_neg c7] at H
        have c7b0:(((rd_T44 l0 x5_1).f2.f0)==(wrap64 ((wrap64 (x1_1+1))+1)))=false:=bn_ c7
        have c7b1:(((rd_T44 l0 x5_1).f2.f0) != (wrap64 ((wrap64 (x1_1+1))+1)))=true:=bne_iff_ne.mpr c7
        obtain rfl:=sj_ H
        have p577:0≤(x5_1:Int):=od_
        have q577:x5_1 < (l0.length:Int):=od_
        obtain ⟨ad577,e577,hx577_0,hx577_1,hx577_2,hx577_3,hx577_4,hx577_5,hx577_6⟩:=at_T44 HR0.out x5_1 p577 q577
        cases e577
        replace hx577_0:=(cb_ HB.out hx577_0 :)
        replace hx577_1:=(cb_ HB.out hx577_1 :)
        replace hx577_2:=(cb_ HB.out hx577_2 :)
        replace hx577_3:=(cb_ HB.out hx577_3 :)
        replace hx577_4:=(cb_ HB.out hx577_4 :)
        replace hx577_5:=(cb_ HB.out hx577_5 :)
        replace hx577_6:=(cb_ HB.out hx577_6 :)
        replace p577:=eq_true p577
        replace q577:=eq_true q577
        have p578:0≤(x5_1:Int):=od_
        have q578:x5_1 < (l0.length:Int):=od_
        obtain ⟨ad578,e578,hx578_0,hx578_1,hx578_2,hx578_3,hx578_4,hx578_5,hx578_6⟩:=at_T44 HR0.out x5_1 p578 q578
        obtain rfl:ad577=ad578:=(by injection e578)
        replace hx578_0:=(cb_ HB.out hx578_0 :)
        replace hx578_1:=(cb_ HB.out hx578_1 :)
        replace hx578_2:=(cb_ HB.out hx578_2 :)
        replace hx578_3:=(cb_ HB.out hx578_3 :)
        replace hx578_4:=(cb_ HB.out hx578_4 :)
        replace hx578_5:=(cb_ HB.out hx578_5 :)
        replace hx578_6:=(cb_ HB.out hx578_6 :)
        replace p578:=eq_true p578
        replace q578:=eq_true q578
        have p579:0≤(x5_1:Int):=od_
        have q579:x5_1 < (l0.length:Int):=od_
        obtain ⟨ad579,e579,hx579_0,hx579_1,hx579_2,hx579_3,hx579_4,hx579_5,hx579_6⟩:=at_T44 HR0.out x5_1 p579 q579
        obtain rfl:ad577=ad579:=(by injection e579)
        replace hx579_0:=(cb_ HB.out hx579_0 :)
        replace hx579_1:=(cb_ HB.out hx579_1 :)
        replace hx579_2:=(cb_ HB.out hx579_2 :)
        replace hx579_3:=(cb_ HB.out hx579_3 :)
        replace hx579_4:=(cb_ HB.out hx579_4 :)
        replace hx579_5:=(cb_ HB.out hx579_5 :)
        replace hx579_6:=(cb_ HB.out hx579_6 :)
        replace p579:=eq_true p579
        replace q579:=eq_true q579
        go_wp2
        go_ret
        exact ⟨fi_,bel_⟩
      ·rw [if_neg c6] at H
       have c6b0:(((rd_T44 l0 x5_1).f1)==(wrap64 (x1_1+1)))=false:=bn_ c6
       have c6b1:(((rd_T44 l0 x5_1).f1) != (wrap64 (x1_1+1)))=true:=bne_iff_ne.mpr c6
       obtain rfl:=sj_ H
       have p577:0≤(x5_1:Int):=od_
       have q577:x5_1 < (l0.length:Int):=od_
       obtain ⟨ad577,e577,hx577_0,hx577_1,hx577_2,hx577_3,hx577_4,hx577_5,hx577_6⟩:=at_T44 HR0.out x5_1 p577 q577
       cases e577
       replace hx577_0:=(cb_ HB.out hx577_0 :)
       replace hx577_1:=(cb_ HB.out hx577_1 :)
       replace hx577_2:=(cb_ HB.out hx577_2 :)
       replace hx577_3:=(cb_ HB.out hx577_3 :)
       replace hx577_4:=(cb_ HB.out hx577_4 :)
       replace hx577_5:=(cb_ HB.out hx577_5 :)
       replace hx577_6:=(cb_ HB.out hx577_6 :)
       replace p577:=eq_true p577
       replace q577:=eq_true q577
       have p578:0≤(x5_1:Int):=od_
       have q578:x5_1 < (l0.length:Int):=od_
       obtain ⟨ad578,e578,hx578_0,hx578_1,hx578_2,hx578_3,hx578_4,hx578_5,hx578_6⟩:=at_T44 HR0.out x5_1 p578 q578
       obtain rfl:ad577=ad578:=(by injection e578)
       replace hx578_0:=(cb_ HB.out hx578_0 :)
       replace hx578_1:=(cb_ HB.out hx578_1 :)
       replace hx578_2:=(cb_ HB.out hx578_2 :)
       replace hx578_3:=(cb_ HB.out hx578_3 :)
       replace hx578_4:=(cb_ HB.out hx578_4 :)
       replace hx578_5:=(cb_ HB.out hx578_5 :)
       replace hx578_6:=(cb_ HB.out hx578_6 :)
       replace p578:=eq_true p578
       replace q578:=eq_true q578
       go_wp2
       go_ret
       exact ⟨fi_,bel_⟩
     ·rw [if_neg c5] at H
      have c5b0:(((rd_T44 l0 x5_1).f0)==x1_1)=false:=bn_ c5
      have c5b1:(((rd_T44 l0 x5_1).f0) != x1_1)=true:=bne_iff_ne.mpr c5
      obtain rfl:=sj_ H
      have p577:0≤(x5_1:Int):=od_
      have q577:x5_1 < (l0.length:Int):=od_
      obtain ⟨ad577,e577,hx577_0,hx577_1,hx577_2,hx577_3,hx577_4,hx577_5,hx577_6⟩:=at_T44 HR0.out x5_1 p577 q577
      cases e577
      replace hx577_0:=(cb_ HB.out hx577_0 :)
      replace hx577_1:=(cb_ HB.out hx577_1 :)
      replace hx577_2:=(cb_ HB.out hx577_2 :)
      replace hx577_3:=(cb_ HB.out hx577_3 :)
      replace hx577_4:=(cb_ HB.out hx577_4 :)
      replace hx577_5:=(cb_ HB.out hx577_5 :)
      replace hx577_6:=(cb_ HB.out hx577_6 :)
      replace p577:=eq_true p577
      replace q577:=eq_true q577
      go_wp2
      go_ret
      exact ⟨fi_,bel_⟩
    ·rw [if_neg c4] at H
     exact absurd H (by simp)
   ·rw [if_neg c3] at H
    have c3b0:decide (x5_1 < (l0.length:Int))=false:=df_ c3
    clear c3
    obtain rfl:=sj_ H
    go_wp2
    go_ret
    exact ⟨fi_,bel_⟩

def laws_heldServer.f (k:Nat) (l0_0:List (S44)) (a0_1:Int) (a0_2:Bool) (a1:Int):Option (Int):=(laws_heldEntryS.f k l0_0 a1).bind fun t586=>(if t586 < 0 then (some (-1)) else (some t586))
theorem laws_heldServer.mono:∀ a0 a1 a2 a3 k,LeO (laws_heldServer.f k a0 a1 a2 a3) (laws_heldServer.f (k+1) a0 a1 a2 a3):=by
 intro a0 a1 a2 a3 k
 unfold laws_heldServer.f
 repeat' first
   | (with_reducible exact laws_heldEntryS.mono _ _ _)
   | (with_reducible exact LeO.refl _)
   | (with_reducible exact LeO.none _)
   | (with_reducible refine LeO.ite ?_ ?_)
   | (with_reducible refine LeO.bind ?_ (fun _=>?_))
   | exact laws_heldEntryS.mono _ _ _
   | exact LeO.none _
   | refine LeO.ite ?_ ?_
   | refine LeO.bind ?_ (fun _=>?_)
theorem laws_heldServer.calls (k:Nat) (A0_0:Option Addr) (c0_0:Nat) (l0_0:List (S44)) (a0_1:Int) (a0_2:Bool) (a1:Int) (r:Int) (w:World) (hr0_0:Kd.C k44 w A0_0 l0_0.length l0_0) (hc0_0:l0_0.length≤c0_0) (h:laws_heldServer.f k l0_0 a0_1 a0_2 a1=some r) :
  Calls Tryd.prog 27 #[.agg #[.slice A0_0 l0_0.length c0_0,.int .i64 a0_1,.bool a0_2],.int .i64 a1] w fun e w'=>e=.returned (.int .i64 r)∧Below w.heap.size w w':=by
 have hu25:=Tryd.underlying25
 have HR0_0:=a_ hr0_0
 have HC0_0:=a_ hc0_0
 clear hr0_0 hc0_0
 have HB:=a_ (Below.refl w.heap.size w)
 unfold laws_heldServer.f at h
 have H:=h
 clear h
 replace H:=bs_ H
 obtain ⟨t586,A30,H⟩:=H
 try dsimp only at H
 have A3:=a_ A30
 clear A30
 by_cases c4:t586 < 0
 ·rw [if_pos c4] at H
  have c4b0:decide (t586 < 0)=true:=dt_ c4
  clear c4
  obtain rfl:=sj_ H
  go_enter Tryd.func27,Tryd.ntmps27
  go_wp2_with (first|((with_reducible refine gD_ (N:=2) rfl ?_);refine bx_ 2 (#[.slice A0_0 l0_0.length c0_0,.int .i64 a0_1,.bool a0_2]) 25 ?_;intro gb585 hg w5 hbox hb;have n0_:=a_ (bS_ (bel_) hb);have n1_:=a_ (hbox);have n2_:=a_ ((by rw [hg];exact (below_size (bel_)):w.heap.size≤gb585));have n3_:=a_ ((by rw [hg];exact (below_size (bel_)):w.heap.size≤gb585));clear HB;have HB:=n0_;have BK585:=n1_;have GW585:=n2_;have GE585:=n3_;clear n0_ n1_ n2_ n3_;clear hb hbox hg;have Z6_0:=cz_ BK585.out 0 (.slice A0_0 l0_0.length c0_0);have Z6_1:=cz_ BK585.out 1 (.int .i64 a0_1);have Z6_2:=cz_ BK585.out 2 (.bool a0_2);have Y6_0:=bF_ BK585.out 0;have Y6_1:=bF_ BK585.out 1;have Y6_2:=bF_ BK585.out 2)|((with_reducible refine gC_ (f:=83) rfl ?_);refine gl_ 8 Tryd.func83 #[.slice A0_0 l0_0.length c0_0,.int .i64 a1] ?_;(with_reducible refine (laws_heldEntryS.calls k _ _ l0_0 a1 t586 _ ?side1 ?side2 A3.out).mono ?_);(case side1=>exact cp_ HR0_0.out);(case side2=>exact HC0_0.out);rintro e w7 ⟨rfl,hb⟩;refine ⟨_,rfl,?_⟩;replace HB:=a_ (bS_ (bel_) hb);replace BK585:=a_ (bb_ BK585.out hb);(try clear hb)))
  go_ret
  exact ⟨fi_,bel_⟩
 ·rw [if_neg c4] at H
  have c4b0:decide (t586 < 0)=false:=df_ c4
  clear c4
  obtain rfl:=sj_ H
  go_enter Tryd.func27,Tryd.ntmps27
  go_wp2_with (first|((with_reducible refine gD_ (N:=2) rfl ?_);refine bx_ 2 (#[.slice A0_0 l0_0.length c0_0,.int .i64 a0_1,.bool a0_2]) 25 ?_;intro gb585 hg w8 hbox hb;have n0_:=a_ (bS_ (bel_) hb);have n1_:=a_ (hbox);have n2_:=a_ ((by rw [hg];exact (below_size (bel_)):w.heap.size≤gb585));have n3_:=a_ ((by rw [hg];exact (below_size (bel_)):w.heap.size≤gb585));clear HB;have HB:=n0_;have BK585:=n1_;have GW585:=n2_;have GE585:=n3_;clear n0_ n1_ n2_ n3_;clear hb hbox hg;have Z9_0:=cz_ BK585.out 0 (.slice A0_0 l0_0.length c0_0);have Z9_1:=cz_ BK585.out 1 (.int .i64 a0_1);have Z9_2:=cz_ BK585.out 2 (.bool a0_2);have Y9_0:=bF_ BK585.out 0;have Y9_1:=bF_ BK585.out 1;have Y9_2:=bF_ BK585.out 2)|((with_reducible refine gC_ (f:=83) rfl ?_);refine gl_ 8 Tryd.func83 #[.slice A0_0 l0_0.length c0_0,.int .i64 a1] ?_;(with_reducible refine (laws_heldEntryS.calls k _ _ l0_0 a1 t586 _ ?side1 ?side2 A3.out).mono ?_);(case side1=>exact cp_ HR0_0.out);(case side2=>exact HC0_0.out);rintro e w10 ⟨rfl,hb⟩;refine ⟨_,rfl,?_⟩;replace HB:=a_ (bS_ (bel_) hb);replace BK585:=a_ (bb_ BK585.out hb);(try clear hb)))
  go_ret
  exact ⟨fi_,bel_⟩


def laws_FnExactServerHear.f (k:Nat) (l0_0:List (S36)) (a0_1:Int) (a0_2:Bool) (a1_0:Int) (a1_1:Int) (a1_2:Int) (a1_3:Int) (a1_4:Int) (a1_5:Int) (a1_6:ByteArray):Option (Bool):=(laws_szServer.f k l0_0 a0_1 a0_2 1048576).bind fun t273=>(if t273 < 0 then (some true) else ((laws_szEntry.f a1_0 a1_1 a1_2 a1_3 a1_4 a1_5 a1_6 t273).bind fun t274=>(if t274 < 0 then (some true) else ((laws_toServer.f k l0_0 a0_1 a0_2).bind fun bt275=>((laws_toEntry.f a1_0 a1_1 a1_2 a1_3 a1_4 a1_5 a1_6).bind fun bt280=>((spec_ServerHear.f k bt275.1 bt275.2.1 bt275.2.2 bt280.1 bt280.2.1 bt280.2.2.1 bt280.2.2.2.1 bt280.2.2.2.2.1 bt280.2.2.2.2.2.1 bt280.2.2.2.2.2.2).bind fun bt287=>((laws_toServer.f k l0_0 a0_1 a0_2).bind fun bt294=>((laws_toEntry.f a1_0 a1_1 a1_2 a1_3 a1_4 a1_5 a1_6).bind fun bt300=>((impl_ServerHear.f k bt294.1 bt294.2.1 bt294.2.2 bt300.1 bt300.2.1 bt300.2.2.1 bt300.2.2.2.1 bt300.2.2.2.2.1 bt300.2.2.2.2.2.1 bt300.2.2.2.2.2.2).bind fun bt307=>((laws_eqServer.f k bt307.1 bt307.2.1 bt307.2.2.1 bt287.1 bt287.2.1 bt287.2.2.1).bind fun t314=>(if t314=true then (if (bt307.2.2.2 != bt287.2.2.2)=true then (none) else ((laws_toServer.f k l0_0 a0_1 a0_2).bind fun bt315=>((laws_eqServer.f k bt294.1 bt294.2.1 bt294.2.2 bt315.1 bt315.2.1 bt315.2.2).bind fun t320=>(if t320=true then ((laws_markServer.f k bt294.1 bt294.2.1 bt294.2.2 1).bind fun bt321=>(if bt321.1 < 0 then (none) else ((laws_eqServer.f k bt307.1 bt307.2.1 bt307.2.2.1 bt287.1 bt287.2.1 bt287.2.2.1).bind fun t323=>(if t323=true then ((laws_markServer.f k bt307.1 bt307.2.1 bt307.2.2.1 1).bind fun bt324=>((laws_heldServer.f k bt324.2 bt307.2.1 bt307.2.2.1 1).bind fun t326=>(if t326 < 0 then (none) else (if t326=bt324.1 then ((laws_toServer.f k l0_0 a0_1 a0_2).bind fun bt327=>((laws_toEntry.f a1_0 a1_1 a1_2 a1_3 a1_4 a1_5 a1_6).bind fun bt332=>((impl_ServerHear.f k bt327.1 bt327.2.1 bt327.2.2 bt332.1 bt332.2.1 bt332.2.2.1 bt332.2.2.2.1 bt332.2.2.2.2.1 bt332.2.2.2.2.2.1 bt332.2.2.2.2.2.2).bind fun bt339=>((laws_eqServer.f k bt339.1 bt339.2.1 bt339.2.2.1 bt287.1 bt287.2.1 bt287.2.2.1).bind fun t346=>(if t346=true then (if (bt339.2.2.2 != bt287.2.2.2)=true then (none) else ((laws_heldServer.f k bt324.2 bt307.2.1 bt307.2.2.1 1).bind fun t347=>(if t347 < 0 then (none) else (if t347=bt324.1 then (some true) else (none))))) else (none)))))) else (none))))) else (none))))) else (none))))) else (none))))))))))))
theorem laws_FnExactServerHear.mono:∀ a0 a1 a2 a3 a4 a5 a6 a7 a8 a9 k,LeO (laws_FnExactServerHear.f k a0 a1 a2 a3 a4 a5 a6 a7 a8 a9) (laws_FnExactServerHear.f (k+1) a0 a1 a2 a3 a4 a5 a6 a7 a8 a9):=by
 intro a0 a1 a2 a3 a4 a5 a6 a7 a8 a9 k
 unfold laws_FnExactServerHear.f
 repeat' first
   | (with_reducible exact impl_ServerHear.mono _ _ _ _ _ _ _ _ _ _ _)
   | (with_reducible exact laws_eqServer.mono _ _ _ _ _ _ _)
   | (with_reducible exact laws_heldServer.mono _ _ _ _ _)
   | (with_reducible exact laws_markServer.mono _ _ _ _ _)
   | (with_reducible exact laws_szServer.mono _ _ _ _ _)
   | (with_reducible exact laws_toServer.mono _ _ _ _)
   | (with_reducible exact spec_ServerHear.mono _ _ _ _ _ _ _ _ _ _ _)
   | (with_reducible exact LeO.refl _)
   | (with_reducible exact LeO.none _)
   | (with_reducible refine LeO.ite ?_ ?_)
   | (with_reducible refine LeO.bind ?_ (fun _=>?_))
   | exact impl_ServerHear.mono _ _ _ _ _ _ _ _ _ _ _
   | exact laws_eqServer.mono _ _ _ _ _ _ _
   | exact laws_heldServer.mono _ _ _ _ _
   | exact laws_markServer.mono _ _ _ _ _
   | exact laws_szServer.mono _ _ _ _ _
   | exact laws_toServer.mono _ _ _ _
   | exact spec_ServerHear.mono _ _ _ _ _ _ _ _ _ _ _
   | exact LeO.none _
   | refine LeO.ite ?_ ?_
   | refine LeO.bind ?_ (fun _=>?_)
def laws_FnExactServerHear.T8:Bool×List (List Nat×List Nat):=(true,[([],[]),([0],[0]),([],[]),([2,1],[2]),([1,3,3],[1,3]),([4],[4]),([5],[5]),([5],[5]),([],[]),([8,6,4,0,1,2,3,4,5,6,8],[6,8]),([7,9,0,1,2,3,4,5,6,7,8,9],[7])])
def laws_FnExactServerHear.B8:List Nat:=[0,1,0,7,15,31,63,63,0,383,1023]
theorem laws_FnExactServerHear.tab8:rtab .any (opsOf Tryd.f4 8)=laws_FnExactServerHear.T8:=by kernel_rfl
theorem laws_FnExactServerHear.bits8:waitsOk laws_FnExactServerHear.T8.2 laws_FnExactServerHear.B8=true:=by kernel_rfl
def laws_FnExactServerHear.T10:Bool×List (List Nat×List Nat):=(true,[([],[]),([],[]),([1],[1]),([0,2,2],[0,2]),([3],[3]),([4],[4]),([4],[4]),([],[]),([7,5,3,0,1,2,3,4,5,7],[5,7]),([6,8,0,1,2,3,4,5,6,7,8],[6])])
def laws_FnExactServerHear.B10:List Nat:=[0,0,2,7,15,31,31,0,191,511]
theorem laws_FnExactServerHear.tab10:rtab .any (opsOf Tryd.f4 10)=laws_FnExactServerHear.T10:=by kernel_rfl
theorem laws_FnExactServerHear.bits10:waitsOk laws_FnExactServerHear.T10.2 laws_FnExactServerHear.B10=true:=by kernel_rfl
def laws_FnExactServerHear.T27:Bool×List (List Nat×List Nat):=(true,[([],[]),([0],[0]),([],[]),([2,1],[2]),([1,3,3],[1,3]),([4],[4]),([5],[5]),([5],[5]),([],[]),([8,6,4,0,1,2,3,4,5,6,8],[6,8]),([7,9,0,1,2,3,4,5,6,7,8,9],[7])])
def laws_FnExactServerHear.B27:List Nat:=[0,1,0,7,15,31,63,63,0,383,1023]
theorem laws_FnExactServerHear.tab27:rtab .any (opsOf Tryd.f4 27)=laws_FnExactServerHear.T27:=by kernel_rfl
theorem laws_FnExactServerHear.bits27:waitsOk laws_FnExactServerHear.T27.2 laws_FnExactServerHear.B27=true:=by kernel_rfl
end Go.Proofs.YtdpklbomhdpimaaDoor.P
