/- Joined by a program (wip/shake.py): the declarations that 'YtdpklbomhdpimaaDoorCardFnExactClientDo' reaches. -/
import Derived.Test.YtdpklbomhdpimaaDoorZLm7
set_option linter.unusedVariables false
set_option linter.unusedSimpArgs false
set_option linter.unusedSectionVars false
set_option maxHeartbeats 8000000
set_option maxRecDepth 100000
namespace Go.Proofs.YtdpklbomhdpimaaDoor.P
open Go.RowKit Go.Proofs.YtdpklbomhdpimaaDoorW.PrintWords Go.Proofs.YtdpklbomhdpimaaDoorW.PrintLast
theorem laws_heldRowS.calls (k:Nat) (A0:Option Addr) (c0:Nat) (l0:List (S69)) (a1:Int) (r:Int) (w:World) (hr0:Kd.C k69 w A0 l0.length l0) (hc0:l0.length≤c0) (h:laws_heldRowS.f k l0 a1=some r) :
  Calls Tryd.prog 55 #[.slice A0 l0.length c0,.int .i64 a1] w fun e w'=>e=.returned (.int .i64 r)∧Below w.heap.size w w':=by
 have HR0:=a_ hr0
 have HC0:=a_ hc0
 clear hr0 hc0
 have HB:=a_ (Below.refl w.heap.size w)
 unfold laws_heldRowS.f at h
 have H:=h
 clear h
 have H':=a_ H
 clear H
 go_enter Tryd.func55,Tryd.ntmps55
 go_wp2
 go_loopg [1,5] k (fun kq v1 v5 w'=>∃ (x1_1:Int) (x5_1:Int),v1=.int .i64 x1_1∧v5=.int .i64 x5_1∧Aside0 (laws_heldRowS.l0 kq l0 x1_1 x5_1=some r)∧Aside0 (kq≤k)∧Aside0 (Below w.heap.size w w'))
 case atStart=>exact ⟨(a1),(0),(si_),(si_),H',⟨Nat.le_refl _⟩,⟨bel_⟩⟩
 case round =>
  clear H'
  try clear p2
  obtain ⟨x1_1,x5_1,rfl,rfl,HA,HK1,HB⟩:=hrel
  cases gk with
  | zero=>exact absurd HA.out (by simp [laws_heldRowS.l0])
  | succ k1 =>
   have H:=HA.out
   clear HA
   simp only [laws_heldRowS.l0] at H
   by_cases c3:x5_1 < (l0.length:Int)
   ·rw [if_pos c3] at H
    have c3b0:decide (x5_1 < (l0.length:Int))=true:=dt_ c3
    clear c3
    by_cases c4:0≤x5_1
    ·rw [if_pos c4] at H
     have c4b0:decide (0≤x5_1)=true:=dt_ c4
     clear c4
     by_cases c5:((rd_T69 l0 x5_1).f0)=x1_1
     ·rw [if_pos c5] at H
      have c5b0:(((rd_T69 l0 x5_1).f0)==x1_1)=true:=beq_iff_eq.mpr c5
      have c5b1:(((rd_T69 l0 x5_1).f0) != x1_1)=false:=be_ c5
      clear c5
      by_cases c6:((rd_T69 l0 x5_1).f1)=(wrap64 (x1_1+1))
      ·rw [if_pos c6] at H
       have c6b0:(((rd_T69 l0 x5_1).f1)==(wrap64 (x1_1+1)))=true:=beq_iff_eq.mpr c6
       have c6b1:(((rd_T69 l0 x5_1).f1) != (wrap64 (x1_1+1)))=false:=be_ c6
       clear c6
       replace H:=bs_ H
       obtain ⟨t395,A70,H⟩:=H
       try dsimp only at H
       have A7:=a_ A70
       clear A70
       by_cases c8:((rd_T69 l0 x5_1).f2).toList=t395.toList
       ·rw [if_pos c8] at H
        have c8b0:(((rd_T69 l0 x5_1).f2).toList==t395.toList)=true:=beq_iff_eq.mpr c8
        have c8b1:(((rd_T69 l0 x5_1).f2).toList != t395.toList)=false:=be_ c8
        clear c8
        have H':=a_ H
        clear H
        have p392:0≤(x5_1:Int):=od_
        have q392:x5_1 < (l0.length:Int):=od_
        obtain ⟨ad392,e392,hx392_0,hx392_1,hx392_2⟩:=at_T69 HR0.out x5_1 p392 q392
        cases e392
        replace hx392_0:=(cb_ HB.out hx392_0 :)
        replace hx392_1:=(cb_ HB.out hx392_1 :)
        replace hx392_2:=(cb_ HB.out hx392_2 :)
        replace p392:=eq_true p392
        replace q392:=eq_true q392
        have p393:0≤(x5_1:Int):=od_
        have q393:x5_1 < (l0.length:Int):=od_
        obtain ⟨ad393,e393,hx393_0,hx393_1,hx393_2⟩:=at_T69 HR0.out x5_1 p393 q393
        obtain rfl:ad392=ad393:=(by injection e393)
        replace hx393_0:=(cb_ HB.out hx393_0 :)
        replace hx393_1:=(cb_ HB.out hx393_1 :)
        replace hx393_2:=(cb_ HB.out hx393_2 :)
        replace p393:=eq_true p393
        replace q393:=eq_true q393
        try go_wp2
        replace HB:=a_ (below_drew1 HB.out)
        have p394:0≤(x5_1:Int):=od_
        have q394:x5_1 < (l0.length:Int):=od_
        obtain ⟨ad394,e394,hx394_0,hx394_1,hx394_2⟩:=at_T69 HR0.out x5_1 p394 q394
        have hw394_2:=hx394_2
        have hw394_1:=hx394_1
        have hw394_0:=hx394_0
        obtain rfl:ad392=ad394:=(by injection e394)
        replace hx394_0:=(cb_ HB.out hx394_0 :)
        replace hx394_1:=(cb_ HB.out hx394_1 :)
        replace hx394_2:=(cb_ HB.out hx394_2 :)
        replace p394:=eq_true p394
        replace q394:=eq_true q394
        refine start_ (n:=8) (S:=fun w'=>w'.cell? (ad392.add ((x5_1).toNat * 3))=some (.int .i64 ((rd_T69 l0 x5_1).f0))∧w'.cell? ⟨(ad392.add ((x5_1).toNat * 3)).block,(ad392.add ((x5_1).toNat * 3)).off+1,none⟩=some (.int .i64 ((rd_T69 l0 x5_1).f1))∧w'.cell? ⟨(ad392.add ((x5_1).toNat * 3)).block,(ad392.add ((x5_1).toNat * 3)).off+2,none⟩=some (.string ((rd_T69 l0 x5_1).f2))) (ds:=[]) #[false,false,false,false,false,false,false,false] (by kernel_rfl) rfl rfl ⟨((cb_ HB.out hw394_0 :)),((cb_ HB.out hw394_1 :)),((cb_ HB.out hw394_2 :))⟩ (fun hHeld=>?_);refine with_tabW laws_heldRowS.tab10 laws_heldRowS.bits10 (fun HT_ HW_=>?_)
        generalize wr.drew=w9 at HB hx394_0 hx394_1 hx394_2 hHeld ⊢
        refine pa_ 0 30 ?_
        refine pa_ 1 31 ?_
        refine pa_ 2 32 ?_
        refine pa_ 3 33 ?_
        refine pa_ 5 35 ?_
        refine ta3_ 4 34 hHeld ?_
        refine on_ 6 36 (fun K hK=>?_)
        refine goes_ Tryd.func103 (by kernel_rfl) rfl #[.int .i64 (wrap64 ((wrap64 (x1_1+1))+1))] (by rfl) rfl rfl ar_ ?_
        with_reducible refine (laws_markText.calls k1 (wrap64 ((wrap64 (x1_1+1))+1)) t395 _ A7.out).mono ?_
        rintro e w10 ⟨rfl,hb⟩
        refine ⟨_,rfl,?_⟩
        replace HB:=a_ (bS_ (bel_) hb)
        try clear hb
        refine hK.out _ _ ⟨((cb_ HB.out hw394_0 :)),((cb_ HB.out hw394_1 :)),((cb_ HB.out hw394_2 :))⟩ (fun hHeld=>?_)
        clear hK K
        refine no_ 36 ?_
        refine pa_ 7 37 ?_
        refine done_ (done_of HT_.out (by kernel_rfl)) ?_
        try go_wp2
        go_roundg k1
        case measure=>have:=HK1.out;omega
        case rel=>exact ⟨(wrap64 ((wrap64 ((wrap64 (x1_1+1))+1))+1)),(wrap64 (x5_1+1)),(si_),(si_),H',⟨by have:=HK1.out;omega⟩,⟨bel_⟩⟩
       ·rw [if_neg c8] at H
        have c8b0:(((rd_T69 l0 x5_1).f2).toList==t395.toList)=false:=bn_ c8
        have c8b1:(((rd_T69 l0 x5_1).f2).toList != t395.toList)=true:=bne_iff_ne.mpr c8
        obtain rfl:=sj_ H
        have p392:0≤(x5_1:Int):=od_
        have q392:x5_1 < (l0.length:Int):=od_
        obtain ⟨ad392,e392,hx392_0,hx392_1,hx392_2⟩:=at_T69 HR0.out x5_1 p392 q392
        cases e392
        replace hx392_0:=(cb_ HB.out hx392_0 :)
        replace hx392_1:=(cb_ HB.out hx392_1 :)
        replace hx392_2:=(cb_ HB.out hx392_2 :)
        replace p392:=eq_true p392
        replace q392:=eq_true q392
        have p393:0≤(x5_1:Int):=od_
        have q393:x5_1 < (l0.length:Int):=od_
        obtain ⟨ad393,e393,hx393_0,hx393_1,hx393_2⟩:=at_T69 HR0.out x5_1 p393 q393
        obtain rfl:ad392=ad393:=(by injection e393)
        replace hx393_0:=(cb_ HB.out hx393_0 :)
        replace hx393_1:=(cb_ HB.out hx393_1 :)
        replace hx393_2:=(cb_ HB.out hx393_2 :)
        replace p393:=eq_true p393
        replace q393:=eq_true q393
        try go_wp2
        replace HB:=a_ (below_drew1 HB.out)
        have p394:0≤(x5_1:Int):=od_
        have q394:x5_1 < (l0.length:Int):=od_
        obtain ⟨ad394,e394,hx394_0,hx394_1,hx394_2⟩:=at_T69 HR0.out x5_1 p394 q394
        have hw394_2:=hx394_2
        have hw394_1:=hx394_1
        have hw394_0:=hx394_0
        obtain rfl:ad392=ad394:=(by injection e394)
        replace hx394_0:=(cb_ HB.out hx394_0 :)
        replace hx394_1:=(cb_ HB.out hx394_1 :)
        replace hx394_2:=(cb_ HB.out hx394_2 :)
        replace p394:=eq_true p394
        replace q394:=eq_true q394
        refine start_ (n:=8) (S:=fun w'=>w'.cell? (ad392.add ((x5_1).toNat * 3))=some (.int .i64 ((rd_T69 l0 x5_1).f0))∧w'.cell? ⟨(ad392.add ((x5_1).toNat * 3)).block,(ad392.add ((x5_1).toNat * 3)).off+1,none⟩=some (.int .i64 ((rd_T69 l0 x5_1).f1))∧w'.cell? ⟨(ad392.add ((x5_1).toNat * 3)).block,(ad392.add ((x5_1).toNat * 3)).off+2,none⟩=some (.string ((rd_T69 l0 x5_1).f2))) (ds:=[]) #[false,false,false,false,false,false,false,false] (by kernel_rfl) rfl rfl ⟨((cb_ HB.out hw394_0 :)),((cb_ HB.out hw394_1 :)),((cb_ HB.out hw394_2 :))⟩ (fun hHeld=>?_);refine with_tabW laws_heldRowS.tab10 laws_heldRowS.bits10 (fun HT_ HW_=>?_)
        generalize wr.drew=w11 at HB hx394_0 hx394_1 hx394_2 hHeld ⊢
        refine pa_ 0 30 ?_
        refine pa_ 1 31 ?_
        refine pa_ 2 32 ?_
        refine pa_ 3 33 ?_
        refine pa_ 5 35 ?_
        refine ta3_ 4 34 hHeld ?_
        refine on_ 6 36 (fun K hK=>?_)
        refine goes_ Tryd.func103 (by kernel_rfl) rfl #[.int .i64 (wrap64 ((wrap64 (x1_1+1))+1))] (by rfl) rfl rfl ar_ ?_
        with_reducible refine (laws_markText.calls k1 (wrap64 ((wrap64 (x1_1+1))+1)) t395 _ A7.out).mono ?_
        rintro e w12 ⟨rfl,hb⟩
        refine ⟨_,rfl,?_⟩
        replace HB:=a_ (bS_ (bel_) hb)
        try clear hb
        refine hK.out _ _ ⟨((cb_ HB.out hw394_0 :)),((cb_ HB.out hw394_1 :)),((cb_ HB.out hw394_2 :))⟩ (fun hHeld=>?_)
        clear hK K
        refine no_ 36 ?_
        refine pa_ 7 37 ?_
        refine done_ (done_of HT_.out (by kernel_rfl)) ?_
        try go_wp2
        go_ret
        exact ⟨fi_,bel_⟩
      ·rw [if_neg c6] at H
       have c6b0:(((rd_T69 l0 x5_1).f1)==(wrap64 (x1_1+1)))=false:=bn_ c6
       have c6b1:(((rd_T69 l0 x5_1).f1) != (wrap64 (x1_1+1)))=true:=bne_iff_ne.mpr c6
       obtain rfl:=sj_ H
       have p392:0≤(x5_1:Int):=od_
       have q392:x5_1 < (l0.length:Int):=od_
       obtain ⟨ad392,e392,hx392_0,hx392_1,hx392_2⟩:=at_T69 HR0.out x5_1 p392 q392
       cases e392
       replace hx392_0:=(cb_ HB.out hx392_0 :)
       replace hx392_1:=(cb_ HB.out hx392_1 :)
       replace hx392_2:=(cb_ HB.out hx392_2 :)
       replace p392:=eq_true p392
       replace q392:=eq_true q392
       have p393:0≤(x5_1:Int):=od_
       have q393:x5_1 < (l0.length:Int):=od_
       obtain ⟨ad393,e393,hx393_0,hx393_1,hx393_2⟩:=at_T69 HR0.out x5_1 p393 q393
       obtain rfl:ad392=ad393:=(by injection e393)
       replace hx393_0:=(cb_ HB.out hx393_0 :)
       replace hx393_1:=(cb_ HB.out hx393_1 :)
       replace hx393_2:=(cb_ HB.out hx393_2 :)
       replace p393:=eq_true p393
       replace q393:=eq_true q393
       go_wp2
       go_ret
       exact ⟨fi_,bel_⟩
     ·rw [if_neg c5] at H
      have c5b0:(((rd_T69 l0 x5_1).f0)==x1_1)=false:=bn_ c5
      have c5b1:(((rd_T69 l0 x5_1).f0) != x1_1)=true:=bne_iff_ne.mpr c5
      obtain rfl:=sj_ H
      have p392:0≤(x5_1:Int):=od_
      have q392:x5_1 < (l0.length:Int):=od_
      obtain ⟨ad392,e392,hx392_0,hx392_1,hx392_2⟩:=at_T69 HR0.out x5_1 p392 q392
      cases e392
      replace hx392_0:=(cb_ HB.out hx392_0 :)
      replace hx392_1:=(cb_ HB.out hx392_1 :)
      replace hx392_2:=(cb_ HB.out hx392_2 :)
      replace p392:=eq_true p392
      replace q392:=eq_true q392
      go_wp2
      go_ret
      exact ⟨fi_,bel_⟩
    ·rw [if_neg c4] at H
     exact absurd H (by simp)
   ·rw [if_neg c3] at H
    have c3b0:decide (x5_1 < (l0.length:Int))=false:=df_ c3
    clear c3
    obtain rfl:=sj_ H
    go_wp2
    go_ret
    exact ⟨fi_,bel_⟩

def laws_heldEntryS.l0:Nat→List (S44)→Int→Int→Option (Int)
 | 0,_,_,_=>none
 | k+1,x0,x1,x5=>if x5 < (x0.length:Int) then (if 0≤x5 then (if ((rd_T44 x0 x5).f0)=x1 then (if ((rd_T44 x0 x5).f1)=(wrap64 (x1+1)) then (if ((rd_T44 x0 x5).f2.f0)=(wrap64 ((wrap64 (x1+1))+1)) then (if ((rd_T44 x0 x5).f2.f1)=(wrap64 ((wrap64 ((wrap64 (x1+1))+1))+1)) then (if ((rd_T44 x0 x5).f2.f2)=(wrap64 ((wrap64 ((wrap64 ((wrap64 (x1+1))+1))+1))+1)) then (if ((rd_T44 x0 x5).f2.f3)=(wrap64 ((wrap64 ((wrap64 ((wrap64 ((wrap64 (x1+1))+1))+1))+1))+1)) then ((laws_markText.f k (wrap64 ((wrap64 ((wrap64 ((wrap64 ((wrap64 ((wrap64 (x1+1))+1))+1))+1))+1))+1))).bind fun t403=>(if ((rd_T44 x0 x5).f2.f4).toList=t403.toList then (laws_heldEntryS.l0 k x0 (wrap64 ((wrap64 ((wrap64 ((wrap64 ((wrap64 ((wrap64 ((wrap64 (x1+1))+1))+1))+1))+1))+1))+1)) (wrap64 (x5+1))) else (some (-1)))) else (some (-1))) else (some (-1))) else (some (-1))) else (some (-1))) else (some (-1))) else (some (-1))) else (none)) else (some x1)
def laws_heldEntryS.f (k:Nat) (l0:List (S44)) (a1:Int):Option (Int):=laws_heldEntryS.l0 k l0 a1 0
def laws_heldEntryS.T22:Bool×List (List Nat×List Nat):=(true,[([],[]),([],[]),([0,1],[0,1]),([2],[2]),([3],[3]),([4],[4]),([],[]),([6],[6]),([5,7],[5,7])])
def laws_heldEntryS.B22:List Nat:=[0,0,3,7,15,31,0,64,255]
theorem laws_heldEntryS.tab22:rtab .any (opsOf Tryd.f83 22)=laws_heldEntryS.T22:=by kernel_rfl
theorem laws_heldEntryS.bits22:waitsOk laws_heldEntryS.T22.2 laws_heldEntryS.B22=true:=by kernel_rfl
theorem laws_heldEntryS.calls (k:Nat) (A0:Option Addr) (c0:Nat) (l0:List (S44)) (a1:Int) (r:Int) (w:World) (hr0:Kd.C k44 w A0 l0.length l0) (hc0:l0.length≤c0) (h:laws_heldEntryS.f k l0 a1=some r) :
  Calls Tryd.prog 83 #[.slice A0 l0.length c0,.int .i64 a1] w fun e w'=>e=.returned (.int .i64 r)∧Below w.heap.size w w':=by
 have HR0:=a_ hr0
 have HC0:=a_ hc0
 clear hr0 hc0
 have HB:=a_ (Below.refl w.heap.size w)
 unfold laws_heldEntryS.f at h
 have H:=h
 clear h
 have H':=a_ H
 clear H
 go_enter Tryd.func83,Tryd.ntmps83
 go_wp2
 go_loopg [1,5] k (fun kq v1 v5 w'=>∃ (x1_1:Int) (x5_1:Int),v1=.int .i64 x1_1∧v5=.int .i64 x5_1∧Aside0 (laws_heldEntryS.l0 kq l0 x1_1 x5_1=some r)∧Aside0 (kq≤k)∧Aside0 (Below w.heap.size w w'))
 case atStart=>exact ⟨(a1),(0),(si_),(si_),H',⟨Nat.le_refl _⟩,⟨bel_⟩⟩
 case round =>
  clear H'
  try clear p2
  obtain ⟨x1_1,x5_1,rfl,rfl,HA,HK1,HB⟩:=hrel
  cases gk with
  | zero=>exact absurd HA.out (by simp [laws_heldEntryS.l0])
  | succ k1 =>
   have H:=HA.out
   clear HA
   simp only [laws_heldEntryS.l0] at H
   by_cases c3:x5_1 < (l0.length:Int)
   ·rw [if_pos c3] at H
    have c3b0:decide (x5_1 < (l0.length:Int))=true:=dt_ c3
    clear c3
    by_cases c4:0≤x5_1
    ·rw [if_pos c4] at H
     have c4b0:decide (0≤x5_1)=true:=dt_ c4
     clear c4
     by_cases c5:((rd_T44 l0 x5_1).f0)=x1_1
     ·rw [if_pos c5] at H
      have c5b0:(((rd_T44 l0 x5_1).f0)==x1_1)=true:=beq_iff_eq.mpr c5
      have c5b1:(((rd_T44 l0 x5_1).f0) != x1_1)=false:=be_ c5
      clear c5
      by_cases c6:((rd_T44 l0 x5_1).f1)=(wrap64 (x1_1+1))
      ·rw [if_pos c6] at H
       have c6b0:(((rd_T44 l0 x5_1).f1)==(wrap64 (x1_1+1)))=true:=beq_iff_eq.mpr c6
       have c6b1:(((rd_T44 l0 x5_1).f1) != (wrap64 (x1_1+1)))=false:=be_ c6
       clear c6
       by_cases c7:((rd_T44 l0 x5_1).f2.f0)=(wrap64 ((wrap64 (x1_1+1))+1))
       ·rw [if_pos c7] at H
        have c7b0:(((rd_T44 l0 x5_1).f2.f0)==(wrap64 ((wrap64 (x1_1+1))+1)))=true:=beq_iff_eq.mpr c7
        have c7b1:(((rd_T44 l0 x5_1).f2.f0) != (wrap64 ((wrap64 (x1_1+1))+1)))=false:=be_ c7
        clear c7
        by_cases c8:((rd_T44 l0 x5_1).f2.f1)=(wrap64 ((wrap64 ((wrap64 (x1_1+1))+1))+1))
        ·rw [if_pos c8] at H
         have c8b0:(((rd_T44 l0 x5_1).f2.f1)==(wrap64 ((wrap64 ((wrap64 (x1_1+1))+1))+1)))=true:=beq_iff_eq.mpr c8
         have c8b1:(((rd_T44 l0 x5_1).f2.f1) != (wrap64 ((wrap64 ((wrap64 (x1_1+1))+1))+1)))=false:=be_ c8
         clear c8
         by_cases c9:((rd_T44 l0 x5_1).f2.f2)=(wrap64 ((wrap64 ((wrap64 ((wrap64 (x1_1+1))+1))+1))+1))
         ·rw [if_pos c9] at H
          have c9b0:(((rd_T44 l0 x5_1).f2.f2)==(wrap64 ((wrap64 ((wrap64 ((wrap64 (x1_1+1))+1))+1))+1)))=true:=beq_iff_eq.mpr c9
          have c9b1:(((rd_T44 l0 x5_1).f2.f2) != (wrap64 ((wrap64 ((wrap64 ((wrap64 (x1_1+1))+1))+1))+1)))=false:=be_ c9
          clear c9
          by_cases c10:((rd_T44 l0 x5_1).f2.f3)=(wrap64 ((wrap64 ((wrap64 ((wrap64 ((wrap64 (x1_1+1))+1))+1))+1))+1))
          ·rw [if_pos c10] at H
           have c10b0:(((rd_T44 l0 x5_1).f2.f3)==(wrap64 ((wrap64 ((wrap64 ((wrap64 ((wrap64 (x1_1+1))+1))+1))+1))+1)))=true:=beq_iff_eq.mpr c10
           have c10b1:(((rd_T44 l0 x5_1).f2.f3) != (wrap64 ((wrap64 ((wrap64 ((wrap64 ((wrap64 (x1_1+1))+1))+1))+1))+1)))=false:=be_ c10
           clear c10
           replace H:=bs_ H
           obtain ⟨t403,A110,H⟩:=H
           try dsimp only at H
           have A11:=a_ A110
           clear A110
           by_cases c12:((rd_T44 l0 x5_1).f2.f4).toList=t403.toList
           ·rw [if_pos c12] at H
            have c12b0:(((rd_T44 l0 x5_1).f2.f4).toList==t403.toList)=true:=beq_iff_eq.mpr c12
            have c12b1:(((rd_T44 l0 x5_1).f2.f4).toList != t403.toList)=false:=be_ c12
            clear c12
            have H':=a_ H
            clear H
            have p396:0≤(x5_1:Int):=od_
            have q396:x5_1 < (l0.length:Int):=od_
            obtain ⟨ad396,e396,hx396_0,hx396_1,hx396_2,hx396_3,hx396_4,hx396_5,hx396_6⟩:=at_T44 HR0.out x5_1 p396 q396
            cases e396
            replace hx396_0:=(cb_ HB.out hx396_0 :)
            replace hx396_1:=(cb_ HB.out hx396_1 :)
            replace hx396_2:=(cb_ HB.out hx396_2 :)
            replace hx396_3:=(cb_ HB.out hx396_3 :)
            replace hx396_4:=(cb_ HB.out hx396_4 :)
            replace hx396_5:=(cb_ HB.out hx396_5 :)
            replace hx396_6:=(cb_ HB.out hx396_6 :)
            replace p396:=eq_true p396
            replace q396:=eq_true q396
            have p397:0≤(x5_1:Int):=od_
            have q397:x5_1 < (l0.length:Int):=od_
            obtain ⟨ad397,e397,hx397_0,hx397_1,hx397_2,hx397_3,hx397_4,hx397_5,hx397_6⟩:=at_T44 HR0.out x5_1 p397 q397
            obtain rfl:ad396=ad397:=(by injection e397)
            replace hx397_0:=(cb_ HB.out hx397_0 :)
            replace hx397_1:=(cb_ HB.out hx397_1 :)
            replace hx397_2:=(cb_ HB.out hx397_2 :)
            replace hx397_3:=(cb_ HB.out hx397_3 :)
            replace hx397_4:=(cb_ HB.out hx397_4 :)
            replace hx397_5:=(cb_ HB.out hx397_5 :)
            replace hx397_6:=(cb_ HB.out hx397_6 :)
            replace p397:=eq_true p397
            replace q397:=eq_true q397
            have p398:0≤(x5_1:Int):=od_
            have q398:x5_1 < (l0.length:Int):=od_
            obtain ⟨ad398,e398,hx398_0,hx398_1,hx398_2,hx398_3,hx398_4,hx398_5,hx398_6⟩:=at_T44 HR0.out x5_1 p398 q398
            obtain rfl:ad396=ad398:=(by injection e398)
            replace hx398_0:=(cb_ HB.out hx398_0 :)
            replace hx398_1:=(cb_ HB.out hx398_1 :)
            replace hx398_2:=(cb_ HB.out hx398_2 :)
            replace hx398_3:=(cb_ HB.out hx398_3 :)
            replace hx398_4:=(cb_ HB.out hx398_4 :)
            replace hx398_5:=(cb_ HB.out hx398_5 :)
            replace hx398_6:=(cb_ HB.out hx398_6 :)
            replace p398:=eq_true p398
            replace q398:=eq_true q398
            have p399:0≤(x5_1:Int):=od_
            have q399:x5_1 < (l0.length:Int):=od_
            obtain ⟨ad399,e399,hx399_0,hx399_1,hx399_2,hx399_3,hx399_4,hx399_5,hx399_6⟩:=at_T44 HR0.out x5_1 p399 q399
            obtain rfl:ad396=ad399:=(by injection e399)
            replace hx399_0:=(cb_ HB.out hx399_0 :)
            replace hx399_1:=(cb_ HB.out hx399_1 :)
            replace hx399_2:=(cb_ HB.out hx399_2 :)
            replace hx399_3:=(cb_ HB.out hx399_3 :)
            replace hx399_4:=(cb_ HB.out hx399_4 :)
            replace hx399_5:=(cb_ HB.out hx399_5 :)
            replace hx399_6:=(cb_ HB.out hx399_6 :)
            replace p399:=eq_true p399
            replace q399:=eq_true q399
            have p400:0≤(x5_1:Int):=od_
            have q400:x5_1 < (l0.length:Int):=od_
            obtain ⟨ad400,e400,hx400_0,hx400_1,hx400_2,hx400_3,hx400_4,hx400_5,hx400_6⟩:=at_T44 HR0.out x5_1 p400 q400
            obtain rfl:ad396=ad400:=(by injection e400)
            replace hx400_0:=(cb_ HB.out hx400_0 :)
            replace hx400_1:=(cb_ HB.out hx400_1 :)
            replace hx400_2:=(cb_ HB.out hx400_2 :)
            replace hx400_3:=(cb_ HB.out hx400_3 :)
            replace hx400_4:=(cb_ HB.out hx400_4 :)
            replace hx400_5:=(cb_ HB.out hx400_5 :)
            replace hx400_6:=(cb_ HB.out hx400_6 :)
            replace p400:=eq_true p400
            replace q400:=eq_true q400
            have p401:0≤(x5_1:Int):=od_
            have q401:x5_1 < (l0.length:Int):=od_
            obtain ⟨ad401,e401,hx401_0,hx401_1,hx401_2,hx401_3,hx401_4,hx401_5,hx401_6⟩:=at_T44 HR0.out x5_1 p401 q401
            obtain rfl:ad396=ad401:=(by injection e401)
            replace hx401_0:=(cb_ HB.out hx401_0 :)
            replace hx401_1:=(cb_ HB.out hx401_1 :)
            replace hx401_2:=(cb_ HB.out hx401_2 :)
            replace hx401_3:=(cb_ HB.out hx401_3 :)
            replace hx401_4:=(cb_ HB.out hx401_4 :)
            replace hx401_5:=(cb_ HB.out hx401_5 :)
            replace hx401_6:=(cb_ HB.out hx401_6 :)
            replace p401:=eq_true p401
            replace q401:=eq_true q401
            try go_wp2
            replace HB:=a_ (below_drew1 HB.out)
            have p402:0≤(x5_1:Int):=od_
            have q402:x5_1 < (l0.length:Int):=od_
            obtain ⟨ad402,e402,hx402_0,hx402_1,hx402_2,hx402_3,hx402_4,hx402_5,hx402_6⟩:=at_T44 HR0.out x5_1 p402 q402
            have hw402_6:=hx402_6
            have hw402_5:=hx402_5
            have hw402_4:=hx402_4
            have hw402_3:=hx402_3
            have hw402_2:=hx402_2
            have hw402_1:=hx402_1
            have hw402_0:=hx402_0
            obtain rfl:ad396=ad402:=(by injection e402)
            replace hx402_0:=(cb_ HB.out hx402_0 :)
            replace hx402_1:=(cb_ HB.out hx402_1 :)
            replace hx402_2:=(cb_ HB.out hx402_2 :)
            replace hx402_3:=(cb_ HB.out hx402_3 :)
            replace hx402_4:=(cb_ HB.out hx402_4 :)
            replace hx402_5:=(cb_ HB.out hx402_5 :)
            replace hx402_6:=(cb_ HB.out hx402_6 :)
            replace p402:=eq_true p402
            replace q402:=eq_true q402
            refine start_ (n:=9) (S:=fun w'=>w'.cell? (ad396.add ((x5_1).toNat * 7))=some (.int .i64 ((rd_T44 l0 x5_1).f0))∧w'.cell? ⟨(ad396.add ((x5_1).toNat * 7)).block,(ad396.add ((x5_1).toNat * 7)).off+1,none⟩=some (.int .i64 ((rd_T44 l0 x5_1).f1))∧w'.cell? ⟨(ad396.add ((x5_1).toNat * 7)).block,(ad396.add ((x5_1).toNat * 7)).off+2,none⟩=some (.int .i64 ((rd_T44 l0 x5_1).f2.f0))∧w'.cell? ⟨(ad396.add ((x5_1).toNat * 7)).block,(ad396.add ((x5_1).toNat * 7)).off+3,none⟩=some (.int .i64 ((rd_T44 l0 x5_1).f2.f1))∧w'.cell? ⟨(ad396.add ((x5_1).toNat * 7)).block,(ad396.add ((x5_1).toNat * 7)).off+4,none⟩=some (.int .i64 ((rd_T44 l0 x5_1).f2.f2))∧w'.cell? ⟨(ad396.add ((x5_1).toNat * 7)).block,(ad396.add ((x5_1).toNat * 7)).off+5,none⟩=some (.int .i64 ((rd_T44 l0 x5_1).f2.f3))∧w'.cell? ⟨(ad396.add ((x5_1).toNat * 7)).block,(ad396.add ((x5_1).toNat * 7)).off+6,none⟩=some (.string ((rd_T44 l0 x5_1).f2.f4))) (ds:=[]) #[false,false,false,false,false,false,false,false,false] (by kernel_rfl) rfl rfl ⟨((cb_ HB.out hw402_0 :)),((cb_ HB.out hw402_1 :)),((cb_ HB.out hw402_2 :)),((cb_ HB.out hw402_3 :)),((cb_ HB.out hw402_4 :)),((cb_ HB.out hw402_5 :)),((cb_ HB.out hw402_6 :))⟩ (fun hHeld=>?_);refine with_tabW laws_heldEntryS.tab22 laws_heldEntryS.bits22 (fun HT_ HW_=>?_)
            generalize wr.drew=w13 at HB hx402_0 hx402_1 hx402_2 hx402_3 hx402_4 hx402_5 hx402_6 hHeld ⊢
            refine pa_ 0 70 ?_
            refine pa_ 1 71 ?_
            refine pa_ 2 72 ?_
            refine pa_ 3 73 ?_
            refine pa_ 4 74 ?_
            refine pa_ 6 76 ?_
            refine ta7_ 5 75 hHeld ?_
            refine on_ 7 77 (fun K hK=>?_)
            refine goes_ Tryd.func103 (by kernel_rfl) rfl #[.int .i64 (wrap64 ((wrap64 ((wrap64 ((wrap64 ((wrap64 ((wrap64 (x1_1+1))+1))+1))+1))+1))+1))] (by rfl) rfl rfl ar_ ?_
            with_reducible refine (laws_markText.calls k1 (wrap64 ((wrap64 ((wrap64 ((wrap64 ((wrap64 ((wrap64 (x1_1+1))+1))+1))+1))+1))+1)) t403 _ A11.out).mono ?_
            rintro e w14 ⟨rfl,hb⟩
            refine ⟨_,rfl,?_⟩
            replace HB:=a_ (bS_ (bel_) hb)
            try clear hb
            refine hK.out _ _ ⟨((cb_ HB.out hw402_0 :)),((cb_ HB.out hw402_1 :)),((cb_ HB.out hw402_2 :)),((cb_ HB.out hw402_3 :)),((cb_ HB.out hw402_4 :)),((cb_ HB.out hw402_5 :)),((cb_ HB.out hw402_6 :))⟩ (fun hHeld=>?_)
            clear hK K
            refine no_ 77 ?_
            refine pa_ 8 78 ?_
            refine done_ (done_of HT_.out (by kernel_rfl)) ?_
            try go_wp2
            go_roundg k1
            case measure=>have:=HK1.out;omega
            case rel=>exact ⟨(wrap64 ((wrap64 ((wrap64 ((wrap64 ((wrap64 ((wrap64 ((wrap64 (x1_1+1))+1))+1))+1))+1))+1))+1)),(wrap64 (x5_1+1)),(si_),(si_),H',⟨by have:=HK1.out;omega⟩,⟨bel_⟩⟩
           ·rw [if_neg c12] at H
            have c12b0:(((rd_T44 l0 x5_1).f2.f4).toList==t403.toList)=false:=bn_ c12
            have c12b1:(((rd_T44 l0 x5_1).f2.f4).toList != t403.toList)=true:=bne_iff_ne.mpr c12
            obtain rfl:=sj_ H
            have p396:0≤(x5_1:Int):=od_
            have q396:x5_1 < (l0.length:Int):=od_
            obtain ⟨ad396,e396,hx396_0,hx396_1,hx396_2,hx396_3,hx396_4,hx396_5,hx396_6⟩:=at_T44 HR0.out x5_1 p396 q396
            cases e396
            replace hx396_0:=(cb_ HB.out hx396_0 :)
            replace hx396_1:=(cb_ HB.out hx396_1 :)
            replace hx396_2:=(cb_ HB.out hx396_2 :)
            replace hx396_3:=(cb_ HB.out hx396_3 :)
            replace hx396_4:=(cb_ HB.out hx396_4 :)
            replace hx396_5:=(cb_ HB.out hx396_5 :)
            replace hx396_6:=(cb_ HB.out hx396_6 :)
            replace p396:=eq_true p396
            replace q396:=eq_true q396
            have p397:0≤(x5_1:Int):=od_
            have q397:x5_1 < (l0.length:Int):=od_
            obtain ⟨ad397,e397,hx397_0,hx397_1,hx397_2,hx397_3,hx397_4,hx397_5,hx397_6⟩:=at_T44 HR0.out x5_1 p397 q397
            obtain rfl:ad396=ad397:=(by injection e397)
            replace hx397_0:=(cb_ HB.out hx397_0 :)
            replace hx397_1:=(cb_ HB.out hx397_1 :)
            replace hx397_2:=(cb_ HB.out hx397_2 :)
            replace hx397_3:=(cb_ HB.out hx397_3 :)
            replace hx397_4:=(cb_ HB.out hx397_4 :)
            replace hx397_5:=(cb_ HB.out hx397_5 :)
            replace hx397_6:=(cb_ HB.out hx397_6 :)
            replace p397:=eq_true p397
            replace q397:=eq_true q397
            have p398:0≤(x5_1:Int):=od_
            have q398:x5_1 < (l0.length:Int):=od_
            obtain ⟨ad398,e398,hx398_0,hx398_1,hx398_2,hx398_3,hx398_4,hx398_5,hx398_6⟩:=at_T44 HR0.out x5_1 p398 q398
            obtain rfl:ad396=ad398:=(by injection e398)
            replace hx398_0:=(cb_ HB.out hx398_0 :)
            replace hx398_1:=(cb_ HB.out hx398_1 :)
            replace hx398_2:=(cb_ HB.out hx398_2 :)
            replace hx398_3:=(cb_ HB.out hx398_3 :)
            replace hx398_4:=(cb_ HB.out hx398_4 :)
            replace hx398_5:=(cb_ HB.out hx398_5 :)
            replace hx398_6:=(cb_ HB.out hx398_6 :)
            replace p398:=eq_true p398
            replace q398:=eq_true q398
            have p399:0≤(x5_1:Int):=od_
            have q399:x5_1 < (l0.length:Int):=od_
            obtain ⟨ad399,e399,hx399_0,hx399_1,hx399_2,hx399_3,hx399_4,hx399_5,hx399_6⟩:=at_T44 HR0.out x5_1 p399 q399
            obtain rfl:ad396=ad399:=(by injection e399)
            replace hx399_0:=(cb_ HB.out hx399_0 :)
            replace hx399_1:=(cb_ HB.out hx399_1 :)
            replace hx399_2:=(cb_ HB.out hx399_2 :)
            replace hx399_3:=(cb_ HB.out hx399_3 :)
            replace hx399_4:=(cb_ HB.out hx399_4 :)
            replace hx399_5:=(cb_ HB.out hx399_5 :)
            replace hx399_6:=(cb_ HB.out hx399_6 :)
            replace p399:=eq_true p399
            replace q399:=eq_true q399
            have p400:0≤(x5_1:Int):=od_
            have q400:x5_1 < (l0.length:Int):=od_
            obtain ⟨ad400,e400,hx400_0,hx400_1,hx400_2,hx400_3,hx400_4,hx400_5,hx400_6⟩:=at_T44 HR0.out x5_1 p400 q400
            obtain rfl:ad396=ad400:=(by injection e400)
            replace hx400_0:=(cb_ HB.out hx400_0 :)
            replace hx400_1:=(cb_ HB.out hx400_1 :)
            replace hx400_2:=(cb_ HB.out hx400_2 :)
            replace hx400_3:=(cb_ HB.out hx400_3 :)
            replace hx400_4:=(cb_ HB.out hx400_4 :)
            replace hx400_5:=(cb_ HB.out hx400_5 :)
            replace hx400_6:=(cb_ HB.out hx400_6 :)
            replace p400:=eq_true p400
            replace q400:=eq_true q400
            have p401:0≤(x5_1:Int):=od_
            have q401:x5_1 < (l0.length:Int):=od_
            obtain ⟨ad401,e401,hx401_0,hx401_1,hx401_2,hx401_3,hx401_4,hx401_5,hx401_6⟩:=at_T44 HR0.out x5_1 p401 q401
            obtain rfl:ad396=ad401:=(by injection e401)
            replace hx401_0:=(cb_ HB.out hx401_0 :)
            replace hx401_1:=(cb_ HB.out hx401_1 :)
            replace hx401_2:=(cb_ HB.out hx401_2 :)
            replace hx401_3:=(cb_ HB.out hx401_3 :)
            replace hx401_4:=(cb_ HB.out hx401_4 :)
            replace hx401_5:=(cb_ HB.out hx401_5 :)
            replace hx401_6:=(cb_ HB.out hx401_6 :)
            replace p401:=eq_true p401
            replace q401:=eq_true q401
            try go_wp2
            replace HB:=a_ (below_drew1 HB.out)
            have p402:0≤(x5_1:Int):=od_
            have q402:x5_1 < (l0.length:Int):=od_
            obtain ⟨ad402,e402,hx402_0,hx402_1,hx402_2,hx402_3,hx402_4,hx402_5,hx402_6⟩:=at_T44 HR0.out x5_1 p402 q402
            have hw402_6:=hx402_6
            have hw402_5:=hx402_5
            have hw402_4:=hx402_4
            have hw402_3:=hx402_3
            have hw402_2:=hx402_2
            have hw402_1:=hx402_1
            have hw402_0:=hx402_0
            obtain rfl:ad396=ad402:=(by injection e402)
            replace hx402_0:=(cb_ HB.out hx402_0 :)
            replace hx402_1:=(cb_ HB.out hx402_1 :)
            replace hx402_2:=(cb_ HB.out hx402_2 :)
            replace hx402_3:=(cb_ HB.out hx402_3 :)
            replace hx402_4:=(cb_ HB.out hx402_4 :)
            replace hx402_5:=(cb_ HB.out hx402_5 :)
            replace hx402_6:=(cb_ HB.out hx402_6 :)
            replace p402:=eq_true p402
            replace q402:=eq_true q402
            refine start_ (n:=9) (S:=fun w'=>w'.cell? (ad396.add ((x5_1).toNat * 7))=some (.int .i64 ((rd_T44 l0 x5_1).f0))∧w'.cell? ⟨(ad396.add ((x5_1).toNat * 7)).block,(ad396.add ((x5_1).toNat * 7)).off+1,none⟩=some (.int .i64 ((rd_T44 l0 x5_1).f1))∧w'.cell? ⟨(ad396.add ((x5_1).toNat * 7)).block,(ad396.add ((x5_1).toNat * 7)).off+2,none⟩=some (.int .i64 ((rd_T44 l0 x5_1).f2.f0))∧w'.cell? ⟨(ad396.add ((x5_1).toNat * 7)).block,(ad396.add ((x5_1).toNat * 7)).off+3,none⟩=some (.int .i64 ((rd_T44 l0 x5_1).f2.f1))∧w'.cell? ⟨(ad396.add ((x5_1).toNat * 7)).block,(ad396.add ((x5_1).toNat * 7)).off+4,none⟩=some (.int .i64 ((rd_T44 l0 x5_1).f2.f2))∧w'.cell? ⟨(ad396.add ((x5_1).toNat * 7)).block,(ad396.add ((x5_1).toNat * 7)).off+5,none⟩=some (.int .i64 ((rd_T44 l0 x5_1).f2.f3))∧w'.cell? ⟨(ad396.add ((x5_1).toNat * 7)).block,(ad396.add ((x5_1).toNat * 7)).off+6,none⟩=some (.string ((rd_T44 l0 x5_1).f2.f4))) (ds:=[]) #[false,false,false,false,false,false,false,false,false] (by kernel_rfl) rfl rfl ⟨((cb_ HB.out hw402_0 :)),((cb_ HB.out hw402_1 :)),((cb_ HB.out hw402_2 :)),((cb_ HB.out hw402_3 :)),((cb_ HB.out hw402_4 :)),((cb_ HB.out hw402_5 :)),((cb_ HB.out hw402_6 :))⟩ (fun hHeld=>?_);refine with_tabW laws_heldEntryS.tab22 laws_heldEntryS.bits22 (fun HT_ HW_=>?_)
            generalize wr.drew=w15 at HB hx402_0 hx402_1 hx402_2 hx402_3 hx402_4 hx402_5 hx402_6 hHeld ⊢
            refine pa_ 0 70 ?_
            refine pa_ 1 71 ?_
            refine pa_ 2 72 ?_
            refine pa_ 3 73 ?_
            refine pa_ 4 74 ?_
            refine pa_ 6 76 ?_
            refine ta7_ 5 75 hHeld ?_
            refine on_ 7 77 (fun K hK=>?_)
            refine goes_ Tryd.func103 (by kernel_rfl) rfl #[.int .i64 (wrap64 ((wrap64 ((wrap64 ((wrap64 ((wrap64 ((wrap64 (x1_1+1))+1))+1))+1))+1))+1))] (by rfl) rfl rfl ar_ ?_
            with_reducible refine (laws_markText.calls k1 (wrap64 ((wrap64 ((wrap64 ((wrap64 ((wrap64 ((wrap64 (x1_1+1))+1))+1))+1))+1))+1)) t403 _ A11.out).mono ?_
            rintro e w16 ⟨rfl,hb⟩
            refine ⟨_,rfl,?_⟩
            replace HB:=a_ (bS_ (bel_) hb)
            try clear hb
            refine hK.out _ _ ⟨((cb_ HB.out hw402_0 :)),((cb_ HB.out hw402_1 :)),((cb_ HB.out hw402_2 :)),((cb_ HB.out hw402_3 :)),((cb_ HB.out hw402_4 :)),((cb_ HB.out hw402_5 :)),((cb_ HB.out hw402_6 :))⟩ (fun hHeld=>?_)
            clear hK K
            refine no_ 77 ?_
            refine pa_ 8 78 ?_
            refine done_ (done_of HT_.out (by kernel_rfl)) ?_
            try go_wp2
            go_ret
            exact ⟨fi_,bel_⟩
          ·rw [if_neg c10] at H
           have c10b0:(((rd_T44 l0 x5_1).f2.f3)==(wrap64 ((wrap64 ((wrap64 ((wrap64 ((wrap64 (x1_1+1))+1))+1))+1))+1)))=false:=bn_ c10
           have c10b1:(((rd_T44 l0 x5_1).f2.f3) != (wrap64 ((wrap64 ((wrap64 ((wrap64 ((wrap64 (x1_1+1))+1))+1))+1))+1)))=true:=bne_iff_ne.mpr c10
           obtain rfl:=sj_ H
           have p396:0≤(x5_1:Int):=od_
           have q396:x5_1 < (l0.length:Int):=od_
           obtain ⟨ad396,e396,hx396_0,hx396_1,hx396_2,hx396_3,hx396_4,hx396_5,hx396_6⟩:=at_T44 HR0.out x5_1 p396 q396
           cases e396
           replace hx396_0:=(cb_ HB.out hx396_0 :)
           replace hx396_1:=(cb_ HB.out hx396_1 :)
           replace hx396_2:=(cb_ HB.out hx396_2 :)
           replace hx396_3:=(cb_ HB.out hx396_3 :)
           replace hx396_4:=(cb_ HB.out hx396_4 :)
           replace hx396_5:=(cb_ HB.out hx396_5 :)
           replace hx396_6:=(cb_ HB.out hx396_6 :)
           replace p396:=eq_true p396
           replace q396:=eq_true q396
           have p397:0≤(x5_1:Int):=od_
           have q397:x5_1 < (l0.length:Int):=od_
           obtain ⟨ad397,e397,hx397_0,hx397_1,hx397_2,hx397_3,hx397_4,hx397_5,hx397_6⟩:=at_T44 HR0.out x5_1 p397 q397
           obtain rfl:ad396=ad397:=(by injection e397)
           replace hx397_0:=(cb_ HB.out hx397_0 :)
           replace hx397_1:=(cb_ HB.out hx397_1 :)
           replace hx397_2:=(cb_ HB.out hx397_2 :)
           replace hx397_3:=(cb_ HB.out hx397_3 :)
           replace hx397_4:=(cb_ HB.out hx397_4 :)
           replace hx397_5:=(cb_ HB.out hx397_5 :)
           replace hx397_6:=(cb_ HB.out hx397_6 :)
           replace p397:=eq_true p397
           replace q397:=eq_true q397
           have p398:0≤(x5_1:Int):=od_
           have q398:x5_1 < (l0.length:Int):=od_
           obtain ⟨ad398,e398,hx398_0,hx398_1,hx398_2,hx398_3,hx398_4,hx398_5,hx398_6⟩:=at_T44 HR0.out x5_1 p398 q398
           obtain rfl:ad396=ad398:=(by injection e398)
           replace hx398_0:=(cb_ HB.out hx398_0 :)
           replace hx398_1:=(cb_ HB.out hx398_1 :)
           replace hx398_2:=(cb_ HB.out hx398_2 :)
           replace hx398_3:=(cb_ HB.out hx398_3 :)
           replace hx398_4:=(cb_ HB.out hx398_4 :)
           replace hx398_5:=(cb_ HB.out hx398_5 :)
           replace hx398_6:=(cb_ HB.out hx398_6 :)
           replace p398:=eq_true p398
           replace q398:=eq_true q398
           have p399:0≤(x5_1:Int):=od_
           have q399:x5_1 < (l0.length:Int):=od_
           obtain ⟨ad399,e399,hx399_0,hx399_1,hx399_2,hx399_3,hx399_4,hx399_5,hx399_6⟩:=at_T44 HR0.out x5_1 p399 q399
           obtain rfl:ad396=ad399:=(by injection e399)
           replace hx399_0:=(cb_ HB.out hx399_0 :)
           replace hx399_1:=(cb_ HB.out hx399_1 :)
           replace hx399_2:=(cb_ HB.out hx399_2 :)
           replace hx399_3:=(cb_ HB.out hx399_3 :)
           replace hx399_4:=(cb_ HB.out hx399_4 :)
           replace hx399_5:=(cb_ HB.out hx399_5 :)
           replace hx399_6:=(cb_ HB.out hx399_6 :)
           replace p399:=eq_true p399
           replace q399:=eq_true q399
           have p400:0≤(x5_1:Int):=od_
           have q400:x5_1 < (l0.length:Int):=od_
           obtain ⟨ad400,e400,hx400_0,hx400_1,hx400_2,hx400_3,hx400_4,hx400_5,hx400_6⟩:=at_T44 HR0.out x5_1 p400 q400
           obtain rfl:ad396=ad400:=(by injection e400)
           replace hx400_0:=(cb_ HB.out hx400_0 :)
           replace hx400_1:=(cb_ HB.out hx400_1 :)
           replace hx400_2:=(cb_ HB.out hx400_2 :)
           replace hx400_3:=(cb_ HB.out hx400_3 :)
           replace hx400_4:=(cb_ HB.out hx400_4 :)
           replace hx400_5:=(cb_ HB.out hx400_5 :)
           replace hx400_6:=(cb_ HB.out hx400_6 :)
           replace p400:=eq_true p400
           replace q400:=eq_true q400
           have p401:0≤(x5_1:Int):=od_
           have q401:x5_1 < (l0.length:Int):=od_
           obtain ⟨ad401,e401,hx401_0,hx401_1,hx401_2,hx401_3,hx401_4,hx401_5,hx401_6⟩:=at_T44 HR0.out x5_1 p401 q401
           obtain rfl:ad396=ad401:=(by injection e401)
           replace hx401_0:=(cb_ HB.out hx401_0 :)
           replace hx401_1:=(cb_ HB.out hx401_1 :)
           replace hx401_2:=(cb_ HB.out hx401_2 :)
           replace hx401_3:=(cb_ HB.out hx401_3 :)
           replace hx401_4:=(cb_ HB.out hx401_4 :)
           replace hx401_5:=(cb_ HB.out hx401_5 :)
           replace hx401_6:=(cb_ HB.out hx401_6 :)
           replace p401:=eq_true p401
           replace q401:=eq_true q401
           go_wp2
           go_ret
           exact ⟨fi_,bel_⟩
         ·rw [if_neg c9] at H
          have c9b0:(((rd_T44 l0 x5_1).f2.f2)==(wrap64 ((wrap64 ((wrap64 ((wrap64 (x1_1+1))+1))+1))+1)))=false:=bn_ c9
          have c9b1:(((rd_T44 l0 x5_1).f2.f2) != (wrap64 ((wrap64 ((wrap64 ((wrap64 (x1_1+1))+1))+1))+1)))=true:=bne_iff_ne.mpr c9
          obtain rfl:=sj_ H
          have p396:0≤(x5_1:Int):=od_
          have q396:x5_1 < (l0.length:Int):=od_
          obtain ⟨ad396,e396,hx396_0,hx396_1,hx396_2,hx396_3,hx396_4,hx396_5,hx396_6⟩:=at_T44 HR0.out x5_1 p396 q396
          cases e396
          replace hx396_0:=(cb_ HB.out hx396_0 :)
          replace hx396_1:=(cb_ HB.out hx396_1 :)
          replace hx396_2:=(cb_ HB.out hx396_2 :)
          replace hx396_3:=(cb_ HB.out hx396_3 :)
          replace hx396_4:=(cb_ HB.out hx396_4 :)
          replace hx396_5:=(cb_ HB.out hx396_5 :)
          replace hx396_6:=(cb_ HB.out hx396_6 :)
          replace p396:=eq_true p396
          replace q396:=eq_true q396
          have p397:0≤(x5_1:Int):=od_
          have q397:x5_1 < (l0.length:Int):=od_
          obtain ⟨ad397,e397,hx397_0,hx397_1,hx397_2,hx397_3,hx397_4,hx397_5,hx397_6⟩:=at_T44 HR0.out x5_1 p397 q397
          obtain rfl:ad396=ad397:=(by injection e397)
          replace hx397_0:=(cb_ HB.out hx397_0 :)
          replace hx397_1:=(cb_ HB.out hx397_1 :)
          replace hx397_2:=(cb_ HB.out hx397_2 :)
          replace hx397_3:=(cb_ HB.out hx397_3 :)
          replace hx397_4:=(cb_ HB.out hx397_4 :)
          replace hx397_5:=(cb_ HB.out hx397_5 :)
          replace hx397_6:=(cb_ HB.out hx397_6 :)
          replace p397:=eq_true p397
          replace q397:=eq_true q397
          have p398:0≤(x5_1:Int):=od_
          have q398:x5_1 < (l0.length:Int):=od_
          obtain ⟨ad398,e398,hx398_0,hx398_1,hx398_2,hx398_3,hx398_4,hx398_5,hx398_6⟩:=at_T44 HR0.out x5_1 p398 q398
          obtain rfl:ad396=ad398:=(by injection e398)
          replace hx398_0:=(cb_ HB.out hx398_0 :)
          replace hx398_1:=(cb_ HB.out hx398_1 :)
          replace hx398_2:=(cb_ HB.out hx398_2 :)
          replace hx398_3:=(cb_ HB.out hx398_3 :)
          replace hx398_4:=(cb_ HB.out hx398_4 :)
          replace hx398_5:=(cb_ HB.out hx398_5 :)
          replace hx398_6:=(cb_ HB.out hx398_6 :)
          replace p398:=eq_true p398
          replace q398:=eq_true q398
          have p399:0≤(x5_1:Int):=od_
          have q399:x5_1 < (l0.length:Int):=od_
          obtain ⟨ad399,e399,hx399_0,hx399_1,hx399_2,hx399_3,hx399_4,hx399_5,hx399_6⟩:=at_T44 HR0.out x5_1 p399 q399
          obtain rfl:ad396=ad399:=(by injection e399)
          replace hx399_0:=(cb_ HB.out hx399_0 :)
          replace hx399_1:=(cb_ HB.out hx399_1 :)
          replace hx399_2:=(cb_ HB.out hx399_2 :)
          replace hx399_3:=(cb_ HB.out hx399_3 :)
          replace hx399_4:=(cb_ HB.out hx399_4 :)
          replace hx399_5:=(cb_ HB.out hx399_5 :)
          replace hx399_6:=(cb_ HB.out hx399_6 :)
          replace p399:=eq_true p399
          replace q399:=eq_true q399
          have p400:0≤(x5_1:Int):=od_
          have q400:x5_1 < (l0.length:Int):=od_
          obtain ⟨ad400,e400,hx400_0,hx400_1,hx400_2,hx400_3,hx400_4,hx400_5,hx400_6⟩:=at_T44 HR0.out x5_1 p400 q400
          obtain rfl:ad396=ad400:=(by injection e400)
          replace hx400_0:=(cb_ HB.out hx400_0 :)
          replace hx400_1:=(cb_ HB.out hx400_1 :)
          replace hx400_2:=(cb_ HB.out hx400_2 :)
          replace hx400_3:=(cb_ HB.out hx400_3 :)
          replace hx400_4:=(cb_ HB.out hx400_4 :)
          replace hx400_5:=(cb_ HB.out hx400_5 :)
          replace hx400_6:=(cb_ HB.out hx400_6 :)
          replace p400:=eq_true p400
          replace q400:=eq_true q400
          go_wp2
          go_ret
          exact ⟨fi_,bel_⟩
        ·rw [if_neg c8] at H
         have c8b0:(((rd_T44 l0 x5_1).f2.f1)==(wrap64 ((wrap64 ((wrap64 (x1_1+1))+1))+1)))=false:=bn_ c8
         have c8b1:(((rd_T44 l0 x5_1).f2.f1) != (wrap64 ((wrap64 ((wrap64 (x1_1+1))+1))+1)))=true:=bne_iff_ne.mpr c8
         obtain rfl:=sj_ H
         have p396:0≤(x5_1:Int):=od_
         have q396:x5_1 < (l0.length:Int):=od_
         obtain ⟨ad396,e396,hx396_0,hx396_1,hx396_2,hx396_3,hx396_4,hx396_5,hx396_6⟩:=at_T44 HR0.out x5_1 p396 q396
         cases e396
         replace hx396_0:=(cb_ HB.out hx396_0 :)
         replace hx396_1:=(cb_ HB.out hx396_1 :)
         replace hx396_2:=(cb_ HB.out hx396_2 :)
         replace hx396_3:=(cb_ HB.out hx396_3 :)
         replace hx396_4:=(cb_ HB.out hx396_4 :)
         replace hx396_5:=(cb_ HB.out hx396_5 :)
         replace hx396_6:=(cb_ HB.out hx396_6 :)
         replace p396:=eq_true p396
         replace q396:=eq_true q396
         have p397:0≤(x5_1:Int):=od_
         have q397:x5_1 < (l0.length:Int):=od_
         obtain ⟨ad397,e397,hx397_0,hx397_1,hx397_2,hx397_3,hx397_4,hx397_5,hx397_6⟩:=at_T44 HR0.out x5_1 p397 q397
         obtain rfl:ad396=ad397:=(by injection e397)
         replace hx397_0:=(cb_ HB.out hx397_0 :)
         replace hx397_1:=(cb_ HB.out hx397_1 :)
         replace hx397_2:=(cb_ HB.out hx397_2 :)
         replace hx397_3:=(cb_ HB.out hx397_3 :)
         replace hx397_4:=(cb_ HB.out hx397_4 :)
         replace hx397_5:=(cb_ HB.out hx397_5 :)
         replace hx397_6:=(cb_ HB.out hx397_6 :)
         replace p397:=eq_true p397
         replace q397:=eq_true q397
         have p398:0≤(x5_1:Int):=od_
         have q398:x5_1 < (l0.length:Int):=od_
         obtain ⟨ad398,e398,hx398_0,hx398_1,hx398_2,hx398_3,hx398_4,hx398_5,hx398_6⟩:=at_T44 HR0.out x5_1 p398 q398
         obtain rfl:ad396=ad398:=(by injection e398)
         replace hx398_0:=(cb_ HB.out hx398_0 :)
         replace hx398_1:=(cb_ HB.out hx398_1 :)
         replace hx398_2:=(cb_ HB.out hx398_2 :)
         replace hx398_3:=(cb_ HB.out hx398_3 :)
         replace hx398_4:=(cb_ HB.out hx398_4 :)
         replace hx398_5:=(cb_ HB.out hx398_5 :)
         replace hx398_6:=(cb_ HB.out hx398_6 :)
         replace p398:=eq_true p398
         replace q398:=eq_true q398
         have p399:0≤(x5_1:Int):=od_
         have q399:x5_1 < (l0.length:Int):=od_
         obtain ⟨ad399,e399,hx399_0,hx399_1,hx399_2,hx399_3,hx399_4,hx399_5,hx399_6⟩:=at_T44 HR0.out x5_1 p399 q399
         obtain rfl:ad396=ad399:=(by injection e399)
         replace hx399_0:=(cb_ HB.out hx399_0 :)
         replace hx399_1:=(cb_ HB.out hx399_1 :)
         replace hx399_2:=(cb_ HB.out hx399_2 :)
         replace hx399_3:=(cb_ HB.out hx399_3 :)
         replace hx399_4:=(cb_ HB.out hx399_4 :)
         replace hx399_5:=(cb_ HB.out hx399_5 :)
         replace hx399_6:=(cb_ HB.out hx399_6 :)
         replace p399:=eq_true p399
         replace q399:=eq_true q399
         go_wp2
         go_ret
         exact ⟨fi_,bel_⟩
       ·rw [if_neg c7] at H
        have c7b0:(((rd_T44 l0 x5_1).f2.f0)==(wrap64 ((wrap64 (x1_1+1))+1)))=false:=bn_ c7
        have c7b1:(((rd_T44 l0 x5_1).f2.f0) != (wrap64 ((wrap64 (x1_1+1))+1)))=true:=bne_iff_ne.mpr c7
        obtain rfl:=sj_ H
        have p396:0≤(x5_1:Int):=od_
        have q396:x5_1 < (l0.length:Int):=od_
        obtain ⟨ad396,e396,hx396_0,hx396_1,hx396_2,hx396_3,hx396_4,hx396_5,hx396_6⟩:=at_T44 HR0.out x5_1 p396 q396
        cases e396
        replace hx396_0:=(cb_ HB.out hx396_0 :)
        replace hx396_1:=(cb_ HB.out hx396_1 :)
        replace hx396_2:=(cb_ HB.out hx396_2 :)
        replace hx396_3:=(cb_ HB.out hx396_3 :)
        replace hx396_4:=(cb_ HB.out hx396_4 :)
        replace hx396_5:=(cb_ HB.out hx396_5 :)
        replace hx396_6:=(cb_ HB.out hx396_6 :)
        replace p396:=eq_true p396
        replace q396:=eq_true q396
        have p397:0≤(x5_1:Int):=od_
        have q397:x5_1 < (l0.length:Int):=od_
        obtain ⟨ad397,e397,hx397_0,hx397_1,hx397_2,hx397_3,hx397_4,hx397_5,hx397_6⟩:=at_T44 HR0.out x5_1 p397 q397
        obtain rfl:ad396=ad397:=(by injection e397)
        replace hx397_0:=(cb_ HB.out hx397_0 :)
        replace hx397_1:=(cb_ HB.out hx397_1 :)
        replace hx397_2:=(cb_ HB.out hx397_2 :)
        replace hx397_3:=(cb_ HB.out hx397_3 :)
        replace hx397_4:=(cb_ HB.out hx397_4 :)
        replace hx397_5:=(cb_ HB.out hx397_5 :)
        replace hx397_6:=(cb_ HB.out hx397_6 :)
        replace p397:=eq_true p397
        replace q397:=eq_true q397
        have p398:0≤(x5_1:Int):=od_
        have q398:x5_1 < (l0.length:Int):=od_
        obtain ⟨ad398,e398,hx398_0,hx398_1,hx398_2,hx398_3,hx398_4,hx398_5,hx398_6⟩:=at_T44 HR0.out x5_1 p398 q398
        obtain rfl:ad396=ad398:=(by injection e398)
        replace hx398_0:=(cb_ HB.out hx398_0 :)
        replace hx398_1:=(cb_ HB.out hx398_1 :)
        replace hx398_2:=(cb_ HB.out hx398_2 :)
        replace hx398_3:=(cb_ HB.out hx398_3 :)
        replace hx398_4:=(cb_ HB.out hx398_4 :)
        replace hx398_5:=(cb_ HB.out hx398_5 :)
        replace hx398_6:=(cb_ HB.out hx398_6 :)
        replace p398:=eq_true p398
        replace q398:=eq_true q398
        go_wp2
        go_ret
        exact ⟨fi_,bel_⟩
      ·rw [if_neg c6] at H
       have c6b0:(((rd_T44 l0 x5_1).f1)==(wrap64 (x1_1+1)))=false:=bn_ c6
       have c6b1:(((rd_T44 l0 x5_1).f1) != (wrap64 (x1_1+1)))=true:=bne_iff_ne.mpr c6
       obtain rfl:=sj_ H
       have p396:0≤(x5_1:Int):=od_
       have q396:x5_1 < (l0.length:Int):=od_
       obtain ⟨ad396,e396,hx396_0,hx396_1,hx396_2,hx396_3,hx396_4,hx396_5,hx396_6⟩:=at_T44 HR0.out x5_1 p396 q396
       cases e396
       replace hx396_0:=(cb_ HB.out hx396_0 :)
       replace hx396_1:=(cb_ HB.out hx396_1 :)
       replace hx396_2:=(cb_ HB.out hx396_2 :)
       replace hx396_3:=(cb_ HB.out hx396_3 :)
       replace hx396_4:=(cb_ HB.out hx396_4 :)
       replace hx396_5:=(cb_ HB.out hx396_5 :)
       replace hx396_6:=(cb_ HB.out hx396_6 :)
       replace p396:=eq_true p396
       replace q396:=eq_true q396
       have p397:0≤(x5_1:Int):=od_
       have q397:x5_1 < (l0.length:Int):=od_
       obtain ⟨ad397,e397,hx397_0,hx397_1,hx397_2,hx397_3,hx397_4,hx397_5,hx397_6⟩:=at_T44 HR0.out x5_1 p397 q397
       obtain rfl:ad396=ad397:=(by injection e397)
       replace hx397_0:=(cb_ HB.out hx397_0 :)
       replace hx397_1:=(cb_ HB.out hx397_1 :)
       replace hx397_2:=(cb_ HB.out hx397_2 :)
       replace hx397_3:=(cb_ HB.out hx397_3 :)
       replace hx397_4:=(cb_ HB.out hx397_4 :)
       replace hx397_5:=(cb_ HB.out hx397_5 :)
       replace hx397_6:=(cb_ HB.out hx397_6 :)
       replace p397:=eq_true p397
       replace q397:=eq_true q397
       go_wp2
       go_ret
       exact ⟨fi_,bel_⟩
     ·rw [if_neg c5] at H
      have c5b0:(((rd_T44 l0 x5_1).f0)==x1_1)=false:=bn_ c5
      have c5b1:(((rd_T44 l0 x5_1).f0) != x1_1)=true:=bne_iff_ne.mpr c5
      obtain rfl:=sj_ H
      have p396:0≤(x5_1:Int):=od_
      have q396:x5_1 < (l0.length:Int):=od_
      obtain ⟨ad396,e396,hx396_0,hx396_1,hx396_2,hx396_3,hx396_4,hx396_5,hx396_6⟩:=at_T44 HR0.out x5_1 p396 q396
      cases e396
      replace hx396_0:=(cb_ HB.out hx396_0 :)
      replace hx396_1:=(cb_ HB.out hx396_1 :)
      replace hx396_2:=(cb_ HB.out hx396_2 :)
      replace hx396_3:=(cb_ HB.out hx396_3 :)
      replace hx396_4:=(cb_ HB.out hx396_4 :)
      replace hx396_5:=(cb_ HB.out hx396_5 :)
      replace hx396_6:=(cb_ HB.out hx396_6 :)
      replace p396:=eq_true p396
      replace q396:=eq_true q396
      go_wp2
      go_ret
      exact ⟨fi_,bel_⟩
    ·rw [if_neg c4] at H
     exact absurd H (by simp)
   ·rw [if_neg c3] at H
    have c3b0:decide (x5_1 < (l0.length:Int))=false:=df_ c3
    clear c3
    obtain rfl:=sj_ H
    go_wp2
    go_ret
    exact ⟨fi_,bel_⟩

def laws_heldClient.f (k:Nat) (a0_0:Int) (a0_1:Int) (l0_2:List (S69)) (l0_3:List (S44)) (a0_4:Int) (a0_5:Int) (a1:Int):Option (Int):=(laws_heldRowS.f k l0_2 a1).bind fun t405=>(if t405 < 0 then (some (-1)) else ((laws_heldEntryS.f k l0_3 t405).bind fun t406=>(if t406 < 0 then (some (-1)) else (some t406))))
theorem laws_heldClient.calls (k:Nat) (a0_0:Int) (a0_1:Int) (A0_2:Option Addr) (c0_2:Nat) (l0_2:List (S69)) (A0_3:Option Addr) (c0_3:Nat) (l0_3:List (S44)) (a0_4:Int) (a0_5:Int) (a1:Int) (r:Int) (w:World) (hr0_2:Kd.C k69 w A0_2 l0_2.length l0_2) (hc0_2:l0_2.length≤c0_2) (hr0_3:Kd.C k44 w A0_3 l0_3.length l0_3) (hc0_3:l0_3.length≤c0_3) (h:laws_heldClient.f k a0_0 a0_1 l0_2 l0_3 a0_4 a0_5 a1=some r) :
  Calls Tryd.prog 71 #[.agg #[.int .i64 a0_0,.int .i64 a0_1,.slice A0_2 l0_2.length c0_2,.slice A0_3 l0_3.length c0_3,.int .i64 a0_4,.int .i64 a0_5],.int .i64 a1] w fun e w'=>e=.returned (.int .i64 r)∧Below w.heap.size w w':=by
 have hu77:=Tryd.underlying77
 have HR0_2:=a_ hr0_2
 have HC0_2:=a_ hc0_2
 clear hr0_2 hc0_2
 have HR0_3:=a_ hr0_3
 have HC0_3:=a_ hc0_3
 clear hr0_3 hc0_3
 have HB:=a_ (Below.refl w.heap.size w)
 unfold laws_heldClient.f at h
 have H:=h
 clear h
 replace H:=bs_ H
 obtain ⟨t405,A30,H⟩:=H
 try dsimp only at H
 have A3:=a_ A30
 clear A30
 by_cases c4:t405 < 0
 ·rw [if_pos c4] at H
  have c4b0:decide (t405 < 0)=true:=dt_ c4
  clear c4
  obtain rfl:=sj_ H
  go_enter Tryd.func71,Tryd.ntmps71
  go_wp2_with (first|((with_reducible refine gD_ (N:=2) rfl ?_);refine bx_ 2 (#[.int .i64 a0_0,.int .i64 a0_1,.slice A0_2 l0_2.length c0_2,.slice A0_3 l0_3.length c0_3,.int .i64 a0_4,.int .i64 a0_5]) 77 ?_;intro gb404 hg w5 hbox hb;have n0_:=a_ (bS_ (bel_) hb);have n1_:=a_ (hbox);have n2_:=a_ ((by rw [hg];exact (below_size (bel_)):w.heap.size≤gb404));have n3_:=a_ ((by rw [hg];exact (below_size (bel_)):w.heap.size≤gb404));clear HB;have HB:=n0_;have BK404:=n1_;have GW404:=n2_;have GE404:=n3_;clear n0_ n1_ n2_ n3_;clear hb hbox hg;obtain ⟨Z6_0,Z6_1,Z6_2,Z6_3,Z6_4,Z6_5,Y6_0,Y6_1,Y6_2,Y6_3,Y6_4,Y6_5⟩:=op6_ BK404.out)|((with_reducible refine gC_ (f:=55) rfl ?_);refine gl_ 8 Tryd.func55 #[.slice A0_2 l0_2.length c0_2,.int .i64 a1] ?_;(with_reducible refine (laws_heldRowS.calls k _ _ l0_2 a1 t405 _ ?side1 ?side2 A3.out).mono ?_);(case side1=>exact cp_ HR0_2.out);(case side2=>exact HC0_2.out);rintro e w7 ⟨rfl,hb⟩;refine ⟨_,rfl,?_⟩;replace HB:=a_ (bS_ (bel_) hb);replace BK404:=a_ (bb_ BK404.out hb);(try clear hb)))
  go_ret
  exact ⟨fi_,bel_⟩
 ·rw [if_neg c4] at H
  have c4b0:decide (t405 < 0)=false:=df_ c4
  clear c4
  replace H:=bs_ H
  obtain ⟨t406,A80,H⟩:=H
  try dsimp only at H
  have A8:=a_ A80
  clear A80
  by_cases c9:t406 < 0
  ·rw [if_pos c9] at H
   have c9b0:decide (t406 < 0)=true:=dt_ c9
   clear c9
   obtain rfl:=sj_ H
   go_enter Tryd.func71,Tryd.ntmps71
   go_wp2_with (first|((with_reducible refine gD_ (N:=2) rfl ?_);refine bx_ 2 (#[.int .i64 a0_0,.int .i64 a0_1,.slice A0_2 l0_2.length c0_2,.slice A0_3 l0_3.length c0_3,.int .i64 a0_4,.int .i64 a0_5]) 77 ?_;intro gb404 hg w10 hbox hb;have n0_:=a_ (bS_ (bel_) hb);have n1_:=a_ (hbox);have n2_:=a_ ((by rw [hg];exact (below_size (bel_)):w.heap.size≤gb404));have n3_:=a_ ((by rw [hg];exact (below_size (bel_)):w.heap.size≤gb404));clear HB;have HB:=n0_;have BK404:=n1_;have GW404:=n2_;have GE404:=n3_;clear n0_ n1_ n2_ n3_;clear hb hbox hg;obtain ⟨Z11_0,Z11_1,Z11_2,Z11_3,Z11_4,Z11_5,Y11_0,Y11_1,Y11_2,Y11_3,Y11_4,Y11_5⟩:=op6_ BK404.out)|((with_reducible refine gC_ (f:=55) rfl ?_);refine gl_ 8 Tryd.func55 #[.slice A0_2 l0_2.length c0_2,.int .i64 a1] ?_;(with_reducible refine (laws_heldRowS.calls k _ _ l0_2 a1 t405 _ ?side1 ?side2 A3.out).mono ?_);(case side1=>exact cp_ HR0_2.out);(case side2=>exact HC0_2.out);rintro e w12 ⟨rfl,hb⟩;refine ⟨_,rfl,?_⟩;replace HB:=a_ (bS_ (bel_) hb);replace BK404:=a_ (bb_ BK404.out hb);(try clear hb);obtain ⟨Z13_0,Z13_1,Z13_2,Z13_3,Z13_4,Z13_5,Y13_0,Y13_1,Y13_2,Y13_3,Y13_4,Y13_5⟩:=op6_ BK404.out)|((with_reducible refine gC_ (f:=83) rfl ?_);refine gl_ 14 Tryd.func83 #[.slice A0_3 l0_3.length c0_3,.int .i64 t405] ?_;(with_reducible refine (laws_heldEntryS.calls k _ _ l0_3 t405 t406 _ ?side1 ?side2 A8.out).mono ?_);(case side1=>exact cp_ HR0_3.out);(case side2=>exact HC0_3.out);rintro e w14 ⟨rfl,hb⟩;refine ⟨_,rfl,?_⟩;replace HB:=a_ (bS_ (bel_) hb);replace BK404:=a_ (bb_ BK404.out hb);(try clear hb)))
   go_ret
   exact ⟨fi_,bel_⟩
  ·rw [if_neg c9] at H
   have c9b0:decide (t406 < 0)=false:=df_ c9
   clear c9
   obtain rfl:=sj_ H
   go_enter Tryd.func71,Tryd.ntmps71
   go_wp2_with (first|((with_reducible refine gD_ (N:=2) rfl ?_);refine bx_ 2 (#[.int .i64 a0_0,.int .i64 a0_1,.slice A0_2 l0_2.length c0_2,.slice A0_3 l0_3.length c0_3,.int .i64 a0_4,.int .i64 a0_5]) 77 ?_;intro gb404 hg w15 hbox hb;have n0_:=a_ (bS_ (bel_) hb);have n1_:=a_ (hbox);have n2_:=a_ ((by rw [hg];exact (below_size (bel_)):w.heap.size≤gb404));have n3_:=a_ ((by rw [hg];exact (below_size (bel_)):w.heap.size≤gb404));clear HB;have HB:=n0_;have BK404:=n1_;have GW404:=n2_;have GE404:=n3_;clear n0_ n1_ n2_ n3_;clear hb hbox hg;obtain ⟨Z16_0,Z16_1,Z16_2,Z16_3,Z16_4,Z16_5,Y16_0,Y16_1,Y16_2,Y16_3,Y16_4,Y16_5⟩:=op6_ BK404.out)|((with_reducible refine gC_ (f:=55) rfl ?_);refine gl_ 8 Tryd.func55 #[.slice A0_2 l0_2.length c0_2,.int .i64 a1] ?_;(with_reducible refine (laws_heldRowS.calls k _ _ l0_2 a1 t405 _ ?side1 ?side2 A3.out).mono ?_);(case side1=>exact cp_ HR0_2.out);(case side2=>exact HC0_2.out);rintro e w17 ⟨rfl,hb⟩;refine ⟨_,rfl,?_⟩;replace HB:=a_ (bS_ (bel_) hb);replace BK404:=a_ (bb_ BK404.out hb);(try clear hb);obtain ⟨Z18_0,Z18_1,Z18_2,Z18_3,Z18_4,Z18_5,Y18_0,Y18_1,Y18_2,Y18_3,Y18_4,Y18_5⟩:=op6_ BK404.out)|((with_reducible refine gC_ (f:=83) rfl ?_);refine gl_ 14 Tryd.func83 #[.slice A0_3 l0_3.length c0_3,.int .i64 t405] ?_;(with_reducible refine (laws_heldEntryS.calls k _ _ l0_3 t405 t406 _ ?side1 ?side2 A8.out).mono ?_);(case side1=>exact cp_ HR0_3.out);(case side2=>exact HC0_3.out);rintro e w19 ⟨rfl,hb⟩;refine ⟨_,rfl,?_⟩;replace HB:=a_ (bS_ (bel_) hb);replace BK404:=a_ (bb_ BK404.out hb);(try clear hb)))
   go_ret
   exact ⟨fi_,bel_⟩

def laws_FnExactClientDo.f (k:Nat) (a0_0:Int) (a0_1:Int) (l0_2:List (S183)) (l0_3:List (S36)) (a0_4:Int) (a0_5:Int) (a1_0:Int) (a1_1:Int) (a1_2:Int) (a1_3:Int) (a1_4:ByteArray):Option (Bool):=(laws_szClient.f k a0_0 a0_1 l0_2 l0_3 a0_4 a0_5 1048576).bind fun t409=>(if t409 < 0 then (some true) else ((laws_szOp.f a1_0 a1_1 a1_2 a1_3 a1_4 t409).bind fun t410=>(if t410 < 0 then (some true) else ((laws_toClient.f k a0_0 a0_1 l0_2 l0_3 a0_4 a0_5).bind fun bt411=>((laws_toOp.f a1_0 a1_1 a1_2 a1_3 a1_4).bind fun bt421=>((spec_ClientDo.f k bt411.1 bt411.2.1 bt411.2.2.1 bt411.2.2.2.1 bt411.2.2.2.2.1 bt411.2.2.2.2.2 bt421.1 bt421.2.1 bt421.2.2.1 bt421.2.2.2.1 bt421.2.2.2.2).bind fun bt426=>((laws_toClient.f k a0_0 a0_1 l0_2 l0_3 a0_4 a0_5).bind fun bt438=>((laws_toOp.f a1_0 a1_1 a1_2 a1_3 a1_4).bind fun bt449=>((impl_ClientDo.f k bt438.1 bt438.2.1 bt438.2.2.1 bt438.2.2.2.1 bt438.2.2.2.2.1 bt438.2.2.2.2.2 bt449.1 bt449.2.1 bt449.2.2.1 bt449.2.2.2.1 bt449.2.2.2.2).bind fun bt454=>((laws_eqClient.f k bt454.1 bt454.2.1 bt454.2.2.1 bt454.2.2.2.1 bt454.2.2.2.2.1 bt454.2.2.2.2.2.1 bt426.1 bt426.2.1 bt426.2.2.1 bt426.2.2.2.1 bt426.2.2.2.2.1 bt426.2.2.2.2.2.1).bind fun t466=>(if t466=true then (if (bt454.2.2.2.2.2.2 != bt426.2.2.2.2.2.2)=true then (none) else ((laws_toClient.f k a0_0 a0_1 l0_2 l0_3 a0_4 a0_5).bind fun bt467=>((laws_eqClient.f k bt438.1 bt438.2.1 bt438.2.2.1 bt438.2.2.2.1 bt438.2.2.2.2.1 bt438.2.2.2.2.2 bt467.1 bt467.2.1 bt467.2.2.1 bt467.2.2.2.1 bt467.2.2.2.2.1 bt467.2.2.2.2.2).bind fun t477=>(if t477=true then ((laws_markClient.f k bt438.1 bt438.2.1 bt438.2.2.1 bt438.2.2.2.1 bt438.2.2.2.2.1 bt438.2.2.2.2.2 1).bind fun bt478=>(if bt478.1 < 0 then (none) else ((laws_eqClient.f k bt454.1 bt454.2.1 bt454.2.2.1 bt454.2.2.2.1 bt454.2.2.2.2.1 bt454.2.2.2.2.2.1 bt426.1 bt426.2.1 bt426.2.2.1 bt426.2.2.2.1 bt426.2.2.2.2.1 bt426.2.2.2.2.2.1).bind fun t481=>(if t481=true then ((laws_markClient.f k bt454.1 bt454.2.1 bt454.2.2.1 bt454.2.2.2.1 bt454.2.2.2.2.1 bt454.2.2.2.2.2.1 1).bind fun bt482=>((laws_heldClient.f k bt454.1 bt454.2.1 bt482.2.1 bt482.2.2 bt454.2.2.2.2.1 bt454.2.2.2.2.2.1 1).bind fun t485=>(if t485 < 0 then (none) else (if t485=bt482.1 then ((laws_toClient.f k a0_0 a0_1 l0_2 l0_3 a0_4 a0_5).bind fun bt486=>((laws_toOp.f a1_0 a1_1 a1_2 a1_3 a1_4).bind fun bt496=>((impl_ClientDo.f k bt486.1 bt486.2.1 bt486.2.2.1 bt486.2.2.2.1 bt486.2.2.2.2.1 bt486.2.2.2.2.2 bt496.1 bt496.2.1 bt496.2.2.1 bt496.2.2.2.1 bt496.2.2.2.2).bind fun bt501=>((laws_eqClient.f k bt501.1 bt501.2.1 bt501.2.2.1 bt501.2.2.2.1 bt501.2.2.2.2.1 bt501.2.2.2.2.2.1 bt426.1 bt426.2.1 bt426.2.2.1 bt426.2.2.2.1 bt426.2.2.2.2.1 bt426.2.2.2.2.2.1).bind fun t513=>(if t513=true then (if (bt501.2.2.2.2.2.2 != bt426.2.2.2.2.2.2)=true then (none) else ((laws_heldClient.f k bt454.1 bt454.2.1 bt482.2.1 bt482.2.2 bt454.2.2.2.2.1 bt454.2.2.2.2.2.1 1).bind fun t514=>(if t514 < 0 then (none) else (if t514=bt482.1 then (some true) else (none))))) else (none)))))) else (none))))) else (none))))) else (none))))) else (none))))))))))))
def laws_FnExactClientDo.T8:Bool×List (List Nat×List Nat):=(true,[([],[]),([0],[0]),([],[]),([2,1],[2]),([1,3,3],[1,3]),([4],[4]),([5],[5]),([5],[5]),([],[]),([8,6,4,0,1,2,3,4,5,6,8],[6,8]),([7,9,0,1,2,3,4,5,6,7,8,9],[7])])
def laws_FnExactClientDo.B8:List Nat:=[0,1,0,7,15,31,63,63,0,383,1023]
theorem laws_FnExactClientDo.tab8:rtab .any (opsOf Tryd.f14 8)=laws_FnExactClientDo.T8:=by kernel_rfl
theorem laws_FnExactClientDo.bits8:waitsOk laws_FnExactClientDo.T8.2 laws_FnExactClientDo.B8=true:=by kernel_rfl
def laws_FnExactClientDo.T10:Bool×List (List Nat×List Nat):=(true,[([],[]),([],[]),([1],[1]),([0,2,2],[0,2]),([3],[3]),([4],[4]),([4],[4]),([],[]),([7,5,3,0,1,2,3,4,5,7],[5,7]),([6,8,0,1,2,3,4,5,6,7,8],[6])])
def laws_FnExactClientDo.B10:List Nat:=[0,0,2,7,15,31,31,0,191,511]
theorem laws_FnExactClientDo.tab10:rtab .any (opsOf Tryd.f14 10)=laws_FnExactClientDo.T10:=by kernel_rfl
theorem laws_FnExactClientDo.bits10:waitsOk laws_FnExactClientDo.T10.2 laws_FnExactClientDo.B10=true:=by kernel_rfl
def laws_FnExactClientDo.T27:Bool×List (List Nat×List Nat):=(true,[([],[]),([0],[0]),([],[]),([2,1],[2]),([1,3,3],[1,3]),([4],[4]),([5],[5]),([5],[5]),([],[]),([8,6,4,0,1,2,3,4,5,6,8],[6,8]),([7,9,0,1,2,3,4,5,6,7,8,9],[7])])
def laws_FnExactClientDo.B27:List Nat:=[0,1,0,7,15,31,63,63,0,383,1023]
theorem laws_FnExactClientDo.tab27:rtab .any (opsOf Tryd.f14 27)=laws_FnExactClientDo.T27:=by kernel_rfl
theorem laws_FnExactClientDo.bits27:waitsOk laws_FnExactClientDo.T27.2 laws_FnExactClientDo.B27=true:=by kernel_rfl
end Go.Proofs.YtdpklbomhdpimaaDoor.P
