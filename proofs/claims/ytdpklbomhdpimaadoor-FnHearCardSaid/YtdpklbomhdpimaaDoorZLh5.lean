/- Joined by a program (wip/shake.py): the declarations that 'YtdpklbomhdpimaaDoorCardFnHear' reaches. -/
import Derived.Test.YtdpklbomhdpimaaDoorZLh4
set_option linter.unusedVariables false
set_option linter.unusedSimpArgs false
set_option linter.unusedSectionVars false
set_option maxHeartbeats 8000000
set_option maxRecDepth 100000
namespace Go.Proofs.YtdpklbomhdpimaaDoor.P
open Go.RowKit Go.Proofs.YtdpklbomhdpimaaDoorW.PrintWords Go.Proofs.YtdpklbomhdpimaaDoorW.PrintLast
theorem spec_OpOk.calls (k:Nat) (a0_0:Int) (a0_1:Int) (a0_2:Int) (a0_3:Int) (a0_4:ByteArray) (r:Bool) (w:World) (h:spec_OpOk.f k a0_0 a0_1 a0_2 a0_3 a0_4=some r) :
  Calls Tryd.prog 84 #[.agg #[.int .i64 a0_0,.int .i64 a0_1,.int .i64 a0_2,.int .i64 a0_3,.string a0_4]] w fun e w'=>e=.returned (.bool r)∧Below w.heap.size w w':=by
 have hu42:=Tryd.underlying42
 have HB:=a_ (Below.refl w.heap.size w)
 unfold spec_OpOk.f at h
 have H:=h
 clear h
 have HC2:=a_ H
 clear H
 go_enter Tryd.func84,Tryd.ntmps84
 go_upto_region 1 with (first|((with_reducible refine gD_ (N:=1) rfl ?_);refine bx_ 1 (#[.int .i64 a0_0,.int .i64 a0_1,.int .i64 a0_2,.int .i64 a0_3,.string a0_4]) 42 ?_;intro gb414 hg w3 hbox hb;have n0_:=a_ (bS_ (bel_) hb);have n1_:=a_ (hbox);have n2_:=a_ ((by rw [hg];exact (below_size (bel_)):w.heap.size≤gb414));have n3_:=a_ ((by rw [hg];exact (below_size (bel_)):w.heap.size≤gb414));clear HB;have HB:=n0_;have BK414:=n1_;have GW414:=n2_;have GE414:=n3_;clear n0_ n1_ n2_ n3_;clear hb hbox hg))
 (try simp only [Act.put,List.setIfInBounds_toArray,List.set_cons_zero,List.set_cons_succ])
 go_cut [12] (fun v12 wc=>∃ (kq:Nat) (x12_1:Bool),v12=.bool x12_1∧Aside0 (spec_OpOk.j0 kq x12_1 a0_0 a0_1 a0_2 a0_3 a0_4=some r)∧Aside0 (kq≤k)∧Aside0 (wc.heap[gb414]?=some (.cells #[.int .i64 a0_0,.int .i64 a0_1,.int .i64 a0_2,.int .i64 a0_3,.string a0_4] 42 (0,0)))∧Aside0 (Below w.heap.size w wc))
 case first =>
  have H:=HC2.out
  clear HC2
  replace H:=bs_ H
  obtain ⟨t415,A40,H⟩:=H
  try dsimp only at H
  have A4:=a_ A40
  clear A40
  by_cases c5:t415=true
  ·subst c5
   have H1:((spec_l1Text.f k a0_4).bind fun t416=>(spec_OpOk.j0 k (!t416) a0_0 a0_1 a0_2 a0_3 a0_4))=some r:=by rw [if_pos rfl] at H;exact H
   clear H
   have H:=H1
   clear H1
   replace H:=bs_ H
   obtain ⟨t416,A60,H⟩:=H
   try dsimp only at H
   have A6:=a_ A60
   clear A60
   have H':=a_ H
   clear H
   have Z7_0:=cz_ BK414.out 0 (.int .i64 a0_0)
   have Z7_1:=cz_ BK414.out 1 (.int .i64 a0_1)
   have Z7_2:=cz_ BK414.out 2 (.int .i64 a0_2)
   have Z7_3:=cz_ BK414.out 3 (.int .i64 a0_3)
   have Z7_4:=cz_ BK414.out 4 (.string a0_4)
   have Y7_0:=bF_ BK414.out 0
   have Y7_1:=bF_ BK414.out 1
   have Y7_2:=bF_ BK414.out 2
   have Y7_3:=bF_ BK414.out 3
   have Y7_4:=bF_ BK414.out 4
   go_wp2_with (first|((with_reducible refine gC_ (f:=120) rfl ?_);refine gl_ 5 Tryd.func120 #[.int .i64 a0_1] ?_;(with_reducible refine (spec_l1Made.calls a0_1 true _ A4.out).mono ?_);rintro e w' ⟨rfl,⟨nd,rfl⟩⟩;refine ⟨_,rfl,?_⟩)|(go_at_call 121;(with_reducible refine (spec_l1Text.calls k a0_4 t416 _ A6.out).mono ?_);rintro e w' ⟨rfl,⟨nd,rfl⟩⟩))
   go_meet
   case rel=>exact ⟨_,(!t416),(si_),H',⟨by first|omega|exact Nat.le_refl _⟩,⟨by (with_reducible repeat (first|refine bN_ ?_ _|refine bD_ ?_|refine bA_ ?_ _));exact BK414.out⟩,⟨bel_⟩⟩
  ·replace c5:=Bool.eq_false_iff.mpr c5
   subst c5
   have H1:(spec_OpOk.j0 k true a0_0 a0_1 a0_2 a0_3 a0_4)=some r:=by rw [if_neg (show ¬ (false=true) by decide)] at H;exact H
   clear H
   have H:=H1
   clear H1
   have H':=a_ H
   clear H
   have Z8_0:=cz_ BK414.out 0 (.int .i64 a0_0)
   have Z8_1:=cz_ BK414.out 1 (.int .i64 a0_1)
   have Z8_2:=cz_ BK414.out 2 (.int .i64 a0_2)
   have Z8_3:=cz_ BK414.out 3 (.int .i64 a0_3)
   have Z8_4:=cz_ BK414.out 4 (.string a0_4)
   have Y8_0:=bF_ BK414.out 0
   have Y8_1:=bF_ BK414.out 1
   have Y8_2:=bF_ BK414.out 2
   have Y8_3:=bF_ BK414.out 3
   have Y8_4:=bF_ BK414.out 4
   go_wp2_with (first|((with_reducible refine gC_ (f:=120) rfl ?_);refine gl_ 5 Tryd.func120 #[.int .i64 a0_1] ?_;(with_reducible refine (spec_l1Made.calls a0_1 false _ A4.out).mono ?_);rintro e w' ⟨rfl,⟨nd,rfl⟩⟩;refine ⟨_,rfl,?_⟩))
   go_meet
   case rel=>exact ⟨_,(true),(si_),H',⟨by first|omega|exact Nat.le_refl _⟩,⟨by (with_reducible repeat (first|refine bN_ ?_ _|refine bD_ ?_|refine bA_ ?_ _));exact BK414.out⟩,⟨bel_⟩⟩
 case rest =>
  clear HC2
  try clear c1
  try clear p2
  try clear c5
  try clear c8
  try clear Z7_0
  try clear Z7_1
  try clear Z7_2
  try clear Z7_3
  try clear Z7_4
  try clear Z8_0
  try clear Z8_1
  try clear Z8_2
  try clear Z8_3
  try clear Z8_4
  try clear Y7_0
  try clear Y7_1
  try clear Y7_2
  try clear Y7_3
  try clear Y7_4
  try clear Y8_0
  try clear Y8_1
  try clear Y8_2
  try clear Y8_3
  try clear Y8_4
  obtain ⟨kq,x12_1,rfl,HA,HJ1,BK414,HB⟩:=hcut
  cases kq with
  | zero=>exact absurd HA.out (by simp [spec_OpOk.j0])
  | succ kj1 =>
   have H:=HA.out
   clear HA
   simp only [spec_OpOk.j0] at H
   by_cases c9:x12_1=true
   ·subst c9
    have H1:(some false)=some r:=by rw [if_pos rfl] at H;exact H
    clear H
    have H:=H1
    clear H1
    obtain rfl:=sj_ H
    go_wp2
    go_ret
    exact ⟨fi_,bel_⟩
   ·replace c9:=Bool.eq_false_iff.mpr c9
    subst c9
    have H1:(if a0_0=1 then ((spec_l3Id.f a0_2).bind fun t417=>(if t417=true then (if a0_3=0 then (some true) else ((spec_l1Made.f a0_3).bind fun t418=>(some t418))) else (some false))) else (if a0_0=2 then (if a0_2=0 then (some (a0_3==0)) else (some false)) else (if a0_0=3 then ((spec_l3Id.f a0_2).bind fun t419=>(if t419=true then (if a0_3=0 then (some (a0_4.toList==([]:List UInt8))) else ((spec_l1Made.f a0_3).bind fun t420=>(if t420=true then (some (a0_4.toList==([]:List UInt8))) else (some false)))) else (some false))) else (some false))))=some r:=by rw [if_neg (show ¬ (false=true) by decide)] at H;exact H
    clear H
    have H:=H1
    clear H1
    by_cases c10:a0_0=1
    ·rw [if_pos c10] at H
     have c10b0:(a0_0==1)=true:=beq_iff_eq.mpr c10
     have c10b1:(a0_0 != 1)=false:=be_ c10
     clear c10
     replace H:=bs_ H
     obtain ⟨t417,A110,H⟩:=H
     try dsimp only at H
     have A11:=a_ A110
     clear A110
     by_cases c12:t417=true
     ·subst c12
      have H1:(if a0_3=0 then (some true) else ((spec_l1Made.f a0_3).bind fun t418=>(some t418)))=some r:=by rw [if_pos rfl] at H;exact H
      clear H
      have H:=H1
      clear H1
      by_cases c13:a0_3=0
      ·rw [if_pos c13] at H
       have c13b0:(a0_3==0)=true:=beq_iff_eq.mpr c13
       have c13b1:(a0_3 != 0)=false:=be_ c13
       clear c13
       obtain rfl:=sj_ H
       have Z14_0:wc.cell? ⟨gb414,0,none⟩=some (.int .i64 a0_0):=(bC_ BK414.out 0).trans rfl
       have Z14_1:wc.cell? ⟨gb414,1,none⟩=some (.int .i64 a0_1):=(bC_ BK414.out 1).trans rfl
       have Z14_2:wc.cell? ⟨gb414,2,none⟩=some (.int .i64 a0_2):=(bC_ BK414.out 2).trans rfl
       have Z14_3:wc.cell? ⟨gb414,3,none⟩=some (.int .i64 a0_3):=(bC_ BK414.out 3).trans rfl
       have Z14_4:wc.cell? ⟨gb414,4,none⟩=some (.string a0_4):=(bC_ BK414.out 4).trans rfl
       have Y14_0:=bF_ BK414.out 0
       have Y14_1:=bF_ BK414.out 1
       have Y14_2:=bF_ BK414.out 2
       have Y14_3:=bF_ BK414.out 3
       have Y14_4:=bF_ BK414.out 4
       go_wp2_with (first|((with_reducible refine gC_ (f:=122) rfl ?_);refine gl_ 19 Tryd.func122 #[.int .i64 a0_2] ?_;(with_reducible refine (spec_l3Id.calls a0_2 true _ A11.out).mono ?_);rintro e w' ⟨rfl,⟨nd,rfl⟩⟩;refine ⟨_,rfl,?_⟩))
       go_ret
       exact ⟨fi_,bel_⟩
      ·rw [if_neg c13] at H
       have c13b0:(a0_3==0)=false:=bn_ c13
       have c13b1:(a0_3 != 0)=true:=bne_iff_ne.mpr c13
       replace H:=bs_ H
       obtain ⟨t418,A150,H⟩:=H
       try dsimp only at H
       have A15:=a_ A150
       clear A150
       obtain rfl:=sj_ H
       have Z16_0:wc.cell? ⟨gb414,0,none⟩=some (.int .i64 a0_0):=(bC_ BK414.out 0).trans rfl
       have Z16_1:wc.cell? ⟨gb414,1,none⟩=some (.int .i64 a0_1):=(bC_ BK414.out 1).trans rfl
       have Z16_2:wc.cell? ⟨gb414,2,none⟩=some (.int .i64 a0_2):=(bC_ BK414.out 2).trans rfl
       have Z16_3:wc.cell? ⟨gb414,3,none⟩=some (.int .i64 a0_3):=(bC_ BK414.out 3).trans rfl
       have Z16_4:wc.cell? ⟨gb414,4,none⟩=some (.string a0_4):=(bC_ BK414.out 4).trans rfl
       have Y16_0:=bF_ BK414.out 0
       have Y16_1:=bF_ BK414.out 1
       have Y16_2:=bF_ BK414.out 2
       have Y16_3:=bF_ BK414.out 3
       have Y16_4:=bF_ BK414.out 4
       go_wp2_with (first|((with_reducible refine gC_ (f:=122) rfl ?_);refine gl_ 19 Tryd.func122 #[.int .i64 a0_2] ?_;(with_reducible refine (spec_l3Id.calls a0_2 true _ A11.out).mono ?_);rintro e w' ⟨rfl,⟨nd,rfl⟩⟩;refine ⟨_,rfl,?_⟩)|(go_at_call 120;(with_reducible refine (spec_l1Made.calls a0_3 t418 _ A15.out).mono ?_);rintro e w' ⟨rfl,⟨nd,rfl⟩⟩))
       go_ret
       exact ⟨fi_,bel_⟩
     ·replace c12:=Bool.eq_false_iff.mpr c12
      subst c12
      have H1:(some false)=some r:=by rw [if_neg (show ¬ (false=true) by decide)] at H;exact H
      clear H
      have H:=H1
      clear H1
      obtain rfl:=sj_ H
      have Z17_0:wc.cell? ⟨gb414,0,none⟩=some (.int .i64 a0_0):=(bC_ BK414.out 0).trans rfl
      have Z17_1:wc.cell? ⟨gb414,1,none⟩=some (.int .i64 a0_1):=(bC_ BK414.out 1).trans rfl
      have Z17_2:wc.cell? ⟨gb414,2,none⟩=some (.int .i64 a0_2):=(bC_ BK414.out 2).trans rfl
      have Z17_3:wc.cell? ⟨gb414,3,none⟩=some (.int .i64 a0_3):=(bC_ BK414.out 3).trans rfl
      have Z17_4:wc.cell? ⟨gb414,4,none⟩=some (.string a0_4):=(bC_ BK414.out 4).trans rfl
      have Y17_0:=bF_ BK414.out 0
      have Y17_1:=bF_ BK414.out 1
      have Y17_2:=bF_ BK414.out 2
      have Y17_3:=bF_ BK414.out 3
      have Y17_4:=bF_ BK414.out 4
      go_wp2_with (first|((with_reducible refine gC_ (f:=122) rfl ?_);refine gl_ 19 Tryd.func122 #[.int .i64 a0_2] ?_;(with_reducible refine (spec_l3Id.calls a0_2 false _ A11.out).mono ?_);rintro e w' ⟨rfl,⟨nd,rfl⟩⟩;refine ⟨_,rfl,?_⟩))
      go_ret
      exact ⟨fi_,bel_⟩
    ·rw [if_neg c10] at H
     have c10b0:(a0_0==1)=false:=bn_ c10
     have c10b1:(a0_0 != 1)=true:=bne_iff_ne.mpr c10
     by_cases c18:a0_0=2
     ·rw [if_pos c18] at H
      have c18b0:(a0_0==2)=true:=beq_iff_eq.mpr c18
      have c18b1:(a0_0 != 2)=false:=be_ c18
      clear c18
      by_cases c19:a0_2=0
      ·rw [if_pos c19] at H
       have c19b0:(a0_2==0)=true:=beq_iff_eq.mpr c19
       have c19b1:(a0_2 != 0)=false:=be_ c19
       clear c19
       obtain rfl:=sj_ H
       have Z20_0:wc.cell? ⟨gb414,0,none⟩=some (.int .i64 a0_0):=(bC_ BK414.out 0).trans rfl
       have Z20_1:wc.cell? ⟨gb414,1,none⟩=some (.int .i64 a0_1):=(bC_ BK414.out 1).trans rfl
       have Z20_2:wc.cell? ⟨gb414,2,none⟩=some (.int .i64 a0_2):=(bC_ BK414.out 2).trans rfl
       have Z20_3:wc.cell? ⟨gb414,3,none⟩=some (.int .i64 a0_3):=(bC_ BK414.out 3).trans rfl
       have Z20_4:wc.cell? ⟨gb414,4,none⟩=some (.string a0_4):=(bC_ BK414.out 4).trans rfl
       have Y20_0:=bF_ BK414.out 0
       have Y20_1:=bF_ BK414.out 1
       have Y20_2:=bF_ BK414.out 2
       have Y20_3:=bF_ BK414.out 3
       have Y20_4:=bF_ BK414.out 4
       go_wp2
       go_ret
       exact ⟨fi_,bel_⟩
      ·rw [if_neg c19] at H
       have c19b0:(a0_2==0)=false:=bn_ c19
       have c19b1:(a0_2 != 0)=true:=bne_iff_ne.mpr c19
       obtain rfl:=sj_ H
       have Z21_0:wc.cell? ⟨gb414,0,none⟩=some (.int .i64 a0_0):=(bC_ BK414.out 0).trans rfl
       have Z21_1:wc.cell? ⟨gb414,1,none⟩=some (.int .i64 a0_1):=(bC_ BK414.out 1).trans rfl
       have Z21_2:wc.cell? ⟨gb414,2,none⟩=some (.int .i64 a0_2):=(bC_ BK414.out 2).trans rfl
       have Z21_3:wc.cell? ⟨gb414,3,none⟩=some (.int .i64 a0_3):=(bC_ BK414.out 3).trans rfl
       have Z21_4:wc.cell? ⟨gb414,4,none⟩=some (.string a0_4):=(bC_ BK414.out 4).trans rfl
       have Y21_0:=bF_ BK414.out 0
       have Y21_1:=bF_ BK414.out 1
       have Y21_2:=bF_ BK414.out 2
       have Y21_3:=bF_ BK414.out 3
       have Y21_4:=bF_ BK414.out 4
       go_wp2
       go_ret
       exact ⟨fi_,bel_⟩
     ·rw [if_neg c18] at H
      have c18b0:(a0_0==2)=false:=bn_ c18
      have c18b1:(a0_0 != 2)=true:=bne_iff_ne.mpr c18
      by_cases c22:a0_0=3
      ·rw [if_pos c22] at H
       have c22b0:(a0_0==3)=true:=beq_iff_eq.mpr c22
       have c22b1:(a0_0 != 3)=false:=be_ c22
       clear c22
       replace H:=bs_ H
       obtain ⟨t419,A230,H⟩:=H
       try dsimp only at H
       have A23:=a_ A230
       clear A230
       by_cases c24:t419=true
       ·subst c24
        have H1:(if a0_3=0 then (some (a0_4.toList==([]:List UInt8))) else ((spec_l1Made.f a0_3).bind fun t420=>(if t420=true then (some (a0_4.toList==([]:List UInt8))) else (some false))))=some r:=by rw [if_pos rfl] at H;exact H
        clear H
        have H:=H1
        clear H1
        by_cases c25:a0_3=0
        ·rw [if_pos c25] at H
         have c25b0:(a0_3==0)=true:=beq_iff_eq.mpr c25
         have c25b1:(a0_3 != 0)=false:=be_ c25
         clear c25
         obtain rfl:=sj_ H
         have Z26_0:wc.cell? ⟨gb414,0,none⟩=some (.int .i64 a0_0):=(bC_ BK414.out 0).trans rfl
         have Z26_1:wc.cell? ⟨gb414,1,none⟩=some (.int .i64 a0_1):=(bC_ BK414.out 1).trans rfl
         have Z26_2:wc.cell? ⟨gb414,2,none⟩=some (.int .i64 a0_2):=(bC_ BK414.out 2).trans rfl
         have Z26_3:wc.cell? ⟨gb414,3,none⟩=some (.int .i64 a0_3):=(bC_ BK414.out 3).trans rfl
         have Z26_4:wc.cell? ⟨gb414,4,none⟩=some (.string a0_4):=(bC_ BK414.out 4).trans rfl
         have Y26_0:=bF_ BK414.out 0
         have Y26_1:=bF_ BK414.out 1
         have Y26_2:=bF_ BK414.out 2
         have Y26_3:=bF_ BK414.out 3
         have Y26_4:=bF_ BK414.out 4
         go_wp2_with (first|((with_reducible refine gC_ (f:=122) rfl ?_);refine gl_ 44 Tryd.func122 #[.int .i64 a0_2] ?_;(with_reducible refine (spec_l3Id.calls a0_2 true _ A23.out).mono ?_);rintro e w' ⟨rfl,⟨nd,rfl⟩⟩;refine ⟨_,rfl,?_⟩))
         go_ret
         exact ⟨fi_,bel_⟩
        ·rw [if_neg c25] at H
         have c25b0:(a0_3==0)=false:=bn_ c25
         have c25b1:(a0_3 != 0)=true:=bne_iff_ne.mpr c25
         replace H:=bs_ H
         obtain ⟨t420,A270,H⟩:=H
         try dsimp only at H
         have A27:=a_ A270
         clear A270
         by_cases c28:t420=true
         ·subst c28
          have H1:(some (a0_4.toList==([]:List UInt8)))=some r:=by rw [if_pos rfl] at H;exact H
          clear H
          have H:=H1
          clear H1
          obtain rfl:=sj_ H
          have Z29_0:wc.cell? ⟨gb414,0,none⟩=some (.int .i64 a0_0):=(bC_ BK414.out 0).trans rfl
          have Z29_1:wc.cell? ⟨gb414,1,none⟩=some (.int .i64 a0_1):=(bC_ BK414.out 1).trans rfl
          have Z29_2:wc.cell? ⟨gb414,2,none⟩=some (.int .i64 a0_2):=(bC_ BK414.out 2).trans rfl
          have Z29_3:wc.cell? ⟨gb414,3,none⟩=some (.int .i64 a0_3):=(bC_ BK414.out 3).trans rfl
          have Z29_4:wc.cell? ⟨gb414,4,none⟩=some (.string a0_4):=(bC_ BK414.out 4).trans rfl
          have Y29_0:=bF_ BK414.out 0
          have Y29_1:=bF_ BK414.out 1
          have Y29_2:=bF_ BK414.out 2
          have Y29_3:=bF_ BK414.out 3
          have Y29_4:=bF_ BK414.out 4
          go_wp2_with (first|((with_reducible refine gC_ (f:=122) rfl ?_);refine gl_ 44 Tryd.func122 #[.int .i64 a0_2] ?_;(with_reducible refine (spec_l3Id.calls a0_2 true _ A23.out).mono ?_);rintro e w' ⟨rfl,⟨nd,rfl⟩⟩;refine ⟨_,rfl,?_⟩)|(go_at_call 120;(with_reducible refine (spec_l1Made.calls a0_3 true _ A27.out).mono ?_);rintro e w' ⟨rfl,⟨nd,rfl⟩⟩))
          go_ret
          exact ⟨fi_,bel_⟩
         ·replace c28:=Bool.eq_false_iff.mpr c28
          subst c28
          have H1:(some false)=some r:=by rw [if_neg (show ¬ (false=true) by decide)] at H;exact H
          clear H
          have H:=H1
          clear H1
          obtain rfl:=sj_ H
          have Z30_0:wc.cell? ⟨gb414,0,none⟩=some (.int .i64 a0_0):=(bC_ BK414.out 0).trans rfl
          have Z30_1:wc.cell? ⟨gb414,1,none⟩=some (.int .i64 a0_1):=(bC_ BK414.out 1).trans rfl
          have Z30_2:wc.cell? ⟨gb414,2,none⟩=some (.int .i64 a0_2):=(bC_ BK414.out 2).trans rfl
          have Z30_3:wc.cell? ⟨gb414,3,none⟩=some (.int .i64 a0_3):=(bC_ BK414.out 3).trans rfl
          have Z30_4:wc.cell? ⟨gb414,4,none⟩=some (.string a0_4):=(bC_ BK414.out 4).trans rfl
          have Y30_0:=bF_ BK414.out 0
          have Y30_1:=bF_ BK414.out 1
          have Y30_2:=bF_ BK414.out 2
          have Y30_3:=bF_ BK414.out 3
          have Y30_4:=bF_ BK414.out 4
          go_wp2_with (first|((with_reducible refine gC_ (f:=122) rfl ?_);refine gl_ 44 Tryd.func122 #[.int .i64 a0_2] ?_;(with_reducible refine (spec_l3Id.calls a0_2 true _ A23.out).mono ?_);rintro e w' ⟨rfl,⟨nd,rfl⟩⟩;refine ⟨_,rfl,?_⟩)|(go_at_call 120;(with_reducible refine (spec_l1Made.calls a0_3 false _ A27.out).mono ?_);rintro e w' ⟨rfl,⟨nd,rfl⟩⟩))
          go_ret
          exact ⟨fi_,bel_⟩
       ·replace c24:=Bool.eq_false_iff.mpr c24
        subst c24
        have H1:(some false)=some r:=by rw [if_neg (show ¬ (false=true) by decide)] at H;exact H
        clear H
        have H:=H1
        clear H1
        obtain rfl:=sj_ H
        have Z31_0:wc.cell? ⟨gb414,0,none⟩=some (.int .i64 a0_0):=(bC_ BK414.out 0).trans rfl
        have Z31_1:wc.cell? ⟨gb414,1,none⟩=some (.int .i64 a0_1):=(bC_ BK414.out 1).trans rfl
        have Z31_2:wc.cell? ⟨gb414,2,none⟩=some (.int .i64 a0_2):=(bC_ BK414.out 2).trans rfl
        have Z31_3:wc.cell? ⟨gb414,3,none⟩=some (.int .i64 a0_3):=(bC_ BK414.out 3).trans rfl
        have Z31_4:wc.cell? ⟨gb414,4,none⟩=some (.string a0_4):=(bC_ BK414.out 4).trans rfl
        have Y31_0:=bF_ BK414.out 0
        have Y31_1:=bF_ BK414.out 1
        have Y31_2:=bF_ BK414.out 2
        have Y31_3:=bF_ BK414.out 3
        have Y31_4:=bF_ BK414.out 4
        go_wp2_with (first|((with_reducible refine gC_ (f:=122) rfl ?_);refine gl_ 44 Tryd.func122 #[.int .i64 a0_2] ?_;(with_reducible refine (spec_l3Id.calls a0_2 false _ A23.out).mono ?_);rintro e w' ⟨rfl,⟨nd,rfl⟩⟩;refine ⟨_,rfl,?_⟩))
        go_ret
        exact ⟨fi_,bel_⟩
      ·rw [if_neg c22] at H
       have c22b0:(a0_0==3)=false:=bn_ c22
       have c22b1:(a0_0 != 3)=true:=bne_iff_ne.mpr c22
       obtain rfl:=sj_ H
       have Z32_0:wc.cell? ⟨gb414,0,none⟩=some (.int .i64 a0_0):=(bC_ BK414.out 0).trans rfl
       have Z32_1:wc.cell? ⟨gb414,1,none⟩=some (.int .i64 a0_1):=(bC_ BK414.out 1).trans rfl
       have Z32_2:wc.cell? ⟨gb414,2,none⟩=some (.int .i64 a0_2):=(bC_ BK414.out 2).trans rfl
       have Z32_3:wc.cell? ⟨gb414,3,none⟩=some (.int .i64 a0_3):=(bC_ BK414.out 3).trans rfl
       have Z32_4:wc.cell? ⟨gb414,4,none⟩=some (.string a0_4):=(bC_ BK414.out 4).trans rfl
       have Y32_0:=bF_ BK414.out 0
       have Y32_1:=bF_ BK414.out 1
       have Y32_2:=bF_ BK414.out 2
       have Y32_3:=bF_ BK414.out 3
       have Y32_4:=bF_ BK414.out 4
       go_wp2
       go_ret
       exact ⟨fi_,bel_⟩

def spec_EntryOk.f (k:Nat) (a0_0:Int) (a0_1:Int) (a0_2:Int) (a0_3:Int) (a0_4:Int) (a0_5:Int) (a0_6:ByteArray):Option (Bool):=(spec_l6In.f a0_0 1 3).bind fun t422=>(if t422=true then ((spec_l6In.f a0_1 1 40).bind fun t423=>(if t423=true then ((spec_OpOk.f k a0_2 a0_3 a0_4 a0_5 a0_6).bind fun t424=>(if t424=true then (if a0_2=1 then (some ((wrap64 (Int.tdiv a0_3 10))==a0_0)) else (some true)) else (some false))) else (some false))) else (some false))
theorem spec_EntryOk.mono:∀ a0 a1 a2 a3 a4 a5 a6 k,LeO (spec_EntryOk.f k a0 a1 a2 a3 a4 a5 a6) (spec_EntryOk.f (k+1) a0 a1 a2 a3 a4 a5 a6):=by
 intro a0 a1 a2 a3 a4 a5 a6 k
 unfold spec_EntryOk.f
 repeat' first
   | (with_reducible exact spec_OpOk.mono _ _ _ _ _ _)
   | (with_reducible exact LeO.refl _)
   | (with_reducible exact LeO.none _)
   | (with_reducible refine LeO.ite ?_ ?_)
   | (with_reducible refine LeO.bind ?_ (fun _=>?_))
   | exact spec_OpOk.mono _ _ _ _ _ _
   | exact LeO.none _
   | refine LeO.ite ?_ ?_
   | refine LeO.bind ?_ (fun _=>?_)
theorem spec_EntryOk.calls (k:Nat) (a0_0:Int) (a0_1:Int) (a0_2:Int) (a0_3:Int) (a0_4:Int) (a0_5:Int) (a0_6:ByteArray) (r:Bool) (w:World) (h:spec_EntryOk.f k a0_0 a0_1 a0_2 a0_3 a0_4 a0_5 a0_6=some r) :
  Calls Tryd.prog 30 #[.agg #[.int .i64 a0_0,.int .i64 a0_1,.int .i64 a0_2,.int .i64 a0_3,.int .i64 a0_4,.int .i64 a0_5,.string a0_6]] w fun e w'=>e=.returned (.bool r)∧Below w.heap.size w w':=by
 have hu44:=Tryd.underlying44
 have hu42:=Tryd.underlying42
 have HB:=a_ (Below.refl w.heap.size w)
 unfold spec_EntryOk.f at h
 have H:=h
 clear h
 replace H:=bs_ H
 obtain ⟨t422,A20,H⟩:=H
 try dsimp only at H
 have A2:=a_ A20
 clear A20
 by_cases c3:t422=true
 ·subst c3
  have H1:((spec_l6In.f a0_1 1 40).bind fun t423=>(if t423=true then ((spec_OpOk.f k a0_2 a0_3 a0_4 a0_5 a0_6).bind fun t424=>(if t424=true then (if a0_2=1 then (some ((wrap64 (Int.tdiv a0_3 10))==a0_0)) else (some true)) else (some false))) else (some false)))=some r:=by rw [if_pos rfl] at H;exact H
  clear H
  have H:=H1
  clear H1
  replace H:=bs_ H
  obtain ⟨t423,A40,H⟩:=H
  try dsimp only at H
  have A4:=a_ A40
  clear A40
  by_cases c5:t423=true
  ·subst c5
   have H1:((spec_OpOk.f k a0_2 a0_3 a0_4 a0_5 a0_6).bind fun t424=>(if t424=true then (if a0_2=1 then (some ((wrap64 (Int.tdiv a0_3 10))==a0_0)) else (some true)) else (some false)))=some r:=by rw [if_pos rfl] at H;exact H
   clear H
   have H:=H1
   clear H1
   replace H:=bs_ H
   obtain ⟨t424,A60,H⟩:=H
   try dsimp only at H
   have A6:=a_ A60
   clear A60
   by_cases c7:t424=true
   ·subst c7
    have H1:(if a0_2=1 then (some ((wrap64 (Int.tdiv a0_3 10))==a0_0)) else (some true))=some r:=by rw [if_pos rfl] at H;exact H
    clear H
    have H:=H1
    clear H1
    by_cases c8:a0_2=1
    ·rw [if_pos c8] at H
     have c8b0:(a0_2==1)=true:=beq_iff_eq.mpr c8
     have c8b1:(a0_2 != 1)=false:=be_ c8
     clear c8
     obtain rfl:=sj_ H
     go_enter Tryd.func30,Tryd.ntmps30
     go_wp2_with (first|((with_reducible refine gD_ (N:=1) rfl ?_);refine bx_ 1 (#[.int .i64 a0_0,.int .i64 a0_1,.int .i64 a0_2,.int .i64 a0_3,.int .i64 a0_4,.int .i64 a0_5,.string a0_6]) 44 ?_;intro gb421 hg w9 hbox hb;have n0_:=a_ (bS_ (bel_) hb);have n1_:=a_ (hbox);have n2_:=a_ ((by rw [hg];exact (below_size (bel_)):w.heap.size≤gb421));have n3_:=a_ ((by rw [hg];exact (below_size (bel_)):w.heap.size≤gb421));clear HB;have HB:=n0_;have BK421:=n1_;have GW421:=n2_;have GE421:=n3_;clear n0_ n1_ n2_ n3_;clear hb hbox hg;have Z10_0:=cz_ BK421.out 0 (.int .i64 a0_0);have Z10_1:=cz_ BK421.out 1 (.int .i64 a0_1);have Z10_2:=cz_ BK421.out 2 (.int .i64 a0_2);have Z10_3:=cz_ BK421.out 3 (.int .i64 a0_3);have Z10_4:=cz_ BK421.out 4 (.int .i64 a0_4);have Z10_5:=cz_ BK421.out 5 (.int .i64 a0_5);have Z10_6:=cz_ BK421.out 6 (.string a0_6);have Y10_0:=bF_ BK421.out 0;have Y10_1:=bF_ BK421.out 1;have Y10_2:=bF_ BK421.out 2;have Y10_3:=bF_ BK421.out 3;have Y10_4:=bF_ BK421.out 4;have Y10_5:=bF_ BK421.out 5;have Y10_6:=bF_ BK421.out 6)|((with_reducible refine gC_ (f:=75) rfl ?_);refine gl_ 5 Tryd.func75 #[.int .i64 a0_0,.int .i64 1,.int .i64 3] ?_;(with_reducible refine (spec_l6In.calls a0_0 1 3 true _ A2.out).mono ?_);rintro e w' ⟨rfl,⟨nd,rfl⟩⟩;refine ⟨_,rfl,?_⟩)|(go_at_call 75;(with_reducible refine (spec_l6In.calls a0_1 1 40 true _ A4.out).mono ?_);rintro e w' ⟨rfl,⟨nd,rfl⟩⟩)|(go_at_call 84;(with_reducible refine (spec_OpOk.calls k a0_2 a0_3 a0_4 a0_5 a0_6 true _ A6.out).mono ?_);rintro e w11 ⟨rfl,hb⟩;replace HB:=a_ (bS_ (bel_) hb);replace BK421:=a_ (bb_ BK421.out hb);(try clear hb);have Z12_0:=cz_ BK421.out 0 (.int .i64 a0_0);have Z12_1:=cz_ BK421.out 1 (.int .i64 a0_1);have Z12_2:=cz_ BK421.out 2 (.int .i64 a0_2);have Z12_3:=cz_ BK421.out 3 (.int .i64 a0_3);have Z12_4:=cz_ BK421.out 4 (.int .i64 a0_4);have Z12_5:=cz_ BK421.out 5 (.int .i64 a0_5);have Z12_6:=cz_ BK421.out 6 (.string a0_6);have Y12_0:=bF_ BK421.out 0;have Y12_1:=bF_ BK421.out 1;have Y12_2:=bF_ BK421.out 2;have Y12_3:=bF_ BK421.out 3;have Y12_4:=bF_ BK421.out 4;have Y12_5:=bF_ BK421.out 5;have Y12_6:=bF_ BK421.out 6))
     go_ret
     exact ⟨fi_,bel_⟩
    ·rw [if_neg c8] at H
     have c8b0:(a0_2==1)=false:=bn_ c8
     have c8b1:(a0_2 != 1)=true:=bne_iff_ne.mpr c8
     obtain rfl:=sj_ H
     go_enter Tryd.func30,Tryd.ntmps30
     go_wp2_with (first|((with_reducible refine gD_ (N:=1) rfl ?_);refine bx_ 1 (#[.int .i64 a0_0,.int .i64 a0_1,.int .i64 a0_2,.int .i64 a0_3,.int .i64 a0_4,.int .i64 a0_5,.string a0_6]) 44 ?_;intro gb421 hg w13 hbox hb;have n0_:=a_ (bS_ (bel_) hb);have n1_:=a_ (hbox);have n2_:=a_ ((by rw [hg];exact (below_size (bel_)):w.heap.size≤gb421));have n3_:=a_ ((by rw [hg];exact (below_size (bel_)):w.heap.size≤gb421));clear HB;have HB:=n0_;have BK421:=n1_;have GW421:=n2_;have GE421:=n3_;clear n0_ n1_ n2_ n3_;clear hb hbox hg;have Z14_0:=cz_ BK421.out 0 (.int .i64 a0_0);have Z14_1:=cz_ BK421.out 1 (.int .i64 a0_1);have Z14_2:=cz_ BK421.out 2 (.int .i64 a0_2);have Z14_3:=cz_ BK421.out 3 (.int .i64 a0_3);have Z14_4:=cz_ BK421.out 4 (.int .i64 a0_4);have Z14_5:=cz_ BK421.out 5 (.int .i64 a0_5);have Z14_6:=cz_ BK421.out 6 (.string a0_6);have Y14_0:=bF_ BK421.out 0;have Y14_1:=bF_ BK421.out 1;have Y14_2:=bF_ BK421.out 2;have Y14_3:=bF_ BK421.out 3;have Y14_4:=bF_ BK421.out 4;have Y14_5:=bF_ BK421.out 5;have Y14_6:=bF_ BK421.out 6)|((with_reducible refine gC_ (f:=75) rfl ?_);refine gl_ 5 Tryd.func75 #[.int .i64 a0_0,.int .i64 1,.int .i64 3] ?_;(with_reducible refine (spec_l6In.calls a0_0 1 3 true _ A2.out).mono ?_);rintro e w' ⟨rfl,⟨nd,rfl⟩⟩;refine ⟨_,rfl,?_⟩)|(go_at_call 75;(with_reducible refine (spec_l6In.calls a0_1 1 40 true _ A4.out).mono ?_);rintro e w' ⟨rfl,⟨nd,rfl⟩⟩)|(go_at_call 84;(with_reducible refine (spec_OpOk.calls k a0_2 a0_3 a0_4 a0_5 a0_6 true _ A6.out).mono ?_);rintro e w15 ⟨rfl,hb⟩;replace HB:=a_ (bS_ (bel_) hb);replace BK421:=a_ (bb_ BK421.out hb);(try clear hb);have Z16_0:=cz_ BK421.out 0 (.int .i64 a0_0);have Z16_1:=cz_ BK421.out 1 (.int .i64 a0_1);have Z16_2:=cz_ BK421.out 2 (.int .i64 a0_2);have Z16_3:=cz_ BK421.out 3 (.int .i64 a0_3);have Z16_4:=cz_ BK421.out 4 (.int .i64 a0_4);have Z16_5:=cz_ BK421.out 5 (.int .i64 a0_5);have Z16_6:=cz_ BK421.out 6 (.string a0_6);have Y16_0:=bF_ BK421.out 0;have Y16_1:=bF_ BK421.out 1;have Y16_2:=bF_ BK421.out 2;have Y16_3:=bF_ BK421.out 3;have Y16_4:=bF_ BK421.out 4;have Y16_5:=bF_ BK421.out 5;have Y16_6:=bF_ BK421.out 6))
     go_ret
     exact ⟨fi_,bel_⟩
   ·replace c7:=Bool.eq_false_iff.mpr c7
    subst c7
    have H1:(some false)=some r:=by rw [if_neg (show ¬ (false=true) by decide)] at H;exact H
    clear H
    have H:=H1
    clear H1
    obtain rfl:=sj_ H
    go_enter Tryd.func30,Tryd.ntmps30
    go_wp2_with (first|((with_reducible refine gD_ (N:=1) rfl ?_);refine bx_ 1 (#[.int .i64 a0_0,.int .i64 a0_1,.int .i64 a0_2,.int .i64 a0_3,.int .i64 a0_4,.int .i64 a0_5,.string a0_6]) 44 ?_;intro gb421 hg w17 hbox hb;have n0_:=a_ (bS_ (bel_) hb);have n1_:=a_ (hbox);have n2_:=a_ ((by rw [hg];exact (below_size (bel_)):w.heap.size≤gb421));have n3_:=a_ ((by rw [hg];exact (below_size (bel_)):w.heap.size≤gb421));clear HB;have HB:=n0_;have BK421:=n1_;have GW421:=n2_;have GE421:=n3_;clear n0_ n1_ n2_ n3_;clear hb hbox hg;have Z18_0:=cz_ BK421.out 0 (.int .i64 a0_0);have Z18_1:=cz_ BK421.out 1 (.int .i64 a0_1);have Z18_2:=cz_ BK421.out 2 (.int .i64 a0_2);have Z18_3:=cz_ BK421.out 3 (.int .i64 a0_3);have Z18_4:=cz_ BK421.out 4 (.int .i64 a0_4);have Z18_5:=cz_ BK421.out 5 (.int .i64 a0_5);have Z18_6:=cz_ BK421.out 6 (.string a0_6);have Y18_0:=bF_ BK421.out 0;have Y18_1:=bF_ BK421.out 1;have Y18_2:=bF_ BK421.out 2;have Y18_3:=bF_ BK421.out 3;have Y18_4:=bF_ BK421.out 4;have Y18_5:=bF_ BK421.out 5;have Y18_6:=bF_ BK421.out 6)|((with_reducible refine gC_ (f:=75) rfl ?_);refine gl_ 5 Tryd.func75 #[.int .i64 a0_0,.int .i64 1,.int .i64 3] ?_;(with_reducible refine (spec_l6In.calls a0_0 1 3 true _ A2.out).mono ?_);rintro e w' ⟨rfl,⟨nd,rfl⟩⟩;refine ⟨_,rfl,?_⟩)|(go_at_call 75;(with_reducible refine (spec_l6In.calls a0_1 1 40 true _ A4.out).mono ?_);rintro e w' ⟨rfl,⟨nd,rfl⟩⟩)|(go_at_call 84;(with_reducible refine (spec_OpOk.calls k a0_2 a0_3 a0_4 a0_5 a0_6 false _ A6.out).mono ?_);rintro e w19 ⟨rfl,hb⟩;replace HB:=a_ (bS_ (bel_) hb);replace BK421:=a_ (bb_ BK421.out hb);(try clear hb)))
    go_ret
    exact ⟨fi_,bel_⟩
  ·replace c5:=Bool.eq_false_iff.mpr c5
   subst c5
   have H1:(some false)=some r:=by rw [if_neg (show ¬ (false=true) by decide)] at H;exact H
   clear H
   have H:=H1
   clear H1
   obtain rfl:=sj_ H
   go_enter Tryd.func30,Tryd.ntmps30
   go_wp2_with (first|((with_reducible refine gD_ (N:=1) rfl ?_);refine bx_ 1 (#[.int .i64 a0_0,.int .i64 a0_1,.int .i64 a0_2,.int .i64 a0_3,.int .i64 a0_4,.int .i64 a0_5,.string a0_6]) 44 ?_;intro gb421 hg w20 hbox hb;have n0_:=a_ (bS_ (bel_) hb);have n1_:=a_ (hbox);have n2_:=a_ ((by rw [hg];exact (below_size (bel_)):w.heap.size≤gb421));have n3_:=a_ ((by rw [hg];exact (below_size (bel_)):w.heap.size≤gb421));clear HB;have HB:=n0_;have BK421:=n1_;have GW421:=n2_;have GE421:=n3_;clear n0_ n1_ n2_ n3_;clear hb hbox hg;have Z21_0:=cz_ BK421.out 0 (.int .i64 a0_0);have Z21_1:=cz_ BK421.out 1 (.int .i64 a0_1);have Z21_2:=cz_ BK421.out 2 (.int .i64 a0_2);have Z21_3:=cz_ BK421.out 3 (.int .i64 a0_3);have Z21_4:=cz_ BK421.out 4 (.int .i64 a0_4);have Z21_5:=cz_ BK421.out 5 (.int .i64 a0_5);have Z21_6:=cz_ BK421.out 6 (.string a0_6);have Y21_0:=bF_ BK421.out 0;have Y21_1:=bF_ BK421.out 1;have Y21_2:=bF_ BK421.out 2;have Y21_3:=bF_ BK421.out 3;have Y21_4:=bF_ BK421.out 4;have Y21_5:=bF_ BK421.out 5;have Y21_6:=bF_ BK421.out 6)|((with_reducible refine gC_ (f:=75) rfl ?_);refine gl_ 5 Tryd.func75 #[.int .i64 a0_0,.int .i64 1,.int .i64 3] ?_;(with_reducible refine (spec_l6In.calls a0_0 1 3 true _ A2.out).mono ?_);rintro e w' ⟨rfl,⟨nd,rfl⟩⟩;refine ⟨_,rfl,?_⟩)|(go_at_call 75;(with_reducible refine (spec_l6In.calls a0_1 1 40 false _ A4.out).mono ?_);rintro e w' ⟨rfl,⟨nd,rfl⟩⟩))
   go_ret
   exact ⟨fi_,bel_⟩
 ·replace c3:=Bool.eq_false_iff.mpr c3
  subst c3
  have H1:(some false)=some r:=by rw [if_neg (show ¬ (false=true) by decide)] at H;exact H
  clear H
  have H:=H1
  clear H1
  obtain rfl:=sj_ H
  go_enter Tryd.func30,Tryd.ntmps30
  go_wp2_with (first|((with_reducible refine gD_ (N:=1) rfl ?_);refine bx_ 1 (#[.int .i64 a0_0,.int .i64 a0_1,.int .i64 a0_2,.int .i64 a0_3,.int .i64 a0_4,.int .i64 a0_5,.string a0_6]) 44 ?_;intro gb421 hg w22 hbox hb;have n0_:=a_ (bS_ (bel_) hb);have n1_:=a_ (hbox);have n2_:=a_ ((by rw [hg];exact (below_size (bel_)):w.heap.size≤gb421));have n3_:=a_ ((by rw [hg];exact (below_size (bel_)):w.heap.size≤gb421));clear HB;have HB:=n0_;have BK421:=n1_;have GW421:=n2_;have GE421:=n3_;clear n0_ n1_ n2_ n3_;clear hb hbox hg;have Z23_0:=cz_ BK421.out 0 (.int .i64 a0_0);have Z23_1:=cz_ BK421.out 1 (.int .i64 a0_1);have Z23_2:=cz_ BK421.out 2 (.int .i64 a0_2);have Z23_3:=cz_ BK421.out 3 (.int .i64 a0_3);have Z23_4:=cz_ BK421.out 4 (.int .i64 a0_4);have Z23_5:=cz_ BK421.out 5 (.int .i64 a0_5);have Z23_6:=cz_ BK421.out 6 (.string a0_6);have Y23_0:=bF_ BK421.out 0;have Y23_1:=bF_ BK421.out 1;have Y23_2:=bF_ BK421.out 2;have Y23_3:=bF_ BK421.out 3;have Y23_4:=bF_ BK421.out 4;have Y23_5:=bF_ BK421.out 5;have Y23_6:=bF_ BK421.out 6)|((with_reducible refine gC_ (f:=75) rfl ?_);refine gl_ 5 Tryd.func75 #[.int .i64 a0_0,.int .i64 1,.int .i64 3] ?_;(with_reducible refine (spec_l6In.calls a0_0 1 3 false _ A2.out).mono ?_);rintro e w' ⟨rfl,⟨nd,rfl⟩⟩;refine ⟨_,rfl,?_⟩))
  go_ret
  exact ⟨fi_,bel_⟩

theorem eqA42 (d:Nat) (w:World) (x0 y0:Int) (x1 y1:Int) (x2 y2:Int) (x3 y3:Int) (x4 y4:ByteArray) :
  (Op.equalIn (d+2) 42 (.agg #[.int .i64 x0,.int .i64 x1,.int .i64 x2,.int .i64 x3,.string x4]) (.agg #[.int .i64 y0,.int .i64 y1,.int .i64 y2,.int .i64 y3,.string y4])).run Tryd.prog w=.ok (x0==y0&&(x1==y1&&(x2==y2&&(x3==y3&&(x4.toList==y4.toList))))) w:=by
 refine eqA_of Tryd.underlying42 (by kernel_rfl) ?_
 refine eqf_cons (by rfl) (by go_simp;rfl) (by go_simp;rfl) (by go_simp) ?_
 refine eqf_cons (by rfl) (by go_simp;rfl) (by go_simp;rfl) (by go_simp) ?_
 refine eqf_cons (by rfl) (by go_simp;rfl) (by go_simp;rfl) (by go_simp) ?_
 refine eqf_cons (by rfl) (by go_simp;rfl) (by go_simp;rfl) (by go_simp) ?_
 exact eqf_last (by rfl) (by go_simp;rfl) (by go_simp;rfl) (by go_simp)
theorem eqA44 (d:Nat) (w:World) (x0 y0:Int) (x1 y1:Int) (x2 y2:Int) (x3 y3:Int) (x4 y4:Int) (x5 y5:Int) (x6 y6:ByteArray) :
  (Op.equalIn (d+3) 44 (.agg #[.int .i64 x0,.int .i64 x1,.int .i64 x2,.int .i64 x3,.int .i64 x4,.int .i64 x5,.string x6]) (.agg #[.int .i64 y0,.int .i64 y1,.int .i64 y2,.int .i64 y3,.int .i64 y4,.int .i64 y5,.string y6])).run Tryd.prog w=.ok (x0==y0&&(x1==y1&&((x2==y2&&(x3==y3&&(x4==y4&&(x5==y5&&(x6.toList==y6.toList)))))))) w:=by
 refine eqA_of Tryd.underlying44 (by kernel_rfl) ?_
 refine eqf_cons (by rfl) (by go_simp;rfl) (by go_simp;rfl) (by go_simp) ?_
 refine eqf_cons (by rfl) (by go_simp;rfl) (by go_simp;rfl) (by go_simp) ?_
 exact eqf_last (by rfl) (by go_simp) (by go_simp) (eqA42 (d+0) w _ _ _ _ _ _ _ _ _ _)
def spec_LogOk.l0:Nat→List (S44)→Int→Option (Bool)
 | 0,_,_=>none
 | k+1,x0,x3=>if x3 < (x0.length:Int) then (if 0≤x3 then ((spec_EntryOk.f k ((rd_T44 x0 x3).f0) ((rd_T44 x0 x3).f1) ((rd_T44 x0 x3).f2.f0) ((rd_T44 x0 x3).f2.f1) ((rd_T44 x0 x3).f2.f2) ((rd_T44 x0 x3).f2.f3) ((rd_T44 x0 x3).f2.f4)).bind fun t426=>(if t426=true then (if x3≤(x0.length:Int) then ((spec_l12Seq.f k (x0.take (x3:Int).toNat) ((rd_T44 x0 x3).f0)).bind fun t433=>(if ((rd_T44 x0 x3).f1)=(wrap64 (t433+1)) then (spec_LogOk.l0 k x0 (wrap64 (x3+1))) else (some false))) else (none)) else (some false))) else (none)) else (some (decide ((x0.length:Int)≤40)))
def spec_LogOk.f (k:Nat) (l0:List (S44)):Option (Bool):=spec_LogOk.l0 k l0 0
theorem spec_LogOk.mono_l:∀ k,(∀ y0 y1,LeO (spec_LogOk.l0 k y0 y1) (spec_LogOk.l0 (k+1) y0 y1))
 | 0=>fun _ _ r h=>by simp [spec_LogOk.l0] at h
 | k+1=>by
  have ih0:=spec_LogOk.mono_l k
  ·intro y0 y1
   unfold spec_LogOk.l0
   repeat' first
   | (with_reducible exact ih0 _ _)
   | (with_reducible exact spec_EntryOk.mono _ _ _ _ _ _ _ _)
   | (with_reducible exact spec_l12Seq.mono _ _ _)
   | (with_reducible exact LeO.refl _)
   | (with_reducible exact LeO.none _)
   | (with_reducible refine LeO.ite ?_ ?_)
   | (with_reducible refine LeO.bind ?_ (fun _=>?_))
   | exact ih0 _ _
   | exact spec_EntryOk.mono _ _ _ _ _ _ _ _
   | exact spec_l12Seq.mono _ _ _
   | exact LeO.none _
   | refine LeO.ite ?_ ?_
   | refine LeO.bind ?_ (fun _=>?_)
theorem spec_LogOk.mono:∀ a0 k,LeO (spec_LogOk.f k a0) (spec_LogOk.f (k+1) a0):=by
 intro a0 k
 have ih0:=spec_LogOk.mono_l k
 unfold spec_LogOk.f
 repeat' first
   | (with_reducible exact ih0 _ _)
   | (with_reducible exact spec_EntryOk.mono _ _ _ _ _ _ _ _)
   | (with_reducible exact spec_l12Seq.mono _ _ _)
   | (with_reducible exact LeO.refl _)
   | (with_reducible exact LeO.none _)
   | (with_reducible refine LeO.ite ?_ ?_)
   | (with_reducible refine LeO.bind ?_ (fun _=>?_))
   | exact ih0 _ _
   | exact spec_EntryOk.mono _ _ _ _ _ _ _ _
   | exact spec_l12Seq.mono _ _ _
   | exact LeO.none _
   | refine LeO.ite ?_ ?_
   | refine LeO.bind ?_ (fun _=>?_)
def spec_LogOk.T4:Bool×List (List Nat×List Nat):=(true,[([],[]),([],[]),([0,1],[0,1]),([2],[2]),([3],[3]),([4],[4]),([5,4],[5]),([6],[6]),([6],[6]),([7,8,6],[6,7,8]),([9,6],[6,9]),([10,6],[6,10]),([6],[6]),([6],[6]),([12,13,6],[6,12,13]),([6],[6]),([6],[6]),([15,16,6],[6,15,16]),([17,6],[6,17]),([18,6],[6,18]),([14,19,6,6],[6,14,19]),([20,6],[6,20]),([11,21,6],[6,11,21]),([6,22],[6,22])])
def spec_LogOk.B4:List Nat:=[0,0,3,7,15,31,63,127,127,511,1023,2047,127,127,12415,127,127,98431,229503,491647,1044607,2093183,4194303,8388607]
theorem spec_LogOk.tab4:rtab .any (opsOf Tryd.f43 4)=spec_LogOk.T4:=by kernel_rfl
theorem spec_LogOk.bits4:waitsOk spec_LogOk.T4.2 spec_LogOk.B4=true:=by kernel_rfl
theorem spec_LogOk.calls (k:Nat) (A0:Option Addr) (c0:Nat) (l0:List (S44)) (r:Bool) (w:World) (hr0:Kd.C k44 w A0 l0.length l0) (hc0:l0.length≤c0) (h:spec_LogOk.f k l0=some r) :
  Calls Tryd.prog 43 #[.slice A0 l0.length c0] w fun e w'=>e=.returned (.bool r)∧Below w.heap.size w w':=by
 have hu44:=Tryd.underlying44
 have HR0:=a_ hr0
 have HC0:=a_ hc0
 clear hr0 hc0
 have HB:=a_ (Below.refl w.heap.size w)
 unfold spec_LogOk.f at h
 have H:=h
 clear h
 have H':=a_ H
 clear H
 go_enter Tryd.func43,Tryd.ntmps43
 go_wp2
 go_loopg [3] k (fun kq v3 w'=>∃ (x3_1:Int),v3=.int .i64 x3_1∧Aside0 (spec_LogOk.l0 kq l0 x3_1=some r)∧Aside0 (kq≤k)∧Aside0 (Below w.heap.size w w'))
 case atStart=>exact ⟨(0),(si_),H',⟨Nat.le_refl _⟩,⟨bel_⟩⟩
 case round =>
  clear H'
  obtain ⟨x3_1,rfl,HA,HK1,HB⟩:=hrel
  cases gk with
  | zero=>exact absurd HA.out (by simp [spec_LogOk.l0])
  | succ k1 =>
   have H:=HA.out
   clear HA
   simp only [spec_LogOk.l0] at H
   by_cases c2:x3_1 < (l0.length:Int)
   ·rw [if_pos c2] at H
    have c2b0:decide (x3_1 < (l0.length:Int))=true:=dt_ c2
    clear c2
    by_cases c3:0≤x3_1
    ·rw [if_pos c3] at H
     have c3b0:decide (0≤x3_1)=true:=dt_ c3
     clear c3
     replace H:=bs_ H
     obtain ⟨t426,A40,H⟩:=H
     try dsimp only at H
     have A4:=a_ A40
     clear A40
     by_cases c5:t426=true
     ·subst c5
      have H1:(if x3_1≤(l0.length:Int) then ((spec_l12Seq.f k1 (l0.take (x3_1:Int).toNat) ((rd_T44 l0 x3_1).f0)).bind fun t433=>(if ((rd_T44 l0 x3_1).f1)=(wrap64 (t433+1)) then (spec_LogOk.l0 k1 l0 (wrap64 (x3_1+1))) else (some false))) else (none))=some r:=by rw [if_pos rfl] at H;exact H
      clear H
      have H:=H1
      clear H1
      have c6b0:=eq_true (od_:0≤x3_1)
      by_cases c7:x3_1≤(l0.length:Int)
      ·rw [if_pos c7] at H
       have c7b0:=eq_true c7
       have c7b1:decide (x3_1≤(l0.length:Int))=true:=dt_ c7
       clear c7
       obtain ⟨y428,hy428⟩:∃ y_:List (S44),y_=(l0.take (x3_1:Int).toNat):=⟨_,rfl⟩
       replace H:((spec_l12Seq.f k1 y428 ((rd_T44 l0 x3_1).f0)).bind fun t433=>(if ((rd_T44 l0 x3_1).f1)=(wrap64 (t433+1)) then (spec_LogOk.l0 k1 l0 (wrap64 (x3_1+1))) else (some false)))=some r:=by first|(rw [hy428];with_reducible exact H)|(have H2_:=(Option.bind_some _ _).symm.trans H;rw [hy428];with_reducible exact H2_)|(have H2_:=(Option.bind_some _ _).symm.trans H;with_reducible exact H2_)|with_reducible exact H|(rw [hy428];exact H)|exact H
       have Ny428:=a_ hy428
       clear hy428
       replace H:=bs_ H
       obtain ⟨t433,A80,H⟩:=H
       try dsimp only at H
       have A8:=a_ A80
       clear A80
       by_cases c9:((rd_T44 l0 x3_1).f1)=(wrap64 (t433+1))
       ·rw [if_pos c9] at H
        have c9b0:(((rd_T44 l0 x3_1).f1)==(wrap64 (t433+1)))=true:=beq_iff_eq.mpr c9
        have c9b1:(((rd_T44 l0 x3_1).f1) != (wrap64 (t433+1)))=false:=be_ c9
        clear c9
        have H':=a_ H
        clear H
        try go_wp2
        have n0_:=a_ (below_drew1 HB.out)
        clear HB
        have HB:=n0_
        clear n0_
        have p425:0≤(x3_1:Int):=od_
        have q425:x3_1 < (l0.length:Int):=od_
        obtain ⟨ad425,e425,hx425_0,hx425_1,hx425_2,hx425_3,hx425_4,hx425_5,hx425_6⟩:=at_T44 HR0.out x3_1 p425 q425
        have hw425_6:=hx425_6
        have hw425_5:=hx425_5
        have hw425_4:=hx425_4
        have hw425_3:=hx425_3
        have hw425_2:=hx425_2
        have hw425_1:=hx425_1
        have hw425_0:=hx425_0
        cases e425
        replace hx425_0:=(cb_ HB.out hx425_0 :)
        replace hx425_1:=(cb_ HB.out hx425_1 :)
        replace hx425_2:=(cb_ HB.out hx425_2 :)
        replace hx425_3:=(cb_ HB.out hx425_3 :)
        replace hx425_4:=(cb_ HB.out hx425_4 :)
        replace hx425_5:=(cb_ HB.out hx425_5 :)
        replace hx425_6:=(cb_ HB.out hx425_6 :)
        replace p425:=eq_true p425
        replace q425:=eq_true q425
        have p427:0≤(x3_1:Int):=od_
        have q427:x3_1 < (l0.length:Int):=od_
        obtain ⟨ad427,e427,hx427_0,hx427_1,hx427_2,hx427_3,hx427_4,hx427_5,hx427_6⟩:=at_T44 HR0.out x3_1 p427 q427
        have hw427_6:=hx427_6
        have hw427_5:=hx427_5
        have hw427_4:=hx427_4
        have hw427_3:=hx427_3
        have hw427_2:=hx427_2
        have hw427_1:=hx427_1
        have hw427_0:=hx427_0
        obtain rfl:ad425=ad427:=(by injection e427)
        replace hx427_0:=(cb_ HB.out hx427_0 :)
        replace hx427_1:=(cb_ HB.out hx427_1 :)
        replace hx427_2:=(cb_ HB.out hx427_2 :)
        replace hx427_3:=(cb_ HB.out hx427_3 :)
        replace hx427_4:=(cb_ HB.out hx427_4 :)
        replace hx427_5:=(cb_ HB.out hx427_5 :)
        replace hx427_6:=(cb_ HB.out hx427_6 :)
        replace p427:=eq_true p427
        replace q427:=eq_true q427
        have p432:0≤(x3_1:Int):=od_
        have q432:x3_1 < (l0.length:Int):=od_
        obtain ⟨ad432,e432,hx432_0,hx432_1,hx432_2,hx432_3,hx432_4,hx432_5,hx432_6⟩:=at_T44 HR0.out x3_1 p432 q432
        have hw432_6:=hx432_6
        have hw432_5:=hx432_5
        have hw432_4:=hx432_4
        have hw432_3:=hx432_3
        have hw432_2:=hx432_2
        have hw432_1:=hx432_1
        have hw432_0:=hx432_0
        obtain rfl:ad425=ad432:=(by injection e432)
        replace hx432_0:=(cb_ HB.out hx432_0 :)
        replace hx432_1:=(cb_ HB.out hx432_1 :)
        replace hx432_2:=(cb_ HB.out hx432_2 :)
        replace hx432_3:=(cb_ HB.out hx432_3 :)
        replace hx432_4:=(cb_ HB.out hx432_4 :)
        replace hx432_5:=(cb_ HB.out hx432_5 :)
        replace hx432_6:=(cb_ HB.out hx432_6 :)
        replace p432:=eq_true p432
        replace q432:=eq_true q432
        refine start_ (n:=24) (S:=fun w'=>w'.cell? (ad425.add ((x3_1).toNat * 7))=some (.int .i64 ((rd_T44 l0 x3_1).f0))∧w'.cell? ⟨(ad425.add ((x3_1).toNat * 7)).block,(ad425.add ((x3_1).toNat * 7)).off+1,none⟩=some (.int .i64 ((rd_T44 l0 x3_1).f1))∧w'.cell? ⟨(ad425.add ((x3_1).toNat * 7)).block,(ad425.add ((x3_1).toNat * 7)).off+2,none⟩=some (.int .i64 ((rd_T44 l0 x3_1).f2.f0))∧w'.cell? ⟨(ad425.add ((x3_1).toNat * 7)).block,(ad425.add ((x3_1).toNat * 7)).off+3,none⟩=some (.int .i64 ((rd_T44 l0 x3_1).f2.f1))∧w'.cell? ⟨(ad425.add ((x3_1).toNat * 7)).block,(ad425.add ((x3_1).toNat * 7)).off+4,none⟩=some (.int .i64 ((rd_T44 l0 x3_1).f2.f2))∧w'.cell? ⟨(ad425.add ((x3_1).toNat * 7)).block,(ad425.add ((x3_1).toNat * 7)).off+5,none⟩=some (.int .i64 ((rd_T44 l0 x3_1).f2.f3))∧w'.cell? ⟨(ad425.add ((x3_1).toNat * 7)).block,(ad425.add ((x3_1).toNat * 7)).off+6,none⟩=some (.string ((rd_T44 l0 x3_1).f2.f4))∧w'.cell? (ad425.add ((x3_1).toNat * 7))=some (.int .i64 ((rd_T44 l0 x3_1).f0))∧w'.cell? ⟨(ad425.add ((x3_1).toNat * 7)).block,(ad425.add ((x3_1).toNat * 7)).off+1,none⟩=some (.int .i64 ((rd_T44 l0 x3_1).f1))∧w'.cell? ⟨(ad425.add ((x3_1).toNat * 7)).block,(ad425.add ((x3_1).toNat * 7)).off+2,none⟩=some (.int .i64 ((rd_T44 l0 x3_1).f2.f0))∧w'.cell? ⟨(ad425.add ((x3_1).toNat * 7)).block,(ad425.add ((x3_1).toNat * 7)).off+3,none⟩=some (.int .i64 ((rd_T44 l0 x3_1).f2.f1))∧w'.cell? ⟨(ad425.add ((x3_1).toNat * 7)).block,(ad425.add ((x3_1).toNat * 7)).off+4,none⟩=some (.int .i64 ((rd_T44 l0 x3_1).f2.f2))∧w'.cell? ⟨(ad425.add ((x3_1).toNat * 7)).block,(ad425.add ((x3_1).toNat * 7)).off+5,none⟩=some (.int .i64 ((rd_T44 l0 x3_1).f2.f3))∧w'.cell? ⟨(ad425.add ((x3_1).toNat * 7)).block,(ad425.add ((x3_1).toNat * 7)).off+6,none⟩=some (.string ((rd_T44 l0 x3_1).f2.f4))∧w'.cell? (ad425.add ((x3_1).toNat * 7))=some (.int .i64 ((rd_T44 l0 x3_1).f0))∧w'.cell? ⟨(ad425.add ((x3_1).toNat * 7)).block,(ad425.add ((x3_1).toNat * 7)).off+1,none⟩=some (.int .i64 ((rd_T44 l0 x3_1).f1))∧w'.cell? ⟨(ad425.add ((x3_1).toNat * 7)).block,(ad425.add ((x3_1).toNat * 7)).off+2,none⟩=some (.int .i64 ((rd_T44 l0 x3_1).f2.f0))∧w'.cell? ⟨(ad425.add ((x3_1).toNat * 7)).block,(ad425.add ((x3_1).toNat * 7)).off+3,none⟩=some (.int .i64 ((rd_T44 l0 x3_1).f2.f1))∧w'.cell? ⟨(ad425.add ((x3_1).toNat * 7)).block,(ad425.add ((x3_1).toNat * 7)).off+4,none⟩=some (.int .i64 ((rd_T44 l0 x3_1).f2.f2))∧w'.cell? ⟨(ad425.add ((x3_1).toNat * 7)).block,(ad425.add ((x3_1).toNat * 7)).off+5,none⟩=some (.int .i64 ((rd_T44 l0 x3_1).f2.f3))∧w'.cell? ⟨(ad425.add ((x3_1).toNat * 7)).block,(ad425.add ((x3_1).toNat * 7)).off+6,none⟩=some (.string ((rd_T44 l0 x3_1).f2.f4))) (ds:=[]) #[false,false,false,false,false,false,false,false,false,false,false,false,false,false,false,false,false,false,false,false,false,false,false,false] (by kernel_rfl) rfl rfl ⟨((cb_ HB.out hw425_0 :)),((cb_ HB.out hw425_1 :)),((cb_ HB.out hw425_2 :)),((cb_ HB.out hw425_3 :)),((cb_ HB.out hw425_4 :)),((cb_ HB.out hw425_5 :)),((cb_ HB.out hw425_6 :)),((cb_ HB.out hw427_0 :)),((cb_ HB.out hw427_1 :)),((cb_ HB.out hw427_2 :)),((cb_ HB.out hw427_3 :)),((cb_ HB.out hw427_4 :)),((cb_ HB.out hw427_5 :)),((cb_ HB.out hw427_6 :)),((cb_ HB.out hw432_0 :)),((cb_ HB.out hw432_1 :)),((cb_ HB.out hw432_2 :)),((cb_ HB.out hw432_3 :)),((cb_ HB.out hw432_4 :)),((cb_ HB.out hw432_5 :)),((cb_ HB.out hw432_6 :))⟩ (fun hHeld=>?_);refine with_tabW spec_LogOk.tab4 spec_LogOk.bits4 (fun HT_ HW_=>?_)
        generalize wr.drew=w10 at HB hx425_0 hx425_1 hx425_2 hx425_3 hx425_4 hx425_5 hx425_6 hx427_0 hx427_1 hx427_2 hx427_3 hx427_4 hx427_5 hx427_6 hx432_0 hx432_1 hx432_2 hx432_3 hx432_4 hx432_5 hx432_6 hHeld ⊢
        refine pa_ 0 10 ?_
        refine pa_ 1 11 ?_
        refine pa_ 2 12 ?_
        refine ta21_ 3 13 hHeld ?_
        refine on_ 4 14 (fun K hK=>?_)
        refine goes_ Tryd.func30 (by kernel_rfl) rfl #[.agg #[.int .i64 ((rd_T44 l0 x3_1).f0),.int .i64 ((rd_T44 l0 x3_1).f1),.int .i64 ((rd_T44 l0 x3_1).f2.f0),.int .i64 ((rd_T44 l0 x3_1).f2.f1),.int .i64 ((rd_T44 l0 x3_1).f2.f2),.int .i64 ((rd_T44 l0 x3_1).f2.f3),.string ((rd_T44 l0 x3_1).f2.f4)]] (by rfl) rfl rfl ar_ ?_
        with_reducible refine (spec_EntryOk.calls k1 ((rd_T44 l0 x3_1).f0) ((rd_T44 l0 x3_1).f1) ((rd_T44 l0 x3_1).f2.f0) ((rd_T44 l0 x3_1).f2.f1) ((rd_T44 l0 x3_1).f2.f2) ((rd_T44 l0 x3_1).f2.f3) ((rd_T44 l0 x3_1).f2.f4) true _ A4.out).mono ?_
        rintro e w11 ⟨rfl,hb⟩
        refine ⟨_,rfl,?_⟩
        have n0_:=a_ (bS_ (bel_) hb)
        clear HB
        have HB:=n0_
        clear n0_
        (try clear hb)
        (try clear hb2)
        (try clear hk)
        (try clear hi)
        have q12:(x3_1:Int)≤((l0.length:Int):Int):=od_
        obtain ⟨i012,hi012,_,hsz12,_⟩:=info_parts info44
        have hroom12:l0.length≤c0:=HC0.out
        have hC12:Kd.C k44 _ (some ad425) l0.length l0:=HR0.out
        have hcut12:=cut_to (P:=Tryd.prog) 23 44 .i64 Tryd.underlying23 hi012 (some ad425) l0.length c0 x3_1 (od_) q12 hroom12
        have hr12:=Kd.C_take (m:=(x3_1:Int).toNat) hC12 (by omega)
        have hy12:y428.length=(x3_1:Int).toNat:=(by rw [Ny428.out,List.length_take];omega)
        rw [←Ny428.out] at hr12
        rw [←hy12] at hcut12
        have HR431:=a_ hr12
        have HC431:=a_ (show y428.length≤c0 from by omega)
        clear hr12 hC12 hroom12 hi012 hsz12
        have KY12:=a_ hy12
        clear hy12
        replace q12:=eq_true q12
        refine hK.out _ _ ⟨((cb_ HB.out hw425_0 :)),((cb_ HB.out hw425_1 :)),((cb_ HB.out hw425_2 :)),((cb_ HB.out hw425_3 :)),((cb_ HB.out hw425_4 :)),((cb_ HB.out hw425_5 :)),((cb_ HB.out hw425_6 :)),((cb_ HB.out hw427_0 :)),((cb_ HB.out hw427_1 :)),((cb_ HB.out hw427_2 :)),((cb_ HB.out hw427_3 :)),((cb_ HB.out hw427_4 :)),((cb_ HB.out hw427_5 :)),((cb_ HB.out hw427_6 :)),((cb_ HB.out hw432_0 :)),((cb_ HB.out hw432_1 :)),((cb_ HB.out hw432_2 :)),((cb_ HB.out hw432_3 :)),((cb_ HB.out hw432_4 :)),((cb_ HB.out hw432_5 :)),((cb_ HB.out hw432_6 :))⟩ (fun hHeld=>?_)
        clear hK K
        refine no_ 14 ?_
        refine pa_ 5 15 ?_
        refine pa_ 6 16 ?_
        refine pa_ 7 17 ?_
        refine pa_ 8 18 ?_
        refine pa_ 9 19 ?_
        refine pa_ 10 20 ?_
        refine pa_ 12 22 ?_
        refine pa_ 13 23 ?_
        refine pa_ 14 24 ?_
        refine pa_ 15 25 ?_
        refine pa_ 16 26 ?_
        refine pa_ 17 27 ?_
        refine pa_ 18 28 ?_
        refine ta21_ 11 21 hHeld ?_
        refine ta21_ 19 29 hHeld ?_
        refine on_ 20 30 (fun K hK=>?_)
        refine goes_ Tryd.func90 (by kernel_rfl) rfl #[.slice (some ad425) y428.length c0,.int .i64 ((rd_T44 l0 x3_1).f0)] (by rfl) rfl rfl ar_ ?_
        with_reducible refine (spec_l12Seq.calls k1 _ _ y428 ((rd_T44 l0 x3_1).f0) t433 _ ?side1 ?side2 A8.out).mono ?_
        (case side1=>exact cp_ HR431.out)
        (case side2=>exact HC431.out)
        rintro e w' ⟨rfl,⟨nd,rfl⟩⟩
        refine ⟨_,rfl,?_⟩
        refine hK.out _ _ ⟨((cb_ HB.out hw425_0 :)),((cb_ HB.out hw425_1 :)),((cb_ HB.out hw425_2 :)),((cb_ HB.out hw425_3 :)),((cb_ HB.out hw425_4 :)),((cb_ HB.out hw425_5 :)),((cb_ HB.out hw425_6 :)),((cb_ HB.out hw427_0 :)),((cb_ HB.out hw427_1 :)),((cb_ HB.out hw427_2 :)),((cb_ HB.out hw427_3 :)),((cb_ HB.out hw427_4 :)),((cb_ HB.out hw427_5 :)),((cb_ HB.out hw427_6 :)),((cb_ HB.out hw432_0 :)),((cb_ HB.out hw432_1 :)),((cb_ HB.out hw432_2 :)),((cb_ HB.out hw432_3 :)),((cb_ HB.out hw432_4 :)),((cb_ HB.out hw432_5 :)),((cb_ HB.out hw432_6 :))⟩ (fun hHeld=>?_)
        clear hK K
        refine no_ 30 ?_
        refine pa_ 21 31 ?_
        refine pa_ 22 32 ?_
        refine pa_ 23 33 ?_
        refine done_ (done_of HT_.out (by kernel_rfl)) ?_
        try go_wp2
        go_roundg k1
        case measure=>have:=HK1.out;omega
        case rel=>exact ⟨(wrap64 (x3_1+1)),(si_),H',⟨by have:=HK1.out;omega⟩,⟨bel_⟩⟩
       ·rw [if_neg c9] at H
        have c9b0:(((rd_T44 l0 x3_1).f1)==(wrap64 (t433+1)))=false:=bn_ c9
        have c9b1:(((rd_T44 l0 x3_1).f1) != (wrap64 (t433+1)))=true:=bne_iff_ne.mpr c9
        obtain rfl:=sj_ H
        try go_wp2
        have n0_:=a_ (below_drew1 HB.out)
        clear HB
        have HB:=n0_
        clear n0_
        have p425:0≤(x3_1:Int):=od_
        have q425:x3_1 < (l0.length:Int):=od_
        obtain ⟨ad425,e425,hx425_0,hx425_1,hx425_2,hx425_3,hx425_4,hx425_5,hx425_6⟩:=at_T44 HR0.out x3_1 p425 q425
        have hw425_6:=hx425_6
        have hw425_5:=hx425_5
        have hw425_4:=hx425_4
        have hw425_3:=hx425_3
        have hw425_2:=hx425_2
        have hw425_1:=hx425_1
        have hw425_0:=hx425_0
        cases e425
        replace hx425_0:=(cb_ HB.out hx425_0 :)
        replace hx425_1:=(cb_ HB.out hx425_1 :)
        replace hx425_2:=(cb_ HB.out hx425_2 :)
        replace hx425_3:=(cb_ HB.out hx425_3 :)
        replace hx425_4:=(cb_ HB.out hx425_4 :)
        replace hx425_5:=(cb_ HB.out hx425_5 :)
        replace hx425_6:=(cb_ HB.out hx425_6 :)
        replace p425:=eq_true p425
        replace q425:=eq_true q425
        have p427:0≤(x3_1:Int):=od_
        have q427:x3_1 < (l0.length:Int):=od_
        obtain ⟨ad427,e427,hx427_0,hx427_1,hx427_2,hx427_3,hx427_4,hx427_5,hx427_6⟩:=at_T44 HR0.out x3_1 p427 q427
        have hw427_6:=hx427_6
        have hw427_5:=hx427_5
        have hw427_4:=hx427_4
        have hw427_3:=hx427_3
        have hw427_2:=hx427_2
        have hw427_1:=hx427_1
        have hw427_0:=hx427_0
        obtain rfl:ad425=ad427:=(by injection e427)
        replace hx427_0:=(cb_ HB.out hx427_0 :)
        replace hx427_1:=(cb_ HB.out hx427_1 :)
        replace hx427_2:=(cb_ HB.out hx427_2 :)
        replace hx427_3:=(cb_ HB.out hx427_3 :)
        replace hx427_4:=(cb_ HB.out hx427_4 :)
        replace hx427_5:=(cb_ HB.out hx427_5 :)
        replace hx427_6:=(cb_ HB.out hx427_6 :)
        replace p427:=eq_true p427
        replace q427:=eq_true q427
        have p432:0≤(x3_1:Int):=od_
        have q432:x3_1 < (l0.length:Int):=od_
        obtain ⟨ad432,e432,hx432_0,hx432_1,hx432_2,hx432_3,hx432_4,hx432_5,hx432_6⟩:=at_T44 HR0.out x3_1 p432 q432
        have hw432_6:=hx432_6
        have hw432_5:=hx432_5
        have hw432_4:=hx432_4
        have hw432_3:=hx432_3
        have hw432_2:=hx432_2
        have hw432_1:=hx432_1
        have hw432_0:=hx432_0
        obtain rfl:ad425=ad432:=(by injection e432)
        replace hx432_0:=(cb_ HB.out hx432_0 :)
        replace hx432_1:=(cb_ HB.out hx432_1 :)
        replace hx432_2:=(cb_ HB.out hx432_2 :)
        replace hx432_3:=(cb_ HB.out hx432_3 :)
        replace hx432_4:=(cb_ HB.out hx432_4 :)
        replace hx432_5:=(cb_ HB.out hx432_5 :)
        replace hx432_6:=(cb_ HB.out hx432_6 :)
        replace p432:=eq_true p432
        replace q432:=eq_true q432
        refine start_ (n:=24) (S:=fun w'=>w'.cell? (ad425.add ((x3_1).toNat * 7))=some (.int .i64 ((rd_T44 l0 x3_1).f0))∧w'.cell? ⟨(ad425.add ((x3_1).toNat * 7)).block,(ad425.add ((x3_1).toNat * 7)).off+1,none⟩=some (.int .i64 ((rd_T44 l0 x3_1).f1))∧w'.cell? ⟨(ad425.add ((x3_1).toNat * 7)).block,(ad425.add ((x3_1).toNat * 7)).off+2,none⟩=some (.int .i64 ((rd_T44 l0 x3_1).f2.f0))∧w'.cell? ⟨(ad425.add ((x3_1).toNat * 7)).block,(ad425.add ((x3_1).toNat * 7)).off+3,none⟩=some (.int .i64 ((rd_T44 l0 x3_1).f2.f1))∧w'.cell? ⟨(ad425.add ((x3_1).toNat * 7)).block,(ad425.add ((x3_1).toNat * 7)).off+4,none⟩=some (.int .i64 ((rd_T44 l0 x3_1).f2.f2))∧w'.cell? ⟨(ad425.add ((x3_1).toNat * 7)).block,(ad425.add ((x3_1).toNat * 7)).off+5,none⟩=some (.int .i64 ((rd_T44 l0 x3_1).f2.f3))∧w'.cell? ⟨(ad425.add ((x3_1).toNat * 7)).block,(ad425.add ((x3_1).toNat * 7)).off+6,none⟩=some (.string ((rd_T44 l0 x3_1).f2.f4))∧w'.cell? (ad425.add ((x3_1).toNat * 7))=some (.int .i64 ((rd_T44 l0 x3_1).f0))∧w'.cell? ⟨(ad425.add ((x3_1).toNat * 7)).block,(ad425.add ((x3_1).toNat * 7)).off+1,none⟩=some (.int .i64 ((rd_T44 l0 x3_1).f1))∧w'.cell? ⟨(ad425.add ((x3_1).toNat * 7)).block,(ad425.add ((x3_1).toNat * 7)).off+2,none⟩=some (.int .i64 ((rd_T44 l0 x3_1).f2.f0))∧w'.cell? ⟨(ad425.add ((x3_1).toNat * 7)).block,(ad425.add ((x3_1).toNat * 7)).off+3,none⟩=some (.int .i64 ((rd_T44 l0 x3_1).f2.f1))∧w'.cell? ⟨(ad425.add ((x3_1).toNat * 7)).block,(ad425.add ((x3_1).toNat * 7)).off+4,none⟩=some (.int .i64 ((rd_T44 l0 x3_1).f2.f2))∧w'.cell? ⟨(ad425.add ((x3_1).toNat * 7)).block,(ad425.add ((x3_1).toNat * 7)).off+5,none⟩=some (.int .i64 ((rd_T44 l0 x3_1).f2.f3))∧w'.cell? ⟨(ad425.add ((x3_1).toNat * 7)).block,(ad425.add ((x3_1).toNat * 7)).off+6,none⟩=some (.string ((rd_T44 l0 x3_1).f2.f4))∧w'.cell? (ad425.add ((x3_1).toNat * 7))=some (.int .i64 ((rd_T44 l0 x3_1).f0))∧w'.cell? ⟨(ad425.add ((x3_1).toNat * 7)).block,(ad425.add ((x3_1).toNat * 7)).off+1,none⟩=some (.int .i64 ((rd_T44 l0 x3_1).f1))∧w'.cell? ⟨(ad425.add ((x3_1).toNat * 7)).block,(ad425.add ((x3_1).toNat * 7)).off+2,none⟩=some (.int .i64 ((rd_T44 l0 x3_1).f2.f0))∧w'.cell? ⟨(ad425.add ((x3_1).toNat * 7)).block,(ad425.add ((x3_1).toNat * 7)).off+3,none⟩=some (.int .i64 ((rd_T44 l0 x3_1).f2.f1))∧w'.cell? ⟨(ad425.add ((x3_1).toNat * 7)).block,(ad425.add ((x3_1).toNat * 7)).off+4,none⟩=some (.int .i64 ((rd_T44 l0 x3_1).f2.f2))∧w'.cell? ⟨(ad425.add ((x3_1).toNat * 7)).block,(ad425.add ((x3_1).toNat * 7)).off+5,none⟩=some (.int .i64 ((rd_T44 l0 x3_1).f2.f3))∧w'.cell? ⟨(ad425.add ((x3_1).toNat * 7)).block,(ad425.add ((x3_1).toNat * 7)).off+6,none⟩=some (.string ((rd_T44 l0 x3_1).f2.f4))) (ds:=[]) #[false,false,false,false,false,false,false,false,false,false,false,false,false,false,false,false,false,false,false,false,false,false,false,false] (by kernel_rfl) rfl rfl ⟨((cb_ HB.out hw425_0 :)),((cb_ HB.out hw425_1 :)),((cb_ HB.out hw425_2 :)),((cb_ HB.out hw425_3 :)),((cb_ HB.out hw425_4 :)),((cb_ HB.out hw425_5 :)),((cb_ HB.out hw425_6 :)),((cb_ HB.out hw427_0 :)),((cb_ HB.out hw427_1 :)),((cb_ HB.out hw427_2 :)),((cb_ HB.out hw427_3 :)),((cb_ HB.out hw427_4 :)),((cb_ HB.out hw427_5 :)),((cb_ HB.out hw427_6 :)),((cb_ HB.out hw432_0 :)),((cb_ HB.out hw432_1 :)),((cb_ HB.out hw432_2 :)),((cb_ HB.out hw432_3 :)),((cb_ HB.out hw432_4 :)),((cb_ HB.out hw432_5 :)),((cb_ HB.out hw432_6 :))⟩ (fun hHeld=>?_);refine with_tabW spec_LogOk.tab4 spec_LogOk.bits4 (fun HT_ HW_=>?_)
        generalize wr.drew=w13 at HB hx425_0 hx425_1 hx425_2 hx425_3 hx425_4 hx425_5 hx425_6 hx427_0 hx427_1 hx427_2 hx427_3 hx427_4 hx427_5 hx427_6 hx432_0 hx432_1 hx432_2 hx432_3 hx432_4 hx432_5 hx432_6 hHeld ⊢
        refine pa_ 0 10 ?_
        refine pa_ 1 11 ?_
        refine pa_ 2 12 ?_
        refine ta21_ 3 13 hHeld ?_
        refine on_ 4 14 (fun K hK=>?_)
        refine goes_ Tryd.func30 (by kernel_rfl) rfl #[.agg #[.int .i64 ((rd_T44 l0 x3_1).f0),.int .i64 ((rd_T44 l0 x3_1).f1),.int .i64 ((rd_T44 l0 x3_1).f2.f0),.int .i64 ((rd_T44 l0 x3_1).f2.f1),.int .i64 ((rd_T44 l0 x3_1).f2.f2),.int .i64 ((rd_T44 l0 x3_1).f2.f3),.string ((rd_T44 l0 x3_1).f2.f4)]] (by rfl) rfl rfl ar_ ?_
        with_reducible refine (spec_EntryOk.calls k1 ((rd_T44 l0 x3_1).f0) ((rd_T44 l0 x3_1).f1) ((rd_T44 l0 x3_1).f2.f0) ((rd_T44 l0 x3_1).f2.f1) ((rd_T44 l0 x3_1).f2.f2) ((rd_T44 l0 x3_1).f2.f3) ((rd_T44 l0 x3_1).f2.f4) true _ A4.out).mono ?_
        rintro e w14 ⟨rfl,hb⟩
        refine ⟨_,rfl,?_⟩
        have n0_:=a_ (bS_ (bel_) hb)
        clear HB
        have HB:=n0_
        clear n0_
        (try clear hb)
        (try clear hb2)
        (try clear hk)
        (try clear hi)
        have q15:(x3_1:Int)≤((l0.length:Int):Int):=od_
        obtain ⟨i015,hi015,_,hsz15,_⟩:=info_parts info44
        have hroom15:l0.length≤c0:=HC0.out
        have hC15:Kd.C k44 _ (some ad425) l0.length l0:=HR0.out
        have hcut15:=cut_to (P:=Tryd.prog) 23 44 .i64 Tryd.underlying23 hi015 (some ad425) l0.length c0 x3_1 (od_) q15 hroom15
        have hr15:=Kd.C_take (m:=(x3_1:Int).toNat) hC15 (by omega)
        have hy15:y428.length=(x3_1:Int).toNat:=(by rw [Ny428.out,List.length_take];omega)
        rw [←Ny428.out] at hr15
        rw [←hy15] at hcut15
        have HR431:=a_ hr15
        have HC431:=a_ (show y428.length≤c0 from by omega)
        clear hr15 hC15 hroom15 hi015 hsz15
        have KY15:=a_ hy15
        clear hy15
        replace q15:=eq_true q15
        refine hK.out _ _ ⟨((cb_ HB.out hw425_0 :)),((cb_ HB.out hw425_1 :)),((cb_ HB.out hw425_2 :)),((cb_ HB.out hw425_3 :)),((cb_ HB.out hw425_4 :)),((cb_ HB.out hw425_5 :)),((cb_ HB.out hw425_6 :)),((cb_ HB.out hw427_0 :)),((cb_ HB.out hw427_1 :)),((cb_ HB.out hw427_2 :)),((cb_ HB.out hw427_3 :)),((cb_ HB.out hw427_4 :)),((cb_ HB.out hw427_5 :)),((cb_ HB.out hw427_6 :)),((cb_ HB.out hw432_0 :)),((cb_ HB.out hw432_1 :)),((cb_ HB.out hw432_2 :)),((cb_ HB.out hw432_3 :)),((cb_ HB.out hw432_4 :)),((cb_ HB.out hw432_5 :)),((cb_ HB.out hw432_6 :))⟩ (fun hHeld=>?_)
        clear hK K
        refine no_ 14 ?_
        refine pa_ 5 15 ?_
        refine pa_ 6 16 ?_
        refine pa_ 7 17 ?_
        refine pa_ 8 18 ?_
        refine pa_ 9 19 ?_
        refine pa_ 10 20 ?_
        refine pa_ 12 22 ?_
        refine pa_ 13 23 ?_
        refine pa_ 14 24 ?_
        refine pa_ 15 25 ?_
        refine pa_ 16 26 ?_
        refine pa_ 17 27 ?_
        refine pa_ 18 28 ?_
        refine ta21_ 11 21 hHeld ?_
        refine ta21_ 19 29 hHeld ?_
        refine on_ 20 30 (fun K hK=>?_)
        refine goes_ Tryd.func90 (by kernel_rfl) rfl #[.slice (some ad425) y428.length c0,.int .i64 ((rd_T44 l0 x3_1).f0)] (by rfl) rfl rfl ar_ ?_
        with_reducible refine (spec_l12Seq.calls k1 _ _ y428 ((rd_T44 l0 x3_1).f0) t433 _ ?side1 ?side2 A8.out).mono ?_
        (case side1=>exact cp_ HR431.out)
        (case side2=>exact HC431.out)
        rintro e w' ⟨rfl,⟨nd,rfl⟩⟩
        refine ⟨_,rfl,?_⟩
        refine hK.out _ _ ⟨((cb_ HB.out hw425_0 :)),((cb_ HB.out hw425_1 :)),((cb_ HB.out hw425_2 :)),((cb_ HB.out hw425_3 :)),((cb_ HB.out hw425_4 :)),((cb_ HB.out hw425_5 :)),((cb_ HB.out hw425_6 :)),((cb_ HB.out hw427_0 :)),((cb_ HB.out hw427_1 :)),((cb_ HB.out hw427_2 :)),((cb_ HB.out hw427_3 :)),((cb_ HB.out hw427_4 :)),((cb_ HB.out hw427_5 :)),((cb_ HB.out hw427_6 :)),((cb_ HB.out hw432_0 :)),((cb_ HB.out hw432_1 :)),((cb_ HB.out hw432_2 :)),((cb_ HB.out hw432_3 :)),((cb_ HB.out hw432_4 :)),((cb_ HB.out hw432_5 :)),((cb_ HB.out hw432_6 :))⟩ (fun hHeld=>?_)
        clear hK K
        refine no_ 30 ?_
        refine pa_ 21 31 ?_
        refine pa_ 22 32 ?_
        refine pa_ 23 33 ?_
        refine done_ (done_of HT_.out (by kernel_rfl)) ?_
        try go_wp2
        go_ret
        exact ⟨fi_,bel_⟩
      ·rw [if_neg c7] at H
       exact absurd H (by simp)
     ·replace c5:=Bool.eq_false_iff.mpr c5
      subst c5
      have H1:(some false)=some r:=by rw [if_neg (show ¬ (false=true) by decide)] at H;exact H
      clear H
      have H:=H1
      clear H1
      obtain rfl:=sj_ H
      try go_wp2
      have n0_:=a_ (below_drew1 HB.out)
      clear HB
      have HB:=n0_
      clear n0_
      have p425:0≤(x3_1:Int):=od_
      have q425:x3_1 < (l0.length:Int):=od_
      obtain ⟨ad425,e425,hx425_0,hx425_1,hx425_2,hx425_3,hx425_4,hx425_5,hx425_6⟩:=at_T44 HR0.out x3_1 p425 q425
      have hw425_6:=hx425_6
      have hw425_5:=hx425_5
      have hw425_4:=hx425_4
      have hw425_3:=hx425_3
      have hw425_2:=hx425_2
      have hw425_1:=hx425_1
      have hw425_0:=hx425_0
      cases e425
      replace hx425_0:=(cb_ HB.out hx425_0 :)
      replace hx425_1:=(cb_ HB.out hx425_1 :)
      replace hx425_2:=(cb_ HB.out hx425_2 :)
      replace hx425_3:=(cb_ HB.out hx425_3 :)
      replace hx425_4:=(cb_ HB.out hx425_4 :)
      replace hx425_5:=(cb_ HB.out hx425_5 :)
      replace hx425_6:=(cb_ HB.out hx425_6 :)
      replace p425:=eq_true p425
      replace q425:=eq_true q425
      refine start_ (n:=24) (S:=fun w'=>w'.cell? (ad425.add ((x3_1).toNat * 7))=some (.int .i64 ((rd_T44 l0 x3_1).f0))∧w'.cell? ⟨(ad425.add ((x3_1).toNat * 7)).block,(ad425.add ((x3_1).toNat * 7)).off+1,none⟩=some (.int .i64 ((rd_T44 l0 x3_1).f1))∧w'.cell? ⟨(ad425.add ((x3_1).toNat * 7)).block,(ad425.add ((x3_1).toNat * 7)).off+2,none⟩=some (.int .i64 ((rd_T44 l0 x3_1).f2.f0))∧w'.cell? ⟨(ad425.add ((x3_1).toNat * 7)).block,(ad425.add ((x3_1).toNat * 7)).off+3,none⟩=some (.int .i64 ((rd_T44 l0 x3_1).f2.f1))∧w'.cell? ⟨(ad425.add ((x3_1).toNat * 7)).block,(ad425.add ((x3_1).toNat * 7)).off+4,none⟩=some (.int .i64 ((rd_T44 l0 x3_1).f2.f2))∧w'.cell? ⟨(ad425.add ((x3_1).toNat * 7)).block,(ad425.add ((x3_1).toNat * 7)).off+5,none⟩=some (.int .i64 ((rd_T44 l0 x3_1).f2.f3))∧w'.cell? ⟨(ad425.add ((x3_1).toNat * 7)).block,(ad425.add ((x3_1).toNat * 7)).off+6,none⟩=some (.string ((rd_T44 l0 x3_1).f2.f4))) (ds:=[]) #[false,false,false,false,false,false,false,false,false,false,false,false,false,false,false,false,false,false,false,false,false,false,false,false] (by kernel_rfl) rfl rfl ⟨((cb_ HB.out hw425_0 :)),((cb_ HB.out hw425_1 :)),((cb_ HB.out hw425_2 :)),((cb_ HB.out hw425_3 :)),((cb_ HB.out hw425_4 :)),((cb_ HB.out hw425_5 :)),((cb_ HB.out hw425_6 :))⟩ (fun hHeld=>?_);refine with_tabW spec_LogOk.tab4 spec_LogOk.bits4 (fun HT_ HW_=>?_)
      generalize wr.drew=w16 at HB hx425_0 hx425_1 hx425_2 hx425_3 hx425_4 hx425_5 hx425_6 hHeld ⊢
      refine pa_ 0 10 ?_
      refine pa_ 1 11 ?_
      refine pa_ 2 12 ?_
      refine ta7_ 3 13 hHeld ?_
      refine on_ 4 14 (fun K hK=>?_)
      refine goes_ Tryd.func30 (by kernel_rfl) rfl #[.agg #[.int .i64 ((rd_T44 l0 x3_1).f0),.int .i64 ((rd_T44 l0 x3_1).f1),.int .i64 ((rd_T44 l0 x3_1).f2.f0),.int .i64 ((rd_T44 l0 x3_1).f2.f1),.int .i64 ((rd_T44 l0 x3_1).f2.f2),.int .i64 ((rd_T44 l0 x3_1).f2.f3),.string ((rd_T44 l0 x3_1).f2.f4)]] (by rfl) rfl rfl ar_ ?_
      with_reducible refine (spec_EntryOk.calls k1 ((rd_T44 l0 x3_1).f0) ((rd_T44 l0 x3_1).f1) ((rd_T44 l0 x3_1).f2.f0) ((rd_T44 l0 x3_1).f2.f1) ((rd_T44 l0 x3_1).f2.f2) ((rd_T44 l0 x3_1).f2.f3) ((rd_T44 l0 x3_1).f2.f4) false _ A4.out).mono ?_
      rintro e w17 ⟨rfl,hb⟩
      refine ⟨_,rfl,?_⟩
      have n0_:=a_ (bS_ (bel_) hb)
      clear HB
      have HB:=n0_
      clear n0_
      (try clear hb)
      (try clear hb2)
      (try clear hk)
      (try clear hi)
      refine hK.out _ _ ⟨((cb_ HB.out hw425_0 :)),((cb_ HB.out hw425_1 :)),((cb_ HB.out hw425_2 :)),((cb_ HB.out hw425_3 :)),((cb_ HB.out hw425_4 :)),((cb_ HB.out hw425_5 :)),((cb_ HB.out hw425_6 :))⟩ (fun hHeld=>?_)
      clear hK K
      refine no_ 14 ?_
      refine pa_ 5 15 ?_
      refine pa_ 6 16 ?_
      refine po_ 7 17 ?_
      refine po_ 8 18 ?_
      refine po_ 9 19 ?_
      refine po_ 10 20 ?_
      refine po_ 11 21 ?_
      refine po_ 12 22 ?_
      refine po_ 13 23 ?_
      refine po_ 14 24 ?_
      refine po_ 15 25 ?_
      refine po_ 16 26 ?_
      refine po_ 17 27 ?_
      refine po_ 18 28 ?_
      refine po_ 19 29 ?_
      refine po_ 20 30 ?_
      refine po_ 21 31 ?_
      refine po_ 22 32 ?_
      refine pa_ 23 33 ?_
      refine done_ (done_of HT_.out (by kernel_rfl)) ?_
      try go_wp2
      go_ret
      exact ⟨fi_,bel_⟩
    ·rw [if_neg c3] at H
     exact absurd H (by simp)
   ·rw [if_neg c2] at H
    have c2b0:decide (x3_1 < (l0.length:Int))=false:=df_ c2
    clear c2
    obtain rfl:=sj_ H
    go_wp2
    go_ret
    exact ⟨fi_,bel_⟩

attribute [local go_sem high] eqA44
def spec_ServerOk.f (k:Nat) (l0_0:List (S44)) (a0_1:Int) (a0_2:Bool):Option (Bool):=(spec_LogOk.f k l0_0).bind fun t435=>(if t435=true then ((spec_l6In.f a0_1 0 (l0_0.length:Int)).bind fun t436=>(some t436)) else (some false))
theorem spec_ServerOk.mono:∀ a0 a1 a2 k,LeO (spec_ServerOk.f k a0 a1 a2) (spec_ServerOk.f (k+1) a0 a1 a2):=by
 intro a0 a1 a2 k
 unfold spec_ServerOk.f
 repeat' first
   | (with_reducible exact spec_LogOk.mono _ _)
   | (with_reducible exact LeO.refl _)
   | (with_reducible exact LeO.none _)
   | (with_reducible refine LeO.ite ?_ ?_)
   | (with_reducible refine LeO.bind ?_ (fun _=>?_))
   | exact spec_LogOk.mono _ _
   | exact LeO.none _
   | refine LeO.ite ?_ ?_
   | refine LeO.bind ?_ (fun _=>?_)
theorem spec_ServerOk.calls (k:Nat) (A0_0:Option Addr) (c0_0:Nat) (l0_0:List (S44)) (a0_1:Int) (a0_2:Bool) (r:Bool) (w:World) (hr0_0:Kd.C k44 w A0_0 l0_0.length l0_0) (hc0_0:l0_0.length≤c0_0) (h:spec_ServerOk.f k l0_0 a0_1 a0_2=some r) :
  Calls Tryd.prog 17 #[.agg #[.slice A0_0 l0_0.length c0_0,.int .i64 a0_1,.bool a0_2]] w fun e w'=>e=.returned (.bool r)∧Below w.heap.size w w':=by
 have hu25:=Tryd.underlying25
 have HR0_0:=a_ hr0_0
 have HC0_0:=a_ hc0_0
 clear hr0_0 hc0_0
 have HB:=a_ (Below.refl w.heap.size w)
 unfold spec_ServerOk.f at h
 have H:=h
 clear h
 replace H:=bs_ H
 obtain ⟨t435,A20,H⟩:=H
 try dsimp only at H
 have A2:=a_ A20
 clear A20
 by_cases c3:t435=true
 ·subst c3
  have H1:((spec_l6In.f a0_1 0 (l0_0.length:Int)).bind fun t436=>(some t436))=some r:=by rw [if_pos rfl] at H;exact H
  clear H
  have H:=H1
  clear H1
  replace H:=bs_ H
  obtain ⟨t436,A40,H⟩:=H
  try dsimp only at H
  have A4:=a_ A40
  clear A40
  obtain rfl:=sj_ H
  go_enter Tryd.func17,Tryd.ntmps17
  go_wp2_with (first|((with_reducible refine gD_ (N:=1) rfl ?_);refine bx_ 1 (#[.slice A0_0 l0_0.length c0_0,.int .i64 a0_1,.bool a0_2]) 25 ?_;intro gb434 hg w5 hbox hb;have n0_:=a_ (bS_ (bel_) hb);have n1_:=a_ (hbox);have n2_:=a_ ((by rw [hg];exact (below_size (bel_)):w.heap.size≤gb434));have n3_:=a_ ((by rw [hg];exact (below_size (bel_)):w.heap.size≤gb434));clear HB;have HB:=n0_;have BK434:=n1_;have GW434:=n2_;have GE434:=n3_;clear n0_ n1_ n2_ n3_;clear hb hbox hg;have Z6_0:=cz_ BK434.out 0 (.slice A0_0 l0_0.length c0_0);have Z6_1:=cz_ BK434.out 1 (.int .i64 a0_1);have Z6_2:=cz_ BK434.out 2 (.bool a0_2);have Y6_0:=bF_ BK434.out 0;have Y6_1:=bF_ BK434.out 1;have Y6_2:=bF_ BK434.out 2)|((with_reducible refine gC_ (f:=43) rfl ?_);refine gl_ 5 Tryd.func43 #[.slice A0_0 l0_0.length c0_0] ?_;(with_reducible refine (spec_LogOk.calls k _ _ l0_0 true _ ?side1 ?side2 A2.out).mono ?_);(case side1=>exact cp_ HR0_0.out);(case side2=>exact HC0_0.out);rintro e w7 ⟨rfl,hb⟩;refine ⟨_,rfl,?_⟩;replace HB:=a_ (bS_ (bel_) hb);replace BK434:=a_ (bb_ BK434.out hb);(try clear hb);have Z8_0:=cz_ BK434.out 0 (.slice A0_0 l0_0.length c0_0);have Z8_1:=cz_ BK434.out 1 (.int .i64 a0_1);have Z8_2:=cz_ BK434.out 2 (.bool a0_2);have Y8_0:=bF_ BK434.out 0;have Y8_1:=bF_ BK434.out 1;have Y8_2:=bF_ BK434.out 2)|(go_at_call 75;(with_reducible refine (spec_l6In.calls a0_1 0 (l0_0.length:Int) t436 _ A4.out).mono ?_);rintro e w' ⟨rfl,⟨nd,rfl⟩⟩))
  go_ret
  exact ⟨fi_,bel_⟩
 ·replace c3:=Bool.eq_false_iff.mpr c3
  subst c3
  have H1:(some false)=some r:=by rw [if_neg (show ¬ (false=true) by decide)] at H;exact H
  clear H
  have H:=H1
  clear H1
  obtain rfl:=sj_ H
  go_enter Tryd.func17,Tryd.ntmps17
  go_wp2_with (first|((with_reducible refine gD_ (N:=1) rfl ?_);refine bx_ 1 (#[.slice A0_0 l0_0.length c0_0,.int .i64 a0_1,.bool a0_2]) 25 ?_;intro gb434 hg w9 hbox hb;have n0_:=a_ (bS_ (bel_) hb);have n1_:=a_ (hbox);have n2_:=a_ ((by rw [hg];exact (below_size (bel_)):w.heap.size≤gb434));have n3_:=a_ ((by rw [hg];exact (below_size (bel_)):w.heap.size≤gb434));clear HB;have HB:=n0_;have BK434:=n1_;have GW434:=n2_;have GE434:=n3_;clear n0_ n1_ n2_ n3_;clear hb hbox hg;have Z10_0:=cz_ BK434.out 0 (.slice A0_0 l0_0.length c0_0);have Z10_1:=cz_ BK434.out 1 (.int .i64 a0_1);have Z10_2:=cz_ BK434.out 2 (.bool a0_2);have Y10_0:=bF_ BK434.out 0;have Y10_1:=bF_ BK434.out 1;have Y10_2:=bF_ BK434.out 2)|((with_reducible refine gC_ (f:=43) rfl ?_);refine gl_ 5 Tryd.func43 #[.slice A0_0 l0_0.length c0_0] ?_;(with_reducible refine (spec_LogOk.calls k _ _ l0_0 false _ ?side1 ?side2 A2.out).mono ?_);(case side1=>exact cp_ HR0_0.out);(case side2=>exact HC0_0.out);rintro e w11 ⟨rfl,hb⟩;refine ⟨_,rfl,?_⟩;replace HB:=a_ (bS_ (bel_) hb);replace BK434:=a_ (bb_ BK434.out hb);(try clear hb)))
  go_ret
  exact ⟨fi_,bel_⟩

def spec_l12Has.l0:Nat→List (S44)→Int→Int→Int→Int→Int→Int→Int→ByteArray→Option (Bool)
 | 0,_,_,_,_,_,_,_,_,_=>none
 | k+1,x0,x5,x470000,x470001,x470002,x470003,x470004,x470005,x470006=>if x5 < (x0.length:Int) then (if 0≤x5 then (if (((rd_T44 x0 x5).f0)==x470000&&(((rd_T44 x0 x5).f1)==x470001&&((((rd_T44 x0 x5).f2.f0)==x470002&&(((rd_T44 x0 x5).f2.f1)==x470003&&(((rd_T44 x0 x5).f2.f2)==x470004&&(((rd_T44 x0 x5).f2.f3)==x470005&&((((rd_T44 x0 x5).f2.f4).toList)==x470006.toList))))))))=true then (some true) else (spec_l12Has.l0 k x0 (wrap64 (x5+1)) x470000 x470001 x470002 x470003 x470004 x470005 x470006)) else (none)) else (some false)
def spec_l12Has.f (k:Nat) (l0:List (S44)) (a1_0:Int) (a1_1:Int) (a1_2:Int) (a1_3:Int) (a1_4:Int) (a1_5:Int) (a1_6:ByteArray):Option (Bool):=spec_l12Has.l0 k l0 0 a1_0 a1_1 a1_2 a1_3 a1_4 a1_5 a1_6
theorem spec_l12Has.mono_l:∀ k,(∀ y0 y1 y2 y3 y4 y5 y6 y7 y8,LeO (spec_l12Has.l0 k y0 y1 y2 y3 y4 y5 y6 y7 y8) (spec_l12Has.l0 (k+1) y0 y1 y2 y3 y4 y5 y6 y7 y8))
 | 0=>fun _ _ _ _ _ _ _ _ _ r h=>by simp [spec_l12Has.l0] at h
 | k+1=>by
  have ih0:=spec_l12Has.mono_l k
  ·intro y0 y1 y2 y3 y4 y5 y6 y7 y8
   unfold spec_l12Has.l0
   repeat' first
   | (with_reducible exact ih0 _ _ _ _ _ _ _ _ _)
   | (with_reducible exact LeO.refl _)
   | (with_reducible exact LeO.none _)
   | (with_reducible refine LeO.ite ?_ ?_)
   | (with_reducible refine LeO.bind ?_ (fun _=>?_))
   | exact ih0 _ _ _ _ _ _ _ _ _
   | exact LeO.none _
   | refine LeO.ite ?_ ?_
   | refine LeO.bind ?_ (fun _=>?_)
theorem spec_l12Has.mono:∀ a0 a1 a2 a3 a4 a5 a6 a7 k,LeO (spec_l12Has.f k a0 a1 a2 a3 a4 a5 a6 a7) (spec_l12Has.f (k+1) a0 a1 a2 a3 a4 a5 a6 a7):=by
 intro a0 a1 a2 a3 a4 a5 a6 a7 k
 have ih0:=spec_l12Has.mono_l k
 unfold spec_l12Has.f
 repeat' first
   | (with_reducible exact ih0 _ _ _ _ _ _ _ _ _)
   | (with_reducible exact LeO.refl _)
   | (with_reducible exact LeO.none _)
   | (with_reducible refine LeO.ite ?_ ?_)
   | (with_reducible refine LeO.bind ?_ (fun _=>?_))
   | exact ih0 _ _ _ _ _ _ _ _ _
   | exact LeO.none _
   | refine LeO.ite ?_ ?_
   | refine LeO.bind ?_ (fun _=>?_)
theorem spec_l12Has.calls (k:Nat) (A0:Option Addr) (c0:Nat) (l0:List (S44)) (a1_0:Int) (a1_1:Int) (a1_2:Int) (a1_3:Int) (a1_4:Int) (a1_5:Int) (a1_6:ByteArray) (r:Bool) (w:World) (hr0:Kd.C k44 w A0 l0.length l0) (hc0:l0.length≤c0) (h:spec_l12Has.f k l0 a1_0 a1_1 a1_2 a1_3 a1_4 a1_5 a1_6=some r) :
  Calls Tryd.prog 126 #[.slice A0 l0.length c0,.agg #[.int .i64 a1_0,.int .i64 a1_1,.int .i64 a1_2,.int .i64 a1_3,.int .i64 a1_4,.int .i64 a1_5,.string a1_6]] w fun e w'=>e=.returned (.bool r)∧Below w.heap.size w w':=by
 have hu44:=Tryd.underlying44
 have HR0:=a_ hr0
 have HC0:=a_ hc0
 clear hr0 hc0
 have HB:=a_ (Below.refl w.heap.size w)
 unfold spec_l12Has.f at h
 have H:=h
 clear h
 have H':=a_ H
 clear H
 go_enter Tryd.func126,Tryd.ntmps126
 go_wp2_with (first|((with_reducible refine gD_ (N:=3) rfl ?_);refine bx_ 3 (#[.int .i64 a1_0,.int .i64 a1_1,.int .i64 a1_2,.int .i64 a1_3,.int .i64 a1_4,.int .i64 a1_5,.string a1_6]) 44 ?_;intro gb469 hg w3 hbox hb;have n0_:=a_ (bS_ (bel_) hb);have n1_:=a_ (hbox);have n2_:=a_ ((by rw [hg];exact (below_size (bel_)):w.heap.size≤gb469));have n3_:=a_ ((by rw [hg];exact (below_size (bel_)):w.heap.size≤gb469));clear HB;have HB:=n0_;have BK469:=n1_;have GW469:=n2_;have GE469:=n3_;clear n0_ n1_ n2_ n3_;clear hb hbox hg))
 repeat (go_quiet (first|((with_reducible refine gD_ (N:=3) rfl ?_);refine bx_ 3 (#[.int .i64 a1_0,.int .i64 a1_1,.int .i64 a1_2,.int .i64 a1_3,.int .i64 a1_4,.int .i64 a1_5,.string a1_6]) 44 ?_;intro gb469 hg w3 hbox hb;have n0_:=a_ (bS_ (bel_) hb);have n1_:=a_ (hbox);have n2_:=a_ ((by rw [hg];exact (below_size (bel_)):w.heap.size≤gb469));have n3_:=a_ ((by rw [hg];exact (below_size (bel_)):w.heap.size≤gb469));clear HB;have HB:=n0_;have BK469:=n1_;have GW469:=n2_;have GE469:=n3_;clear n0_ n1_ n2_ n3_;clear hb hbox hg));try go_wp2_with (first|((with_reducible refine gD_ (N:=3) rfl ?_);refine bx_ 3 (#[.int .i64 a1_0,.int .i64 a1_1,.int .i64 a1_2,.int .i64 a1_3,.int .i64 a1_4,.int .i64 a1_5,.string a1_6]) 44 ?_;intro gb469 hg w3 hbox hb;have n0_:=a_ (bS_ (bel_) hb);have n1_:=a_ (hbox);have n2_:=a_ ((by rw [hg];exact (below_size (bel_)):w.heap.size≤gb469));have n3_:=a_ ((by rw [hg];exact (below_size (bel_)):w.heap.size≤gb469));clear HB;have HB:=n0_;have BK469:=n1_;have GW469:=n2_;have GE469:=n3_;clear n0_ n1_ n2_ n3_;clear hb hbox hg)))
 go_loopg [5] k (fun kq v5 w'=>∃ (x5_1:Int),v5=.int .i64 x5_1∧Aside0 (spec_l12Has.l0 kq l0 x5_1 a1_0 a1_1 a1_2 a1_3 a1_4 a1_5 a1_6=some r)∧Aside0 (kq≤k)∧Aside0 (w'.heap[gb469]?=some (.cells #[.int .i64 a1_0,.int .i64 a1_1,.int .i64 a1_2,.int .i64 a1_3,.int .i64 a1_4,.int .i64 a1_5,.string a1_6] 44 (0,0)))∧Aside0 (Below w.heap.size w w'))
 case atStart=>exact ⟨(0),(si_),H',⟨Nat.le_refl _⟩,⟨by (with_reducible repeat (first|refine bN_ ?_ _|refine bD_ ?_|refine bA_ ?_ _));exact BK469.out⟩,⟨bel_⟩⟩
 case round =>
  clear H'
  try clear c1
  try clear p2
  obtain ⟨x5_1,rfl,HA,HK1,BK469,HB⟩:=hrel
  cases gk with
  | zero=>exact absurd HA.out (by simp [spec_l12Has.l0])
  | succ k1 =>
   have H:=HA.out
   clear HA
   simp only [spec_l12Has.l0] at H
   by_cases c4:x5_1 < (l0.length:Int)
   ·rw [if_pos c4] at H
    have c4b0:decide (x5_1 < (l0.length:Int))=true:=dt_ c4
    clear c4
    by_cases c5:0≤x5_1
    ·rw [if_pos c5] at H
     have c5b0:decide (0≤x5_1)=true:=dt_ c5
     clear c5
     by_cases c6:(((rd_T44 l0 x5_1).f0)==a1_0&&(((rd_T44 l0 x5_1).f1)==a1_1&&((((rd_T44 l0 x5_1).f2.f0)==a1_2&&(((rd_T44 l0 x5_1).f2.f1)==a1_3&&(((rd_T44 l0 x5_1).f2.f2)==a1_4&&(((rd_T44 l0 x5_1).f2.f3)==a1_5&&((((rd_T44 l0 x5_1).f2.f4).toList)==a1_6.toList))))))))=true
     ·rw [if_pos c6] at H
      have c6b0:(((rd_T44 l0 x5_1).f0)==a1_0&&(((rd_T44 l0 x5_1).f1)==a1_1&&((((rd_T44 l0 x5_1).f2.f0)==a1_2&&(((rd_T44 l0 x5_1).f2.f1)==a1_3&&(((rd_T44 l0 x5_1).f2.f2)==a1_4&&(((rd_T44 l0 x5_1).f2.f3)==a1_5&&((((rd_T44 l0 x5_1).f2.f4).toList)==a1_6.toList))))))))=true:=c6
      (try (have c6b1:decide (((rd_T44 l0 x5_1).f0)=a1_0&&(((rd_T44 l0 x5_1).f1)==a1_1&&((((rd_T44 l0 x5_1).f2.f0)==a1_2&&(((rd_T44 l0 x5_1).f2.f1)==a1_3&&(((rd_T44 l0 x5_1).f2.f2)==a1_4&&(((rd_T44 l0 x5_1).f2.f3)==a1_5&&((((rd_T44 l0 x5_1).f2.f4).toList)==a1_6.toList))))))))=true:=by simpa using c6))
      (try (have c6b2:(((rd_T44 l0 x5_1).f0)==a1_0&&(((rd_T44 l0 x5_1).f1)==a1_1&&((((rd_T44 l0 x5_1).f2.f0)==a1_2&&(((rd_T44 l0 x5_1).f2.f1)==a1_3&&(((rd_T44 l0 x5_1).f2.f2)==a1_4&&(((rd_T44 l0 x5_1).f2.f3)==a1_5&&((((rd_T44 l0 x5_1).f2.f4).toList)==a1_6.toList))))))))=true:=by simpa using c6))
      clear c6
      obtain rfl:=sj_ H
      have p470:0≤(x5_1:Int):=od_
      have q470:x5_1 < (l0.length:Int):=od_
      obtain ⟨ad470,e470,hx470_0,hx470_1,hx470_2,hx470_3,hx470_4,hx470_5,hx470_6⟩:=at_T44 HR0.out x5_1 p470 q470
      cases e470
      replace hx470_0:=(cb_ HB.out hx470_0 :)
      replace hx470_1:=(cb_ HB.out hx470_1 :)
      replace hx470_2:=(cb_ HB.out hx470_2 :)
      replace hx470_3:=(cb_ HB.out hx470_3 :)
      replace hx470_4:=(cb_ HB.out hx470_4 :)
      replace hx470_5:=(cb_ HB.out hx470_5 :)
      replace hx470_6:=(cb_ HB.out hx470_6 :)
      replace p470:=eq_true p470
      replace q470:=eq_true q470
      have Z7_0:wr.cell? ⟨gb469,0,none⟩=some (.int .i64 a1_0):=(bC_ BK469.out 0).trans rfl
      have Z7_1:wr.cell? ⟨gb469,1,none⟩=some (.int .i64 a1_1):=(bC_ BK469.out 1).trans rfl
      have Z7_2:wr.cell? ⟨gb469,2,none⟩=some (.int .i64 a1_2):=(bC_ BK469.out 2).trans rfl
      have Z7_3:wr.cell? ⟨gb469,3,none⟩=some (.int .i64 a1_3):=(bC_ BK469.out 3).trans rfl
      have Z7_4:wr.cell? ⟨gb469,4,none⟩=some (.int .i64 a1_4):=(bC_ BK469.out 4).trans rfl
      have Z7_5:wr.cell? ⟨gb469,5,none⟩=some (.int .i64 a1_5):=(bC_ BK469.out 5).trans rfl
      have Z7_6:wr.cell? ⟨gb469,6,none⟩=some (.string a1_6):=(bC_ BK469.out 6).trans rfl
      have Y7_0:=bF_ BK469.out 0
      have Y7_1:=bF_ BK469.out 1
      have Y7_2:=bF_ BK469.out 2
      have Y7_3:=bF_ BK469.out 3
      have Y7_4:=bF_ BK469.out 4
      have Y7_5:=bF_ BK469.out 5
      have Y7_6:=bF_ BK469.out 6
      go_wp2
      repeat (go_quiet (fail);try go_wp2)
      go_ret
      exact ⟨fi_,bel_⟩
     ·rw [if_neg c6] at H
      have c6b0:(((rd_T44 l0 x5_1).f0)==a1_0&&(((rd_T44 l0 x5_1).f1)==a1_1&&((((rd_T44 l0 x5_1).f2.f0)==a1_2&&(((rd_T44 l0 x5_1).f2.f1)==a1_3&&(((rd_T44 l0 x5_1).f2.f2)==a1_4&&(((rd_T44 l0 x5_1).f2.f3)==a1_5&&((((rd_T44 l0 x5_1).f2.f4).toList)==a1_6.toList))))))))=false:=by simpa using c6
      (try (have c6b1:decide (((rd_T44 l0 x5_1).f0)=a1_0&&(((rd_T44 l0 x5_1).f1)==a1_1&&((((rd_T44 l0 x5_1).f2.f0)==a1_2&&(((rd_T44 l0 x5_1).f2.f1)==a1_3&&(((rd_T44 l0 x5_1).f2.f2)==a1_4&&(((rd_T44 l0 x5_1).f2.f3)==a1_5&&((((rd_T44 l0 x5_1).f2.f4).toList)==a1_6.toList))))))))=false:=by simpa using c6))
      (try (have c6b2:(((rd_T44 l0 x5_1).f0)==a1_0&&(((rd_T44 l0 x5_1).f1)==a1_1&&((((rd_T44 l0 x5_1).f2.f0)==a1_2&&(((rd_T44 l0 x5_1).f2.f1)==a1_3&&(((rd_T44 l0 x5_1).f2.f2)==a1_4&&(((rd_T44 l0 x5_1).f2.f3)==a1_5&&((((rd_T44 l0 x5_1).f2.f4).toList)==a1_6.toList))))))))=false:=by simpa using c6))
      (try (have c6b3:¬ (((rd_T44 l0 x5_1).f0)=a1_0&&(((rd_T44 l0 x5_1).f1)==a1_1&&((((rd_T44 l0 x5_1).f2.f0)==a1_2&&(((rd_T44 l0 x5_1).f2.f1)==a1_3&&(((rd_T44 l0 x5_1).f2.f2)==a1_4&&(((rd_T44 l0 x5_1).f2.f3)==a1_5&&((((rd_T44 l0 x5_1).f2.f4).toList)==a1_6.toList)))))))):=by simpa using c6))
      clear c6
      have H':=a_ H
      clear H
      have p470:0≤(x5_1:Int):=od_
      have q470:x5_1 < (l0.length:Int):=od_
      obtain ⟨ad470,e470,hx470_0,hx470_1,hx470_2,hx470_3,hx470_4,hx470_5,hx470_6⟩:=at_T44 HR0.out x5_1 p470 q470
      cases e470
      replace hx470_0:=(cb_ HB.out hx470_0 :)
      replace hx470_1:=(cb_ HB.out hx470_1 :)
      replace hx470_2:=(cb_ HB.out hx470_2 :)
      replace hx470_3:=(cb_ HB.out hx470_3 :)
      replace hx470_4:=(cb_ HB.out hx470_4 :)
      replace hx470_5:=(cb_ HB.out hx470_5 :)
      replace hx470_6:=(cb_ HB.out hx470_6 :)
      replace p470:=eq_true p470
      replace q470:=eq_true q470
      have Z8_0:wr.cell? ⟨gb469,0,none⟩=some (.int .i64 a1_0):=(bC_ BK469.out 0).trans rfl
      have Z8_1:wr.cell? ⟨gb469,1,none⟩=some (.int .i64 a1_1):=(bC_ BK469.out 1).trans rfl
      have Z8_2:wr.cell? ⟨gb469,2,none⟩=some (.int .i64 a1_2):=(bC_ BK469.out 2).trans rfl
      have Z8_3:wr.cell? ⟨gb469,3,none⟩=some (.int .i64 a1_3):=(bC_ BK469.out 3).trans rfl
      have Z8_4:wr.cell? ⟨gb469,4,none⟩=some (.int .i64 a1_4):=(bC_ BK469.out 4).trans rfl
      have Z8_5:wr.cell? ⟨gb469,5,none⟩=some (.int .i64 a1_5):=(bC_ BK469.out 5).trans rfl
      have Z8_6:wr.cell? ⟨gb469,6,none⟩=some (.string a1_6):=(bC_ BK469.out 6).trans rfl
      have Y8_0:=bF_ BK469.out 0
      have Y8_1:=bF_ BK469.out 1
      have Y8_2:=bF_ BK469.out 2
      have Y8_3:=bF_ BK469.out 3
      have Y8_4:=bF_ BK469.out 4
      have Y8_5:=bF_ BK469.out 5
      have Y8_6:=bF_ BK469.out 6
      go_wp2
      repeat (go_quiet (fail);try go_wp2)
      go_roundg k1
      case measure=>have:=HK1.out;omega
      case rel=>exact ⟨(wrap64 (x5_1+1)),(si_),H',⟨by have:=HK1.out;omega⟩,⟨by (with_reducible repeat (first|refine bN_ ?_ _|refine bD_ ?_|refine bA_ ?_ _));exact BK469.out⟩,⟨bel_⟩⟩
    ·rw [if_neg c5] at H
     exact absurd H (by simp)
   ·rw [if_neg c4] at H
    have c4b0:decide (x5_1 < (l0.length:Int))=false:=df_ c4
    clear c4
    obtain rfl:=sj_ H
    go_wp2
    repeat (go_quiet (fail);try go_wp2)
    go_ret
    exact ⟨fi_,bel_⟩

def spec_l12Add.f (k:Nat) (l0:List (S44)) (a1_0:Int) (a1_1:Int) (a1_2:Int) (a1_3:Int) (a1_4:Int) (a1_5:Int) (a1_6:ByteArray):Option ((List (S44))×Int):=(spec_l12Seq.f k l0 a1_0).bind fun t149=>((spec_l12Has.f k l0 a1_0 a1_1 a1_2 a1_3 a1_4 a1_5 a1_6).bind fun t150=>(if t150=true then (some (l0,0)) else (if a1_1=(wrap64 (t149+1)) then (if (l0.length:Int)≥40 then (some (l0,(-1))) else ((some (([]:List (S44)):List (S44))).bind fun y151=>(if y151.length+l0.length < 2199023255552 then ((some (y151++l0:List (S44))).bind fun y154=>((some (([(⟨a1_0,a1_1,(⟨a1_2,a1_3,a1_4,a1_5,a1_6⟩:S42)⟩:S44)]:List (S44)):List (S44))).bind fun y157=>(if y154.length+y157.length < 2199023255552 then (some ((y154++y157),1)) else (none)))) else (none)))) else (some (l0,(-1))))))
theorem spec_l12Add.mono:∀ a0 a1 a2 a3 a4 a5 a6 a7 k,LeO (spec_l12Add.f k a0 a1 a2 a3 a4 a5 a6 a7) (spec_l12Add.f (k+1) a0 a1 a2 a3 a4 a5 a6 a7):=by
 intro a0 a1 a2 a3 a4 a5 a6 a7 k
 unfold spec_l12Add.f
 repeat' first
   | (with_reducible exact spec_l12Has.mono _ _ _ _ _ _ _ _ _)
   | (with_reducible exact spec_l12Seq.mono _ _ _)
   | (with_reducible exact LeO.refl _)
   | (with_reducible exact LeO.none _)
   | (with_reducible refine LeO.ite ?_ ?_)
   | (with_reducible refine LeO.bind ?_ (fun _=>?_))
   | exact spec_l12Has.mono _ _ _ _ _ _ _ _ _
   | exact spec_l12Seq.mono _ _ _
   | exact LeO.none _
   | refine LeO.ite ?_ ?_
   | refine LeO.bind ?_ (fun _=>?_)
def spec_l12Add.T6:Bool×List (List Nat×List Nat):=(true,[([],[]),([],[]),([0,1],[0,1]),([],[]),([3],[3]),([2,4,2],[2,4]),([5,5,0,1,2,3,4,5],[5]),([6,0,1,2,3,4,5,6],[])])
def spec_l12Add.B6:List Nat:=[0,0,3,0,8,31,63,127]
theorem spec_l12Add.tab6:rtab .any (opsOf Tryd.f91 6)=spec_l12Add.T6:=by kernel_rfl
theorem spec_l12Add.bits6:waitsOk spec_l12Add.T6.2 spec_l12Add.B6=true:=by kernel_rfl
def Out12 (B:Nat) (w':World) (A:Option Addr) (c:Nat) (l:List (S44)) (v:Value) (r:List (S44)) (n:Int):Prop:=(n=1∧Kd.R k44 44 w' B (fun _=>True) v r)∨(n≠1∧v=.slice A l.length c∧r=l)
theorem spec_l12Add.calls (k:Nat) (A0:Option Addr) (c0:Nat) (l0:List (S44)) (a1_0:Int) (a1_1:Int) (a1_2:Int) (a1_3:Int) (a1_4:Int) (a1_5:Int) (a1_6:ByteArray) (r1:List (S44)) (r2:Int) (w:World) (hr0:Kd.C k44 w A0 l0.length l0) (hc0:l0.length≤c0) (h:spec_l12Add.f k l0 a1_0 a1_1 a1_2 a1_3 a1_4 a1_5 a1_6=some (r1,r2)) :
  Calls Tryd.prog 91 #[.slice A0 l0.length c0,.agg #[.int .i64 a1_0,.int .i64 a1_1,.int .i64 a1_2,.int .i64 a1_3,.int .i64 a1_4,.int .i64 a1_5,.string a1_6]] w fun e w'=>∃ v0_:Value,e=.returned (.tuple #[v0_,.int .i64 r2])∧Out12 w.heap.size w' A0 c0 l0 v0_ r1 r2∧Below w.heap.size w w':=by
 have hu44:=Tryd.underlying44
 have HR0:=a_ hr0
 have HC0:=a_ hc0
 clear hr0 hc0
 have HB:=a_ (Below.refl w.heap.size w)
 unfold spec_l12Add.f at h
 have H:=h
 clear h
 replace H:=bs_ H
 obtain ⟨t149,A30,H⟩:=H
 try dsimp only at H
 have A3:=a_ A30
 clear A30
 replace H:=bs_ H
 obtain ⟨t150,A40,H⟩:=H
 try dsimp only at H
 have A4:=a_ A40
 clear A40
 by_cases c5:t150=true
 ·subst c5
  have H1:(some (l0,0))=some (r1,r2):=by rw [if_pos rfl] at H;exact H
  clear H
  have H:=H1
  clear H1
  simp only [Option.some.injEq,Prod.mk.injEq] at H
  obtain ⟨rfl,rfl⟩:=H
  go_enter Tryd.func91,Tryd.ntmps91
  go_wp2_with (first|((with_reducible refine gD_ (N:=3) rfl ?_);refine bx_ 3 (#[.int .i64 a1_0,.int .i64 a1_1,.int .i64 a1_2,.int .i64 a1_3,.int .i64 a1_4,.int .i64 a1_5,.string a1_6]) 44 ?_;intro gb148 hg w6 hbox hb;have n0_:=a_ (bS_ (bel_) hb);have n1_:=a_ (hbox);have n2_:=a_ ((by rw [hg];exact (below_size (bel_)):w.heap.size≤gb148));have n3_:=a_ ((by rw [hg];exact (below_size (bel_)):w.heap.size≤gb148));clear HB;have HB:=n0_;have BK148:=n1_;have GW148:=n2_;have GE148:=n3_;clear n0_ n1_ n2_ n3_;clear hb hbox hg;have Z7_0:=cz_ BK148.out 0 (.int .i64 a1_0);have Z7_1:=cz_ BK148.out 1 (.int .i64 a1_1);have Z7_2:=cz_ BK148.out 2 (.int .i64 a1_2);have Z7_3:=cz_ BK148.out 3 (.int .i64 a1_3);have Z7_4:=cz_ BK148.out 4 (.int .i64 a1_4);have Z7_5:=cz_ BK148.out 5 (.int .i64 a1_5);have Z7_6:=cz_ BK148.out 6 (.string a1_6);have Y7_0:=bF_ BK148.out 0;have Y7_1:=bF_ BK148.out 1;have Y7_2:=bF_ BK148.out 2;have Y7_3:=bF_ BK148.out 3;have Y7_4:=bF_ BK148.out 4;have Y7_5:=bF_ BK148.out 5;have Y7_6:=bF_ BK148.out 6)|((with_reducible refine gC_ (f:=90) rfl ?_);refine gl_ 10 Tryd.func90 #[.slice A0 l0.length c0,.int .i64 a1_0] ?_;(with_reducible refine (spec_l12Seq.calls k _ _ l0 a1_0 t149 _ ?side1 ?side2 A3.out).mono ?_);(case side1=>exact cp_ HR0.out);(case side2=>exact HC0.out);rintro e w' ⟨rfl,⟨nd,rfl⟩⟩;refine ⟨_,rfl,?_⟩)|((with_reducible refine gC_ (f:=126) rfl ?_);refine gl_ 14 Tryd.func126 #[.slice A0 l0.length c0,.agg #[.int .i64 a1_0,.int .i64 a1_1,.int .i64 a1_2,.int .i64 a1_3,.int .i64 a1_4,.int .i64 a1_5,.string a1_6]] ?_;(with_reducible refine (spec_l12Has.calls k _ _ l0 a1_0 a1_1 a1_2 a1_3 a1_4 a1_5 a1_6 true _ ?side1 ?side2 A4.out).mono ?_);(case side1=>repeat (first|exact (Kd.C_below HR0.out (bel_))|(with_reducible refine Kd.C_alloc ?_ _)|(with_reducible refine Kd.C_drewN ?_ _)|(with_reducible refine Kd.C_drew ?_)));(case side2=>exact HC0.out);rintro e w8 ⟨rfl,hb⟩;refine ⟨_,rfl,?_⟩;replace HB:=a_ (bS_ (bel_) hb);replace BK148:=a_ (bb_ BK148.out hb);(try clear hb)))
  go_ret2
  exact ⟨_,fi_,Or.inr ⟨by decide,rfl,rfl⟩,bel_⟩
 ·replace c5:=Bool.eq_false_iff.mpr c5
  subst c5
  have H1:(if a1_1=(wrap64 (t149+1)) then (if (l0.length:Int)≥40 then (some (l0,(-1))) else ((some (([]:List (S44)):List (S44))).bind fun y151=>(if y151.length+l0.length < 2199023255552 then ((some (y151++l0:List (S44))).bind fun y154=>((some (([(⟨a1_0,a1_1,(⟨a1_2,a1_3,a1_4,a1_5,a1_6⟩:S42)⟩:S44)]:List (S44)):List (S44))).bind fun y157=>(if y154.length+y157.length < 2199023255552 then (some ((y154++y157),1)) else (none)))) else (none)))) else (some (l0,(-1))))=some (r1,r2):=by rw [if_neg (show ¬ (false=true) by decide)] at H;exact H
  clear H
  have H:=H1
  clear H1
  by_cases c9:a1_1=(wrap64 (t149+1))
  ·rw [if_pos c9] at H
   have c9b0:(a1_1==(wrap64 (t149+1)))=true:=beq_iff_eq.mpr c9
   have c9b1:(a1_1 != (wrap64 (t149+1)))=false:=be_ c9
   clear c9
   by_cases c10:(l0.length:Int)≥40
   ·rw [if_pos c10] at H
    have c10b0:decide (40≤(l0.length:Int))=true:=dt_ c10
    have c10b1:decide (40≤l0.length)=true:=dt_ (by omega)
    clear c10
    simp only [Option.some.injEq,Prod.mk.injEq] at H
    obtain ⟨rfl,rfl⟩:=H
    go_enter Tryd.func91,Tryd.ntmps91
    go_wp2_with (first|((with_reducible refine gD_ (N:=3) rfl ?_);refine bx_ 3 (#[.int .i64 a1_0,.int .i64 a1_1,.int .i64 a1_2,.int .i64 a1_3,.int .i64 a1_4,.int .i64 a1_5,.string a1_6]) 44 ?_;intro gb148 hg w11 hbox hb;have n0_:=a_ (bS_ (bel_) hb);have n1_:=a_ (hbox);have n2_:=a_ ((by rw [hg];exact (below_size (bel_)):w.heap.size≤gb148));have n3_:=a_ ((by rw [hg];exact (below_size (bel_)):w.heap.size≤gb148));clear HB;have HB:=n0_;have BK148:=n1_;have GW148:=n2_;have GE148:=n3_;clear n0_ n1_ n2_ n3_;clear hb hbox hg;have Z12_0:=cz_ BK148.out 0 (.int .i64 a1_0);have Z12_1:=cz_ BK148.out 1 (.int .i64 a1_1);have Z12_2:=cz_ BK148.out 2 (.int .i64 a1_2);have Z12_3:=cz_ BK148.out 3 (.int .i64 a1_3);have Z12_4:=cz_ BK148.out 4 (.int .i64 a1_4);have Z12_5:=cz_ BK148.out 5 (.int .i64 a1_5);have Z12_6:=cz_ BK148.out 6 (.string a1_6);have Y12_0:=bF_ BK148.out 0;have Y12_1:=bF_ BK148.out 1;have Y12_2:=bF_ BK148.out 2;have Y12_3:=bF_ BK148.out 3;have Y12_4:=bF_ BK148.out 4;have Y12_5:=bF_ BK148.out 5;have Y12_6:=bF_ BK148.out 6)|((with_reducible refine gC_ (f:=90) rfl ?_);refine gl_ 10 Tryd.func90 #[.slice A0 l0.length c0,.int .i64 a1_0] ?_;(with_reducible refine (spec_l12Seq.calls k _ _ l0 a1_0 t149 _ ?side1 ?side2 A3.out).mono ?_);(case side1=>exact cp_ HR0.out);(case side2=>exact HC0.out);rintro e w' ⟨rfl,⟨nd,rfl⟩⟩;refine ⟨_,rfl,?_⟩)|((with_reducible refine gC_ (f:=126) rfl ?_);refine gl_ 14 Tryd.func126 #[.slice A0 l0.length c0,.agg #[.int .i64 a1_0,.int .i64 a1_1,.int .i64 a1_2,.int .i64 a1_3,.int .i64 a1_4,.int .i64 a1_5,.string a1_6]] ?_;(with_reducible refine (spec_l12Has.calls k _ _ l0 a1_0 a1_1 a1_2 a1_3 a1_4 a1_5 a1_6 false _ ?side1 ?side2 A4.out).mono ?_);(case side1=>repeat (first|exact (Kd.C_below HR0.out (bel_))|(with_reducible refine Kd.C_alloc ?_ _)|(with_reducible refine Kd.C_drewN ?_ _)|(with_reducible refine Kd.C_drew ?_)));(case side2=>exact HC0.out);rintro e w13 ⟨rfl,hb⟩;refine ⟨_,rfl,?_⟩;replace HB:=a_ (bS_ (bel_) hb);replace BK148:=a_ (bb_ BK148.out hb);(try clear hb);have Z14_0:=cz_ BK148.out 0 (.int .i64 a1_0);have Z14_1:=cz_ BK148.out 1 (.int .i64 a1_1);have Z14_2:=cz_ BK148.out 2 (.int .i64 a1_2);have Z14_3:=cz_ BK148.out 3 (.int .i64 a1_3);have Z14_4:=cz_ BK148.out 4 (.int .i64 a1_4);have Z14_5:=cz_ BK148.out 5 (.int .i64 a1_5);have Z14_6:=cz_ BK148.out 6 (.string a1_6);have Y14_0:=bF_ BK148.out 0;have Y14_1:=bF_ BK148.out 1;have Y14_2:=bF_ BK148.out 2;have Y14_3:=bF_ BK148.out 3;have Y14_4:=bF_ BK148.out 4;have Y14_5:=bF_ BK148.out 5;have Y14_6:=bF_ BK148.out 6))
    go_ret2
    exact ⟨_,fi_,Or.inr ⟨by decide,rfl,rfl⟩,bel_⟩
   ·rw [if_neg c10] at H
    have c10b0:decide (40≤(l0.length:Int))=false:=df_ c10
    have c10b1:decide (40≤l0.length)=false:=df_ (by omega)
    clear c10
    obtain ⟨y151,hy151⟩:∃ y_:List (S44),y_=(([]:List (S44))):=⟨_,rfl⟩
    replace H:(if y151.length+l0.length < 2199023255552 then ((some (y151++l0:List (S44))).bind fun y154=>((some (([(⟨a1_0,a1_1,(⟨a1_2,a1_3,a1_4,a1_5,a1_6⟩:S42)⟩:S44)]:List (S44)):List (S44))).bind fun y157=>(if y154.length+y157.length < 2199023255552 then (some ((y154++y157),1)) else (none)))) else (none))=some (r1,r2):=by first|(rw [hy151];with_reducible exact H)|(have H2_:=(Option.bind_some _ _).symm.trans H;rw [hy151];with_reducible exact H2_)|(have H2_:=(Option.bind_some _ _).symm.trans H;with_reducible exact H2_)|with_reducible exact H|(rw [hy151];exact H)|exact H
    have Ny151:=a_ hy151
    clear hy151
    by_cases c15:y151.length+l0.length < 2199023255552
    ·rw [if_pos c15] at H
     have LMc15:=a_ c15
     clear c15
     obtain ⟨y154,hy154⟩:∃ y_:List (S44),y_=(y151++l0):=⟨_,rfl⟩
     replace H:((some (([(⟨a1_0,a1_1,(⟨a1_2,a1_3,a1_4,a1_5,a1_6⟩:S42)⟩:S44)]:List (S44)):List (S44))).bind fun y157=>(if y154.length+y157.length < 2199023255552 then (some ((y154++y157),1)) else (none)))=some (r1,r2):=by first|(rw [hy154];with_reducible exact H)|(have H2_:=(Option.bind_some _ _).symm.trans H;rw [hy154];with_reducible exact H2_)|(have H2_:=(Option.bind_some _ _).symm.trans H;with_reducible exact H2_)|with_reducible exact H|(rw [hy154];exact H)|exact H
     have Ny154:=a_ hy154
     clear hy154
     obtain ⟨y157,hy157⟩:∃ y_:List (S44),y_=(([(⟨a1_0,a1_1,(⟨a1_2,a1_3,a1_4,a1_5,a1_6⟩:S42)⟩:S44)]:List (S44))):=⟨_,rfl⟩
     replace H:(if y154.length+y157.length < 2199023255552 then (some ((y154++y157),1)) else (none))=some (r1,r2):=by first|(rw [hy157];with_reducible exact H)|(have H2_:=(Option.bind_some _ _).symm.trans H;rw [hy157];with_reducible exact H2_)|(have H2_:=(Option.bind_some _ _).symm.trans H;with_reducible exact H2_)|with_reducible exact H|(rw [hy157];exact H)|exact H
     have Ny157:=a_ hy157
     clear hy157
     by_cases c16:y154.length+y157.length < 2199023255552
     ·rw [if_pos c16] at H
      have LMc16:=a_ c16
      clear c16
      obtain ⟨y160,hy160⟩:∃ y_:List (S44),y_=(y154++y157):=⟨_,rfl⟩
      replace H:(some (y160,1))=some (r1,r2):=by first|(rw [hy160];with_reducible exact H)|(have H2_:=(Option.bind_some _ _).symm.trans H;rw [hy160];with_reducible exact H2_)|(have H2_:=(Option.bind_some _ _).symm.trans H;with_reducible exact H2_)|with_reducible exact H|(rw [hy160];exact H)|exact H
      have Ny160:=a_ hy160
      clear hy160
      simp only [Option.some.injEq,Prod.mk.injEq] at H
      obtain ⟨rfl,rfl⟩:=H
      go_enter Tryd.func91,Tryd.ntmps91
      try go_wp2_with (first|((with_reducible refine gD_ (N:=3) rfl ?_);refine bx_ 3 (#[.int .i64 a1_0,.int .i64 a1_1,.int .i64 a1_2,.int .i64 a1_3,.int .i64 a1_4,.int .i64 a1_5,.string a1_6]) 44 ?_;intro gb148 hg w17 hbox hb;have n0_:=a_ (bS_ (bel_) hb);have n1_:=a_ (hbox);have n2_:=a_ ((by rw [hg];exact (below_size (bel_)):w.heap.size≤gb148));have n3_:=a_ ((by rw [hg];exact (below_size (bel_)):w.heap.size≤gb148));clear HB;have HB:=n0_;have BK148:=n1_;have GW148:=n2_;have GE148:=n3_;clear n0_ n1_ n2_ n3_;clear hb hbox hg;have Z18_0:=cz_ BK148.out 0 (.int .i64 a1_0);have Z18_1:=cz_ BK148.out 1 (.int .i64 a1_1);have Z18_2:=cz_ BK148.out 2 (.int .i64 a1_2);have Z18_3:=cz_ BK148.out 3 (.int .i64 a1_3);have Z18_4:=cz_ BK148.out 4 (.int .i64 a1_4);have Z18_5:=cz_ BK148.out 5 (.int .i64 a1_5);have Z18_6:=cz_ BK148.out 6 (.string a1_6);have Y18_0:=bF_ BK148.out 0;have Y18_1:=bF_ BK148.out 1;have Y18_2:=bF_ BK148.out 2;have Y18_3:=bF_ BK148.out 3;have Y18_4:=bF_ BK148.out 4;have Y18_5:=bF_ BK148.out 5;have Y18_6:=bF_ BK148.out 6)|((with_reducible refine gC_ (f:=90) rfl ?_);refine gl_ 10 Tryd.func90 #[.slice A0 l0.length c0,.int .i64 a1_0] ?_;(with_reducible refine (spec_l12Seq.calls k _ _ l0 a1_0 t149 _ ?side1 ?side2 A3.out).mono ?_);(case side1=>exact cp_ HR0.out);(case side2=>exact HC0.out);rintro e w' ⟨rfl,⟨nd,rfl⟩⟩;refine ⟨_,rfl,?_⟩)|((with_reducible refine gC_ (f:=126) rfl ?_);refine gl_ 14 Tryd.func126 #[.slice A0 l0.length c0,.agg #[.int .i64 a1_0,.int .i64 a1_1,.int .i64 a1_2,.int .i64 a1_3,.int .i64 a1_4,.int .i64 a1_5,.string a1_6]] ?_;(with_reducible refine (spec_l12Has.calls k _ _ l0 a1_0 a1_1 a1_2 a1_3 a1_4 a1_5 a1_6 false _ ?side1 ?side2 A4.out).mono ?_);(case side1=>repeat (first|exact (Kd.C_below HR0.out (bel_))|(with_reducible refine Kd.C_alloc ?_ _)|(with_reducible refine Kd.C_drewN ?_ _)|(with_reducible refine Kd.C_drew ?_)));(case side2=>exact HC0.out);rintro e w19 ⟨rfl,hb⟩;refine ⟨_,rfl,?_⟩;replace HB:=a_ (bS_ (bel_) hb);replace BK148:=a_ (bb_ BK148.out hb);(try clear hb);have Z20_0:=cz_ BK148.out 0 (.int .i64 a1_0);have Z20_1:=cz_ BK148.out 1 (.int .i64 a1_1);have Z20_2:=cz_ BK148.out 2 (.int .i64 a1_2);have Z20_3:=cz_ BK148.out 3 (.int .i64 a1_3);have Z20_4:=cz_ BK148.out 4 (.int .i64 a1_4);have Z20_5:=cz_ BK148.out 5 (.int .i64 a1_5);have Z20_6:=cz_ BK148.out 6 (.string a1_6);have Y20_0:=bF_ BK148.out 0;have Y20_1:=bF_ BK148.out 1;have Y20_2:=bF_ BK148.out 2;have Y20_3:=bF_ BK148.out 3;have Y20_4:=bF_ BK148.out 4;have Y20_5:=bF_ BK148.out 5;have Y20_6:=bF_ BK148.out 6))
      have n0_:=a_ (bD_ BK148.out)
      have n1_:=a_ (below_drew1 HB.out)
      clear BK148
      clear HB
      have BK148:=n0_
      have HB:=n1_
      clear n0_ n1_
      refine start_ (n:=8) (S:=fun w'=>w'.cell? ⟨gb148,0,none⟩=some (.int .i64 a1_0)∧w'.cell? ⟨gb148,1,none⟩=some (.int .i64 a1_1)∧w'.cell? ⟨gb148,2,none⟩=some (.int .i64 a1_2)∧w'.cell? ⟨gb148,3,none⟩=some (.int .i64 a1_3)∧w'.cell? ⟨gb148,4,none⟩=some (.int .i64 a1_4)∧w'.cell? ⟨gb148,5,none⟩=some (.int .i64 a1_5)∧w'.cell? ⟨gb148,6,none⟩=some (.string a1_6)) (ds:=[]) #[false,false,false,false,false,false,false,false] (by kernel_rfl) rfl rfl ⟨(bC_ BK148.out 0).trans rfl,(bC_ BK148.out 1).trans rfl,(bC_ BK148.out 2).trans rfl,(bC_ BK148.out 3).trans rfl,(bC_ BK148.out 4).trans rfl,(bC_ BK148.out 5).trans rfl,(bC_ BK148.out 6).trans rfl⟩ (fun hHeld=>?_);refine with_tabW spec_l12Add.tab6 spec_l12Add.bits6 (fun HT_ HW_=>?_)
      generalize w19.drew=w21 at BK148 HB hHeld ⊢
      refine pa_ 1 29 ?_
      refine ta7_ 3 31 hHeld ?_
      refine join_ (σ:=Value×Value×Value) 3 #[true,true,true,true,true,false,false,false] (fun s_=>[(28,s_.1),(30,s_.2.1),(32,s_.2.2)]) (fun s_ w'=>(w'.cell? ⟨gb148,0,none⟩=some (.int .i64 a1_0)∧w'.cell? ⟨gb148,1,none⟩=some (.int .i64 a1_1)∧w'.cell? ⟨gb148,2,none⟩=some (.int .i64 a1_2)∧w'.cell? ⟨gb148,3,none⟩=some (.int .i64 a1_3)∧w'.cell? ⟨gb148,4,none⟩=some (.int .i64 a1_4)∧w'.cell? ⟨gb148,5,none⟩=some (.int .i64 a1_5)∧w'.cell? ⟨gb148,6,none⟩=some (.string a1_6))∧(Kd.R k44 44 w' w.heap.size (fun k_=>some k_≠(s_.2.2:Value).ownBlock∧k_≠gb148) s_.2.1 y154)∧(Kd.R k44 44 w' w.heap.size (fun k_=>some k_≠(s_.2.1:Value).ownBlock∧k_≠gb148) s_.2.2 y157)∧(w'.heap[gb148]?=some (.cells #[.int .i64 a1_0,.int .i64 a1_1,.int .i64 a1_2,.int .i64 a1_3,.int .i64 a1_4,.int .i64 a1_5,.string a1_6] 44 (0,0)))∧(Below w.heap.size w w')) ?_ ?_
      rotate_left
      ·intro hCont
       refine two_ (i:=0) (j:=4) (Ni:=some 28) (Nj:=some 32) #[true,true,false,true,false,false,false,false] #[false,true,false,true,true,false,false,false] rfl rfl rfl rfl (two_of HT_.out (by kernel_rfl)) (by decide) (by decide) (fun K hK=>?_) (fun K hK=>?_)
       ·skip
        refine Kd.R_lit_step k44 _ 44 ?hg (N:=28) ?hd (xs:=([]:List (S44))) (inner:=[]) (ok:=fun _=>True) (okp:=fun _=>True) ?hr ?hp (fun _ hk=>hk) trivial (Below.refl _ _) (Nat.le_refl _) (by simp) ?_;(case hd=>rfl);(case hg=>rfl);(case hr=>first|(go_simp;done)|(go_simp;rfl));(case hp=>exact (Reps.none _ _))
        intro v152 w22 ho23 hb hg_ hnew_
        clear hg_ hnew_
        (first|rw [←Ny151.out] at ho23|(simp only [Int.reduceToNat] at ho23;rw [←Ny151.out] at ho23))
        have n0_:=a_ (Kd.R_lower (Kd.R_newB ho23 (g:=gb148) (o:=.cells #[.int .i64 a1_0,.int .i64 a1_1,.int .i64 a1_2,.int .i64 a1_3,.int .i64 a1_4,.int .i64 a1_5,.string a1_6] 44 (0,0)) (bp_ BK148.out)) (below_size (bel_)))
        have n1_:=a_ (bb_ BK148.out hb)
        have n2_:=a_ (bS_ (bel_) hb)
        clear BK148
        clear HB
        have HO153:=n0_
        have BK148:=n1_
        have HB:=n2_
        clear n0_ n1_ n2_
        clear hb ho23
        refine hK.out _ _ ⟨(bC_ BK148.out 0).trans rfl,(bC_ BK148.out 1).trans rfl,(bC_ BK148.out 2).trans rfl,(bC_ BK148.out 3).trans rfl,(bC_ BK148.out 4).trans rfl,(bC_ BK148.out 5).trans rfl,(bC_ BK148.out 6).trans rfl⟩ (fun hHeld=>?_)
        clear hK K
        refine no_ 28 ?_
        refine two_ (i:=2) (j:=4) (Ni:=some 30) (Nj:=some 32) #[true,true,true,true,false,false,false,false] #[true,true,false,true,true,false,false,false] rfl rfl rfl rfl (two_of HT_.out (by kernel_rfl)) (by decide) (by decide) (fun K hK=>?_) (fun K hK=>?_)
        ·skip
         refine Kd.R_append_rows_step k44 (w0:=w) w.heap.size (by rfl) (.tmp 28) (.tmp 29) 23 44 (.agg #[(.int .i64 0),(.int .i64 0),(.int .i64 0),(.int .i64 0),(.int .i64 0),(.int .i64 0),(.string ⟨#[]⟩)]) 64 rfl Tryd.underlying23 info44 rfl (by decide) (by omega) v152 y151 l0 _ _ _ (fun k_=>k_≠gb148) (fun _=>False) rfl rfl ?aO ?aR (fun _ _ h=>h) (fun _ h=>h.elim) ?aF ?aB ?aS ?aL ?_
         (case aR=>exact cx_ (Kd.C_below HR0.out HB.out))
         (case aB=>exact (bel_))
         (case aF=>exact (fun k_ hk=>Kd.freshB (g:=gb148) (o:=.cells #[.int .i64 a1_0,.int .i64 a1_1,.int .i64 a1_2,.int .i64 a1_3,.int .i64 a1_4,.int .i64 a1_5,.string a1_6] 44 (0,0)) (bp_ BK148.out) k_ hk))
         (case aO=>exact (by (with_reducible repeat (first|apply Kd.R_alloc|apply Kd.R_drewN|apply Kd.R_drew));exact Kd.R_mono HO153.out (fun _ hk=>hk.2)))
         (case aS=>exact (below_size (bel_)))
         (case aL=>have:=LMc15.out;omega)
         intro v155 w24 ho hb hg hat
         rw [←Ny154.out] at ho
         have n0_:=a_ (blk_grown (g:=gb148) (o:=.cells #[.int .i64 a1_0,.int .i64 a1_1,.int .i64 a1_2,.int .i64 a1_3,.int .i64 a1_4,.int .i64 a1_5,.string a1_6] 44 (0,0)) (bp_ BK148.out) hg (Kd.R_away HO153.out (fun _ hk=>hk.2)))
         have n1_:=a_ (hb)
         have n2_:=a_ (ho)
         clear BK148
         clear HB
         clear HO153
         have BK148:=n0_
         have HB:=n1_
         have HO156:=n2_
         clear n0_ n1_ n2_
         clear ho hb hg hat
         refine hK.out _ _ ⟨(bC_ BK148.out 0).trans rfl,(bC_ BK148.out 1).trans rfl,(bC_ BK148.out 2).trans rfl,(bC_ BK148.out 3).trans rfl,(bC_ BK148.out 4).trans rfl,(bC_ BK148.out 5).trans rfl,(bC_ BK148.out 6).trans rfl⟩ (fun hHeld=>?_)
         clear hK K
         refine no_ 30 ?_
         refine on_ 4 32 (fun K hK=>?_)
         refine Kd.R_lit_step k44 _ 44 ?hg (N:=32) ?hd (xs:=([(⟨a1_0,a1_1,(⟨a1_2,a1_3,a1_4,a1_5,a1_6⟩:S42)⟩:S44)]:List (S44))) (inner:=[.int .i64 a1_0,.int .i64 a1_1,.int .i64 a1_2,.int .i64 a1_3,.int .i64 a1_4,.int .i64 a1_5,.string a1_6]) (ok:=fun _=>True) (okp:=fun _=>True) ?hr ?hp (fun _ hk=>hk) trivial (Below.refl _ _) (Nat.le_refl _) (by simp) ?_;(case hd=>rfl);(case hg=>rfl);(case hr=>first|(go_simp;done)|(go_simp;rfl));(case hp=>exact (Reps.c7 (show Kd.M k44 _ _ _ (⟨a1_0,a1_1,(⟨a1_2,a1_3,a1_4,a1_5,a1_6⟩:S42)⟩:S44) [.int .i64 a1_0,.int .i64 a1_1,.int .i64 a1_2,.int .i64 a1_3,.int .i64 a1_4,.int .i64 a1_5,.string a1_6] from (k44_mkM _ _ _ (⟨a1_0,a1_1,(⟨a1_2,a1_3,a1_4,a1_5,a1_6⟩:S42)⟩:S44) )) (Reps.none _ _)))
         intro v158 w25 ho26 hb hg_ hnew_
         clear hg_ hnew_
         (first|rw [←Ny157.out] at ho26|(simp only [Int.reduceToNat] at ho26;rw [←Ny157.out] at ho26))
         have n0_:=a_ (Kd.R_elder' (rp_ HO156.out) (Kd.R_base ho26) hb)
         have n1_:=a_ (Kd.R_lower (Kd.R_newB (Kd.R_new' ho26 (Kd.R_lt (rp_ HO156.out))) (g:=gb148) (o:=.cells #[.int .i64 a1_0,.int .i64 a1_1,.int .i64 a1_2,.int .i64 a1_3,.int .i64 a1_4,.int .i64 a1_5,.string a1_6] 44 (0,0)) (bp_ BK148.out)) (below_size (bel_)))
         have n2_:=a_ (bb_ BK148.out hb)
         have n3_:=a_ (bS_ (bel_) hb)
         clear HO156
         clear BK148
         clear HB
         have HO156:=n0_
         have HO159:=n1_
         have BK148:=n2_
         have HB:=n3_
         clear n0_ n1_ n2_ n3_
         clear hb ho26
         refine hK.out _ _ ⟨(bC_ BK148.out 0).trans rfl,(bC_ BK148.out 1).trans rfl,(bC_ BK148.out 2).trans rfl,(bC_ BK148.out 3).trans rfl,(bC_ BK148.out 4).trans rfl,(bC_ BK148.out 5).trans rfl,(bC_ BK148.out 6).trans rfl⟩ (fun hHeld=>?_)
         clear hK K
         refine no_ 32 ?_
         exact norm_ (by simp only [putAll,Act.put,List.setIfInBounds_toArray,List.set_cons_zero,List.set_cons_succ]) (hCont (v152,v155,v158) _ ⟨hHeld,(by (with_reducible repeat (first|apply Kd.R_alloc|apply Kd.R_drewN|apply Kd.R_drew));exact Kd.R_mono HO156.out (fun _ hk=>⟨hk.2,hk.1⟩)),(by (with_reducible repeat (first|apply Kd.R_alloc|apply Kd.R_drewN|apply Kd.R_drew));exact Kd.R_mono HO159.out (fun _ hk=>⟨hk.1.2,hk.2⟩)),(bp_ BK148.out),(bel_)⟩)
        ·skip
         refine Kd.R_lit_step k44 _ 44 ?hg (N:=32) ?hd (xs:=([(⟨a1_0,a1_1,(⟨a1_2,a1_3,a1_4,a1_5,a1_6⟩:S42)⟩:S44)]:List (S44))) (inner:=[.int .i64 a1_0,.int .i64 a1_1,.int .i64 a1_2,.int .i64 a1_3,.int .i64 a1_4,.int .i64 a1_5,.string a1_6]) (ok:=fun _=>True) (okp:=fun _=>True) ?hr ?hp (fun _ hk=>hk) trivial (Below.refl _ _) (Nat.le_refl _) (by simp) ?_;(case hd=>rfl);(case hg=>rfl);(case hr=>first|(go_simp;done)|(go_simp;rfl));(case hp=>exact (Reps.c7 (show Kd.M k44 _ _ _ (⟨a1_0,a1_1,(⟨a1_2,a1_3,a1_4,a1_5,a1_6⟩:S42)⟩:S44) [.int .i64 a1_0,.int .i64 a1_1,.int .i64 a1_2,.int .i64 a1_3,.int .i64 a1_4,.int .i64 a1_5,.string a1_6] from (k44_mkM _ _ _ (⟨a1_0,a1_1,(⟨a1_2,a1_3,a1_4,a1_5,a1_6⟩:S42)⟩:S44) )) (Reps.none _ _)))
         intro v158 w24 ho25 hb hg_ hnew_
         clear hg_ hnew_
         (first|rw [←Ny157.out] at ho25|(simp only [Int.reduceToNat] at ho25;rw [←Ny157.out] at ho25))
         have n0_:=a_ (Kd.R_elder' (rp_ HO153.out) (Kd.R_base ho25) hb)
         have n1_:=a_ (Kd.R_lower (Kd.R_newB (Kd.R_new' ho25 (Kd.R_lt (rp_ HO153.out))) (g:=gb148) (o:=.cells #[.int .i64 a1_0,.int .i64 a1_1,.int .i64 a1_2,.int .i64 a1_3,.int .i64 a1_4,.int .i64 a1_5,.string a1_6] 44 (0,0)) (bp_ BK148.out)) (below_size (bel_)))
         have n2_:=a_ (bb_ BK148.out hb)
         have n3_:=a_ (bS_ (bel_) hb)
         clear HO153
         clear BK148
         clear HB
         have HO153:=n0_
         have HO159:=n1_
         have BK148:=n2_
         have HB:=n3_
         clear n0_ n1_ n2_ n3_
         clear hb ho25
         refine hK.out _ _ ⟨(bC_ BK148.out 0).trans rfl,(bC_ BK148.out 1).trans rfl,(bC_ BK148.out 2).trans rfl,(bC_ BK148.out 3).trans rfl,(bC_ BK148.out 4).trans rfl,(bC_ BK148.out 5).trans rfl,(bC_ BK148.out 6).trans rfl⟩ (fun hHeld=>?_)
         clear hK K
         refine no_ 32 ?_
         refine on_ 2 30 (fun K hK=>?_)
         refine Kd.R_append_rows_step k44 (w0:=w) w.heap.size (by rfl) (.tmp 28) (.tmp 29) 23 44 (.agg #[(.int .i64 0),(.int .i64 0),(.int .i64 0),(.int .i64 0),(.int .i64 0),(.int .i64 0),(.string ⟨#[]⟩)]) 64 rfl Tryd.underlying23 info44 rfl (by decide) (by omega) v152 y151 l0 _ _ _ (fun k_=>some k_≠(v158:Value).ownBlock∧k_≠gb148) (fun _=>False) rfl rfl ?aO ?aR (fun _ _ h=>h) (fun _ h=>h.elim) ?aF ?aB ?aS ?aL ?_
         (case aR=>exact cx_ (Kd.C_below HR0.out HB.out))
         (case aB=>exact (bel_))
         (case aF=>exact (fun k_ hk=>⟨Kd.fresh' (Kd.R_lt (rp_ HO159.out)) k_ hk,Kd.freshB (g:=gb148) (o:=.cells #[.int .i64 a1_0,.int .i64 a1_1,.int .i64 a1_2,.int .i64 a1_3,.int .i64 a1_4,.int .i64 a1_5,.string a1_6] 44 (0,0)) (bp_ BK148.out) k_ hk⟩))
         (case aO=>exact (by (with_reducible repeat (first|apply Kd.R_alloc|apply Kd.R_drewN|apply Kd.R_drew));exact Kd.R_mono HO153.out (fun _ hk=>⟨hk.2,hk.1.2⟩)))
         (case aS=>exact (below_size (bel_)))
         (case aL=>have:=LMc15.out;omega)
         intro v155 w26 ho hb hg hat
         rw [←Ny154.out] at ho
         have n0_:=a_ (blk_grown (g:=gb148) (o:=.cells #[.int .i64 a1_0,.int .i64 a1_1,.int .i64 a1_2,.int .i64 a1_3,.int .i64 a1_4,.int .i64 a1_5,.string a1_6] 44 (0,0)) (bp_ BK148.out) hg (Kd.R_away HO153.out (fun _ hk=>hk.1.2)))
         have n1_:=a_ (Kd.R_after (ok:=(fun k_=>k_≠gb148)) (by (with_reducible repeat (first|apply Kd.R_alloc|apply Kd.R_drewN|apply Kd.R_drew));exact Kd.R_mono HO159.out (fun _ hk=>⟨hk.2,hk.1.2⟩)) hg hat)
         have n2_:=a_ (hb)
         have n3_:=a_ (ho)
         clear BK148
         clear HO159
         clear HB
         clear HO153
         have BK148:=n0_
         have HO159:=n1_
         have HB:=n2_
         have HO156:=n3_
         clear n0_ n1_ n2_ n3_
         clear ho hb hg hat
         refine hK.out _ _ ⟨(bC_ BK148.out 0).trans rfl,(bC_ BK148.out 1).trans rfl,(bC_ BK148.out 2).trans rfl,(bC_ BK148.out 3).trans rfl,(bC_ BK148.out 4).trans rfl,(bC_ BK148.out 5).trans rfl,(bC_ BK148.out 6).trans rfl⟩ (fun hHeld=>?_)
         clear hK K
         refine no_ 30 ?_
         exact norm_ (by simp only [putAll,Act.put,List.setIfInBounds_toArray,List.set_cons_zero,List.set_cons_succ]) (hCont (v152,v155,v158) _ ⟨hHeld,(rp_ HO156.out),(by (with_reducible repeat (first|apply Kd.R_alloc|apply Kd.R_drewN|apply Kd.R_drew));exact Kd.R_mono HO159.out (fun _ hk=>⟨hk.2,hk.1⟩)),(bp_ BK148.out),(bel_)⟩)
       ·skip
        refine Kd.R_lit_step k44 _ 44 ?hg (N:=32) ?hd (xs:=([(⟨a1_0,a1_1,(⟨a1_2,a1_3,a1_4,a1_5,a1_6⟩:S42)⟩:S44)]:List (S44))) (inner:=[.int .i64 a1_0,.int .i64 a1_1,.int .i64 a1_2,.int .i64 a1_3,.int .i64 a1_4,.int .i64 a1_5,.string a1_6]) (ok:=fun _=>True) (okp:=fun _=>True) ?hr ?hp (fun _ hk=>hk) trivial (Below.refl _ _) (Nat.le_refl _) (by simp) ?_;(case hd=>rfl);(case hg=>rfl);(case hr=>first|(go_simp;done)|(go_simp;rfl));(case hp=>exact (Reps.c7 (show Kd.M k44 _ _ _ (⟨a1_0,a1_1,(⟨a1_2,a1_3,a1_4,a1_5,a1_6⟩:S42)⟩:S44) [.int .i64 a1_0,.int .i64 a1_1,.int .i64 a1_2,.int .i64 a1_3,.int .i64 a1_4,.int .i64 a1_5,.string a1_6] from (k44_mkM _ _ _ (⟨a1_0,a1_1,(⟨a1_2,a1_3,a1_4,a1_5,a1_6⟩:S42)⟩:S44) )) (Reps.none _ _)))
        intro v158 w22 ho23 hb hg_ hnew_
        clear hg_ hnew_
        (first|rw [←Ny157.out] at ho23|(simp only [Int.reduceToNat] at ho23;rw [←Ny157.out] at ho23))
        have n0_:=a_ (Kd.R_lower (Kd.R_newB ho23 (g:=gb148) (o:=.cells #[.int .i64 a1_0,.int .i64 a1_1,.int .i64 a1_2,.int .i64 a1_3,.int .i64 a1_4,.int .i64 a1_5,.string a1_6] 44 (0,0)) (bp_ BK148.out)) (below_size (bel_)))
        have n1_:=a_ (bb_ BK148.out hb)
        have n2_:=a_ (bS_ (bel_) hb)
        clear BK148
        clear HB
        have HO159:=n0_
        have BK148:=n1_
        have HB:=n2_
        clear n0_ n1_ n2_
        clear hb ho23
        refine hK.out _ _ ⟨(bC_ BK148.out 0).trans rfl,(bC_ BK148.out 1).trans rfl,(bC_ BK148.out 2).trans rfl,(bC_ BK148.out 3).trans rfl,(bC_ BK148.out 4).trans rfl,(bC_ BK148.out 5).trans rfl,(bC_ BK148.out 6).trans rfl⟩ (fun hHeld=>?_)
        clear hK K
        refine no_ 32 ?_
        refine on_ 0 28 (fun K hK=>?_)
        refine Kd.R_lit_step k44 _ 44 ?hg (N:=28) ?hd (xs:=([]:List (S44))) (inner:=[]) (ok:=fun _=>True) (okp:=fun _=>True) ?hr ?hp (fun _ hk=>hk) trivial (Below.refl _ _) (Nat.le_refl _) (by simp) ?_;(case hd=>rfl);(case hg=>rfl);(case hr=>first|(go_simp;done)|(go_simp;rfl));(case hp=>exact (Reps.none _ _))
        intro v152 w24 ho25 hb hg_ hnew_
        clear hg_ hnew_
        (first|rw [←Ny151.out] at ho25|(simp only [Int.reduceToNat] at ho25;rw [←Ny151.out] at ho25))
        have n0_:=a_ (Kd.R_elder' (rp_ HO159.out) (Kd.R_base ho25) hb)
        have n1_:=a_ (Kd.R_lower (Kd.R_newB (Kd.R_new' ho25 (Kd.R_lt (rp_ HO159.out))) (g:=gb148) (o:=.cells #[.int .i64 a1_0,.int .i64 a1_1,.int .i64 a1_2,.int .i64 a1_3,.int .i64 a1_4,.int .i64 a1_5,.string a1_6] 44 (0,0)) (bp_ BK148.out)) (below_size (bel_)))
        have n2_:=a_ (bb_ BK148.out hb)
        have n3_:=a_ (bS_ (bel_) hb)
        clear HO159
        clear BK148
        clear HB
        have HO159:=n0_
        have HO153:=n1_
        have BK148:=n2_
        have HB:=n3_
        clear n0_ n1_ n2_ n3_
        clear hb ho25
        refine hK.out _ _ ⟨(bC_ BK148.out 0).trans rfl,(bC_ BK148.out 1).trans rfl,(bC_ BK148.out 2).trans rfl,(bC_ BK148.out 3).trans rfl,(bC_ BK148.out 4).trans rfl,(bC_ BK148.out 5).trans rfl,(bC_ BK148.out 6).trans rfl⟩ (fun hHeld=>?_)
        clear hK K
        refine no_ 28 ?_
        refine on_ 2 30 (fun K hK=>?_)
        refine Kd.R_append_rows_step k44 (w0:=w) w.heap.size (by rfl) (.tmp 28) (.tmp 29) 23 44 (.agg #[(.int .i64 0),(.int .i64 0),(.int .i64 0),(.int .i64 0),(.int .i64 0),(.int .i64 0),(.string ⟨#[]⟩)]) 64 rfl Tryd.underlying23 info44 rfl (by decide) (by omega) v152 y151 l0 _ _ _ (fun k_=>some k_≠(v158:Value).ownBlock∧k_≠gb148) (fun _=>False) rfl rfl ?aO ?aR (fun _ _ h=>h) (fun _ h=>h.elim) ?aF ?aB ?aS ?aL ?_
        (case aR=>exact cx_ (Kd.C_below HR0.out HB.out))
        (case aB=>exact (bel_))
        (case aF=>exact (fun k_ hk=>⟨Kd.fresh' (Kd.R_lt (rp_ HO159.out)) k_ hk,Kd.freshB (g:=gb148) (o:=.cells #[.int .i64 a1_0,.int .i64 a1_1,.int .i64 a1_2,.int .i64 a1_3,.int .i64 a1_4,.int .i64 a1_5,.string a1_6] 44 (0,0)) (bp_ BK148.out) k_ hk⟩))
        (case aO=>exact (by (with_reducible repeat (first|apply Kd.R_alloc|apply Kd.R_drewN|apply Kd.R_drew));exact Kd.R_mono HO153.out (fun _ hk=>⟨hk.1.2,hk.2⟩)))
        (case aS=>exact (below_size (bel_)))
        (case aL=>have:=LMc15.out;omega)
        intro v155 w26 ho hb hg hat
        rw [←Ny154.out] at ho
        have n0_:=a_ (blk_grown (g:=gb148) (o:=.cells #[.int .i64 a1_0,.int .i64 a1_1,.int .i64 a1_2,.int .i64 a1_3,.int .i64 a1_4,.int .i64 a1_5,.string a1_6] 44 (0,0)) (bp_ BK148.out) hg (Kd.R_away HO153.out (fun _ hk=>hk.2)))
        have n1_:=a_ (Kd.R_after (ok:=(fun k_=>k_≠gb148)) (by (with_reducible repeat (first|apply Kd.R_alloc|apply Kd.R_drewN|apply Kd.R_drew));exact Kd.R_mono HO159.out (fun _ hk=>⟨hk.1.2,hk.2⟩)) hg hat)
        have n2_:=a_ (hb)
        have n3_:=a_ (ho)
        clear BK148
        clear HO159
        clear HB
        clear HO153
        have BK148:=n0_
        have HO159:=n1_
        have HB:=n2_
        have HO156:=n3_
        clear n0_ n1_ n2_ n3_
        clear ho hb hg hat
        refine hK.out _ _ ⟨(bC_ BK148.out 0).trans rfl,(bC_ BK148.out 1).trans rfl,(bC_ BK148.out 2).trans rfl,(bC_ BK148.out 3).trans rfl,(bC_ BK148.out 4).trans rfl,(bC_ BK148.out 5).trans rfl,(bC_ BK148.out 6).trans rfl⟩ (fun hHeld=>?_)
        clear hK K
        refine no_ 30 ?_
        exact norm_ (by simp only [putAll,Act.put,List.setIfInBounds_toArray,List.set_cons_zero,List.set_cons_succ]) (hCont (v152,v155,v158) _ ⟨hHeld,(rp_ HO156.out),(by (with_reducible repeat (first|apply Kd.R_alloc|apply Kd.R_drewN|apply Kd.R_drew));exact Kd.R_mono HO159.out (fun _ hk=>⟨hk.2,hk.1⟩)),(bp_ BK148.out),(bel_)⟩)
      rintro ⟨v152,v155,v158⟩ w27 ⟨hS_,h0_,h1_,h2_,h3_⟩
      have n0_:Aside0 (Kd.R k44 44 w27 w.heap.size (fun k_=>some k_≠(v158:Value).ownBlock∧k_≠gb148) v155 y154):=⟨h0_⟩
      have n1_:Aside0 (Kd.R k44 44 w27 w.heap.size (fun k_=>some k_≠(v155:Value).ownBlock∧k_≠gb148) v158 y157):=⟨h1_⟩
      have n2_:Aside0 (w27.heap[gb148]?=some (.cells #[.int .i64 a1_0,.int .i64 a1_1,.int .i64 a1_2,.int .i64 a1_3,.int .i64 a1_4,.int .i64 a1_5,.string a1_6] 44 (0,0))):=⟨h2_⟩
      have n3_:Aside0 (Below w.heap.size w w27):=⟨h3_⟩
      clear BK148
      clear HB
      clear h0_ h1_ h2_ h3_
      have HO156:=n0_
      have HO159:=n1_
      have BK148:=n2_
      have HB:=n3_
      clear n0_ n1_ n2_ n3_
      have hHeld:w27.cell? ⟨gb148,0,none⟩=some (.int .i64 a1_0)∧w27.cell? ⟨gb148,1,none⟩=some (.int .i64 a1_1)∧w27.cell? ⟨gb148,2,none⟩=some (.int .i64 a1_2)∧w27.cell? ⟨gb148,3,none⟩=some (.int .i64 a1_3)∧w27.cell? ⟨gb148,4,none⟩=some (.int .i64 a1_4)∧w27.cell? ⟨gb148,5,none⟩=some (.int .i64 a1_5)∧w27.cell? ⟨gb148,6,none⟩=some (.string a1_6):=hS_
      obtain ⟨Ao29,co29,eo29⟩:=Kd.R_slice HO159.out
      (first|subst eo29|(injection eo29 with f1_ f2_ f3_;have f4_:=f1_.symm;have f5_:=f3_.symm;clear f1_ f2_ f3_;subst f4_;subst f5_))
      refine norm_ (a':=?_) ?_ ?_
      rotate_left
      ·simp only [putAll,Act.put,List.setIfInBounds_toArray,List.set_cons_zero,List.set_cons_succ]
       rfl
      refine on_ 5 33 (fun K hK=>?_)
      refine Kd.R_append_rows_step k44 (w0:=w) w.heap.size (by rfl) (.tmp 30) (.tmp 32) 23 44 (.agg #[(.int .i64 0),(.int .i64 0),(.int .i64 0),(.int .i64 0),(.int .i64 0),(.int .i64 0),(.string ⟨#[]⟩)]) 64 rfl Tryd.underlying23 info44 rfl (by decide) (by omega) v155 y154 y157 _ _ _ (fun k_=>some k_≠(.slice Ao29 y157.length co29:Value).ownBlock∧k_≠gb148) (fun _=>False) rfl rfl ?aO ?aR (fun _ _ h=>h) (fun _ h=>h.elim) ?aF ?aB ?aS ?aL ?_
      (case aR=>exact cx_ (Kd.R_reads' HO159.out).2.2)
      (case aB=>exact (bel_))
      (case aF=>exact (fun k_ hk=>⟨Kd.fresh' (Kd.R_lt (rp_ HO159.out)) k_ hk,Kd.freshB (g:=gb148) (o:=.cells #[.int .i64 a1_0,.int .i64 a1_1,.int .i64 a1_2,.int .i64 a1_3,.int .i64 a1_4,.int .i64 a1_5,.string a1_6] 44 (0,0)) (bp_ BK148.out) k_ hk⟩))
      (case aO=>exact (rp_ HO156.out))
      (case aS=>exact (below_size (bel_)))
      (case aL=>have:=LMc16.out;omega)
      intro v161 w28 ho hb hg hat
      rw [←Ny160.out] at ho
      have n0_:=a_ (blk_grown (g:=gb148) (o:=.cells #[.int .i64 a1_0,.int .i64 a1_1,.int .i64 a1_2,.int .i64 a1_3,.int .i64 a1_4,.int .i64 a1_5,.string a1_6] 44 (0,0)) (bp_ BK148.out) hg (Kd.R_away HO156.out (fun _ hk=>hk.2)))
      have n1_:=a_ (Kd.R_after (ok:=(fun k_=>k_≠gb148)) (by (with_reducible repeat (first|apply Kd.R_alloc|apply Kd.R_drewN|apply Kd.R_drew));exact Kd.R_mono HO159.out (fun _ hk=>⟨hk.2,hk.1⟩)) hg hat)
      have n2_:=a_ (hb)
      have n3_:=a_ (ho)
      clear BK148
      clear HO159
      clear HB
      clear HO156
      have BK148:=n0_
      have HO159:=n1_
      have HB:=n2_
      have HO162:=n3_
      clear n0_ n1_ n2_ n3_
      clear ho hb hg hat
      refine hK.out _ _ ⟨(bC_ BK148.out 0).trans rfl,(bC_ BK148.out 1).trans rfl,(bC_ BK148.out 2).trans rfl,(bC_ BK148.out 3).trans rfl,(bC_ BK148.out 4).trans rfl,(bC_ BK148.out 5).trans rfl,(bC_ BK148.out 6).trans rfl⟩ (fun hHeld=>?_)
      clear hK K
      refine no_ 33 ?_
      refine pa_ 6 4 ?_
      refine pa_ 7 5 ?_
      refine done_ (done_of HT_.out (by kernel_rfl)) ?_
      try go_wp2
      go_ret2
      exact ⟨_,fi_,Or.inl ⟨rfl,by (with_reducible repeat (first|apply Kd.R_alloc|apply Kd.R_drewN|apply Kd.R_drew));exact Kd.R_mono HO162.out (fun _ hk=>trivial)⟩,bel_⟩
     ·rw [if_neg c16] at H
      exact absurd H (by simp)
    ·rw [if_neg c15] at H
     exact absurd H (by simp)
  ·rw [if_neg c9] at H
   have c9b0:(a1_1==(wrap64 (t149+1)))=false:=bn_ c9
   have c9b1:(a1_1 != (wrap64 (t149+1)))=true:=bne_iff_ne.mpr c9
   simp only [Option.some.injEq,Prod.mk.injEq] at H
   obtain ⟨rfl,rfl⟩:=H
   go_enter Tryd.func91,Tryd.ntmps91
   go_wp2_with (first|((with_reducible refine gD_ (N:=3) rfl ?_);refine bx_ 3 (#[.int .i64 a1_0,.int .i64 a1_1,.int .i64 a1_2,.int .i64 a1_3,.int .i64 a1_4,.int .i64 a1_5,.string a1_6]) 44 ?_;intro gb148 hg w30 hbox hb;have n0_:=a_ (bS_ (bel_) hb);have n1_:=a_ (hbox);have n2_:=a_ ((by rw [hg];exact (below_size (bel_)):w.heap.size≤gb148));have n3_:=a_ ((by rw [hg];exact (below_size (bel_)):w.heap.size≤gb148));clear HB;have HB:=n0_;have BK148:=n1_;have GW148:=n2_;have GE148:=n3_;clear n0_ n1_ n2_ n3_;clear hb hbox hg;have Z31_0:=cz_ BK148.out 0 (.int .i64 a1_0);have Z31_1:=cz_ BK148.out 1 (.int .i64 a1_1);have Z31_2:=cz_ BK148.out 2 (.int .i64 a1_2);have Z31_3:=cz_ BK148.out 3 (.int .i64 a1_3);have Z31_4:=cz_ BK148.out 4 (.int .i64 a1_4);have Z31_5:=cz_ BK148.out 5 (.int .i64 a1_5);have Z31_6:=cz_ BK148.out 6 (.string a1_6);have Y31_0:=bF_ BK148.out 0;have Y31_1:=bF_ BK148.out 1;have Y31_2:=bF_ BK148.out 2;have Y31_3:=bF_ BK148.out 3;have Y31_4:=bF_ BK148.out 4;have Y31_5:=bF_ BK148.out 5;have Y31_6:=bF_ BK148.out 6)|((with_reducible refine gC_ (f:=90) rfl ?_);refine gl_ 10 Tryd.func90 #[.slice A0 l0.length c0,.int .i64 a1_0] ?_;(with_reducible refine (spec_l12Seq.calls k _ _ l0 a1_0 t149 _ ?side1 ?side2 A3.out).mono ?_);(case side1=>exact cp_ HR0.out);(case side2=>exact HC0.out);rintro e w' ⟨rfl,⟨nd,rfl⟩⟩;refine ⟨_,rfl,?_⟩)|((with_reducible refine gC_ (f:=126) rfl ?_);refine gl_ 14 Tryd.func126 #[.slice A0 l0.length c0,.agg #[.int .i64 a1_0,.int .i64 a1_1,.int .i64 a1_2,.int .i64 a1_3,.int .i64 a1_4,.int .i64 a1_5,.string a1_6]] ?_;(with_reducible refine (spec_l12Has.calls k _ _ l0 a1_0 a1_1 a1_2 a1_3 a1_4 a1_5 a1_6 false _ ?side1 ?side2 A4.out).mono ?_);(case side1=>repeat (first|exact (Kd.C_below HR0.out (bel_))|(with_reducible refine Kd.C_alloc ?_ _)|(with_reducible refine Kd.C_drewN ?_ _)|(with_reducible refine Kd.C_drew ?_)));(case side2=>exact HC0.out);rintro e w32 ⟨rfl,hb⟩;refine ⟨_,rfl,?_⟩;replace HB:=a_ (bS_ (bel_) hb);replace BK148:=a_ (bb_ BK148.out hb);(try clear hb);have Z33_0:=cz_ BK148.out 0 (.int .i64 a1_0);have Z33_1:=cz_ BK148.out 1 (.int .i64 a1_1);have Z33_2:=cz_ BK148.out 2 (.int .i64 a1_2);have Z33_3:=cz_ BK148.out 3 (.int .i64 a1_3);have Z33_4:=cz_ BK148.out 4 (.int .i64 a1_4);have Z33_5:=cz_ BK148.out 5 (.int .i64 a1_5);have Z33_6:=cz_ BK148.out 6 (.string a1_6);have Y33_0:=bF_ BK148.out 0;have Y33_1:=bF_ BK148.out 1;have Y33_2:=bF_ BK148.out 2;have Y33_3:=bF_ BK148.out 3;have Y33_4:=bF_ BK148.out 4;have Y33_5:=bF_ BK148.out 5;have Y33_6:=bF_ BK148.out 6))
   go_ret2
   exact ⟨_,fi_,Or.inr ⟨by decide,rfl,rfl⟩,bel_⟩
end Go.Proofs.YtdpklbomhdpimaaDoor.P
namespace Go.Proofs.YtdpklbomhdpimaaDoor.P
open Go.RowKit Go.Proofs.YtdpklbomhdpimaaDoorW.PrintWords Go.Proofs.YtdpklbomhdpimaaDoorW.PrintLast Go.Proofs.YtdpklbomhdpimaaDoorW.PrintMore
def spec_l13Hear.f (k:Nat) (l0_0:List S44) (a0_1:Int) (a0_2:Bool) (a1_0:Int) (a1_1:Int) (a1_2:Int) (a1_3:Int) (a1_4:Int) (a1_5:Int) (a1_6:ByteArray):Option (List S44×Int×Bool×Bool) :=
 (spec_l12Add.f k l0_0 a1_0 a1_1 a1_2 a1_3 a1_4 a1_5 a1_6).bind fun p=>if a0_2=true then (if p.2=1 then some (p.1,a0_1,true,true) else some (l0_0,a0_1,true,false)) else some (l0_0,a0_1,false,false)
theorem spec_l13Hear.mono (l0_0:List S44) (a0_1:Int) (a0_2:Bool) (a1_0:Int) (a1_1:Int) (a1_2:Int) (a1_3:Int) (a1_4:Int) (a1_5:Int) (a1_6:ByteArray) (k:Nat):LeO (spec_l13Hear.f k l0_0 a0_1 a0_2 a1_0 a1_1 a1_2 a1_3 a1_4 a1_5 a1_6) (spec_l13Hear.f (k+1) l0_0 a0_1 a0_2 a1_0 a1_1 a1_2 a1_3 a1_4 a1_5 a1_6):=by
 unfold spec_l13Hear.f
 exact LeO.bind (spec_l12Add.mono _ _ _ _ _ _ _ _ _) (fun _=>LeO.refl _)
def Out13 (B:Nat) (w':World) (A:Option Addr) (c:Nat) (l:List S44) (v:Value) (r:List S44) (ok:Bool):Prop:=(ok=true∧Kd.R k44 44 w' B (fun _=>True) v r)∨(ok=false∧v=.slice A l.length c∧r=l)
theorem Out13.own {B:Nat} {W W':World} {okp:Nat→Prop} {A:Option Addr} {c:Nat} {l:List S44} {v:Value} {r:List S44} {ok:Bool} (h:Out13 W.heap.size W' A c l v r ok) (hO:Kd.R k44 44 W B okp (.slice A l.length c) l) (hb:Below W.heap.size W W') (hB:B≤W.heap.size):Kd.R k44 44 W' B (fun _=>True) v r:=by
 rcases h with ⟨_,h⟩|⟨_,rfl,rfl⟩
 ·exact Kd.R_lower h hB
 ·exact Kd.R_mono (Kd.R_below hO hb) (fun _ _=>trivial)
theorem spec_l13Hear.calls (k:Nat) (A0_0:Option Addr) (c0_0:Nat) (l0_0:List S44) (a0_1:Int) (a0_2:Bool) (a1_0:Int) (a1_1:Int) (a1_2:Int) (a1_3:Int) (a1_4:Int) (a1_5:Int) (a1_6:ByteArray) (r1:List S44) (r2:Int) (r3:Bool) (r4:Bool) (w:World) (hr0_0:Kd.C k44 w A0_0 l0_0.length l0_0) (hc0_0:l0_0.length≤c0_0) (h:spec_l13Hear.f k l0_0 a0_1 a0_2 a1_0 a1_1 a1_2 a1_3 a1_4 a1_5 a1_6=some (r1,r2,r3,r4)) :
  Calls Tryd.prog 76 #[.agg #[.slice A0_0 l0_0.length c0_0,.int .i64 a0_1,.bool a0_2],.agg #[.int .i64 a1_0,.int .i64 a1_1,.int .i64 a1_2,.int .i64 a1_3,.int .i64 a1_4,.int .i64 a1_5,.string a1_6]] w fun e w'=>∃ v0_:Value,e=.returned (.tuple #[.agg #[v0_,.int .i64 r2,.bool r3],.bool r4])∧Out13 w.heap.size w' A0_0 c0_0 l0_0 v0_ r1 r4∧Below w.heap.size w w':=by
 have HR0:=a_ hr0_0
 have HC0:=a_ hc0_0
 clear hr0_0 hc0_0
 have hu1:=Tryd.underlying25
 have hu4:=Tryd.underlying44
 unfold spec_l13Hear.f at h
 obtain ⟨⟨p1,p2⟩,hp,h2⟩:=Option.bind_eq_some_iff.1 h
 clear h
 have HP:=a_ hp
 clear hp
 dsimp only at h2
 cases a0_2 with
 | false =>
  simp only [Bool.false_eq_true,if_false,Option.some.injEq,Prod.mk.injEq] at h2
  obtain ⟨rfl,rfl,rfl,rfl⟩:=h2
  go_enter Tryd.func76,Tryd.ntmps76
  go_wp2_with (first|((with_reducible refine gD_ (N:=2) rfl ?_);refine bx_ 2 (#[.slice A0_0 l0_0.length c0_0,.int .i64 a0_1,.bool false]) 25 ?_;intro gS hgS w1 hbox hb1;have HB1:=a_ hb1;have BS1:=a_ hbox;have GS:=a_ (show w.heap.size≤gS by rw [hgS];exact Nat.le_refl _);clear hbox hb1 hgS)|((with_reducible refine gD_ (N:=3) rfl ?_);refine bx_ 3 (#[.int .i64 a1_0,.int .i64 a1_1,.int .i64 a1_2,.int .i64 a1_3,.int .i64 a1_4,.int .i64 a1_5,.string a1_6]) 44 ?_;intro gE hgE w2 hbox hb2;have HB2:=a_ (bS_ HB1.out hb2);have BS2:=a_ (blk_below BS1.out hb2);have BE2:=a_ hbox;clear hbox hb2 hgE)|((with_reducible refine gD_ (N:=4) rfl ?_);refine bx_ 4 (#[.slice none 0 0,.int .i64 0,.bool false]) 25 ?_;intro gR hgR w3 hbox hb3;have HB3:=a_ (bS_ HB2.out hb3);have BS3:=a_ (blk_below BS2.out hb3);have BE3:=a_ (blk_below BE2.out hb3);have BR3:=a_ hbox;have GR:=a_ (show w.heap.size≤gR by rw [hgR];exact HB2.out.size);have NSR:=a_ (show gS≠gR by have:=blk_lt BS2.out;omega);have hs0:=(bC_ BS3.out 0).trans rfl;have hs1:=(bC_ BS3.out 1).trans rfl;have hs2:=(bC_ BS3.out 2).trans rfl;have he0:=(bC_ BE3.out 0).trans rfl;have he1:=(bC_ BE3.out 1).trans rfl;have he2:=(bC_ BE3.out 2).trans rfl;have he3:=(bC_ BE3.out 3).trans rfl;have he4:=(bC_ BE3.out 4).trans rfl;have he5:=(bC_ BE3.out 5).trans rfl;have he6:=(bC_ BE3.out 6).trans rfl;have hz0:=(bC_ BR3.out 0).trans rfl;have hz1:=(bC_ BR3.out 1).trans rfl;have hz2:=(bC_ BR3.out 2).trans rfl;have hzf0:=bF_ BR3.out 0;have hzf1:=bF_ BR3.out 1;have hzf2:=bF_ BR3.out 2;clear hbox hb3 hgR)|(go_at_call 91;go_loud (refine (spec_l12Add.calls k _ _ l0_0 a1_0 a1_1 a1_2 a1_3 a1_4 a1_5 a1_6 p1 p2 _ (Kd.C_below HR0.out HB3.out) HC0.out HP.out).mono ?_;rintro e w4 ⟨v4,rfl,ho4,hb4⟩;have HO4:=a_ ho4;have HB4:=a_ (bS_ HB3.out hb4);have BS4:=a_ (blk_below BS3.out hb4);have BR4:=a_ (blk_below BR3.out hb4);have NR4:=a_ (Nat.le_trans HB3.out.size hb4.size);clear hb4 ho4;have ht0:=(bC_ BS4.out 0).trans rfl;have ht1:=(bC_ BS4.out 1).trans rfl;have ht2:=(bC_ BS4.out 2).trans rfl;have htf0:=bF_ BS4.out 0;have htf1:=bF_ BS4.out 1;have htf2:=bF_ BS4.out 2;have hy0:=(bC_ BR4.out 0).trans rfl;have hy1:=(bC_ BR4.out 1).trans rfl;have hy2:=(bC_ BR4.out 2).trans rfl;have hyf0:=bF_ BR4.out 0;have hyf1:=bF_ BR4.out 1;have hyf2:=bF_ BR4.out 2)))
  (try simp only [Exit.inBlock,Exit.then])
  refine bodyPost_ret (results_ct rfl _ _ gR 25 #[.slice A0_0 l0_0.length c0_0,.int .i64 a0_1,.bool false] (0,0) _ rfl ((blk_set (blk_set (blk_set BR4.out 0 _) 1 _) 2 _).trans rfl) Tryd.underlying25 rfl (by kernel_rfl)) rfl ?_
  exact ⟨_,rfl,Or.inr ⟨rfl,rfl,rfl⟩,wS_ (wS_ (wS_ HB4.out GR.out) GR.out) GR.out⟩
 | true =>
  rw [if_pos rfl] at h2
  by_cases hn:p2=1
  ·rw [if_pos hn] at h2
   simp only [Option.some.injEq,Prod.mk.injEq] at h2
   obtain ⟨rfl,rfl,rfl,rfl⟩:=h2
   subst hn
   go_enter Tryd.func76,Tryd.ntmps76
   go_wp2_with (first|((with_reducible refine gD_ (N:=2) rfl ?_);refine bx_ 2 (#[.slice A0_0 l0_0.length c0_0,.int .i64 a0_1,.bool true]) 25 ?_;intro gS hgS w1 hbox hb1;have HB1:=a_ hb1;have BS1:=a_ hbox;have GS:=a_ (show w.heap.size≤gS by rw [hgS];exact Nat.le_refl _);clear hbox hb1 hgS)|((with_reducible refine gD_ (N:=3) rfl ?_);refine bx_ 3 (#[.int .i64 a1_0,.int .i64 a1_1,.int .i64 a1_2,.int .i64 a1_3,.int .i64 a1_4,.int .i64 a1_5,.string a1_6]) 44 ?_;intro gE hgE w2 hbox hb2;have HB2:=a_ (bS_ HB1.out hb2);have BS2:=a_ (blk_below BS1.out hb2);have BE2:=a_ hbox;clear hbox hb2 hgE)|((with_reducible refine gD_ (N:=4) rfl ?_);refine bx_ 4 (#[.slice none 0 0,.int .i64 0,.bool false]) 25 ?_;intro gR hgR w3 hbox hb3;have HB3:=a_ (bS_ HB2.out hb3);have BS3:=a_ (blk_below BS2.out hb3);have BE3:=a_ (blk_below BE2.out hb3);have BR3:=a_ hbox;have GR:=a_ (show w.heap.size≤gR by rw [hgR];exact HB2.out.size);have NSR:=a_ (show gS≠gR by have:=blk_lt BS2.out;omega);have hs0:=(bC_ BS3.out 0).trans rfl;have hs1:=(bC_ BS3.out 1).trans rfl;have hs2:=(bC_ BS3.out 2).trans rfl;have he0:=(bC_ BE3.out 0).trans rfl;have he1:=(bC_ BE3.out 1).trans rfl;have he2:=(bC_ BE3.out 2).trans rfl;have he3:=(bC_ BE3.out 3).trans rfl;have he4:=(bC_ BE3.out 4).trans rfl;have he5:=(bC_ BE3.out 5).trans rfl;have he6:=(bC_ BE3.out 6).trans rfl;have hz0:=(bC_ BR3.out 0).trans rfl;have hz1:=(bC_ BR3.out 1).trans rfl;have hz2:=(bC_ BR3.out 2).trans rfl;have hzf0:=bF_ BR3.out 0;have hzf1:=bF_ BR3.out 1;have hzf2:=bF_ BR3.out 2;clear hbox hb3 hgR)|(go_at_call 91;go_loud (refine (spec_l12Add.calls k _ _ l0_0 a1_0 a1_1 a1_2 a1_3 a1_4 a1_5 a1_6 p1 1 _ (Kd.C_below HR0.out HB3.out) HC0.out HP.out).mono ?_;rintro e w4 ⟨v4,rfl,ho4,hb4⟩;have HO4:=a_ ho4;have HB4:=a_ (bS_ HB3.out hb4);have BS4:=a_ (blk_below BS3.out hb4);have BR4:=a_ (blk_below BR3.out hb4);have NR4:=a_ (Nat.le_trans HB3.out.size hb4.size);have hR4:=(Or.resolve_right ho4 (fun q=>q.1 rfl)).2;obtain ⟨A5,c5,rfl⟩:=Kd.R_slice hR4;have HR5:=a_ (Kd.R_types (Kd.R_types hR4 BS4.out (by decide)) BR4.out (by decide));have nsr:=NSR.out;have nrs:=NSR.out.symm;clear hR4 hb4 ho4;have ht0:=(bC_ BS4.out 0).trans rfl;have ht1:=(bC_ BS4.out 1).trans rfl;have ht2:=(bC_ BS4.out 2).trans rfl;have htf0:=bF_ BS4.out 0;have htf1:=bF_ BS4.out 1;have htf2:=bF_ BS4.out 2;have hy0:=(bC_ BR4.out 0).trans rfl;have hy1:=(bC_ BR4.out 1).trans rfl;have hy2:=(bC_ BR4.out 2).trans rfl;have hyf0:=bF_ BR4.out 0;have hyf1:=bF_ BR4.out 1;have hyf2:=bF_ BR4.out 2)))
   (try simp only [Exit.inBlock,Exit.then])
   refine bodyPost_ret (results_ct rfl _ _ gR 25 #[.slice A5 p1.length c5,.int .i64 a0_1,.bool true] (0,0) _ rfl ((blk_set (blk_set (blk_set (blk_far BR4.out NSR.out.symm _) 0 _) 1 _) 2 _).trans rfl) Tryd.underlying25 rfl (by kernel_rfl)) rfl ?_
   refine ⟨_,rfl,Or.inl ⟨rfl,?_⟩,wS_ (wS_ (wS_ (wS_ HB4.out GS.out) GR.out) GR.out) GR.out⟩
   exact Kd.R_mono (Kd.R_lower (Kd.R_far (Kd.R_far (Kd.R_far (Kd.R_far HR5.out (p:=⟨gS,0,none⟩) (fun _ hk=>hk.1.2) _) (p:=⟨gR,0,none⟩) (fun _ hk=>hk.2) _) (p:=⟨gR,1,none⟩) (fun _ hk=>hk.2) _) (p:=⟨gR,2,none⟩) (fun _ hk=>hk.2) _) HB3.out.size) (fun _ _=>trivial)
  ·rw [if_neg hn] at h2
   simp only [Option.some.injEq,Prod.mk.injEq] at h2
   obtain ⟨rfl,rfl,rfl,rfl⟩:=h2
   have hn1:(p2 != 1)=true:=bne_iff_ne.mpr hn
   have hn2:(p2==1)=false:=bn_ hn
   clear hn
   go_enter Tryd.func76,Tryd.ntmps76
   go_wp2_with (first|((with_reducible refine gD_ (N:=2) rfl ?_);refine bx_ 2 (#[.slice A0_0 l0_0.length c0_0,.int .i64 a0_1,.bool true]) 25 ?_;intro gS hgS w1 hbox hb1;have HB1:=a_ hb1;have BS1:=a_ hbox;have GS:=a_ (show w.heap.size≤gS by rw [hgS];exact Nat.le_refl _);clear hbox hb1 hgS)|((with_reducible refine gD_ (N:=3) rfl ?_);refine bx_ 3 (#[.int .i64 a1_0,.int .i64 a1_1,.int .i64 a1_2,.int .i64 a1_3,.int .i64 a1_4,.int .i64 a1_5,.string a1_6]) 44 ?_;intro gE hgE w2 hbox hb2;have HB2:=a_ (bS_ HB1.out hb2);have BS2:=a_ (blk_below BS1.out hb2);have BE2:=a_ hbox;clear hbox hb2 hgE)|((with_reducible refine gD_ (N:=4) rfl ?_);refine bx_ 4 (#[.slice none 0 0,.int .i64 0,.bool false]) 25 ?_;intro gR hgR w3 hbox hb3;have HB3:=a_ (bS_ HB2.out hb3);have BS3:=a_ (blk_below BS2.out hb3);have BE3:=a_ (blk_below BE2.out hb3);have BR3:=a_ hbox;have GR:=a_ (show w.heap.size≤gR by rw [hgR];exact HB2.out.size);have NSR:=a_ (show gS≠gR by have:=blk_lt BS2.out;omega);have hs0:=(bC_ BS3.out 0).trans rfl;have hs1:=(bC_ BS3.out 1).trans rfl;have hs2:=(bC_ BS3.out 2).trans rfl;have he0:=(bC_ BE3.out 0).trans rfl;have he1:=(bC_ BE3.out 1).trans rfl;have he2:=(bC_ BE3.out 2).trans rfl;have he3:=(bC_ BE3.out 3).trans rfl;have he4:=(bC_ BE3.out 4).trans rfl;have he5:=(bC_ BE3.out 5).trans rfl;have he6:=(bC_ BE3.out 6).trans rfl;have hz0:=(bC_ BR3.out 0).trans rfl;have hz1:=(bC_ BR3.out 1).trans rfl;have hz2:=(bC_ BR3.out 2).trans rfl;have hzf0:=bF_ BR3.out 0;have hzf1:=bF_ BR3.out 1;have hzf2:=bF_ BR3.out 2;clear hbox hb3 hgR)|(go_at_call 91;go_loud (refine (spec_l12Add.calls k _ _ l0_0 a1_0 a1_1 a1_2 a1_3 a1_4 a1_5 a1_6 p1 p2 _ (Kd.C_below HR0.out HB3.out) HC0.out HP.out).mono ?_;rintro e w4 ⟨v4,rfl,ho4,hb4⟩;have HO4:=a_ ho4;have HB4:=a_ (bS_ HB3.out hb4);have BS4:=a_ (blk_below BS3.out hb4);have BR4:=a_ (blk_below BR3.out hb4);have NR4:=a_ (Nat.le_trans HB3.out.size hb4.size);clear hb4 ho4;have ht0:=(bC_ BS4.out 0).trans rfl;have ht1:=(bC_ BS4.out 1).trans rfl;have ht2:=(bC_ BS4.out 2).trans rfl;have htf0:=bF_ BS4.out 0;have htf1:=bF_ BS4.out 1;have htf2:=bF_ BS4.out 2;have hy0:=(bC_ BR4.out 0).trans rfl;have hy1:=(bC_ BR4.out 1).trans rfl;have hy2:=(bC_ BR4.out 2).trans rfl;have hyf0:=bF_ BR4.out 0;have hyf1:=bF_ BR4.out 1;have hyf2:=bF_ BR4.out 2)))
   (try simp only [Exit.inBlock,Exit.then])
   refine bodyPost_ret (results_ct rfl _ _ gR 25 #[.slice A0_0 l0_0.length c0_0,.int .i64 a0_1,.bool true] (0,0) _ rfl ((blk_set (blk_set (blk_set BR4.out 0 _) 1 _) 2 _).trans rfl) Tryd.underlying25 rfl (by kernel_rfl)) rfl ?_
   exact ⟨_,rfl,Or.inr ⟨rfl,rfl,rfl⟩,wS_ (wS_ (wS_ HB4.out GR.out) GR.out) GR.out⟩
end Go.Proofs.YtdpklbomhdpimaaDoor.P
namespace Go.Proofs.YtdpklbomhdpimaaDoor.P
open Go.RowKit Go.Proofs.YtdpklbomhdpimaaDoorW.PrintWords Go.Proofs.YtdpklbomhdpimaaDoorW.PrintLast
def spec_l13Copy.f (l0_0:List (S44)) (a0_1:Int) (a0_2:Bool):Option ((List (S44))×Int×Bool):=(some (([]:List (S44)):List (S44))).bind fun y488=>(if y488.length+l0_0.length < 2199023255552 then (some ((y488++l0_0),a0_1,a0_2)) else (none))
theorem spec_l13Copy.calls (A0_0:Option Addr) (c0_0:Nat) (l0_0:List (S44)) (a0_1:Int) (a0_2:Bool) (r1:List (S44)) (r2:Int) (r3:Bool) (w:World) (hr0_0:Kd.C k44 w A0_0 l0_0.length l0_0) (hc0_0:l0_0.length≤c0_0) (h:spec_l13Copy.f l0_0 a0_1 a0_2=some (r1,r2,r3)) :
  Calls Tryd.prog 77 #[.agg #[.slice A0_0 l0_0.length c0_0,.int .i64 a0_1,.bool a0_2]] w fun e w'=>∃ v0_:Value,e=.returned (.agg #[v0_,.int .i64 r2,.bool r3])∧Kd.R k44 44 w' w.heap.size (fun _=>True) v0_ r1∧Below w.heap.size w w':=by
 have hu25:=Tryd.underlying25
 have HR0_0:=a_ hr0_0
 have HC0_0:=a_ hc0_0
 clear hr0_0 hc0_0
 have HB:=a_ (Below.refl w.heap.size w)
 unfold spec_l13Copy.f at h
 have H:=h
 clear h
 obtain ⟨y488,hy488⟩:∃ y_:List (S44),y_=(([]:List (S44))):=⟨_,rfl⟩
 replace H:(if y488.length+l0_0.length < 2199023255552 then (some ((y488++l0_0),a0_1,a0_2)) else (none))=some (r1,r2,r3):=by first|(rw [hy488];with_reducible exact H)|(have H2_:=(Option.bind_some _ _).symm.trans H;rw [hy488];with_reducible exact H2_)|(have H2_:=(Option.bind_some _ _).symm.trans H;with_reducible exact H2_)|with_reducible exact H|(rw [hy488];exact H)|exact H
 have Ny488:=a_ hy488
 clear hy488
 by_cases c2:y488.length+l0_0.length < 2199023255552
 ·rw [if_pos c2] at H
  have LMc2:=a_ c2
  clear c2
  obtain ⟨y491,hy491⟩:∃ y_:List (S44),y_=(y488++l0_0):=⟨_,rfl⟩
  replace H:(some (y491,a0_1,a0_2))=some (r1,r2,r3):=by first|(rw [hy491];with_reducible exact H)|(have H2_:=(Option.bind_some _ _).symm.trans H;rw [hy491];with_reducible exact H2_)|(have H2_:=(Option.bind_some _ _).symm.trans H;with_reducible exact H2_)|with_reducible exact H|(rw [hy491];exact H)|exact H
  have Ny491:=a_ hy491
  clear hy491
  simp only [Option.some.injEq,Prod.mk.injEq] at H
  obtain ⟨rfl,rfl,rfl⟩:=H
  go_enter Tryd.func77,Tryd.ntmps77
  go_wp2_with (first|((with_reducible refine gD_ (N:=1) rfl ?_);refine bx_ 1 (#[.slice A0_0 l0_0.length c0_0,.int .i64 a0_1,.bool a0_2]) 25 ?_;intro gb486 hg w3 hbox hb;have n0_:=a_ (bS_ (bel_) hb);have n1_:=a_ (hbox);have n2_:=a_ ((by rw [hg];exact (below_size (bel_)):w.heap.size≤gb486));have n3_:=a_ ((by rw [hg];exact (below_size (bel_)):w.heap.size≤gb486));clear HB;have HB:=n0_;have BK486:=n1_;have GW486:=n2_;have GE486:=n3_;clear n0_ n1_ n2_ n3_;clear hb hbox hg)|((with_reducible refine gD_ (N:=2) rfl ?_);refine bx_ 2 (#[.slice none 0 0,.int .i64 0,.bool false]) 25 ?_;intro gb487 hg w4 hbox hb;have n0_:=a_ (bb_ BK486.out hb);have n1_:=a_ (bS_ (bel_) hb);have n2_:=a_ (hbox);have n3_:=a_ ((by rw [hg];exact (below_size (bel_)):w.heap.size≤gb487));have n4_:=a_ ((by rw [hg];exact (below_size (bel_)):w.heap.size≤gb487));have n5_:=a_ ((by rw [hg];exact Nat.ne_of_lt (blk_lt (g:=gb486) (o:=.cells #[.slice A0_0 l0_0.length c0_0,.int .i64 a0_1,.bool a0_2] 25 (0,0)) (bp_ BK486.out)):gb486≠gb487));have n6_:=a_ ((by rw [hg];exact Nat.ne_of_gt (blk_lt (g:=gb486) (o:=.cells #[.slice A0_0 l0_0.length c0_0,.int .i64 a0_1,.bool a0_2] 25 (0,0)) (bp_ BK486.out)):gb487≠gb486));clear BK486;clear HB;have BK486:=n0_;have HB:=n1_;have BK487:=n2_;have GW487:=n3_;have GE487:=n4_;have NB486_487:=n5_;have NB487_486:=n6_;clear n0_ n1_ n2_ n3_ n4_ n5_ n6_;clear hb hbox hg)|((with_reducible refine gD_ (N:=3) rfl ?_);refine Kd.R_lit k44 _ 44 ?hg (N:=3) ?hd (xs:=([]:List (S44))) (inner:=[]) (ok:=fun _=>True) (okp:=fun _=>True) ?hr ?hp (fun _ hk=>hk) trivial (Below.refl _ _) (Nat.le_refl _) (by simp) ?_;(case hd=>rfl);(case hg=>rfl);(case hr=>first|(go_simp;done)|(go_simp;rfl));(case hp=>exact (Reps.none _ _));intro v489 w5 ho6 hb hg_ hnew_;clear hg_ hnew_;(first|rw [←Ny488.out] at ho6|(simp only [Int.reduceToNat] at ho6;rw [←Ny488.out] at ho6));have HO490:=a_ (Kd.R_lower ho6 (below_size (bel_)));replace HB:=a_ (bS_ (bel_) hb);replace BK486:=a_ (bb_ BK486.out hb);replace BK487:=a_ (bb_ BK487.out hb);clear hb ho6;have hnb7:=NB486_487.out;have hnc7:=NB487_486.out;have Z8_0:=cz_ BK486.out 0 (.slice A0_0 l0_0.length c0_0);have Z8_1:=cz_ BK486.out 1 (.int .i64 a0_1);have Z8_2:=cz_ BK486.out 2 (.bool a0_2);have Y8_0:=bF_ BK486.out 0;have Y8_1:=bF_ BK486.out 1;have Y8_2:=bF_ BK486.out 2)|((with_reducible refine gate_builtin (b:=.append) (xs:=#[.tmp 3,.tmp 5]) rfl ?_);at_builtin;refine Kd.R_append_rows k44 (w0:=w) w.heap.size rfl (.tmp 3) (.tmp 5) 23 44 (.agg #[(.int .i64 0),(.int .i64 0),(.int .i64 0),(.int .i64 0),(.int .i64 0),(.int .i64 0),(.string ⟨#[]⟩)]) 64 rfl Tryd.underlying23 info44 rfl (by decide) (by omega) v489 y488 l0_0 _ _ _ (fun _=>True) (fun _=>False) rfl rfl ?aO ?aR (fun _ _ h=>h) (fun _ h=>h.elim) ?aF ?aB ?aS ?aL ?_;(case aR=>exact cx_ (Kd.C_below HR0_0.out HB.out));(case aB=>exact (bel_));(case aF=>exact (fun _ _=>trivial));(case aO=>exact (rp_ HO490.out));(case aS=>exact (below_size (bel_)));(case aL=>have:=LMc2.out;omega);intro v492 w9 ho hb hg hat;rw [←Ny491.out] at ho;replace BK486:=a_ (blk_grown (g:=gb486) (o:=.cells #[.slice A0_0 l0_0.length c0_0,.int .i64 a0_1,.bool a0_2] 25 (0,0)) (bp_ BK486.out) hg (Kd.R_ne HO490.out BK486.out (by decide)));replace BK487:=a_ (blk_grown (g:=gb487) (o:=.cells #[.slice none 0 0,.int .i64 0,.bool false] 25 (0,0)) (bp_ BK487.out) hg (Kd.R_ne HO490.out BK487.out (by decide)));replace HB:=a_ (hb);have HO493:=a_ (ho);clear HO490;clear ho hb hg hat;obtain ⟨Ao10,co10,eo10⟩:=Kd.R_slice HO493.out;subst eo10;have Z11_0:=cz_ BK486.out 0 (.slice A0_0 l0_0.length c0_0);have Z11_1:=cz_ BK486.out 1 (.int .i64 a0_1);have Z11_2:=cz_ BK486.out 2 (.bool a0_2);have Y11_0:=bF_ BK486.out 0;have Y11_1:=bF_ BK486.out 1;have Y11_2:=bF_ BK486.out 2;have Z12_0:=cz_ BK487.out 0 (.slice none 0 0);have Z12_1:=cz_ BK487.out 1 (.int .i64 0);have Z12_2:=cz_ BK487.out 2 (.bool false);have Y12_0:=bF_ BK487.out 0;have Y12_1:=bF_ BK487.out 1;have Y12_2:=bF_ BK487.out 2))
  refine bodyPost_ret (results_cell_row rfl _ _ gb487 25 #[.slice Ao10 y491.length co10,.int .i64 a0_1,.bool a0_2] (0,0) _ rfl (by (with_reducible repeat (first|refine bN_ ?_ _|refine bD_ ?_|refine bA_ ?_ _));refine blk_put (cs:=#[.slice Ao10 y491.length co10,.int .i64 a0_1,.bool false]) ?_ 2 _ rfl;(with_reducible repeat (first|refine bN_ ?_ _|refine bD_ ?_|refine bA_ ?_ _));refine blk_put (cs:=#[.slice Ao10 y491.length co10,.int .i64 0,.bool false]) ?_ 1 _ rfl;(with_reducible repeat (first|refine bN_ ?_ _|refine bD_ ?_|refine bA_ ?_ _));refine blk_put (cs:=#[.slice none 0 0,.int .i64 0,.bool false]) ?_ 0 _ rfl;(with_reducible repeat (first|refine bN_ ?_ _|refine bD_ ?_|refine bA_ ?_ _));refine blk_far ?_ NB487_486.out _;(with_reducible repeat (first|refine bN_ ?_ _|refine bD_ ?_|refine bA_ ?_ _));exact BK487.out) Tryd.underlying25 rfl (by kernel_rfl)) rfl ?_
  exact ⟨_,fi_,by (with_reducible repeat (first|apply Kd.R_alloc|apply Kd.R_drewN|apply Kd.R_drew));exact Kd.R_mono (Kd.R_far (p:=⟨gb487,2,none⟩) (Kd.R_far (p:=⟨gb487,1,none⟩) (Kd.R_far (p:=⟨gb487,0,none⟩) (Kd.R_far (p:=⟨gb486,0,none⟩) (Kd.R_types (Kd.R_types HO493.out BK486.out (by decide)) BK487.out (by decide)) (fun _ hk=>hk.1.2) (.slice Ao10 y491.length co10)) (fun _ hk=>hk.2) (.slice Ao10 y491.length co10)) (fun _ hk=>hk.2) (.int .i64 a0_1)) (fun _ hk=>hk.2) (.bool a0_2)) (fun _ hk=>trivial),bel_⟩
 ·rw [if_neg c2] at H
  exact absurd H (by simp)

def spec_ServerHear.j0:Nat→Bool→List (S44)→Int→Bool→Int→Int→Int→Int→Int→Int→ByteArray→Option ((List (S44))×Int×Bool×Bool)
 | 0,_,_,_,_,_,_,_,_,_,_,_=>none
 | k+1,x13,x495000,x495001,x495002,x496000,x496001,x496002,x496003,x496004,x496005,x496006=>if x13=true then (some (([]:List (S44)),0,false,false)) else ((spec_l13Copy.f x495000 x495001 x495002).bind fun bt499=>((spec_l13Hear.f k bt499.1 bt499.2.1 bt499.2.2 x496000 x496001 x496002 x496003 x496004 x496005 x496006).bind fun bt504=>(some (bt504.1,bt504.2.1,bt504.2.2.1,bt504.2.2.2))))
def spec_ServerHear.f (k:Nat) (l0_0:List (S44)) (a0_1:Int) (a0_2:Bool) (a1_0:Int) (a1_1:Int) (a1_2:Int) (a1_3:Int) (a1_4:Int) (a1_5:Int) (a1_6:ByteArray):Option ((List (S44))×Int×Bool×Bool):=(spec_ServerOk.f k l0_0 a0_1 a0_2).bind fun t497=>(if t497=true then ((spec_EntryOk.f k a1_0 a1_1 a1_2 a1_3 a1_4 a1_5 a1_6).bind fun t498=>(spec_ServerHear.j0 k (!t498) l0_0 a0_1 a0_2 a1_0 a1_1 a1_2 a1_3 a1_4 a1_5 a1_6)) else (spec_ServerHear.j0 k true l0_0 a0_1 a0_2 a1_0 a1_1 a1_2 a1_3 a1_4 a1_5 a1_6))
theorem spec_ServerHear.mono_l:∀ k,(∀ y0 y1 y2 y3 y4 y5 y6 y7 y8 y9 y10,LeO (spec_ServerHear.j0 k y0 y1 y2 y3 y4 y5 y6 y7 y8 y9 y10) (spec_ServerHear.j0 (k+1) y0 y1 y2 y3 y4 y5 y6 y7 y8 y9 y10))
 | 0=>fun _ _ _ _ _ _ _ _ _ _ _ r h=>by simp [spec_ServerHear.j0] at h
 | k+1=>by
  have ih0:=spec_ServerHear.mono_l k
  ·intro y0 y1 y2 y3 y4 y5 y6 y7 y8 y9 y10
   unfold spec_ServerHear.j0
   repeat' first
   | (with_reducible exact ih0 _ _ _ _ _ _ _ _ _ _ _)
   | (with_reducible exact spec_EntryOk.mono _ _ _ _ _ _ _ _)
   | (with_reducible exact spec_ServerOk.mono _ _ _ _)
   | (with_reducible exact spec_l13Hear.mono _ _ _ _ _ _ _ _ _ _ _)
   | (with_reducible exact LeO.refl _)
   | (with_reducible exact LeO.none _)
   | (with_reducible refine LeO.ite ?_ ?_)
   | (with_reducible refine LeO.bind ?_ (fun _=>?_))
   | exact ih0 _ _ _ _ _ _ _ _ _ _ _
   | exact spec_EntryOk.mono _ _ _ _ _ _ _ _
   | exact spec_ServerOk.mono _ _ _ _
   | exact spec_l13Hear.mono _ _ _ _ _ _ _ _ _ _ _
   | exact LeO.none _
   | refine LeO.ite ?_ ?_
   | refine LeO.bind ?_ (fun _=>?_)
theorem spec_ServerHear.mono:∀ a0 a1 a2 a3 a4 a5 a6 a7 a8 a9 k,LeO (spec_ServerHear.f k a0 a1 a2 a3 a4 a5 a6 a7 a8 a9) (spec_ServerHear.f (k+1) a0 a1 a2 a3 a4 a5 a6 a7 a8 a9):=by
 intro a0 a1 a2 a3 a4 a5 a6 a7 a8 a9 k
 have ih0:=spec_ServerHear.mono_l k
 unfold spec_ServerHear.f
 repeat' first
   | (with_reducible exact ih0 _ _ _ _ _ _ _ _ _ _ _)
   | (with_reducible exact spec_EntryOk.mono _ _ _ _ _ _ _ _)
   | (with_reducible exact spec_ServerOk.mono _ _ _ _)
   | (with_reducible exact spec_l13Hear.mono _ _ _ _ _ _ _ _ _ _ _)
   | (with_reducible exact LeO.refl _)
   | (with_reducible exact LeO.none _)
   | (with_reducible refine LeO.ite ?_ ?_)
   | (with_reducible refine LeO.bind ?_ (fun _=>?_))
   | exact ih0 _ _ _ _ _ _ _ _ _ _ _
   | exact spec_EntryOk.mono _ _ _ _ _ _ _ _
   | exact spec_ServerOk.mono _ _ _ _
   | exact spec_l13Hear.mono _ _ _ _ _ _ _ _ _ _ _
   | exact LeO.none _
   | refine LeO.ite ?_ ?_
   | refine LeO.bind ?_ (fun _=>?_)
def spec_ServerHear.T3:Bool×List (List Nat×List Nat):=(true,[([],[]),([0],[0]),([],[]),([1,2,1],[1,2]),([3],[3]),([3],[3]),([4,3,0,1,2,3,4,5],[4]),([5,6,0,1,2,3,4,5,6],[5])])
def spec_ServerHear.B3:List Nat:=[0,1,0,7,15,15,63,127]
theorem spec_ServerHear.tab3:rtab .any (opsOf Tryd.f21 3)=spec_ServerHear.T3:=by kernel_rfl
theorem spec_ServerHear.bits3:waitsOk spec_ServerHear.T3.2 spec_ServerHear.B3=true:=by kernel_rfl
end Go.Proofs.YtdpklbomhdpimaaDoor.P
