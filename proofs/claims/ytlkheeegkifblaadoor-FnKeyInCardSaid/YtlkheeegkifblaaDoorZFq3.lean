/- Joined by a program (wip/shake.py): the declarations that 'YtlkheeegkifblaaDoorCardFnKeyIn' reaches. -/
import Derived.Test.YtlkheeegkifblaaDoorZFq2
set_option linter.unusedVariables false
set_option linter.unusedSimpArgs false
set_option linter.unusedSectionVars false
set_option maxHeartbeats 8000000
set_option maxRecDepth 100000
namespace Go.Proofs.YtlkheeegkifblaaDoor.P
open Go.RowKit Go.Proofs.YtlkheeegkifblaaDoorW.PrintWords Go.Proofs.YtlkheeegkifblaaDoorW.PrintLast
theorem spec_l71Tree.calls (k:Nat) (g:Nat) (s0_0:List Int) (s0_1:Int) (r1:List (S37)) (r2:Int) (w0 w:World) (hI:IsS102 w0 w g s0_0 s0_1) (hB:Below w0.heap.size w0 w) (h:spec_l71Tree.f k s0_0 s0_1=some (r1,r2)) :
  Calls Tryd.prog 90 #[.pointer (some ⟨g,0,none⟩)] w fun e w'=>∃ v0_:Value,e=.returned (v0_)∧Kd.Q k37 37 w' w.heap.size (fun _=>True) v0_ r1∧IsS102 w0 w' g s0_0 r2∧Below w0.heap.size w0 w'∧KeepBut w w' g none:=by
 have hu27:=Tryd.underlying27
 have hu37:=Tryd.underlying37
 have HI0:=a_ hI
 have HK:=a_ (KeepBut.refl w g none)
 have HL:=a_ hB.size
 clear hI
 have HW0:=a_ hB.size
 have HB:=a_ hB
 clear hB
 unfold spec_l71Tree.f at h
 have H:=h
 clear h
 replace H:=bs_ H
 obtain ⟨t239,A20,H⟩:=H
 try dsimp only at H
 have A2:=a_ A20
 clear A20
 replace H:=bs_ H
 obtain ⟨⟨t242,t243⟩,A30,H⟩:=H
 try dsimp only at H
 have A3:=a_ A30
 clear A30
 have H':=a_ H
 clear H
 go_enter Tryd.func90,Tryd.ntmps90
 go_wp2_with (first|((with_reducible refine gC_ (f:=111) rfl ?_);refine gl_ 9 Tryd.func111 #[] ?_;(with_reducible refine (spec_TreeNew.calls  t239 _ A2.out).mono ?_);rintro e w4 ⟨v240,rfl,ho0,hb⟩;refine ⟨_,rfl,?_⟩;have HO241:=a_ (Kd.R_lower ho0 (keep_size (w:=w) (g:=g) (row:=none) (ke_)));replace HK:=a_ (KeepBut.trans (ke_) (KeepBut.of_below hb g none) (.inl rfl));replace HB:=a_ (bS_ (bel_) hb);replace HI0:=a_ (IsS102.below (is_HI0) hb);(try clear hb ho0))|((with_reducible refine gC_ (f:=73) rfl ?_);refine gl_ 11 Tryd.func73 #[.pointer (some ⟨g,0,none⟩),.int .i64 11] ?_;(with_reducible refine (spec_l6Rd_pick.calls k g s0_0 s0_1 11 t242 t243 w0 _ ?side1 ?side2 A3.out).mono ?_);(case side1=>exact is_HI0);(case side2=>exact bel_);rintro e w5 ⟨rfl,hi,hb,hk⟩;refine ⟨_,rfl,?_⟩;replace HO241:=a_ (Kd.R_mono (Kd.R_keep (IsS102.apart (show IsS102 w0 _ g s0_0 s0_1 from is_HI0) (rp_ HO241.out) (by decide)) hk (fun _ h=>h.2)) (fun _ h=>h.1));replace HK:=a_ (KeepBut.trans (ke_) hk (.inl rfl));replace HB:=a_ (hb);replace HI0:=a_ (hi);(try clear hb hk hi)))
 go_loopg [3,4] k (fun kq v3 v4 w'=>∃ (x3_1:List (S37)) (x4_1:Int) (x1001_1:Int),v4=.int .i64 x4_1∧Aside0 (spec_l71Tree.l0 kq x3_1 x4_1 s0_0 x1001_1=some (r1,r2))∧Aside0 (kq≤k)∧Aside0 (Kd.R k37 37 w' w.heap.size (fun _=>True) v3 x3_1)∧Aside0 (IsS102 w0 w' g s0_0 x1001_1)∧Aside0 (KeepBut w w' g none)∧Aside0 (Below w0.heap.size w0 w'))
 case atStart=>exact ⟨(t239),(t242),(t243),(si_),H',⟨Nat.le_refl _⟩,⟨by (with_reducible repeat (first|apply Kd.R_alloc|apply Kd.R_drewN|apply Kd.R_drew));exact HO241.out⟩,⟨is_HI0⟩,⟨ke_⟩,⟨bel_⟩⟩
 case round =>
  clear H'
  try clear c1
  try clear p2
  obtain ⟨x3_1,x4_1,x1001_1,rfl,HA,HK1,HO_3,HI0,HK,HB⟩:=hrel
  cases gk with
  | zero=>exact absurd HA.out (by simp [spec_l71Tree.l0])
  | succ k1 =>
   have H:=HA.out
   clear HA
   simp only [spec_l71Tree.l0] at H
   by_cases c6:x4_1 > 0
   ·rw [if_pos c6] at H
    have c6b0:decide (0 < x4_1)=true:=dt_ c6
    clear c6
    have HC7:=a_ H
    clear H
    go_upto_region 6 with (fail)
    go_cut [23] (fun v23 wc=>∃ (kq:Nat) (x23_6:Bool) (x1001_6:Int),v23=.bool x23_6∧Aside0 (spec_l71Tree.j1 kq x3_1 x4_1 1 x23_6 s0_0 x1001_6=some (r1,r2))∧Aside0 (kq≤k1)∧Aside0 (Kd.R k37 37 wc w.heap.size (fun _=>True) u3 x3_1)∧Aside0 (IsS102 w0 wc g s0_0 x1001_6)∧Aside0 (KeepBut w wc g none)∧Aside0 (Below w0.heap.size w0 wc))
    case first =>
     have H:=HC7.out
     clear HC7
     by_cases c8:(x3_1.length:Int) > 3
     ·rw [if_pos c8] at H
      have c8b0:decide (3 < (x3_1.length:Int))=true:=dt_ c8
      have c8b1:decide (3 < x3_1.length)=true:=dt_ (by omega)
      clear c8
      (first|rw [c8b0]|(simp only [i64_w,i32_w];rw [c8b0])|skip)
      replace H:=bs_ H
      obtain ⟨⟨t244,t245⟩,A90,H⟩:=H
      try dsimp only at H
      have A9:=a_ A90
      clear A90
      have H':=a_ H
      clear H
      obtain ⟨Ao10,co10,eo10⟩:=Kd.R_slice HO_3.out
      subst eo10
      go_wp2_with (first|(go_at_call 73;(with_reducible refine (spec_l6Rd_pick.calls k1 g s0_0 x1001_1 3 t244 t245 w0 _ ?side1 ?side2 A9.out).mono ?_);(case side1=>exact is_HI0);(case side2=>exact bel_);rintro e w11 ⟨rfl,hi,hb,hk⟩;replace HO_3:=a_ (Kd.R_mono (Kd.R_keep (IsS102.apart (show IsS102 w0 _ g s0_0 x1001_1 from is_HI0) (rp_ HO_3.out) (by decide)) hk (fun _ h=>h.2)) (fun _ h=>h.1));replace HK:=a_ (KeepBut.trans (ke_) hk (.inl rfl));replace HB:=a_ (hb);replace HI0:=a_ (hi);(try clear hb hk hi)))
      go_meet
      case rel=>exact ⟨_,(decide (t244 > 0)),(t245),(si_),H',⟨by have:=HK1.out;first|omega|exact Nat.le_refl _⟩,⟨by (with_reducible repeat (first|apply Kd.R_alloc|apply Kd.R_drewN|apply Kd.R_drew));exact HO_3.out⟩,⟨is_HI0⟩,⟨ke_⟩,⟨bel_⟩⟩
     ·rw [if_neg c8] at H
      have c8b0:decide (3 < (x3_1.length:Int))=false:=df_ c8
      have c8b1:decide (3 < x3_1.length)=false:=df_ (by omega)
      clear c8
      (first|rw [c8b0]|(simp only [i64_w,i32_w];rw [c8b0])|skip)
      have H':=a_ H
      clear H
      obtain ⟨Ao12,co12,eo12⟩:=Kd.R_slice HO_3.out
      subst eo12
      go_wp2
      go_meet
      case rel=>exact ⟨_,(false),(x1001_1),(si_),H',⟨by have:=HK1.out;first|omega|exact Nat.le_refl _⟩,⟨by (with_reducible repeat (first|apply Kd.R_alloc|apply Kd.R_drewN|apply Kd.R_drew));exact HO_3.out⟩,⟨is_HI0⟩,⟨ke_⟩,⟨bel_⟩⟩
    case rest =>
     clear HC7
     try clear c1
     try clear p2
     try clear c6
     try clear c6b0
     try clear c7
     try clear c8
     try clear c8b0
     try clear c8b1
     try clear c9
     try clear c11
     try clear p2
     obtain ⟨kq,x23_6,x1001_6,rfl,HA,HJ6,HO_3,HI0,HK,HB⟩:=hcut
     cases kq with
     | zero=>exact absurd HA.out (by simp [spec_l71Tree.j1])
     | succ kj6 =>
      have H:=HA.out
      clear HA
      simp only [spec_l71Tree.j1] at H
      have HC13:=a_ H
      clear H
      go_upto_if 23 with (fail)
      go_cut [5] (fun v5 wc=>∃ (kq:Nat) (x5_12:Int) (x1001_12:Int),v5=.int .i64 x5_12∧Aside0 (spec_l71Tree.j2 kq x3_1 x4_1 x5_12 s0_0 x1001_12=some (r1,r2))∧Aside0 (kq≤kj6)∧Aside0 (Kd.R k37 37 wc w.heap.size (fun _=>True) u3 x3_1)∧Aside0 (IsS102 w0 wc g s0_0 x1001_12)∧Aside0 (KeepBut w wc g none)∧Aside0 (Below w0.heap.size w0 wc))
      case first =>
       have H:=HC13.out
       clear HC13
       by_cases c14:x23_6=true
       ·subst c14
        have H1:((spec_l6Rd_pick.f kj6 s0_0 x1001_6 (x3_1.length:Int)).bind fun bt246=>(if 0≤bt246.1 then (if bt246.1 < (x3_1.length:Int) then (spec_l71Tree.j2 kj6 x3_1 x4_1 ((rd_T37 x3_1 bt246.1).f0) s0_0 bt246.2) else (none)) else (none)))=some (r1,r2):=by rw [if_pos rfl] at H;exact H
        clear H
        have H:=H1
        clear H1
        replace H:=bs_ H
        obtain ⟨⟨t246,t247⟩,A150,H⟩:=H
        try dsimp only at H
        have A15:=a_ A150
        clear A150
        by_cases c16:0≤t246
        ·rw [if_pos c16] at H
         have c16b0:decide (0≤t246)=true:=dt_ c16
         clear c16
         (first|rw [c16b0]|(simp only [i64_w,i32_w];rw [c16b0])|skip)
         by_cases c17:t246 < (x3_1.length:Int)
         ·rw [if_pos c17] at H
          have c17b0:decide (t246 < (x3_1.length:Int))=true:=dt_ c17
          clear c17
          have H':=a_ H
          clear H
          obtain ⟨Ao18,co18,eo18⟩:=Kd.R_slice HO_3.out
          subst eo18
          go_wp2_with (first|((with_reducible refine gC_ (f:=73) rfl ?_);refine gl_ 28 Tryd.func73 #[.pointer (some ⟨g,0,none⟩),.int .i64 (x3_1.length:Int)] ?_;(with_reducible refine (spec_l6Rd_pick.calls kj6 g s0_0 x1001_6 (x3_1.length:Int) t246 t247 w0 _ ?side1 ?side2 A15.out).mono ?_);(case side1=>exact is_HI0);(case side2=>exact bel_);rintro e w19 ⟨rfl,hi,hb,hk⟩;refine ⟨_,rfl,?_⟩;replace HO_3:=a_ (Kd.R_mono (Kd.R_keep (IsS102.apart (show IsS102 w0 _ g s0_0 x1001_6 from is_HI0) (rp_ HO_3.out) (by decide)) hk (fun _ h=>h.2)) (fun _ h=>h.1));replace HK:=a_ (KeepBut.trans (ke_) hk (.inl rfl));replace HB:=a_ (hb);replace HI0:=a_ (hi);(try clear hb hk hi);have p248:0≤(t246:Int):=od_;have q248:t246 < (x3_1.length:Int):=od_;obtain ⟨ad248,e248,hx248_0,hx248_1,hx248_2⟩:=at_T37 (Kd.R_reads' HO_3.out).2.2 t246 p248 q248;cases e248;replace p248:=eq_true p248;replace q248:=eq_true q248))
          go_meet
          case rel=>exact ⟨_,((rd_T37 x3_1 t246).f0),(t247),(si_),H',⟨by have:=HK1.out;have:=HJ6.out;first|omega|exact Nat.le_refl _⟩,⟨by (with_reducible repeat (first|apply Kd.R_alloc|apply Kd.R_drewN|apply Kd.R_drew));exact HO_3.out⟩,⟨is_HI0⟩,⟨ke_⟩,⟨bel_⟩⟩
         ·rw [if_neg c17] at H
          exact absurd H (by simp)
        ·rw [if_neg c16] at H
         exact absurd H (by simp)
       ·replace c14:=Bool.eq_false_iff.mpr c14
        subst c14
        have H1:(spec_l71Tree.j2 kj6 x3_1 x4_1 1 s0_0 x1001_6)=some (r1,r2):=by rw [if_neg (show ¬ (false=true) by decide)] at H;exact H
        clear H
        have H:=H1
        clear H1
        have H':=a_ H
        clear H
        go_wp2
        go_meet
        case rel=>exact ⟨_,(1),(x1001_6),(si_),H',⟨by have:=HK1.out;have:=HJ6.out;first|omega|exact Nat.le_refl _⟩,⟨by (with_reducible repeat (first|apply Kd.R_alloc|apply Kd.R_drewN|apply Kd.R_drew));exact HO_3.out⟩,⟨is_HI0⟩,⟨ke_⟩,⟨bel_⟩⟩
      case rest =>
       clear HC13
       try clear c1
       try clear p2
       try clear q2
       try clear hx2
       try clear c6
       try clear c6b0
       try clear c7
       try clear c8
       try clear c8b0
       try clear c8b1
       try clear c9
       try clear c11
       try clear c14
       try clear c16
       try clear c16b0
       try clear c17
       try clear c17b0
       try clear hx248_0
       try clear hx248_1
       try clear hx248_2
       try clear p2
       try clear p248
       try clear q248
       obtain ⟨kq,x5_12,x1001_12,rfl,HA,HJ12,HO_3,HI0,HK,HB⟩:=hcut
       cases kq with
       | zero=>exact absurd HA.out (by simp [spec_l71Tree.j2])
       | succ kj12 =>
        have H:=HA.out
        clear HA
        simp only [spec_l71Tree.j2] at H
        replace H:=bs_ H
        obtain ⟨t249,A200,H⟩:=H
        try dsimp only at H
        have A20:=a_ A200
        clear A200
        have HC21:=a_ H
        clear H
        obtain ⟨Ao22,co22,eo22⟩:=Kd.R_slice HO_3.out
        subst eo22
        go_upto_region 10 with (first|((with_reducible refine gC_ (f:=70) rfl ?_);refine gl_ 34 Tryd.func70 #[.slice Ao22 x3_1.length co22,.int .i64 x5_12] ?_;(with_reducible refine (spec_l2Kids.calls kj12 _ _ x3_1 x5_12 t249 _ ?side1 ?side2 A20.out).mono ?_);(case side1=>exact cx_ (Kd.R_reads' HO_3.out).2.2);(case side2=>exact (Kd.R_reads' HO_3.out).2.1);rintro e w23 ⟨v250,rfl,ho0,hb⟩;refine ⟨_,rfl,?_⟩;replace HO_3:=a_ (Kd.R_below (rp_ HO_3.out) hb);have HO251:=a_ (Kd.R_lower ho0 (keep_size (w:=w) (g:=g) (row:=none) (ke_)));replace HK:=a_ (KeepBut.trans (ke_) (KeepBut.of_below hb g none) (.inl rfl));replace HB:=a_ (bS_ (bel_) hb);replace HI0:=a_ (IsS102.below (is_HI0) hb);(try clear hb ho0)))
        (try simp only [Act.put,List.setIfInBounds_toArray,List.set_cons_zero,List.set_cons_succ])
        go_cut [42] (fun v42 wc=>∃ (kq:Nat) (x42_20:Bool) (x1001_20:Int),v42=.bool x42_20∧Aside0 (spec_l71Tree.j3 kq x3_1 x4_1 x5_12 t249 0 x42_20 s0_0 x1001_20=some (r1,r2))∧Aside0 (kq≤kj12)∧Aside0 (Kd.R k37 37 wc w.heap.size (fun _=>True) (.slice Ao22 x3_1.length co22) x3_1)∧Aside0 (Kd.R (Kd.int .i64) 3 wc w.heap.size (fun _=>True) v250 t249)∧Aside0 (IsS102 w0 wc g s0_0 x1001_20)∧Aside0 (KeepBut w wc g none)∧Aside0 (Below w0.heap.size w0 wc))
        case first =>
         have H:=HC21.out
         clear HC21
         by_cases c24:(t249.length:Int) > 0
         ·rw [if_pos c24] at H
          have c24b0:decide (0 < (t249.length:Int))=true:=dt_ c24
          have c24b1:decide (0 < t249.length)=true:=dt_ (by omega)
          clear c24
          (first|rw [c24b0]|(simp only [i64_w,i32_w];rw [c24b0])|skip)
          replace H:=bs_ H
          obtain ⟨⟨t252,t253⟩,A250,H⟩:=H
          try dsimp only at H
          have A25:=a_ A250
          clear A250
          have H':=a_ H
          clear H
          obtain ⟨Ao26,co26,eo26⟩:=Kd.R_slice HO251.out
          subst eo26
          go_wp2_with (first|(go_at_call 73;(with_reducible refine (spec_l6Rd_pick.calls kj12 g s0_0 x1001_12 2 t252 t253 w0 _ ?side1 ?side2 A25.out).mono ?_);(case side1=>exact is_HI0);(case side2=>exact bel_);rintro e w27 ⟨rfl,hi,hb,hk⟩;replace HO_3:=a_ (Kd.R_mono (Kd.R_keep (IsS102.apart (show IsS102 w0 _ g s0_0 x1001_12 from is_HI0) (rp_ HO_3.out) (by decide)) hk (fun _ h=>h.2)) (fun _ h=>h.1));replace HO251:=a_ (Kd.R_mono (Kd.R_keep (IsS102.apart (show IsS102 w0 _ g s0_0 x1001_12 from is_HI0) (rp_ HO251.out) (by decide)) hk (fun _ h=>h.2)) (fun _ h=>h.1));replace HK:=a_ (KeepBut.trans (ke_) hk (.inl rfl));replace HB:=a_ (hb);replace HI0:=a_ (hi);(try clear hb hk hi)))
          go_meet
          case rel=>exact ⟨_,((t252==0)),(t253),(si_),H',⟨by have:=HK1.out;have:=HJ6.out;have:=HJ12.out;first|omega|exact Nat.le_refl _⟩,⟨by (with_reducible repeat (first|apply Kd.R_alloc|apply Kd.R_drewN|apply Kd.R_drew));exact HO_3.out⟩,⟨by (with_reducible repeat (first|apply Kd.R_alloc|apply Kd.R_drewN|apply Kd.R_drew));exact HO251.out⟩,⟨is_HI0⟩,⟨ke_⟩,⟨bel_⟩⟩
         ·rw [if_neg c24] at H
          have c24b0:decide (0 < (t249.length:Int))=false:=df_ c24
          have c24b1:decide (0 < t249.length)=false:=df_ (by omega)
          clear c24
          (first|rw [c24b0]|(simp only [i64_w,i32_w];rw [c24b0])|skip)
          have H':=a_ H
          clear H
          obtain ⟨Ao28,co28,eo28⟩:=Kd.R_slice HO251.out
          subst eo28
          go_wp2
          go_meet
          case rel=>exact ⟨_,(false),(x1001_12),(si_),H',⟨by have:=HK1.out;have:=HJ6.out;have:=HJ12.out;first|omega|exact Nat.le_refl _⟩,⟨by (with_reducible repeat (first|apply Kd.R_alloc|apply Kd.R_drewN|apply Kd.R_drew));exact HO_3.out⟩,⟨by (with_reducible repeat (first|apply Kd.R_alloc|apply Kd.R_drewN|apply Kd.R_drew));exact HO251.out⟩,⟨is_HI0⟩,⟨ke_⟩,⟨bel_⟩⟩
        case rest =>
         clear HC21
         try clear c1
         try clear c2
         try clear p2
         try clear q2
         try clear hx2
         try clear c6
         try clear c6b0
         try clear c7
         try clear c8
         try clear c8b0
         try clear c8b1
         try clear c9
         try clear c11
         try clear c14
         try clear c16
         try clear c16b0
         try clear c17
         try clear c17b0
         try clear c24
         try clear c24b0
         try clear c24b1
         try clear p24
         try clear q24
         try clear hx24
         try clear hx248_0
         try clear hx248_1
         try clear hx248_2
         try clear p2
         try clear p248
         try clear q2
         try clear q248
         obtain ⟨kq,x42_20,x1001_20,rfl,HA,HJ20,HO_3,HO_6,HI0,HK,HB⟩:=hcut
         cases kq with
         | zero=>exact absurd HA.out (by simp [spec_l71Tree.j3])
         | succ kj20 =>
          have H:=HA.out
          clear HA
          simp only [spec_l71Tree.j3] at H
          by_cases c29:x42_20=true
          ·subst c29
           have H1:((spec_l6Rd_pick.f kj20 s0_0 x1001_20 (t249.length:Int)).bind fun bt254=>(if 0≤bt254.1 then (if bt254.1 < (t249.length:Int) then ((spec_l71Id.f kj20 s0_0 bt254.2).bind fun bt257=>((spec_l71Text.f kj20 s0_0 bt257.2).bind fun bt259=>((spec_l3Do.f kj20 x3_1 1 bt257.1 x5_12 (rd t249 bt254.1) bt259.1).bind fun t261=>(spec_l71Tree.l0 kj20 t261 (wrap64 (x4_1 - 1)) s0_0 bt259.2)))) else (none)) else (none)))=some (r1,r2):=by rw [if_pos rfl] at H;exact H
           clear H
           have H:=H1
           clear H1
           replace H:=bs_ H
           obtain ⟨⟨t254,t255⟩,A300,H⟩:=H
           try dsimp only at H
           have A30:=a_ A300
           clear A300
           by_cases c31:0≤t254
           ·rw [if_pos c31] at H
            have c31b0:decide (0≤t254)=true:=dt_ c31
            clear c31
            by_cases c32:t254 < (t249.length:Int)
            ·rw [if_pos c32] at H
             have c32b0:decide (t254 < (t249.length:Int))=true:=dt_ c32
             clear c32
             replace H:=bs_ H
             obtain ⟨⟨t257,t258⟩,A330,H⟩:=H
             try dsimp only at H
             have A33:=a_ A330
             clear A330
             replace H:=bs_ H
             obtain ⟨⟨t259,t260⟩,A340,H⟩:=H
             try dsimp only at H
             have A34:=a_ A340
             clear A340
             replace H:=bs_ H
             obtain ⟨t261,A350,H⟩:=H
             try dsimp only at H
             have A35:=a_ A350
             clear A350
             have H':=a_ H
             clear H
             obtain ⟨Ao36,co36,eo36⟩:=Kd.R_slice HO_6.out
             subst eo36
             go_wp2_with (first|((with_reducible refine gC_ (f:=73) rfl ?_);refine gl_ 47 Tryd.func73 #[.pointer (some ⟨g,0,none⟩),.int .i64 (t249.length:Int)] ?_;(with_reducible refine (spec_l6Rd_pick.calls kj20 g s0_0 x1001_20 (t249.length:Int) t254 t255 w0 _ ?side1 ?side2 A30.out).mono ?_);(case side1=>exact is_HI0);(case side2=>exact bel_);rintro e w37 ⟨rfl,hi,hb,hk⟩;refine ⟨_,rfl,?_⟩;replace HO_3:=a_ (Kd.R_mono (Kd.R_keep (IsS102.apart (show IsS102 w0 _ g s0_0 x1001_20 from is_HI0) (rp_ HO_3.out) (by decide)) hk (fun _ h=>h.2)) (fun _ h=>h.1));replace HO_6:=a_ (Kd.R_mono (Kd.R_keep (IsS102.apart (show IsS102 w0 _ g s0_0 x1001_20 from is_HI0) (rp_ HO_6.out) (by decide)) hk (fun _ h=>h.2)) (fun _ h=>h.1));replace HK:=a_ (KeepBut.trans (ke_) hk (.inl rfl));replace HB:=a_ (hb);replace HI0:=a_ (hi);(try clear hb hk hi);have p256:0≤(t254:Int):=od_;have q256:t254 < (t249.length:Int):=od_;obtain ⟨ad256,e256,hx256_0⟩:=Kd.at_int (Kd.R_reads' HO_6.out).2.2 t254 p256 q256;cases e256;replace p256:=eq_true p256;replace q256:=eq_true q256)|((with_reducible refine gC_ (f:=91) rfl ?_);refine gl_ 52 Tryd.func91 #[.pointer (some ⟨g,0,none⟩)] ?_;(with_reducible refine (spec_l71Id.calls kj20 g s0_0 t255 t257 t258 w0 _ ?side1 ?side2 A33.out).mono ?_);(case side1=>exact is_HI0);(case side2=>exact bel_);rintro e w38 ⟨rfl,hi,hb,hk⟩;refine ⟨_,rfl,?_⟩;replace HO_3:=a_ (Kd.R_mono (Kd.R_keep (IsS102.apart (show IsS102 w0 _ g s0_0 t255 from is_HI0) (rp_ HO_3.out) (by decide)) hk (fun _ h=>h.2)) (fun _ h=>h.1));replace HO_6:=a_ (Kd.R_mono (Kd.R_keep (IsS102.apart (show IsS102 w0 _ g s0_0 t255 from is_HI0) (rp_ HO_6.out) (by decide)) hk (fun _ h=>h.2)) (fun _ h=>h.1));replace HK:=a_ (KeepBut.trans (ke_) hk (.inl rfl));replace HB:=a_ (hb);replace HI0:=a_ (hi);(try clear hb hk hi))|((with_reducible refine gC_ (f:=112) rfl ?_);refine gl_ 56 Tryd.func112 #[.pointer (some ⟨g,0,none⟩)] ?_;(with_reducible refine (spec_l71Text.calls kj20 g s0_0 t258 t259 t260 w0 _ ?side1 ?side2 A34.out).mono ?_);(case side1=>exact is_HI0);(case side2=>exact bel_);rintro e w39 ⟨rfl,hi,hb,hk⟩;refine ⟨_,rfl,?_⟩;replace HO_3:=a_ (Kd.R_mono (Kd.R_keep (IsS102.apart (show IsS102 w0 _ g s0_0 t258 from is_HI0) (rp_ HO_3.out) (by decide)) hk (fun _ h=>h.2)) (fun _ h=>h.1));replace HO_6:=a_ (Kd.R_mono (Kd.R_keep (IsS102.apart (show IsS102 w0 _ g s0_0 t258 from is_HI0) (rp_ HO_6.out) (by decide)) hk (fun _ h=>h.2)) (fun _ h=>h.1));replace HK:=a_ (KeepBut.trans (ke_) hk (.inl rfl));replace HB:=a_ (hb);replace HI0:=a_ (hi);(try clear hb hk hi))|((with_reducible refine gC_ (f:=81) rfl ?_);refine gl_ 58 Tryd.func81 #[.slice Ao22 x3_1.length co22,.agg #[.int .i64 1,.int .i64 t257,.int .i64 x5_12,.int .i64 (rd t249 t254),.string t259]] ?_;(with_reducible refine (spec_l3Do.calls kj20 _ _ x3_1 1 t257 x5_12 (rd t249 t254) t259 t261 _ ?side1 ?side2 A35.out).mono ?_);(case side1=>exact cx_ (Kd.R_reads' HO_3.out).2.2);(case side2=>exact (Kd.R_reads' HO_3.out).2.1);rintro e w40 ⟨v262,rfl,ho0,hb⟩;refine ⟨_,rfl,?_⟩;replace HO_6:=a_ (Kd.R_below (rp_ HO_6.out) hb);have HO263:=a_ (Kd.R_lower (Kd.R_new' ho0 (Kd.R_lt (rp_ HO_3.out))) (keep_size (w:=w) (g:=g) (row:=none) (ke_)));replace HO_3:=a_ (Kd.R_elder' (rp_ HO_3.out) (Kd.R_base ho0) hb);replace HK:=a_ (KeepBut.trans (ke_) (KeepBut.of_below hb g none) (.inl rfl));replace HB:=a_ (bS_ (bel_) hb);replace HI0:=a_ (IsS102.below (is_HI0) hb);(try clear hb ho0)))
             go_roundg kj20
             case measure=>have:=HK1.out;have:=HJ6.out;have:=HJ12.out;have:=HJ20.out;omega
             case rel=>exact ⟨(t261),(wrap64 (x4_1 - 1)),(t260),(si_),H',⟨by have:=HK1.out;have:=HJ6.out;have:=HJ12.out;have:=HJ20.out;omega⟩,⟨by (with_reducible repeat (first|apply Kd.R_alloc|apply Kd.R_drewN|apply Kd.R_drew));exact Kd.R_mono HO263.out (fun _ hk=>trivial)⟩,⟨is_HI0⟩,⟨ke_⟩,⟨bel_⟩⟩
            ·rw [if_neg c32] at H
             exact absurd H (by simp)
           ·rw [if_neg c31] at H
            exact absurd H (by simp)
          ·replace c29:=Bool.eq_false_iff.mpr c29
           subst c29
           have H1:((spec_l71Id.f kj20 s0_0 x1001_20).bind fun bt264=>((spec_l71Text.f kj20 s0_0 bt264.2).bind fun bt266=>((spec_l3Do.f kj20 x3_1 1 bt264.1 x5_12 0 bt266.1).bind fun t268=>(spec_l71Tree.l0 kj20 t268 (wrap64 (x4_1 - 1)) s0_0 bt266.2))))=some (r1,r2):=by rw [if_neg (show ¬ (false=true) by decide)] at H;exact H
           clear H
           have H:=H1
           clear H1
           replace H:=bs_ H
           obtain ⟨⟨t264,t265⟩,A410,H⟩:=H
           try dsimp only at H
           have A41:=a_ A410
           clear A410
           replace H:=bs_ H
           obtain ⟨⟨t266,t267⟩,A420,H⟩:=H
           try dsimp only at H
           have A42:=a_ A420
           clear A420
           replace H:=bs_ H
           obtain ⟨t268,A430,H⟩:=H
           try dsimp only at H
           have A43:=a_ A430
           clear A430
           have H':=a_ H
           clear H
           go_wp2_with (first|((with_reducible refine gC_ (f:=91) rfl ?_);refine gl_ 52 Tryd.func91 #[.pointer (some ⟨g,0,none⟩)] ?_;(with_reducible refine (spec_l71Id.calls kj20 g s0_0 x1001_20 t264 t265 w0 _ ?side1 ?side2 A41.out).mono ?_);(case side1=>exact is_HI0);(case side2=>exact bel_);rintro e w44 ⟨rfl,hi,hb,hk⟩;refine ⟨_,rfl,?_⟩;replace HO_3:=a_ (Kd.R_mono (Kd.R_keep (IsS102.apart (show IsS102 w0 _ g s0_0 x1001_20 from is_HI0) (rp_ HO_3.out) (by decide)) hk (fun _ h=>h.2)) (fun _ h=>h.1));replace HO_6:=a_ (Kd.R_mono (Kd.R_keep (IsS102.apart (show IsS102 w0 _ g s0_0 x1001_20 from is_HI0) (rp_ HO_6.out) (by decide)) hk (fun _ h=>h.2)) (fun _ h=>h.1));replace HK:=a_ (KeepBut.trans (ke_) hk (.inl rfl));replace HB:=a_ (hb);replace HI0:=a_ (hi);(try clear hb hk hi))|((with_reducible refine gC_ (f:=112) rfl ?_);refine gl_ 56 Tryd.func112 #[.pointer (some ⟨g,0,none⟩)] ?_;(with_reducible refine (spec_l71Text.calls kj20 g s0_0 t265 t266 t267 w0 _ ?side1 ?side2 A42.out).mono ?_);(case side1=>exact is_HI0);(case side2=>exact bel_);rintro e w45 ⟨rfl,hi,hb,hk⟩;refine ⟨_,rfl,?_⟩;replace HO_3:=a_ (Kd.R_mono (Kd.R_keep (IsS102.apart (show IsS102 w0 _ g s0_0 t265 from is_HI0) (rp_ HO_3.out) (by decide)) hk (fun _ h=>h.2)) (fun _ h=>h.1));replace HO_6:=a_ (Kd.R_mono (Kd.R_keep (IsS102.apart (show IsS102 w0 _ g s0_0 t265 from is_HI0) (rp_ HO_6.out) (by decide)) hk (fun _ h=>h.2)) (fun _ h=>h.1));replace HK:=a_ (KeepBut.trans (ke_) hk (.inl rfl));replace HB:=a_ (hb);replace HI0:=a_ (hi);(try clear hb hk hi))|((with_reducible refine gC_ (f:=81) rfl ?_);refine gl_ 58 Tryd.func81 #[.slice Ao22 x3_1.length co22,.agg #[.int .i64 1,.int .i64 t264,.int .i64 x5_12,.int .i64 0,.string t266]] ?_;(with_reducible refine (spec_l3Do.calls kj20 _ _ x3_1 1 t264 x5_12 0 t266 t268 _ ?side1 ?side2 A43.out).mono ?_);(case side1=>exact cx_ (Kd.R_reads' HO_3.out).2.2);(case side2=>exact (Kd.R_reads' HO_3.out).2.1);rintro e w46 ⟨v269,rfl,ho0,hb⟩;refine ⟨_,rfl,?_⟩;replace HO_6:=a_ (Kd.R_below (rp_ HO_6.out) hb);have HO270:=a_ (Kd.R_lower (Kd.R_new' ho0 (Kd.R_lt (rp_ HO_3.out))) (keep_size (w:=w) (g:=g) (row:=none) (ke_)));replace HO_3:=a_ (Kd.R_elder' (rp_ HO_3.out) (Kd.R_base ho0) hb);replace HK:=a_ (KeepBut.trans (ke_) (KeepBut.of_below hb g none) (.inl rfl));replace HB:=a_ (bS_ (bel_) hb);replace HI0:=a_ (IsS102.below (is_HI0) hb);(try clear hb ho0)))
           go_roundg kj20
           case measure=>have:=HK1.out;have:=HJ6.out;have:=HJ12.out;have:=HJ20.out;omega
           case rel=>exact ⟨(t268),(wrap64 (x4_1 - 1)),(t267),(si_),H',⟨by have:=HK1.out;have:=HJ6.out;have:=HJ12.out;have:=HJ20.out;omega⟩,⟨by (with_reducible repeat (first|apply Kd.R_alloc|apply Kd.R_drewN|apply Kd.R_drew));exact Kd.R_mono HO270.out (fun _ hk=>trivial)⟩,⟨is_HI0⟩,⟨ke_⟩,⟨bel_⟩⟩
   ·rw [if_neg c6] at H
    have c6b0:decide (0 < x4_1)=false:=df_ c6
    clear c6
    have H':=a_ H
    clear H
    go_wp2
    go_loopg [8] k1 (fun kq v8 w'=>∃ (x3_2:List (S37)) (x8_2:Int) (x1001_2:Int),v8=.int .i64 x8_2∧Aside0 (spec_l71Tree.l1 kq x3_2 x8_2 s0_0 x1001_2=some (r1,r2))∧Aside0 (kq≤k1)∧Aside0 (Kd.R k37 37 w' w.heap.size (fun _=>True) u3 x3_2)∧Aside0 (IsS102 w0 w' g s0_0 x1001_2)∧Aside0 (KeepBut w w' g none)∧Aside0 (Below w0.heap.size w0 w'))
    case atStart=>exact ⟨(x3_1),(0),(x1001_1),(si_),H',⟨Nat.le_refl _⟩,⟨by (with_reducible repeat (first|apply Kd.R_alloc|apply Kd.R_drewN|apply Kd.R_drew));exact HO_3.out⟩,⟨is_HI0⟩,⟨ke_⟩,⟨bel_⟩⟩
    case round =>
     clear H'
     try clear c1
     try clear c2
     try clear p2
     try clear q2
     try clear hx2
     try clear c3
     try clear c6
     try clear c6b0
     try clear p6
     try clear c7
     try clear c8
     try clear c8b0
     try clear c8b1
     try clear c9
     try clear c11
     try clear c14
     try clear c16
     try clear c16b0
     try clear c17
     try clear c17b0
     try clear c24
     try clear c24b0
     try clear c24b1
     try clear p24
     try clear q24
     try clear hx24
     try clear p25
     try clear q25
     try clear hx25
     try clear c29
     try clear c31
     try clear c31b0
     try clear c32
     try clear c32b0
     try clear hx248_0
     try clear hx248_1
     try clear hx248_2
     try clear hx256_0
     try clear p2
     try clear p24
     try clear p248
     try clear p256
     try clear q2
     try clear q24
     try clear q248
     try clear q256
     obtain ⟨x3_2,x8_2,x1001_2,rfl,HA,HK2,HO_3,HI0,HK,HB⟩:=hrel
     cases gk with
     | zero=>exact absurd HA.out (by simp [spec_l71Tree.l1])
     | succ k2 =>
      have H:=HA.out
      clear HA
      simp only [spec_l71Tree.l1] at H
      by_cases c47:x8_2 < (x3_2.length:Int)
      ·rw [if_pos c47] at H
       have c47b0:decide (x8_2 < (x3_2.length:Int))=true:=dt_ c47
       clear c47
       by_cases c48:0≤x8_2
       ·rw [if_pos c48] at H
        have c48b0:decide (0≤x8_2)=true:=dt_ c48
        clear c48
        replace H:=bs_ H
        obtain ⟨t272,A490,H⟩:=H
        try dsimp only at H
        have A49:=a_ A490
        clear A490
        by_cases c50:t272=true
        ·subst c50
         have H1:(spec_l71Tree.l1 k2 x3_2 (wrap64 (x8_2+1)) s0_0 x1001_2)=some (r1,r2):=by rw [if_pos rfl] at H;exact H
         clear H
         have H:=H1
         clear H1
         have H':=a_ H
         clear H
         obtain ⟨Ao51,co51,eo51⟩:=Kd.R_slice HO_3.out
         subst eo51
         have p271:0≤(x8_2:Int):=od_
         have q271:x8_2 < (x3_2.length:Int):=od_
         obtain ⟨ad271,e271,hx271_0,hx271_1,hx271_2⟩:=at_T37 (Kd.R_reads' HO_3.out).2.2 x8_2 p271 q271
         cases e271
         replace p271:=eq_true p271
         replace q271:=eq_true q271
         go_wp2_with (first|((with_reducible refine gC_ (f:=87) rfl ?_);refine gl_ 70 Tryd.func87 #[.string ((rd_T37 x3_2 x8_2).f2)] ?_;(with_reducible refine (spec_l1Text.calls k2 ((rd_T37 x3_2 x8_2).f2) true _ A49.out).mono ?_);rintro e w' ⟨rfl,⟨nd,rfl⟩⟩;refine ⟨_,rfl,?_⟩))
         go_roundg k2
         case measure=>have:=HK1.out;have:=HK2.out;omega
         case rel=>exact ⟨(x3_2),(wrap64 (x8_2+1)),(x1001_2),(si_),H',⟨by have:=HK1.out;have:=HK2.out;omega⟩,⟨by (with_reducible repeat (first|apply Kd.R_alloc|apply Kd.R_drewN|apply Kd.R_drew));exact HO_3.out⟩,⟨is_HI0⟩,⟨ke_⟩,⟨bel_⟩⟩
        ·replace c50:=Bool.eq_false_iff.mpr c50
         subst c50
         have H1:((spec_l6Rd_pick.f k2 s0_0 x1001_2 2).bind fun bt273=>(if bt273.1=0 then (spec_l71Tree.l1 k2 (x3_2.set (x8_2:Int).toNat (⟨(rd_T37 x3_2 x8_2).f0,(rd_T37 x3_2 x8_2).f1,(⟨#[]⟩:ByteArray)⟩:S37)) (wrap64 (x8_2+1)) s0_0 bt273.2) else (spec_l71Tree.l1 k2 x3_2 (wrap64 (x8_2+1)) s0_0 bt273.2)))=some (r1,r2):=by rw [if_neg (show ¬ (false=true) by decide)] at H;exact H
         clear H
         have H:=H1
         clear H1
         replace H:=bs_ H
         obtain ⟨⟨t273,t274⟩,A520,H⟩:=H
         try dsimp only at H
         have A52:=a_ A520
         clear A520
         by_cases c53:t273=0
         ·rw [if_pos c53] at H
          have c53b0:(t273==0)=true:=beq_iff_eq.mpr c53
          have c53b1:(t273 != 0)=false:=be_ c53
          clear c53
          obtain ⟨y275,hy275⟩:∃ y_:List (S37),y_=(x3_2.set (x8_2:Int).toNat (⟨(rd_T37 x3_2 x8_2).f0,(rd_T37 x3_2 x8_2).f1,(⟨#[]⟩:ByteArray)⟩:S37)):=⟨_,rfl⟩
          replace H:(spec_l71Tree.l1 k2 y275 (wrap64 (x8_2+1)) s0_0 t274)=some (r1,r2):=by first|(rw [hy275];with_reducible exact H)|(have H2_:=(Option.bind_some _ _).symm.trans H;rw [hy275];with_reducible exact H2_)|(have H2_:=(Option.bind_some _ _).symm.trans H;with_reducible exact H2_)|with_reducible exact H|(rw [hy275];exact H)|exact H
          have Ny275:=a_ hy275
          clear hy275
          have H':=a_ H
          clear H
          obtain ⟨Ao55,co55,eo55⟩:=Kd.R_slice HO_3.out
          subst eo55
          have p271:0≤(x8_2:Int):=od_
          have q271:x8_2 < (x3_2.length:Int):=od_
          obtain ⟨ad271,e271,hx271_0,hx271_1,hx271_2⟩:=at_T37 (Kd.R_reads' HO_3.out).2.2 x8_2 p271 q271
          cases e271
          replace p271:=eq_true p271
          replace q271:=eq_true q271
          go_wp2_with (first|((with_reducible refine gC_ (f:=87) rfl ?_);refine gl_ 70 Tryd.func87 #[.string ((rd_T37 x3_2 x8_2).f2)] ?_;(with_reducible refine (spec_l1Text.calls k2 ((rd_T37 x3_2 x8_2).f2) false _ A49.out).mono ?_);rintro e w' ⟨rfl,⟨nd,rfl⟩⟩;refine ⟨_,rfl,?_⟩;(try (rw [drewN_self wr];generalize hq_:World.drewN wr _=wr;have n0_:Aside0 (Kd.R k37 37 wr w.heap.size (fun _=>True) (.slice (some ad271) x3_2.length co55) x3_2):=⟨by rw [←hq_];exact (rp_ HO_3.out)⟩;have n1_:Aside0 (IsS102 w0 wr g s0_0 x1001_2):=⟨by rw [←hq_];exact (is_HI0)⟩;have n2_:Aside0 (KeepBut w wr g none):=⟨by rw [←hq_];exact (ke_)⟩;have n3_:Aside0 (Below w0.heap.size w0 wr):=⟨by rw [←hq_];exact (bel_)⟩;clear HO_3 HI0 HK HB hq_;have HO_3:=n0_;have HI0:=n1_;have HK:=n2_;have HB:=n3_;clear n0_ n1_ n2_ n3_)))|(go_at_call 73;(with_reducible refine (spec_l6Rd_pick.calls k2 g s0_0 x1001_2 2 t273 t274 w0 _ ?side1 ?side2 A52.out).mono ?_);(case side1=>exact is_HI0);(case side2=>exact bel_);rintro e w56 ⟨rfl,hi,hb,hk⟩;replace HO_3:=a_ (Kd.R_mono (Kd.R_keep (IsS102.apart (show IsS102 w0 _ g s0_0 x1001_2 from is_HI0) (rp_ HO_3.out) (by decide)) hk (fun _ h=>h.2)) (fun _ h=>h.1));replace HK:=a_ (KeepBut.trans (ke_) hk (.inl rfl));replace HB:=a_ (hb);replace HI0:=a_ (hi);(try clear hb hk hi);have p54:0≤(x8_2:Int):=od_;have q54:(x8_2:Int) < ((x3_2.length:Int):Int):=od_;obtain ⟨go54,co54,eo54,gb54,gl54,cl54,HG54⟩:=Kd.R_form HO_3.out (by omega);(first|cases eo54|(injection eo54 with ea_ en_ ec_;(first|subst ea_|(injection ea_ with ea_;subst ea_));subst ec_;clear en_));have GB54:=a_ gb54;have GG54:=a_ HG54;clear gb54 gl54 HG54;(first|simp only [add_plain] at hx271_0|skip);(first|simp only [add_plain] at hx271_1|skip);(first|simp only [add_plain] at hx271_2|skip);obtain ⟨ce54,hcl54,hM54,hcc54,hfr54⟩:=Kd.R_elem HO_3.out z37 (x8_2:Int) p54 q54;obtain rfl:=k37_openM hM54;have hx54_0:w56.cell? ⟨go54,(x8_2:Int).toNat * 3,none⟩=some (.int .i64 ((rd_T37 x3_2 x8_2).f0)):=hcc54 0 _ rfl;have hx54_1:w56.cell? ⟨go54,(x8_2:Int).toNat * 3+1,none⟩=some (.int .i64 ((rd_T37 x3_2 x8_2).f1)):=hcc54 1 _ rfl;have hx54_2:w56.cell? ⟨go54,(x8_2:Int).toNat * 3+2,none⟩=some (.string ((rd_T37 x3_2 x8_2).f2)):=hcc54 2 _ rfl;have hf54_0:w56.frozen? ⟨go54,(x8_2:Int).toNat * 3,none⟩=false:=hfr54 0;have hf54_1:w56.frozen? ⟨go54,(x8_2:Int).toNat * 3+1,none⟩=false:=hfr54 1;have hf54_2:w56.frozen? ⟨go54,(x8_2:Int).toNat * 3+2,none⟩=false:=hfr54 2;clear hcl54 hcc54 hfr54 hM54;replace p54:=eq_true p54;replace q54:=eq_true q54;have HX57:=a_ (show Kd.R k37 37 w56 w.heap.size (fun _=>True) (.slice (some ⟨go54,0,none⟩) x3_2.length co55) x3_2 from (rp_ HO_3.out));obtain ⟨ce57,hcl57,hM57,hcc57,hfr57⟩:=Kd.R_elem HX57.out z37 (x8_2:Int) (od_) (by have h_:(x8_2:Int) < ((x3_2.length:Int):Int):=od_;first|exact h_|(have e_:=(Kd.R_reads' HO_3.out).1;omega)|simpa using h_);obtain rfl:=k37_openM hM57;have HP57:=Kd.R_seg HX57.out (x8_2:Int) (od_) (by have h_:(x8_2:Int) < ((x3_2.length:Int):Int):=od_;first|exact h_|(have e_:=(Kd.R_reads' HO_3.out).1;omega)|simpa using h_) (seg:=[.string (⟨#[]⟩:ByteArray)]) (j:=2) hcl57 hcc57 (show 3≤3 from by decide) (x':=(⟨(rd_T37 x3_2 x8_2).f0,(rd_T37 x3_2 x8_2).f1,(⟨#[]⟩:ByteArray)⟩:S37)) (k37_mkM _ _ _ (⟨(rd_T37 x3_2 x8_2).f0,(rd_T37 x3_2 x8_2).f1,(⟨#[]⟩:ByteArray)⟩:S37) ) (fun _ hk=>hk);have hx57_2:=hcc57 2 _ rfl;(try simp only [show (k37).sz=3 from rfl,Nat.mul_one,Nat.add_zero] at hx57_2);have hf57_2:=hfr57 2;(try simp only [show (k37).sz=3 from rfl,Nat.mul_one,Nat.add_zero] at hf57_2);clear hcl57 hcc57 hfr57 hM57)|((with_reducible refine gate_store (t:=9) (p:=80) rfl ?_);refine store_event (t:=9) (p:=80) (v:=?vo_w58) (w1:=(w56.setCell ⟨go54,(x8_2:Int).toNat * 3+2,none⟩ (.string (⟨#[]⟩:ByteArray)))) ?hg ?ho ?hn ?hr ?_;(case ho=>rfl);(case hg=>rfl);(case hn=>rfl);(case hr=>first|(go_simp;done)|(go_simp;rfl));intro w58 hw;have hg:w56.grownBy w58 (some go54):=(by rw [hw];exact HP57.2);have hp_:Kd.R k37 37 w58 w.heap.size (fun _=>True) (.slice (some ⟨go54,0,none⟩) x3_2.length co55) y275:=(by rw [hw,Ny275.out];exact HP57.1);clear HP57;have n0_:=a_ (hp_);have n1_:=a_ (IsS102.grown (is_HI0) hg (IsS102.own_ne HI0.out HO_3.out (by decide)));have n2_:=a_ ((by rw [hw];exact wS_ (HB.out) (Nat.le_trans HL.out GB54.out):Below w0.heap.size w0 w58));have n3_:=a_ (KeepBut.trans (ke_) (KeepBut.of_grown hg g) (Kd.R_base2 HO_3.out));clear HO_3;clear HI0;clear HB;clear HK;have HO_3:=n0_;have HI0:=n1_;have HB:=n2_;have HK:=n3_;clear n0_ n1_ n2_ n3_;clear hg hw hp_))
          go_roundg k2
          case measure=>have:=HK1.out;have:=HK2.out;omega
          case rel=>exact ⟨(y275),(wrap64 (x8_2+1)),(t274),(si_),H',⟨by have:=HK1.out;have:=HK2.out;omega⟩,⟨by (with_reducible repeat (first|apply Kd.R_alloc|apply Kd.R_drewN|apply Kd.R_drew));exact HO_3.out⟩,⟨is_HI0⟩,⟨ke_⟩,⟨bel_⟩⟩
         ·rw [if_neg c53] at H
          have c53b0:(t273==0)=false:=bn_ c53
          have c53b1:(t273 != 0)=true:=bne_iff_ne.mpr c53
          have H':=a_ H
          clear H
          obtain ⟨Ao59,co59,eo59⟩:=Kd.R_slice HO_3.out
          subst eo59
          have p271:0≤(x8_2:Int):=od_
          have q271:x8_2 < (x3_2.length:Int):=od_
          obtain ⟨ad271,e271,hx271_0,hx271_1,hx271_2⟩:=at_T37 (Kd.R_reads' HO_3.out).2.2 x8_2 p271 q271
          cases e271
          replace p271:=eq_true p271
          replace q271:=eq_true q271
          go_wp2_with (first|((with_reducible refine gC_ (f:=87) rfl ?_);refine gl_ 70 Tryd.func87 #[.string ((rd_T37 x3_2 x8_2).f2)] ?_;(with_reducible refine (spec_l1Text.calls k2 ((rd_T37 x3_2 x8_2).f2) false _ A49.out).mono ?_);rintro e w' ⟨rfl,⟨nd,rfl⟩⟩;refine ⟨_,rfl,?_⟩)|(go_at_call 73;(with_reducible refine (spec_l6Rd_pick.calls k2 g s0_0 x1001_2 2 t273 t274 w0 _ ?side1 ?side2 A52.out).mono ?_);(case side1=>exact is_HI0);(case side2=>exact bel_);rintro e w60 ⟨rfl,hi,hb,hk⟩;replace HO_3:=a_ (Kd.R_mono (Kd.R_keep (IsS102.apart (show IsS102 w0 _ g s0_0 x1001_2 from is_HI0) (rp_ HO_3.out) (by decide)) hk (fun _ h=>h.2)) (fun _ h=>h.1));replace HK:=a_ (KeepBut.trans (ke_) hk (.inl rfl));replace HB:=a_ (hb);replace HI0:=a_ (hi);(try clear hb hk hi)))
          go_roundg k2
          case measure=>have:=HK1.out;have:=HK2.out;omega
          case rel=>exact ⟨(x3_2),(wrap64 (x8_2+1)),(t274),(si_),H',⟨by have:=HK1.out;have:=HK2.out;omega⟩,⟨by (with_reducible repeat (first|apply Kd.R_alloc|apply Kd.R_drewN|apply Kd.R_drew));exact HO_3.out⟩,⟨is_HI0⟩,⟨ke_⟩,⟨bel_⟩⟩
       ·rw [if_neg c48] at H
        exact absurd H (by simp)
      ·rw [if_neg c47] at H
       have c47b0:decide (x8_2 < (x3_2.length:Int))=false:=df_ c47
       clear c47
       replace H:=bs_ H
       obtain ⟨⟨t276,t277⟩,A610,H⟩:=H
       try dsimp only at H
       have A61:=a_ A610
       clear A610
       by_cases c62:t276=0
       ·rw [if_pos c62] at H
        have c62b0:(t276==0)=true:=beq_iff_eq.mpr c62
        have c62b1:(t276 != 0)=false:=be_ c62
        clear c62
        replace H:=bs_ H
        obtain ⟨⟨t278,t279⟩,A630,H⟩:=H
        try dsimp only at H
        have A63:=a_ A630
        clear A630
        replace H:=bs_ H
        obtain ⟨⟨t280,t281⟩,A640,H⟩:=H
        try dsimp only at H
        have A64:=a_ A640
        clear A640
        by_cases c65:0≤t278
        ·rw [if_pos c65] at H
         have c65b0:decide (0≤t278)=true:=dt_ c65
         clear c65
         by_cases c66:t278 < (x3_2.length:Int)
         ·rw [if_pos c66] at H
          have c66b0:decide (t278 < (x3_2.length:Int))=true:=dt_ c66
          clear c66
          obtain ⟨y282,hy282⟩:∃ y_:List (S37),y_=(x3_2.set (t278:Int).toNat (⟨(rd_T37 x3_2 t278).f0,t280,(rd_T37 x3_2 t278).f2⟩:S37)):=⟨_,rfl⟩
          replace H:(some (y282,t281))=some (r1,r2):=by first|(rw [hy282];with_reducible exact H)|(have H2_:=(Option.bind_some _ _).symm.trans H;rw [hy282];with_reducible exact H2_)|(have H2_:=(Option.bind_some _ _).symm.trans H;with_reducible exact H2_)|with_reducible exact H|(rw [hy282];exact H)|exact H
          have Ny282:=a_ hy282
          clear hy282
          simp only [Option.some.injEq,Prod.mk.injEq] at H
          obtain ⟨rfl,rfl⟩:=H
          obtain ⟨Ao68,co68,eo68⟩:=Kd.R_slice HO_3.out
          subst eo68
          go_wp2_with (first|((with_reducible refine gC_ (f:=73) rfl ?_);refine gl_ 82 Tryd.func73 #[.pointer (some ⟨g,0,none⟩),.int .i64 24] ?_;(with_reducible refine (spec_l6Rd_pick.calls k2 g s0_0 x1001_2 24 t276 t277 w0 _ ?side1 ?side2 A61.out).mono ?_);(case side1=>exact is_HI0);(case side2=>exact bel_);rintro e w69 ⟨rfl,hi,hb,hk⟩;refine ⟨_,rfl,?_⟩;replace HO_3:=a_ (Kd.R_mono (Kd.R_keep (IsS102.apart (show IsS102 w0 _ g s0_0 x1001_2 from is_HI0) (rp_ HO_3.out) (by decide)) hk (fun _ h=>h.2)) (fun _ h=>h.1));replace HK:=a_ (KeepBut.trans (ke_) hk (.inl rfl));replace HB:=a_ (hb);replace HI0:=a_ (hi);(try clear hb hk hi))|((with_reducible refine gC_ (f:=73) rfl ?_);refine gl_ 89 Tryd.func73 #[.pointer (some ⟨g,0,none⟩),.int .i64 (x3_2.length:Int)] ?_;(with_reducible refine (spec_l6Rd_pick.calls k2 g s0_0 t277 (x3_2.length:Int) t278 t279 w0 _ ?side1 ?side2 A63.out).mono ?_);(case side1=>exact is_HI0);(case side2=>exact bel_);rintro e w70 ⟨rfl,hi,hb,hk⟩;refine ⟨_,rfl,?_⟩;replace HO_3:=a_ (Kd.R_mono (Kd.R_keep (IsS102.apart (show IsS102 w0 _ g s0_0 t277 from is_HI0) (rp_ HO_3.out) (by decide)) hk (fun _ h=>h.2)) (fun _ h=>h.1));replace HK:=a_ (KeepBut.trans (ke_) hk (.inl rfl));replace HB:=a_ (hb);replace HI0:=a_ (hi);(try clear hb hk hi))|((with_reducible refine gC_ (f:=73) rfl ?_);refine gl_ 91 Tryd.func73 #[.pointer (some ⟨g,0,none⟩),.int .i64 5] ?_;(with_reducible refine (spec_l6Rd_pick.calls k2 g s0_0 t279 5 t280 t281 w0 _ ?side1 ?side2 A64.out).mono ?_);(case side1=>exact is_HI0);(case side2=>exact bel_);rintro e w71 ⟨rfl,hi,hb,hk⟩;refine ⟨_,rfl,?_⟩;replace HO_3:=a_ (Kd.R_mono (Kd.R_keep (IsS102.apart (show IsS102 w0 _ g s0_0 t279 from is_HI0) (rp_ HO_3.out) (by decide)) hk (fun _ h=>h.2)) (fun _ h=>h.1));replace HK:=a_ (KeepBut.trans (ke_) hk (.inl rfl));replace HB:=a_ (hb);replace HI0:=a_ (hi);(try clear hb hk hi);have p67:0≤(t278:Int):=od_;have q67:(t278:Int) < ((x3_2.length:Int):Int):=od_;obtain ⟨go67,co67,eo67,gb67,gl67,cl67,HG67⟩:=Kd.R_form HO_3.out (by omega);(first|cases eo67|(injection eo67 with ea_ en_ ec_;(first|subst ea_|(injection ea_ with ea_;subst ea_));subst ec_;clear en_));have GB67:=a_ gb67;have GG67:=a_ HG67;clear gb67 gl67 HG67;obtain ⟨ce67,hcl67,hM67,hcc67,hfr67⟩:=Kd.R_elem HO_3.out z37 (t278:Int) p67 q67;obtain rfl:=k37_openM hM67;have hx67_0:w71.cell? ⟨go67,(t278:Int).toNat * 3,none⟩=some (.int .i64 ((rd_T37 x3_2 t278).f0)):=hcc67 0 _ rfl;have hx67_1:w71.cell? ⟨go67,(t278:Int).toNat * 3+1,none⟩=some (.int .i64 ((rd_T37 x3_2 t278).f1)):=hcc67 1 _ rfl;have hx67_2:w71.cell? ⟨go67,(t278:Int).toNat * 3+2,none⟩=some (.string ((rd_T37 x3_2 t278).f2)):=hcc67 2 _ rfl;have hf67_0:w71.frozen? ⟨go67,(t278:Int).toNat * 3,none⟩=false:=hfr67 0;have hf67_1:w71.frozen? ⟨go67,(t278:Int).toNat * 3+1,none⟩=false:=hfr67 1;have hf67_2:w71.frozen? ⟨go67,(t278:Int).toNat * 3+2,none⟩=false:=hfr67 2;clear hcl67 hcc67 hfr67 hM67;replace p67:=eq_true p67;replace q67:=eq_true q67;have HX72:=a_ (show Kd.R k37 37 w71 w.heap.size (fun _=>True) (.slice (some ⟨go67,0,none⟩) x3_2.length co68) x3_2 from (rp_ HO_3.out));obtain ⟨ce72,hcl72,hM72,hcc72,hfr72⟩:=Kd.R_elem HX72.out z37 (t278:Int) (od_) (by have h_:(t278:Int) < ((x3_2.length:Int):Int):=od_;first|exact h_|(have e_:=(Kd.R_reads' HO_3.out).1;omega)|simpa using h_);obtain rfl:=k37_openM hM72;have HP72:=Kd.R_seg HX72.out (t278:Int) (od_) (by have h_:(t278:Int) < ((x3_2.length:Int):Int):=od_;first|exact h_|(have e_:=(Kd.R_reads' HO_3.out).1;omega)|simpa using h_) (seg:=[.int .i64 t280]) (j:=1) hcl72 hcc72 (show 2≤3 from by decide) (x':=(⟨(rd_T37 x3_2 t278).f0,t280,(rd_T37 x3_2 t278).f2⟩:S37)) (k37_mkM _ _ _ (⟨(rd_T37 x3_2 t278).f0,t280,(rd_T37 x3_2 t278).f2⟩:S37) ) (fun _ hk=>hk);have hx72_1:=hcc72 1 _ rfl;(try simp only [show (k37).sz=3 from rfl,Nat.mul_one,Nat.add_zero] at hx72_1);have hf72_1:=hfr72 1;(try simp only [show (k37).sz=3 from rfl,Nat.mul_one,Nat.add_zero] at hf72_1);clear hcl72 hcc72 hfr72 hM72)|((with_reducible refine gate_store (t:=3) (p:=93) rfl ?_);refine store_event (t:=3) (p:=93) (v:=?vo_w73) (w1:=(w71.setCell ⟨go67,(t278:Int).toNat * 3+1,none⟩ (.int .i64 t280))) ?hg ?ho ?hn ?hr ?_;(case ho=>rfl);(case hg=>rfl);(case hn=>rfl);(case hr=>first|(go_simp;done)|(go_simp;rfl));intro w73 hw;have hg:w71.grownBy w73 (some go67):=(by rw [hw];exact HP72.2);have hp_:Kd.R k37 37 w73 w.heap.size (fun _=>True) (.slice (some ⟨go67,0,none⟩) x3_2.length co68) y282:=(by rw [hw,Ny282.out];exact HP72.1);clear HP72;have n0_:=a_ (hp_);have n1_:=a_ (IsS102.grown (is_HI0) hg (IsS102.own_ne HI0.out HO_3.out (by decide)));have n2_:=a_ ((by rw [hw];exact wS_ (HB.out) (Nat.le_trans HL.out GB67.out):Below w0.heap.size w0 w73));have n3_:=a_ (KeepBut.trans (ke_) (KeepBut.of_grown hg g) (Kd.R_base2 HO_3.out));clear HO_3;clear HI0;clear HB;clear HK;have HO_3:=n0_;have HI0:=n1_;have HB:=n2_;have HK:=n3_;clear n0_ n1_ n2_ n3_;clear hg hw hp_))
          go_ret
          exact ⟨_,fi_,Kd.Q_of_R (rp_ HO_3.out),is_HI0,bel_,ke_⟩
         ·rw [if_neg c66] at H
          exact absurd H (by simp)
        ·rw [if_neg c65] at H
         exact absurd H (by simp)
       ·rw [if_neg c62] at H
        have c62b0:(t276==0)=false:=bn_ c62
        have c62b1:(t276 != 0)=true:=bne_iff_ne.mpr c62
        by_cases c74:t276=1
        ·rw [if_pos c74] at H
         have c74b0:(t276==1)=true:=beq_iff_eq.mpr c74
         have c74b1:(t276 != 1)=false:=be_ c74
         clear c74
         replace H:=bs_ H
         obtain ⟨⟨t283,t284⟩,A750,H⟩:=H
         try dsimp only at H
         have A75:=a_ A750
         clear A750
         by_cases c76:0≤t283
         ·rw [if_pos c76] at H
          have c76b0:decide (0≤t283)=true:=dt_ c76
          clear c76
          by_cases c77:t283 < (x3_2.length:Int)
          ·rw [if_pos c77] at H
           have c77b0:decide (t283 < (x3_2.length:Int))=true:=dt_ c77
           clear c77
           by_cases c78:x3_2.length < 4398046511104
           ·rw [if_pos c78] at H
            have LMc78:=a_ c78
            clear c78
            obtain ⟨y286,hy286⟩:∃ y_:List (S37),y_=(x3_2++[(⟨(rd_T37 x3_2 t283).f0,(rd_T37 x3_2 t283).f1,(rd_T37 x3_2 t283).f2⟩:S37)]):=⟨_,rfl⟩
            replace H:(some (y286,t284))=some (r1,r2):=by first|(rw [hy286];with_reducible exact H)|(have H2_:=(Option.bind_some _ _).symm.trans H;rw [hy286];with_reducible exact H2_)|(have H2_:=(Option.bind_some _ _).symm.trans H;with_reducible exact H2_)|with_reducible exact H|(rw [hy286];exact H)|exact H
            have Ny286:=a_ hy286
            clear hy286
            simp only [Option.some.injEq,Prod.mk.injEq] at H
            obtain ⟨rfl,rfl⟩:=H
            obtain ⟨Ao79,co79,eo79⟩:=Kd.R_slice HO_3.out
            subst eo79
            go_wp2_with (first|((with_reducible refine gC_ (f:=73) rfl ?_);refine gl_ 82 Tryd.func73 #[.pointer (some ⟨g,0,none⟩),.int .i64 24] ?_;(with_reducible refine (spec_l6Rd_pick.calls k2 g s0_0 x1001_2 24 t276 t277 w0 _ ?side1 ?side2 A61.out).mono ?_);(case side1=>exact is_HI0);(case side2=>exact bel_);rintro e w80 ⟨rfl,hi,hb,hk⟩;refine ⟨_,rfl,?_⟩;replace HO_3:=a_ (Kd.R_mono (Kd.R_keep (IsS102.apart (show IsS102 w0 _ g s0_0 x1001_2 from is_HI0) (rp_ HO_3.out) (by decide)) hk (fun _ h=>h.2)) (fun _ h=>h.1));replace HK:=a_ (KeepBut.trans (ke_) hk (.inl rfl));replace HB:=a_ (hb);replace HI0:=a_ (hi);(try clear hb hk hi))|((with_reducible refine gC_ (f:=73) rfl ?_);refine gl_ 101 Tryd.func73 #[.pointer (some ⟨g,0,none⟩),.int .i64 (x3_2.length:Int)] ?_;(with_reducible refine (spec_l6Rd_pick.calls k2 g s0_0 t277 (x3_2.length:Int) t283 t284 w0 _ ?side1 ?side2 A75.out).mono ?_);(case side1=>exact is_HI0);(case side2=>exact bel_);rintro e w81 ⟨rfl,hi,hb,hk⟩;refine ⟨_,rfl,?_⟩;replace HO_3:=a_ (Kd.R_mono (Kd.R_keep (IsS102.apart (show IsS102 w0 _ g s0_0 t277 from is_HI0) (rp_ HO_3.out) (by decide)) hk (fun _ h=>h.2)) (fun _ h=>h.1));replace HK:=a_ (KeepBut.trans (ke_) hk (.inl rfl));replace HB:=a_ (hb);replace HI0:=a_ (hi);(try clear hb hk hi);have p285:0≤(t283:Int):=od_;have q285:t283 < (x3_2.length:Int):=od_;obtain ⟨ad285,e285,hx285_0,hx285_1,hx285_2⟩:=at_T37 (Kd.R_reads' HO_3.out).2.2 t283 p285 q285;cases e285;replace p285:=eq_true p285;replace q285:=eq_true q285)|((with_reducible refine gate_builtin (b:=.append) (xs:=#[.tmp 96,.tmp 104]) rfl ?_);at_builtin;refine Kd.R_append k37 w.heap.size rfl (.tmp 96) (.tmp 104) 23 37 (.agg #[(.int .i64 0),(.int .i64 0),(.string ⟨#[]⟩)]) 32 rfl Tryd.underlying23 info37 rfl (by decide) (by omega) (.slice (some ad285) x3_2.length co79) x3_2 (⟨(rd_T37 x3_2 t283).f0,(rd_T37 x3_2 t283).f1,(rd_T37 x3_2 t283).f2⟩:S37) [.int .i64 ((rd_T37 x3_2 t283).f0),.int .i64 ((rd_T37 x3_2 t283).f1),.string ((rd_T37 x3_2 t283).f2)] (fun _=>True) (fun _=>False) rfl rfl ?aP (fun _ hk=>hk.elim) ?aF ?aO (Below.refl _ _) ?aS ?aL ?_;(case aP=>exact k37_mkM _ _ _ (⟨(rd_T37 x3_2 t283).f0,(rd_T37 x3_2 t283).f1,(rd_T37 x3_2 t283).f2⟩:S37));(case aF=>exact (fun _ _=>trivial));(case aO=>exact (rp_ HO_3.out));(case aS=>exact (keep_size (w:=w) (g:=g) (row:=none) (ke_)));(case aL=>have:=LMc78.out;omega);intro v287 w82 ho hb hg hat;rw [←Ny286.out] at ho;replace HB:=a_ (below_weaken (bel_) HL.out hb);replace HI0:=a_ (IsS102.grown (is_HI0) hg (IsS102.own_ne HI0.out HO_3.out (by decide)));replace HK:=a_ (KeepBut.trans (ke_) (KeepBut.of_grown hg g) (Kd.R_base2 HO_3.out));have HO288:=a_ (ho);clear HO_3;clear ho hb hg hat))
            go_ret
            exact ⟨_,fi_,Kd.Q_of_R (rp_ HO288.out),is_HI0,bel_,ke_⟩
           ·rw [if_neg c78] at H
            exact absurd H (by simp)
          ·rw [if_neg c77] at H
           exact absurd H (by simp)
         ·rw [if_neg c76] at H
          exact absurd H (by simp)
        ·rw [if_neg c74] at H
         have c74b0:(t276==1)=false:=bn_ c74
         have c74b1:(t276 != 1)=true:=bne_iff_ne.mpr c74
         by_cases c83:t276=2
         ·rw [if_pos c83] at H
          have c83b0:(t276==2)=true:=beq_iff_eq.mpr c83
          have c83b1:(t276 != 2)=false:=be_ c83
          clear c83
          by_cases c84:1≤(x3_2.length:Int)
          ·rw [if_pos c84] at H
           have c84b0:=eq_true c84
           have c84b1:decide (1≤(x3_2.length:Int))=true:=dt_ c84
           clear c84
           obtain ⟨y289,hy289⟩:∃ y_:List (S37),y_=(x3_2.drop (1:Int).toNat):=⟨_,rfl⟩
           replace H:(some (y289,t277))=some (r1,r2):=by first|(rw [hy289];with_reducible exact H)|(have H2_:=(Option.bind_some _ _).symm.trans H;rw [hy289];with_reducible exact H2_)|(have H2_:=(Option.bind_some _ _).symm.trans H;with_reducible exact H2_)|with_reducible exact H|(rw [hy289];exact H)|exact H
           have Ny289:=a_ hy289
           clear hy289
           simp only [Option.some.injEq,Prod.mk.injEq] at H
           obtain ⟨rfl,rfl⟩:=H
           obtain ⟨Ao85,co85,eo85⟩:=Kd.R_slice HO_3.out
           subst eo85
           go_wp2_with (first|((with_reducible refine gC_ (f:=73) rfl ?_);refine gl_ 82 Tryd.func73 #[.pointer (some ⟨g,0,none⟩),.int .i64 24] ?_;(with_reducible refine (spec_l6Rd_pick.calls k2 g s0_0 x1001_2 24 t276 t277 w0 _ ?side1 ?side2 A61.out).mono ?_);(case side1=>exact is_HI0);(case side2=>exact bel_);rintro e w86 ⟨rfl,hi,hb,hk⟩;refine ⟨_,rfl,?_⟩;replace HO_3:=a_ (Kd.R_mono (Kd.R_keep (IsS102.apart (show IsS102 w0 _ g s0_0 x1001_2 from is_HI0) (rp_ HO_3.out) (by decide)) hk (fun _ h=>h.2)) (fun _ h=>h.1));replace HK:=a_ (KeepBut.trans (ke_) hk (.inl rfl));replace HB:=a_ (hb);replace HI0:=a_ (hi);(try clear hb hk hi);have q87:(1:Int)≤((x3_2.length:Int):Int):=od_;obtain ⟨i087,hi087,_,hsz87,_⟩:=info_parts info37;have hcut87:=cut_from (P:=Tryd.prog) 23 37 .i64 Tryd.underlying23 hi087 3 hsz87 Ao85 x3_2.length co85 1 (by omega) q87;have hr87:=Kd.Q_drop (k:=(1:Int).toNat) (Kd.Q_of_R HO_3.out) (by omega);obtain ⟨A87,hA87⟩:∃ A1,A1=(if co85=(1:Int).toNat then Ao85 else (Ao85:Option Addr).map (·.add ((1:Int).toNat * 3))):=⟨_,rfl⟩;obtain ⟨c87,hc87⟩:∃ c1,c1=co85 - (1:Int).toNat:=⟨_,rfl⟩;have hy87:y289.length=x3_2.length - (1:Int).toNat:=(by rw [Ny289.out,List.length_drop]);rw [←Ny289.out] at hr87;rw [←hy87,←hA87,←hc87] at hcut87;replace hr87:Kd.Q k37 37 w86 w.heap.size (fun _=>True) (.slice A87 y289.length c87) y289:=(by rw [hA87,hc87,hy87];exact hr87);have HE87:Aside0 ((Value.slice A87 y289.length c87).ownBlock=(.slice Ao85 x3_2.length co85:Value).ownBlock):=⟨by rw [hA87];split <;> (cases (Ao85:Option Addr) <;> rfl)⟩;clear hy87 hi087 hsz87 HO_3 hA87 hc87;have HO291:=a_ hr87;clear hr87;replace q87:=eq_true q87))
           go_ret
           exact ⟨_,fi_,by (with_reducible repeat (first|apply Kd.Q_alloc|apply Kd.Q_drewN|apply Kd.Q_drew));exact HO291.out,is_HI0,bel_,ke_⟩
          ·rw [if_neg c84] at H
           exact absurd H (by simp)
         ·rw [if_neg c83] at H
          have c83b0:(t276==2)=false:=bn_ c83
          have c83b1:(t276 != 2)=true:=bne_iff_ne.mpr c83
          simp only [Option.some.injEq,Prod.mk.injEq] at H
          obtain ⟨rfl,rfl⟩:=H
          obtain ⟨Ao88,co88,eo88⟩:=Kd.R_slice HO_3.out
          subst eo88
          go_wp2_with (first|((with_reducible refine gC_ (f:=73) rfl ?_);refine gl_ 82 Tryd.func73 #[.pointer (some ⟨g,0,none⟩),.int .i64 24] ?_;(with_reducible refine (spec_l6Rd_pick.calls k2 g s0_0 x1001_2 24 t276 t277 w0 _ ?side1 ?side2 A61.out).mono ?_);(case side1=>exact is_HI0);(case side2=>exact bel_);rintro e w89 ⟨rfl,hi,hb,hk⟩;refine ⟨_,rfl,?_⟩;replace HO_3:=a_ (Kd.R_mono (Kd.R_keep (IsS102.apart (show IsS102 w0 _ g s0_0 x1001_2 from is_HI0) (rp_ HO_3.out) (by decide)) hk (fun _ h=>h.2)) (fun _ h=>h.1));replace HK:=a_ (KeepBut.trans (ke_) hk (.inl rfl));replace HB:=a_ (hb);replace HI0:=a_ (hi);(try clear hb hk hi)))
          go_ret
          exact ⟨_,fi_,Kd.Q_of_R (rp_ HO_3.out),is_HI0,bel_,ke_⟩

mutual
def spec_l71Row.l0:Nat→List (S37)→Int→List Int→Int→Option ((List (S37))×Int×Int)
 | 0,_,_,_,_=>none
 | k+1,x4,x5,x1000,x1001=>if x5 < 6 then ((spec_l6Rd_pick.f k x1000 x1001 12).bind fun bt296=>(spec_l71Row.j1 k x4 x5 (decide (bt296.1 > 0)) x1000 bt296.2)) else (spec_l71Row.j1 k x4 x5 false x1000 x1001)
def spec_l71Row.j1:Nat→List (S37)→Int→Bool→List Int→Int→Option ((List (S37))×Int×Int)
 | 0,_,_,_,_,_=>none
 | k+1,x4,x5,x15,x1000,x1001=>if x15=true then ((spec_l6Rd_pick.f k x1000 x1001 (x4.length:Int)).bind fun bt306=>(if 0≤bt306.1 then (if bt306.1 < (x4.length:Int) then ((spec_l1Made.f ((rd_T37 x4 bt306.1).f0)).bind fun t309=>(if t309=true then (some (x4,(rd_T37 x4 bt306.1).f0,bt306.2)) else (if x5=3 then ((spec_l71Tree.f k x1000 bt306.2).bind fun bt310=>(spec_l71Row.l0 k bt310.1 (wrap64 (x5+1)) x1000 bt310.2)) else (spec_l71Row.l0 k x4 (wrap64 (x5+1)) x1000 bt306.2)))) else (none)) else (none))) else ((spec_l71Id.f k x1000 x1001).bind fun bt298=>((some (([1,2,3,bt298.1,0]:List Int):List Int)).bind fun y300=>((spec_l6Rd_pick.f k x1000 bt298.2 5).bind fun bt303=>(if 0≤bt303.1 then (if bt303.1 < (y300.length:Int) then (some (x4,rd y300 bt303.1,bt303.2)) else (none)) else (none)))))
end
def spec_l71Row.f (k:Nat) (s0_0:List Int) (s0_1:Int):Option ((List (S37))×Int×Int):=(spec_l71Tree.f k s0_0 s0_1).bind fun bt292=>(spec_l71Row.l0 k bt292.1 0 s0_0 bt292.2)
theorem spec_l71Row.mono_l:∀ k,(∀ y0 y1 y2 y3,LeO (spec_l71Row.l0 k y0 y1 y2 y3) (spec_l71Row.l0 (k+1) y0 y1 y2 y3))∧(∀ y0 y1 y2 y3 y4,LeO (spec_l71Row.j1 k y0 y1 y2 y3 y4) (spec_l71Row.j1 (k+1) y0 y1 y2 y3 y4))
 | 0=>⟨fun _ _ _ _ r h=>by simp [spec_l71Row.l0] at h,fun _ _ _ _ _ r h=>by simp [spec_l71Row.j1] at h⟩
 | k+1=>by
  obtain ⟨ih0,ih1⟩:=spec_l71Row.mono_l k
  refine ⟨?_,?_⟩
  all_goals intros
  all_goals first|unfold spec_l71Row.l0|unfold spec_l71Row.j1
  all_goals repeat' first
  | (with_reducible exact ih0 _ _ _ _)
  | (with_reducible exact ih1 _ _ _ _ _)
  | (with_reducible exact spec_l6Rd_pick.mono _ _ _ _)
  | (with_reducible exact spec_l71Id.mono _ _ _)
  | (with_reducible exact spec_l71Tree.mono _ _ _)
  | (with_reducible exact LeO.refl _)
  | (with_reducible exact LeO.none _)
  | (with_reducible refine LeO.ite ?_ ?_)
  | (with_reducible refine LeO.bind ?_ (fun _=>?_))
theorem spec_l71Row.mono:∀ a0 a1 k,LeO (spec_l71Row.f k a0 a1) (spec_l71Row.f (k+1) a0 a1):=by
 intro a0 a1 k
 obtain ⟨ih0,ih1⟩:=spec_l71Row.mono_l k
 unfold spec_l71Row.f
 repeat' first
   | (with_reducible exact ih0 _ _ _ _)
   | (with_reducible exact ih1 _ _ _ _ _)
   | (with_reducible exact spec_l6Rd_pick.mono _ _ _ _)
   | (with_reducible exact spec_l71Id.mono _ _ _)
   | (with_reducible exact spec_l71Tree.mono _ _ _)
   | (with_reducible exact LeO.refl _)
   | (with_reducible exact LeO.none _)
   | (with_reducible refine LeO.ite ?_ ?_)
   | (with_reducible refine LeO.bind ?_ (fun _=>?_))
def spec_l71Row.T10:Bool×List (List Nat×List Nat):=(true,[([],[]),([],[]),([1],[1]),([2],[2]),([],[]),([4,2],[4]),([3,5],[3,5]),([6],[6]),([0,5,0],[0]),([7,8,0,1,2,3,4,5,6,7,8],[7])])
def spec_l71Row.B10:List Nat:=[0,0,2,6,0,22,62,126,55,511]
theorem spec_l71Row.tab10:rtab .any (opsOf Tryd.f51 10)=spec_l71Row.T10:=by kernel_rfl
theorem spec_l71Row.bits10:waitsOk spec_l71Row.T10.2 spec_l71Row.B10=true:=by kernel_rfl
theorem spec_l71Row.calls (k:Nat) (g:Nat) (s0_0:List Int) (s0_1:Int) (r1:List (S37)) (r2:Int) (r3:Int) (w0 w:World) (hI:IsS102 w0 w g s0_0 s0_1) (hB:Below w0.heap.size w0 w) (h:spec_l71Row.f k s0_0 s0_1=some (r1,r2,r3)) :
  Calls Tryd.prog 51 #[.pointer (some ⟨g,0,none⟩)] w fun e w'=>∃ v0_:Value,e=.returned (.tuple #[v0_,.int .i64 r2])∧Kd.Q k37 37 w' w.heap.size (fun _=>True) v0_ r1∧IsS102 w0 w' g s0_0 r3∧Below w0.heap.size w0 w'∧KeepBut w w' g none:=by
 have HI0:=a_ hI
 have HK:=a_ (KeepBut.refl w g none)
 have HL:=a_ hB.size
 clear hI
 have HW0:=a_ hB.size
 have HB:=a_ hB
 clear hB
 unfold spec_l71Row.f at h
 have H:=h
 clear h
 replace H:=bs_ H
 obtain ⟨⟨t292,t295⟩,A20,H⟩:=H
 try dsimp only at H
 have A2:=a_ A20
 clear A20
 have H':=a_ H
 clear H
 go_enter Tryd.func51,Tryd.ntmps51
 go_wp2_with (first|((with_reducible refine gC_ (f:=90) rfl ?_);refine gl_ 8 Tryd.func90 #[.pointer (some ⟨g,0,none⟩)] ?_;(with_reducible refine (spec_l71Tree.calls k g s0_0 s0_1 t292 t295 w0 _ ?side1 ?side2 A2.out).mono ?_);(case side1=>exact is_HI0);(case side2=>exact bel_);rintro e w3 ⟨v293,rfl,ho0,hi,hb,hk⟩;refine ⟨_,rfl,?_⟩;have HO294:=a_ (Kd.Q_lower ho0 (keep_size (w:=w) (g:=g) (row:=none) (ke_)));replace HK:=a_ (KeepBut.trans (ke_) hk (.inl rfl));replace HB:=a_ (hb);replace HI0:=a_ (hi);(try clear hb hk hi ho0)))
 go_loopg [4,5] k (fun kq v4 v5 w'=>∃ (x4_1:List (S37)) (x5_1:Int) (x1001_1:Int),v5=.int .i64 x5_1∧Aside0 (spec_l71Row.l0 kq x4_1 x5_1 s0_0 x1001_1=some (r1,r2,r3))∧Aside0 (kq≤k)∧Aside0 (Kd.Q k37 37 w' w.heap.size (fun _=>True) v4 x4_1)∧Aside0 (IsS102 w0 w' g s0_0 x1001_1)∧Aside0 (KeepBut w w' g none)∧Aside0 (Below w0.heap.size w0 w'))
 case atStart=>exact ⟨(t292),(0),(t295),(si_),H',⟨Nat.le_refl _⟩,⟨by (with_reducible repeat (first|apply Kd.Q_alloc|apply Kd.Q_drewN|apply Kd.Q_drew));exact HO294.out⟩,⟨is_HI0⟩,⟨ke_⟩,⟨bel_⟩⟩
 case round =>
  clear H'
  try clear p2
  obtain ⟨x4_1,x5_1,x1001_1,rfl,HA,HK1,HO_4,HI0,HK,HB⟩:=hrel
  cases gk with
  | zero=>exact absurd HA.out (by simp [spec_l71Row.l0])
  | succ k1 =>
   have H:=HA.out
   clear HA
   simp only [spec_l71Row.l0] at H
   have HC4:=a_ H
   clear H
   go_upto_region 3 with (fail)
   go_cut [15] (fun v15 wc=>∃ (kq:Nat) (x15_3:Bool) (x1001_3:Int),v15=.bool x15_3∧Aside0 (spec_l71Row.j1 kq x4_1 x5_1 x15_3 s0_0 x1001_3=some (r1,r2,r3))∧Aside0 (kq≤k1)∧Aside0 (Kd.Q k37 37 wc w.heap.size (fun _=>True) u4 x4_1)∧Aside0 (IsS102 w0 wc g s0_0 x1001_3)∧Aside0 (KeepBut w wc g none)∧Aside0 (Below w0.heap.size w0 wc))
   case first =>
    have H:=HC4.out
    clear HC4
    by_cases c5:x5_1 < 6
    ·rw [if_pos c5] at H
     have c5b0:decide (x5_1 < 6)=true:=dt_ c5
     clear c5
     (first|rw [c5b0]|(simp only [i64_w,i32_w];rw [c5b0])|skip)
     replace H:=bs_ H
     obtain ⟨⟨t296,t297⟩,A60,H⟩:=H
     try dsimp only at H
     have A6:=a_ A60
     clear A60
     have H':=a_ H
     clear H
     go_wp2_with (first|(go_at_call 73;(with_reducible refine (spec_l6Rd_pick.calls k1 g s0_0 x1001_1 12 t296 t297 w0 _ ?side1 ?side2 A6.out).mono ?_);(case side1=>exact is_HI0);(case side2=>exact bel_);rintro e w7 ⟨rfl,hi,hb,hk⟩;replace HO_4:=a_ (Kd.Q_mono (Kd.Q_keep (IsS102.apartQ (show IsS102 w0 _ g s0_0 x1001_1 from is_HI0) (qp_ HO_4.out) (by decide)) hk (fun _ h=>h.2)) (fun _ h=>h.1));replace HK:=a_ (KeepBut.trans (ke_) hk (.inl rfl));replace HB:=a_ (hb);replace HI0:=a_ (hi);(try clear hb hk hi)))
     go_meet
     case rel=>exact ⟨_,(decide (t296 > 0)),(t297),(si_),H',⟨by have:=HK1.out;first|omega|exact Nat.le_refl _⟩,⟨by (with_reducible repeat (first|apply Kd.Q_alloc|apply Kd.Q_drewN|apply Kd.Q_drew));exact HO_4.out⟩,⟨is_HI0⟩,⟨ke_⟩,⟨bel_⟩⟩
    ·rw [if_neg c5] at H
     have c5b0:decide (x5_1 < 6)=false:=df_ c5
     clear c5
     (first|rw [c5b0]|(simp only [i64_w,i32_w];rw [c5b0])|skip)
     have H':=a_ H
     clear H
     go_wp2
     go_meet
     case rel=>exact ⟨_,(false),(x1001_1),(si_),H',⟨by have:=HK1.out;first|omega|exact Nat.le_refl _⟩,⟨by (with_reducible repeat (first|apply Kd.Q_alloc|apply Kd.Q_drewN|apply Kd.Q_drew));exact HO_4.out⟩,⟨is_HI0⟩,⟨ke_⟩,⟨bel_⟩⟩
   case rest =>
    clear HC4
    try clear p2
    try clear c5
    try clear c5b0
    try clear p2
    obtain ⟨kq,x15_3,x1001_3,rfl,HA,HJ3,HO_4,HI0,HK,HB⟩:=hcut
    cases kq with
    | zero=>exact absurd HA.out (by simp [spec_l71Row.j1])
    | succ kj3 =>
     have H:=HA.out
     clear HA
     simp only [spec_l71Row.j1] at H
     by_cases c8:x15_3=true
     ·subst c8
      have H1:((spec_l6Rd_pick.f kj3 s0_0 x1001_3 (x4_1.length:Int)).bind fun bt306=>(if 0≤bt306.1 then (if bt306.1 < (x4_1.length:Int) then ((spec_l1Made.f ((rd_T37 x4_1 bt306.1).f0)).bind fun t309=>(if t309=true then (some (x4_1,(rd_T37 x4_1 bt306.1).f0,bt306.2)) else (if x5_1=3 then ((spec_l71Tree.f kj3 s0_0 bt306.2).bind fun bt310=>(spec_l71Row.l0 kj3 bt310.1 (wrap64 (x5_1+1)) s0_0 bt310.2)) else (spec_l71Row.l0 kj3 x4_1 (wrap64 (x5_1+1)) s0_0 bt306.2)))) else (none)) else (none)))=some (r1,r2,r3):=by rw [if_pos rfl] at H;exact H
      clear H
      have H:=H1
      clear H1
      replace H:=bs_ H
      obtain ⟨⟨t306,t307⟩,A90,H⟩:=H
      try dsimp only at H
      have A9:=a_ A90
      clear A90
      by_cases c10:0≤t306
      ·rw [if_pos c10] at H
       have c10b0:decide (0≤t306)=true:=dt_ c10
       clear c10
       by_cases c11:t306 < (x4_1.length:Int)
       ·rw [if_pos c11] at H
        have c11b0:decide (t306 < (x4_1.length:Int))=true:=dt_ c11
        clear c11
        replace H:=bs_ H
        obtain ⟨t309,A120,H⟩:=H
        try dsimp only at H
        have A12:=a_ A120
        clear A120
        by_cases c13:t309=true
        ·subst c13
         have H1:(some (x4_1,(rd_T37 x4_1 t306).f0,t307))=some (r1,r2,r3):=by rw [if_pos rfl] at H;exact H
         clear H
         have H:=H1
         clear H1
         simp only [Option.some.injEq,Prod.mk.injEq] at H
         obtain ⟨rfl,rfl,rfl⟩:=H
         obtain ⟨Ao14,co14,eo14,_⟩:=Kd.Q_slice HO_4.out
         subst eo14
         go_wp2_with (first|((with_reducible refine gC_ (f:=73) rfl ?_);refine gl_ 22 Tryd.func73 #[.pointer (some ⟨g,0,none⟩),.int .i64 (x4_1.length:Int)] ?_;(with_reducible refine (spec_l6Rd_pick.calls kj3 g s0_0 x1001_3 (x4_1.length:Int) t306 t307 w0 _ ?side1 ?side2 A9.out).mono ?_);(case side1=>exact is_HI0);(case side2=>exact bel_);rintro e w15 ⟨rfl,hi,hb,hk⟩;refine ⟨_,rfl,?_⟩;replace HO_4:=a_ (Kd.Q_mono (Kd.Q_keep (IsS102.apartQ (show IsS102 w0 _ g s0_0 x1001_3 from is_HI0) (qp_ HO_4.out) (by decide)) hk (fun _ h=>h.2)) (fun _ h=>h.1));replace HK:=a_ (KeepBut.trans (ke_) hk (.inl rfl));replace HB:=a_ (hb);replace HI0:=a_ (hi);(try clear hb hk hi);have p308:0≤(t306:Int):=od_;have q308:t306 < (x4_1.length:Int):=od_;obtain ⟨ad308,e308,hx308_0,hx308_1,hx308_2⟩:=at_T37 (Kd.Q_reads' HO_4.out).2.2 t306 p308 q308;cases e308;replace p308:=eq_true p308;replace q308:=eq_true q308)|((with_reducible refine gC_ (f:=53) rfl ?_);refine gl_ 27 Tryd.func53 #[.int .i64 ((rd_T37 x4_1 t306).f0)] ?_;(with_reducible refine (spec_l1Made.calls ((rd_T37 x4_1 t306).f0) true _ A12.out).mono ?_);rintro e w' ⟨rfl,⟨nd,rfl⟩⟩;refine ⟨_,rfl,?_⟩))
         go_ret2
         exact ⟨_,fi_,by (with_reducible repeat (first|apply Kd.Q_alloc|apply Kd.Q_drewN|apply Kd.Q_drew));exact HO_4.out,is_HI0,bel_,ke_⟩
        ·replace c13:=Bool.eq_false_iff.mpr c13
         subst c13
         have H1:(if x5_1=3 then ((spec_l71Tree.f kj3 s0_0 t307).bind fun bt310=>(spec_l71Row.l0 kj3 bt310.1 (wrap64 (x5_1+1)) s0_0 bt310.2)) else (spec_l71Row.l0 kj3 x4_1 (wrap64 (x5_1+1)) s0_0 t307))=some (r1,r2,r3):=by rw [if_neg (show ¬ (false=true) by decide)] at H;exact H
         clear H
         have H:=H1
         clear H1
         by_cases c16:x5_1=3
         ·rw [if_pos c16] at H
          have c16b0:(x5_1==3)=true:=beq_iff_eq.mpr c16
          have c16b1:(x5_1 != 3)=false:=be_ c16
          clear c16
          replace H:=bs_ H
          obtain ⟨⟨t310,t313⟩,A170,H⟩:=H
          try dsimp only at H
          have A17:=a_ A170
          clear A170
          have H':=a_ H
          clear H
          obtain ⟨Ao18,co18,eo18,_⟩:=Kd.Q_slice HO_4.out
          subst eo18
          go_wp2_with (first|((with_reducible refine gC_ (f:=73) rfl ?_);refine gl_ 22 Tryd.func73 #[.pointer (some ⟨g,0,none⟩),.int .i64 (x4_1.length:Int)] ?_;(with_reducible refine (spec_l6Rd_pick.calls kj3 g s0_0 x1001_3 (x4_1.length:Int) t306 t307 w0 _ ?side1 ?side2 A9.out).mono ?_);(case side1=>exact is_HI0);(case side2=>exact bel_);rintro e w19 ⟨rfl,hi,hb,hk⟩;refine ⟨_,rfl,?_⟩;replace HO_4:=a_ (Kd.Q_mono (Kd.Q_keep (IsS102.apartQ (show IsS102 w0 _ g s0_0 x1001_3 from is_HI0) (qp_ HO_4.out) (by decide)) hk (fun _ h=>h.2)) (fun _ h=>h.1));replace HK:=a_ (KeepBut.trans (ke_) hk (.inl rfl));replace HB:=a_ (hb);replace HI0:=a_ (hi);(try clear hb hk hi);have p308:0≤(t306:Int):=od_;have q308:t306 < (x4_1.length:Int):=od_;obtain ⟨ad308,e308,hx308_0,hx308_1,hx308_2⟩:=at_T37 (Kd.Q_reads' HO_4.out).2.2 t306 p308 q308;cases e308;replace p308:=eq_true p308;replace q308:=eq_true q308)|((with_reducible refine gC_ (f:=53) rfl ?_);refine gl_ 27 Tryd.func53 #[.int .i64 ((rd_T37 x4_1 t306).f0)] ?_;(with_reducible refine (spec_l1Made.calls ((rd_T37 x4_1 t306).f0) false _ A12.out).mono ?_);rintro e w' ⟨rfl,⟨nd,rfl⟩⟩;refine ⟨_,rfl,?_⟩)|((with_reducible refine gC_ (f:=90) rfl ?_);refine gl_ 33 Tryd.func90 #[.pointer (some ⟨g,0,none⟩)] ?_;(with_reducible refine (spec_l71Tree.calls kj3 g s0_0 t307 t310 t313 w0 _ ?side1 ?side2 A17.out).mono ?_);(case side1=>exact is_HI0);(case side2=>exact bel_);rintro e w20 ⟨v311,rfl,ho0,hi,hb,hk⟩;refine ⟨_,rfl,?_⟩;have HO312:=a_ (Kd.Q_lower (Kd.Q_new' ho0 (Kd.Q_lt (qp_ HO_4.out))) (keep_size (w:=w) (g:=g) (row:=none) (ke_)));replace HO_4:=a_ (Kd.Q_mono (Kd.Q_told (Kd.Q_oldK (IsS102.apartQ (show IsS102 w0 _ g s0_0 t307 from is_HI0) (qp_ HO_4.out) (by decide)) hk) (Kd.Q_base ho0)) (fun _ h_=>h_.1));replace HK:=a_ (KeepBut.trans (ke_) hk (.inl rfl));replace HB:=a_ (hb);replace HI0:=a_ (hi);(try clear hb hk hi ho0)))
          go_roundg kj3
          case measure=>have:=HK1.out;have:=HJ3.out;omega
          case rel=>exact ⟨(t310),(wrap64 (x5_1+1)),(t313),(si_),H',⟨by have:=HK1.out;have:=HJ3.out;omega⟩,⟨by (with_reducible repeat (first|apply Kd.Q_alloc|apply Kd.Q_drewN|apply Kd.Q_drew));exact Kd.Q_mono HO312.out (fun _ hk=>trivial)⟩,⟨is_HI0⟩,⟨ke_⟩,⟨bel_⟩⟩
         ·rw [if_neg c16] at H
          have c16b0:(x5_1==3)=false:=bn_ c16
          have c16b1:(x5_1 != 3)=true:=bne_iff_ne.mpr c16
          have H':=a_ H
          clear H
          obtain ⟨Ao21,co21,eo21,_⟩:=Kd.Q_slice HO_4.out
          subst eo21
          go_wp2_with (first|((with_reducible refine gC_ (f:=73) rfl ?_);refine gl_ 22 Tryd.func73 #[.pointer (some ⟨g,0,none⟩),.int .i64 (x4_1.length:Int)] ?_;(with_reducible refine (spec_l6Rd_pick.calls kj3 g s0_0 x1001_3 (x4_1.length:Int) t306 t307 w0 _ ?side1 ?side2 A9.out).mono ?_);(case side1=>exact is_HI0);(case side2=>exact bel_);rintro e w22 ⟨rfl,hi,hb,hk⟩;refine ⟨_,rfl,?_⟩;replace HO_4:=a_ (Kd.Q_mono (Kd.Q_keep (IsS102.apartQ (show IsS102 w0 _ g s0_0 x1001_3 from is_HI0) (qp_ HO_4.out) (by decide)) hk (fun _ h=>h.2)) (fun _ h=>h.1));replace HK:=a_ (KeepBut.trans (ke_) hk (.inl rfl));replace HB:=a_ (hb);replace HI0:=a_ (hi);(try clear hb hk hi);have p308:0≤(t306:Int):=od_;have q308:t306 < (x4_1.length:Int):=od_;obtain ⟨ad308,e308,hx308_0,hx308_1,hx308_2⟩:=at_T37 (Kd.Q_reads' HO_4.out).2.2 t306 p308 q308;cases e308;replace p308:=eq_true p308;replace q308:=eq_true q308)|((with_reducible refine gC_ (f:=53) rfl ?_);refine gl_ 27 Tryd.func53 #[.int .i64 ((rd_T37 x4_1 t306).f0)] ?_;(with_reducible refine (spec_l1Made.calls ((rd_T37 x4_1 t306).f0) false _ A12.out).mono ?_);rintro e w' ⟨rfl,⟨nd,rfl⟩⟩;refine ⟨_,rfl,?_⟩))
          go_roundg kj3
          case measure=>have:=HK1.out;have:=HJ3.out;omega
          case rel=>exact ⟨(x4_1),(wrap64 (x5_1+1)),(t307),(si_),H',⟨by have:=HK1.out;have:=HJ3.out;omega⟩,⟨by (with_reducible repeat (first|apply Kd.Q_alloc|apply Kd.Q_drewN|apply Kd.Q_drew));exact HO_4.out⟩,⟨is_HI0⟩,⟨ke_⟩,⟨bel_⟩⟩
       ·rw [if_neg c11] at H
        exact absurd H (by simp)
      ·rw [if_neg c10] at H
       exact absurd H (by simp)
     ·replace c8:=Bool.eq_false_iff.mpr c8
      subst c8
      have H1:((spec_l71Id.f kj3 s0_0 x1001_3).bind fun bt298=>((some (([1,2,3,bt298.1,0]:List Int):List Int)).bind fun y300=>((spec_l6Rd_pick.f kj3 s0_0 bt298.2 5).bind fun bt303=>(if 0≤bt303.1 then (if bt303.1 < (y300.length:Int) then (some (x4_1,rd y300 bt303.1,bt303.2)) else (none)) else (none)))))=some (r1,r2,r3):=by rw [if_neg (show ¬ (false=true) by decide)] at H;exact H
      clear H
      have H:=H1
      clear H1
      replace H:=bs_ H
      obtain ⟨⟨t298,t299⟩,A230,H⟩:=H
      try dsimp only at H
      have A23:=a_ A230
      clear A230
      obtain ⟨y300,hy300⟩:∃ y_:List Int,y_=(([1,2,3,t298,0]:List Int)):=⟨_,rfl⟩
      replace H:((spec_l6Rd_pick.f kj3 s0_0 t299 5).bind fun bt303=>(if 0≤bt303.1 then (if bt303.1 < (y300.length:Int) then (some (x4_1,rd y300 bt303.1,bt303.2)) else (none)) else (none)))=some (r1,r2,r3):=by first|(rw [hy300];with_reducible exact H)|(have H2_:=(Option.bind_some _ _).symm.trans H;rw [hy300];with_reducible exact H2_)|(have H2_:=(Option.bind_some _ _).symm.trans H;with_reducible exact H2_)|with_reducible exact H|(rw [hy300];exact H)|exact H
      have Ny300:=a_ hy300
      clear hy300
      replace H:=bs_ H
      obtain ⟨⟨t303,t304⟩,A240,H⟩:=H
      try dsimp only at H
      have A24:=a_ A240
      clear A240
      by_cases c25:0≤t303
      ·rw [if_pos c25] at H
       have c25b0:decide (0≤t303)=true:=dt_ c25
       clear c25
       by_cases c26:t303 < (y300.length:Int)
       ·rw [if_pos c26] at H
        have c26b0:decide (t303 < (y300.length:Int))=true:=dt_ c26
        clear c26
        simp only [Option.some.injEq,Prod.mk.injEq] at H
        obtain ⟨rfl,rfl,rfl⟩:=H
        try go_wp2
        have pi305:(0≤(t303:Int))=True:=eq_true (od_)
        have qi305:(t303 < (y300.length:Int))=True:=eq_true (od_)
        have n0_:=a_ (Kd.Q_drew HO_4.out)
        have n1_:=a_ (IsS102.drew HI0.out)
        have n2_:=a_ (keep_drew HK.out)
        have n3_:=a_ (below_drew1 HB.out)
        clear HO_4
        clear HI0
        clear HK
        clear HB
        have HO_4:=n0_
        have HI0:=n1_
        have HK:=n2_
        have HB:=n3_
        clear n0_ n1_ n2_ n3_
        refine start_ (n:=10) (S:=fun w'=>True) (ds:=[]) #[false,false,false,false,false,false,false,false,false,false] (by kernel_rfl) rfl rfl trivial (fun hHeld=>?_);refine with_tabW spec_l71Row.tab10 spec_l71Row.bits10 (fun HT_ HW_=>?_)
        generalize wc.drew=w27 at HO_4 HI0 HK HB hHeld ⊢
        refine pa_ 0 34 ?_
        refine pa_ 1 35 ?_
        refine pa_ 4 38 ?_
        refine on_ 2 36 (fun K hK=>?_)
        refine goes_ Tryd.func91 (by kernel_rfl) rfl #[.pointer (some ⟨g,0,none⟩)] (by rfl) rfl rfl ar_ ?_
        with_reducible refine (spec_l71Id.calls kj3 g s0_0 x1001_3 t298 t299 w0 _ ?side1 ?side2 A23.out).mono ?_
        (case side1=>exact is_HI0)
        (case side2=>exact bel_)
        rintro e w28 ⟨rfl,hi,hb,hk⟩
        refine ⟨_,rfl,?_⟩
        have n0_:=a_ (Kd.Q_mono (Kd.Q_keep (IsS102.apartQ (show IsS102 w0 _ g s0_0 x1001_3 from is_HI0) (qp_ HO_4.out) (by decide)) hk (fun _ h=>h.2)) (fun _ h=>h.1))
        have n1_:=a_ (KeepBut.trans (ke_) hk (.inl rfl))
        have n2_:=a_ (hb)
        have n3_:=a_ (hi)
        clear HO_4
        clear HK
        clear HB
        clear HI0
        have HO_4:=n0_
        have HK:=n1_
        have HB:=n2_
        have HI0:=n3_
        clear n0_ n1_ n2_ n3_
        (try clear hb)
        (try clear hb2)
        (try clear hk)
        (try clear hi)
        refine hK.out _ _ trivial (fun hHeld=>?_)
        clear hK K
        refine no_ 36 ?_
        refine join_ (σ:=Value×Addr) 3 #[true,true,true,true,true,true,false,false,true,false] (fun s_=>[(37,s_.1),(39,.int .i64 t303),(2,u4)]) (fun s_ w'=>(Kd.R (Kd.int .i64) 3 w' w.heap.size (fun _=>True) s_.1 y300)∧(Kd.Q k37 37 w' w.heap.size (fun _=>True) u4 x4_1)∧(∃ c_,(s_.1:Value)=.slice (some s_.2) y300.length c_)∧(IsS102 w0 w' g s0_0 t304)∧(KeepBut w w' g none)∧(Below w0.heap.size w0 w')) ?_ ?_
        rotate_left
        ·intro hCont
         refine two_ (i:=3) (j:=5) (Ni:=some 37) (Nj:=some 39) #[true,true,true,true,true,false,false,false,false,false] #[true,true,true,false,true,true,false,false,false,false] rfl rfl rfl rfl (two_of HT_.out (by kernel_rfl)) (by decide) (by decide) (fun K hK=>?_) (fun K hK=>?_)
         ·skip
          refine Kd.R_lit_step (Kd.int .i64) _ 3 ?hg (N:=37) ?hd (xs:=([1,2,3,t298,0]:List Int)) (inner:=[.int .i64 1,.int .i64 2,.int .i64 3,.int .i64 t298,.int .i64 0]) (ok:=fun _=>True) (okp:=fun _=>True) ?hr ?hp (fun _ hk=>hk) trivial (Below.refl _ _) (Nat.le_refl _) (by simp) ?_;(case hd=>rfl);(case hg=>rfl);(case hr=>first|(go_simp;done)|(go_simp;rfl));(case hp=>exact (Reps.one (show Kd.M (Kd.int .i64) _ _ _ 1 [.int .i64 1] from rfl) (Reps.one (show Kd.M (Kd.int .i64) _ _ _ 2 [.int .i64 2] from rfl) (Reps.one (show Kd.M (Kd.int .i64) _ _ _ 3 [.int .i64 3] from rfl) (Reps.one (show Kd.M (Kd.int .i64) _ _ _ t298 [.int .i64 t298] from rfl) (Reps.one (show Kd.M (Kd.int .i64) _ _ _ 0 [.int .i64 0] from rfl) (Reps.none _ _)))))))
          intro v301 w29 ho30 hb hg_ hnew_
          clear hg_ hnew_
          (first|rw [←Ny300.out] at ho30|(simp only [Int.reduceToNat] at ho30;rw [←Ny300.out] at ho30))
          have n0_:=a_ (Kd.Q_below (qp_ HO_4.out) hb)
          have n1_:=a_ (Kd.R_lower ho30 (keep_size (w:=w) (g:=g) (row:=none) (ke_)))
          have n2_:=a_ (IsS102.below (is_HI0) hb)
          have n3_:=a_ (KeepBut.trans (ke_) (KeepBut.of_below hb g none) (.inl rfl))
          have n4_:=a_ (bS_ (bel_) hb)
          clear HO_4
          clear HI0
          clear HK
          clear HB
          have HO_4:=n0_
          have HO302:=n1_
          have HI0:=n2_
          have HK:=n3_
          have HB:=n4_
          clear n0_ n1_ n2_ n3_ n4_
          clear hb ho30
          obtain ⟨Ao31,co31,eo31⟩:=Kd.R_slice HO302.out
          subst eo31
          obtain ⟨ado31,fo31,_⟩:=Kd.at_int (Kd.R_reads' HO302.out).2.2 0 (by decide) (by rw [Ny300.out];simp)
          cases fo31
          refine hK.out _ _ trivial (fun hHeld=>?_)
          clear hK K
          refine no_ 37 ?_
          refine on_ 5 39 (fun K hK=>?_)
          refine goes_ Tryd.func73 (by kernel_rfl) rfl #[.pointer (some ⟨g,0,none⟩),.int .i64 5] (by rfl) rfl rfl ar_ ?_
          with_reducible refine (spec_l6Rd_pick.calls kj3 g s0_0 t299 5 t303 t304 w0 _ ?side1 ?side2 A24.out).mono ?_
          (case side1=>exact is_HI0)
          (case side2=>exact bel_)
          rintro e w32 ⟨rfl,hi,hb,hk⟩
          refine ⟨_,rfl,?_⟩
          have n0_:=a_ (Kd.Q_mono (Kd.Q_keep (IsS102.apartQ (show IsS102 w0 _ g s0_0 t299 from is_HI0) (qp_ HO_4.out) (by decide)) hk (fun _ h=>h.2)) (fun _ h=>h.1))
          have n1_:=a_ (Kd.R_mono (Kd.R_keep (IsS102.apart (show IsS102 w0 _ g s0_0 t299 from is_HI0) (rp_ HO302.out) (by decide)) hk (fun _ h=>h.2)) (fun _ h=>h.1))
          have n2_:=a_ (KeepBut.trans (ke_) hk (.inl rfl))
          have n3_:=a_ (hb)
          have n4_:=a_ (hi)
          clear HO_4
          clear HO302
          clear HK
          clear HB
          clear HI0
          have HO_4:=n0_
          have HO302:=n1_
          have HK:=n2_
          have HB:=n3_
          have HI0:=n4_
          clear n0_ n1_ n2_ n3_ n4_
          (try clear hb)
          (try clear hb2)
          (try clear hk)
          (try clear hi)
          refine hK.out _ _ trivial (fun hHeld=>?_)
          clear hK K
          refine no_ 39 ?_
          refine pa_ 8 2 ?_
          exact norm_ (by simp only [putAll,Act.put,List.setIfInBounds_toArray,List.set_cons_zero,List.set_cons_succ]) (hCont (.slice (some ado31) y300.length co31,ado31) _ ⟨(rp_ HO302.out),(qp_ HO_4.out),⟨_,rfl⟩,(is_HI0),(ke_),(bel_)⟩)
         ·skip
          refine goes_ Tryd.func73 (by kernel_rfl) rfl #[.pointer (some ⟨g,0,none⟩),.int .i64 5] (by rfl) rfl rfl ar_ ?_
          with_reducible refine (spec_l6Rd_pick.calls kj3 g s0_0 t299 5 t303 t304 w0 _ ?side1 ?side2 A24.out).mono ?_
          (case side1=>exact is_HI0)
          (case side2=>exact bel_)
          rintro e w29 ⟨rfl,hi,hb,hk⟩
          refine ⟨_,rfl,?_⟩
          have n0_:=a_ (Kd.Q_mono (Kd.Q_keep (IsS102.apartQ (show IsS102 w0 _ g s0_0 t299 from is_HI0) (qp_ HO_4.out) (by decide)) hk (fun _ h=>h.2)) (fun _ h=>h.1))
          have n1_:=a_ (KeepBut.trans (ke_) hk (.inl rfl))
          have n2_:=a_ (hb)
          have n3_:=a_ (hi)
          clear HO_4
          clear HK
          clear HB
          clear HI0
          have HO_4:=n0_
          have HK:=n1_
          have HB:=n2_
          have HI0:=n3_
          clear n0_ n1_ n2_ n3_
          (try clear hb)
          (try clear hb2)
          (try clear hk)
          (try clear hi)
          refine hK.out _ _ trivial (fun hHeld=>?_)
          clear hK K
          refine no_ 39 ?_
          refine pa_ 8 2 ?_
          refine on_ 3 37 (fun K hK=>?_)
          refine Kd.R_lit_step (Kd.int .i64) _ 3 ?hg (N:=37) ?hd (xs:=([1,2,3,t298,0]:List Int)) (inner:=[.int .i64 1,.int .i64 2,.int .i64 3,.int .i64 t298,.int .i64 0]) (ok:=fun _=>True) (okp:=fun _=>True) ?hr ?hp (fun _ hk=>hk) trivial (Below.refl _ _) (Nat.le_refl _) (by simp) ?_;(case hd=>rfl);(case hg=>rfl);(case hr=>first|(go_simp;done)|(go_simp;rfl));(case hp=>exact (Reps.one (show Kd.M (Kd.int .i64) _ _ _ 1 [.int .i64 1] from rfl) (Reps.one (show Kd.M (Kd.int .i64) _ _ _ 2 [.int .i64 2] from rfl) (Reps.one (show Kd.M (Kd.int .i64) _ _ _ 3 [.int .i64 3] from rfl) (Reps.one (show Kd.M (Kd.int .i64) _ _ _ t298 [.int .i64 t298] from rfl) (Reps.one (show Kd.M (Kd.int .i64) _ _ _ 0 [.int .i64 0] from rfl) (Reps.none _ _)))))))
          intro v301 w30 ho31 hb hg_ hnew_
          clear hg_ hnew_
          (first|rw [←Ny300.out] at ho31|(simp only [Int.reduceToNat] at ho31;rw [←Ny300.out] at ho31))
          have n0_:=a_ (Kd.Q_below (qp_ HO_4.out) hb)
          have n1_:=a_ (Kd.R_lower ho31 (keep_size (w:=w) (g:=g) (row:=none) (ke_)))
          have n2_:=a_ (IsS102.below (is_HI0) hb)
          have n3_:=a_ (KeepBut.trans (ke_) (KeepBut.of_below hb g none) (.inl rfl))
          have n4_:=a_ (bS_ (bel_) hb)
          clear HO_4
          clear HI0
          clear HK
          clear HB
          have HO_4:=n0_
          have HO302:=n1_
          have HI0:=n2_
          have HK:=n3_
          have HB:=n4_
          clear n0_ n1_ n2_ n3_ n4_
          clear hb ho31
          obtain ⟨Ao32,co32,eo32⟩:=Kd.R_slice HO302.out
          subst eo32
          obtain ⟨ado32,fo32,_⟩:=Kd.at_int (Kd.R_reads' HO302.out).2.2 0 (by decide) (by rw [Ny300.out];simp)
          cases fo32
          refine hK.out _ _ trivial (fun hHeld=>?_)
          clear hK K
          refine no_ 37 ?_
          exact norm_ (by simp only [putAll,Act.put,List.setIfInBounds_toArray,List.set_cons_zero,List.set_cons_succ]) (hCont (.slice (some ado32) y300.length co32,ado32) _ ⟨(rp_ HO302.out),(qp_ HO_4.out),⟨_,rfl⟩,(is_HI0),(ke_),(bel_)⟩)
        rintro ⟨v301,adz_v301⟩ w33 ⟨h0_,h1_,h2_,h3_,h4_,h5_⟩
        have n0_:Aside0 (Kd.R (Kd.int .i64) 3 w33 w.heap.size (fun _=>True) v301 y300):=⟨h0_⟩
        have n1_:Aside0 (Kd.Q k37 37 w33 w.heap.size (fun _=>True) u4 x4_1):=⟨h1_⟩
        have n2_:Aside0 (∃ c_,(v301:Value)=.slice (some adz_v301) y300.length c_):=⟨h2_⟩
        have n3_:Aside0 (IsS102 w0 w33 g s0_0 t304):=⟨h3_⟩
        have n4_:Aside0 (KeepBut w w33 g none):=⟨h4_⟩
        have n5_:Aside0 (Below w0.heap.size w0 w33):=⟨h5_⟩
        clear HO_4
        clear HI0
        clear HK
        clear HB
        clear h0_ h1_ h2_ h3_ h4_ h5_
        have HO302:=n0_
        have HO_4:=n1_
        have HA_HO302:=n2_
        have HI0:=n3_
        have HK:=n4_
        have HB:=n5_
        clear n0_ n1_ n2_ n3_ n4_ n5_
        have hHeld:=trivial
        obtain ⟨co34,eo34⟩:=HA_HO302.out
        clear HA_HO302
        subst eo34
        refine norm_ (a':=?_) ?_ ?_
        rotate_left
        ·simp only [putAll,Act.put,List.setIfInBounds_toArray,List.set_cons_zero,List.set_cons_succ]
         rfl
        refine pa_ 6 40 ?_
        refine on_ 7 41 (fun K hK=>?_)
        (have p305:0≤(t303:Int):=od_;have q305:t303 < (y300.length:Int):=od_;obtain ⟨ad305,e305,hx305_0⟩:=Kd.at_int (Kd.R_reads' HO302.out).2.2 t303 p305 q305;obtain rfl:adz_v301=ad305:=(by injection e305))
        refine value_ (w1:=?_) (v:=?_) (by rfl) rfl ?_ ?_
        rotate_left 2
        ·go_simp
         constructor
         ·rfl
         ·rfl
        clear hx305_0
        refine hK.out _ _ trivial (fun hHeld=>?_)
        clear hK K
        refine no_ 41 ?_
        refine pa_ 9 3 ?_
        refine done_ (done_of HT_.out (by kernel_rfl)) ?_
        try go_wp2
        go_ret2
        exact ⟨_,fi_,by (with_reducible repeat (first|apply Kd.Q_alloc|apply Kd.Q_drewN|apply Kd.Q_drew));exact HO_4.out,is_HI0,bel_,ke_⟩
       ·rw [if_neg c26] at H
        exact absurd H (by simp)
      ·rw [if_neg c25] at H
       exact absurd H (by simp)

def spec_l6Open.f (l0:List Int):Option (List Int×Int):=if (l0.length:Int) > 2000 then (if 2000≤(l0.length:Int) then (some (l0.take 2000,0)) else (none)) else (some (l0,0))
theorem spec_l6Open.calls (A0:Option Addr) (c0:Nat) (l0:List Int) (r1:List Int) (r2:Int) (w0 w:World) (hB:Below w0.heap.size w0 w) (hr0:Kd.C (Kd.int .u8) w0 A0 l0.length l0) (hc0:l0.length≤c0) (h:spec_l6Open.f l0=some (r1,r2)) :
  Calls Tryd.prog 52 #[.slice A0 l0.length c0] w fun e w'=>∃ g_:Nat,e=.returned (.pointer (some ⟨g_,0,none⟩))∧IsS102 w0 w' g_ r1 r2∧Below w0.heap.size w0 w'∧Below w.heap.size w w':=by
 have hu102:=Tryd.underlying102
 have HR0:=a_ hr0
 have HC0:=a_ hc0
 clear hr0 hc0
 have HBW:=a_ (Below.refl w.heap.size w)
 have HW0:=a_ hB.size
 have HB:=a_ hB
 clear hB
 unfold spec_l6Open.f at h
 have H:=h
 clear h
 by_cases c2:(l0.length:Int) > 2000
 ·rw [if_pos c2] at H
  have c2b0:decide (2000 < (l0.length:Int))=true:=dt_ c2
  have c2b1:decide (2000 < l0.length)=true:=dt_ (by omega)
  clear c2
  by_cases c3:2000≤(l0.length:Int)
  ·rw [if_pos c3] at H
   have c3b0:=eq_true c3
   have c3b1:decide (2000≤(l0.length:Int))=true:=dt_ c3
   clear c3
   simp only [Option.some.injEq,Prod.mk.injEq] at H
   obtain ⟨rfl,rfl⟩:=H
   obtain ⟨i04,hi04,_,hsz4,_⟩:=info_parts info5
   obtain ⟨hcut4,hA4,hC4⟩:=print_take_of (P:=Tryd.prog) (Value.int .u8) 0 22 5 .i64 Tryd.underlying22 hi04 hsz4 A0 c0 l0 2000 (by omega) (od_) HC0.out
   have HR314:=a_ (Kd.C_of_reads (h1:=fun _=>rfl) (hA4 _ (Kd.reads_of_C HR0.out)))
   have HC314:=a_ hC4
   clear hA4 hC4 hi04 hsz4
   go_enter Tryd.func52,Tryd.ntmps52
   go_wp2_with (first|((with_reducible refine gD_ (N:=10) rfl ?_);refine bx_ 10 (#[.slice A0 (l0.take 2000).length c0,.int .i64 0]) 102 ?_;intro gb315 hg w5 hbox hb;have n0_:=a_ (bS_ HBW.out hb);have n1_:=a_ (bS_ (bel_) hb);have n2_:=a_ (hbox);have n3_:=a_ ((by rw [hg];exact (below_size (by repeat (first|(with_reducible first|exact HBW.out|apply wA_|apply pw_below_drewN|apply below_drew1)|exact HBW.out))):w.heap.size≤gb315));have n4_:=a_ ((Nat.le_trans HW0.out (by rw [hg];exact (below_size (by repeat (first|(with_reducible first|exact HBW.out|apply wA_|apply pw_below_drewN|apply below_drew1)|exact HBW.out))):w.heap.size≤gb315):w0.heap.size≤gb315));clear HBW;clear HB;have HBW:=n0_;have HB:=n1_;have BK315:=n2_;have GW315:=n3_;have GE315:=n4_;clear n0_ n1_ n2_ n3_ n4_;clear hb hbox hg))
   go_ret
   exact ⟨_,rfl,(show IsS102 w0 _ gb315 (l0.take 2000) 0 from ⟨_,_,by (with_reducible repeat (first|refine bN_ ?_ _|refine bD_ ?_|refine bA_ ?_ _));exact BK315.out,GE315.out,HR314.out⟩),bel_,by repeat (first|(with_reducible first|exact HBW.out|apply wA_|apply pw_below_drewN|apply below_drew1|refine wS_ ?_ GW315.out)|exact HBW.out)⟩
  ·rw [if_neg c3] at H
   exact absurd H (by simp)
 ·rw [if_neg c2] at H
  have c2b0:decide (2000 < (l0.length:Int))=false:=df_ c2
  have c2b1:decide (2000 < l0.length)=false:=df_ (by omega)
  clear c2
  simp only [Option.some.injEq,Prod.mk.injEq] at H
  obtain ⟨rfl,rfl⟩:=H
  go_enter Tryd.func52,Tryd.ntmps52
  go_wp2_with (first|((with_reducible refine gD_ (N:=10) rfl ?_);refine bx_ 10 (#[.slice A0 l0.length c0,.int .i64 0]) 102 ?_;intro gb316 hg w6 hbox hb;have n0_:=a_ (bS_ HBW.out hb);have n1_:=a_ (bS_ (bel_) hb);have n2_:=a_ (hbox);have n3_:=a_ ((by rw [hg];exact (below_size (by repeat (first|(with_reducible first|exact HBW.out|apply wA_|apply pw_below_drewN|apply below_drew1)|exact HBW.out))):w.heap.size≤gb316));have n4_:=a_ ((Nat.le_trans HW0.out (by rw [hg];exact (below_size (by repeat (first|(with_reducible first|exact HBW.out|apply wA_|apply pw_below_drewN|apply below_drew1)|exact HBW.out))):w.heap.size≤gb316):w0.heap.size≤gb316));clear HBW;clear HB;have HBW:=n0_;have HB:=n1_;have BK316:=n2_;have GW316:=n3_;have GE316:=n4_;clear n0_ n1_ n2_ n3_ n4_;clear hb hbox hg))
  go_ret
  exact ⟨_,rfl,(show IsS102 w0 _ gb316 l0 0 from ⟨_,_,by (with_reducible repeat (first|refine bN_ ?_ _|refine bD_ ?_|refine bA_ ?_ _));exact BK316.out,GE316.out,HR0.out⟩),bel_,by repeat (first|(with_reducible first|exact HBW.out|apply wA_|apply pw_below_drewN|apply below_drew1|refine wS_ ?_ GW316.out)|exact HBW.out)⟩

def spec_l1Root.f (a0:Int):Option (Bool):=(spec_l6In.f a0 1 3).bind fun t325=>(some t325)
theorem spec_l1Root.calls (a0:Int) (r:Bool) (w:World) (h:spec_l1Root.f a0=some r) :
  Calls Tryd.prog 59 #[.int .i64 a0] w fun e w'=>e=.returned (.bool r)∧Drawn0 w w':=by
 unfold spec_l1Root.f at h
 have H:=h
 clear h
 replace H:=bs_ H
 obtain ⟨t325,A20,H⟩:=H
 try dsimp only at H
 have A2:=a_ A20
 clear A20
 obtain rfl:=sj_ H
 go_enter Tryd.func59,Tryd.ntmps59
 go_wp2_with (first|((with_reducible refine gC_ (f:=92) rfl ?_);refine gl_ 4 Tryd.func92 #[.int .i64 a0,.int .i64 1,.int .i64 3] ?_;(with_reducible refine (spec_l6In.calls a0 1 3 t325 _ A2.out).mono ?_);rintro e w' ⟨rfl,⟨nd,rfl⟩⟩;refine ⟨_,rfl,?_⟩))
 go_ret
 exact ⟨si_,by repeat (first|exact Drawn0.refl _|apply Drawn0.step)⟩

def spec_RowOk.f (k:Nat) (a0_0:Int) (a0_1:Int) (a0_2:ByteArray):Option (Bool):=(spec_l1Root.f a0_0).bind fun t327=>(if t327=true then (if a0_1=0 then (some (a0_2.toList==([]:List UInt8))) else (some false)) else ((spec_l1Made.f a0_0).bind fun t328=>(if t328=true then ((spec_l6In.f a0_1 1 18).bind fun t329=>(if t329=true then ((spec_l1Text.f k a0_2).bind fun t330=>(some t330)) else (some false))) else (some false))))
theorem spec_RowOk.mono:∀ a0 a1 a2 k,LeO (spec_RowOk.f k a0 a1 a2) (spec_RowOk.f (k+1) a0 a1 a2):=by
 intro a0 a1 a2 k
 unfold spec_RowOk.f
 repeat' first
   | (with_reducible exact spec_l1Text.mono _ _)
   | (with_reducible exact LeO.refl _)
   | (with_reducible exact LeO.none _)
   | (with_reducible refine LeO.ite ?_ ?_)
   | (with_reducible refine LeO.bind ?_ (fun _=>?_))
theorem spec_RowOk.calls (k:Nat) (a0_0:Int) (a0_1:Int) (a0_2:ByteArray) (r:Bool) (w:World) (h:spec_RowOk.f k a0_0 a0_1 a0_2=some r) :
  Calls Tryd.prog 58 #[.agg #[.int .i64 a0_0,.int .i64 a0_1,.string a0_2]] w fun e w'=>e=.returned (.bool r)∧Below w.heap.size w w':=by
 have hu37:=Tryd.underlying37
 have HB:=a_ (Below.refl w.heap.size w)
 unfold spec_RowOk.f at h
 have H:=h
 clear h
 replace H:=bs_ H
 obtain ⟨t327,A20,H⟩:=H
 try dsimp only at H
 have A2:=a_ A20
 clear A20
 by_cases c3:t327=true
 ·subst c3
  have H1:(if a0_1=0 then (some (a0_2.toList==([]:List UInt8))) else (some false))=some r:=by rw [if_pos rfl] at H;exact H
  clear H
  have H:=H1
  clear H1
  by_cases c4:a0_1=0
  ·rw [if_pos c4] at H
   have c4b0:(a0_1==0)=true:=beq_iff_eq.mpr c4
   have c4b1:(a0_1 != 0)=false:=be_ c4
   clear c4
   obtain rfl:=sj_ H
   go_enter Tryd.func58,Tryd.ntmps58
   go_wp2_with (first|((with_reducible refine gD_ (N:=1) rfl ?_);refine bx_ 1 (#[.int .i64 a0_0,.int .i64 a0_1,.string a0_2]) 37 ?_;intro gb326 hg w5 hbox hb;have n0_:=a_ (bS_ (bel_) hb);have n1_:=a_ (hbox);have n2_:=a_ ((by rw [hg];exact (below_size (bel_)):w.heap.size≤gb326));have n3_:=a_ ((by rw [hg];exact (below_size (bel_)):w.heap.size≤gb326));clear HB;have HB:=n0_;have BK326:=n1_;have GW326:=n2_;have GE326:=n3_;clear n0_ n1_ n2_ n3_;clear hb hbox hg;obtain ⟨Z6_0,Z6_1,Z6_2,Y6_0,Y6_1,Y6_2⟩:=op3_ BK326.out)|((with_reducible refine gC_ (f:=59) rfl ?_);refine gl_ 5 Tryd.func59 #[.int .i64 a0_0] ?_;(with_reducible refine (spec_l1Root.calls a0_0 true _ A2.out).mono ?_);rintro e w' ⟨rfl,⟨nd,rfl⟩⟩;refine ⟨_,rfl,?_⟩))
   go_ret
   exact ⟨fi_,bel_⟩
  ·rw [if_neg c4] at H
   have c4b0:(a0_1==0)=false:=bn_ c4
   have c4b1:(a0_1 != 0)=true:=bne_iff_ne.mpr c4
   obtain rfl:=sj_ H
   go_enter Tryd.func58,Tryd.ntmps58
   go_wp2_with (first|((with_reducible refine gD_ (N:=1) rfl ?_);refine bx_ 1 (#[.int .i64 a0_0,.int .i64 a0_1,.string a0_2]) 37 ?_;intro gb326 hg w7 hbox hb;have n0_:=a_ (bS_ (bel_) hb);have n1_:=a_ (hbox);have n2_:=a_ ((by rw [hg];exact (below_size (bel_)):w.heap.size≤gb326));have n3_:=a_ ((by rw [hg];exact (below_size (bel_)):w.heap.size≤gb326));clear HB;have HB:=n0_;have BK326:=n1_;have GW326:=n2_;have GE326:=n3_;clear n0_ n1_ n2_ n3_;clear hb hbox hg;obtain ⟨Z8_0,Z8_1,Z8_2,Y8_0,Y8_1,Y8_2⟩:=op3_ BK326.out)|((with_reducible refine gC_ (f:=59) rfl ?_);refine gl_ 5 Tryd.func59 #[.int .i64 a0_0] ?_;(with_reducible refine (spec_l1Root.calls a0_0 true _ A2.out).mono ?_);rintro e w' ⟨rfl,⟨nd,rfl⟩⟩;refine ⟨_,rfl,?_⟩))
   go_ret
   exact ⟨fi_,bel_⟩
 ·replace c3:=Bool.eq_false_iff.mpr c3
  subst c3
  have H1:((spec_l1Made.f a0_0).bind fun t328=>(if t328=true then ((spec_l6In.f a0_1 1 18).bind fun t329=>(if t329=true then ((spec_l1Text.f k a0_2).bind fun t330=>(some t330)) else (some false))) else (some false)))=some r:=by rw [if_neg (show ¬ (false=true) by decide)] at H;exact H
  clear H
  have H:=H1
  clear H1
  replace H:=bs_ H
  obtain ⟨t328,A90,H⟩:=H
  try dsimp only at H
  have A9:=a_ A90
  clear A90
  by_cases c10:t328=true
  ·subst c10
   have H1:((spec_l6In.f a0_1 1 18).bind fun t329=>(if t329=true then ((spec_l1Text.f k a0_2).bind fun t330=>(some t330)) else (some false)))=some r:=by rw [if_pos rfl] at H;exact H
   clear H
   have H:=H1
   clear H1
   replace H:=bs_ H
   obtain ⟨t329,A110,H⟩:=H
   try dsimp only at H
   have A11:=a_ A110
   clear A110
   by_cases c12:t329=true
   ·subst c12
    have H1:((spec_l1Text.f k a0_2).bind fun t330=>(some t330))=some r:=by rw [if_pos rfl] at H;exact H
    clear H
    have H:=H1
    clear H1
    replace H:=bs_ H
    obtain ⟨t330,A130,H⟩:=H
    try dsimp only at H
    have A13:=a_ A130
    clear A130
    obtain rfl:=sj_ H
    go_enter Tryd.func58,Tryd.ntmps58
    go_wp2_with (first|((with_reducible refine gD_ (N:=1) rfl ?_);refine bx_ 1 (#[.int .i64 a0_0,.int .i64 a0_1,.string a0_2]) 37 ?_;intro gb326 hg w14 hbox hb;have n0_:=a_ (bS_ (bel_) hb);have n1_:=a_ (hbox);have n2_:=a_ ((by rw [hg];exact (below_size (bel_)):w.heap.size≤gb326));have n3_:=a_ ((by rw [hg];exact (below_size (bel_)):w.heap.size≤gb326));clear HB;have HB:=n0_;have BK326:=n1_;have GW326:=n2_;have GE326:=n3_;clear n0_ n1_ n2_ n3_;clear hb hbox hg;obtain ⟨Z15_0,Z15_1,Z15_2,Y15_0,Y15_1,Y15_2⟩:=op3_ BK326.out)|((with_reducible refine gC_ (f:=59) rfl ?_);refine gl_ 5 Tryd.func59 #[.int .i64 a0_0] ?_;(with_reducible refine (spec_l1Root.calls a0_0 false _ A2.out).mono ?_);rintro e w' ⟨rfl,⟨nd,rfl⟩⟩;refine ⟨_,rfl,?_⟩)|((with_reducible refine gC_ (f:=53) rfl ?_);refine gl_ 16 Tryd.func53 #[.int .i64 a0_0] ?_;(with_reducible refine (spec_l1Made.calls a0_0 true _ A9.out).mono ?_);rintro e w' ⟨rfl,⟨nd,rfl⟩⟩;refine ⟨_,rfl,?_⟩)|(go_at_call 92;(with_reducible refine (spec_l6In.calls a0_1 1 18 true _ A11.out).mono ?_);rintro e w' ⟨rfl,⟨nd,rfl⟩⟩)|(go_at_call 87;(with_reducible refine (spec_l1Text.calls k a0_2 t330 _ A13.out).mono ?_);rintro e w' ⟨rfl,⟨nd,rfl⟩⟩))
    go_ret
    exact ⟨fi_,bel_⟩
   ·replace c12:=Bool.eq_false_iff.mpr c12
    subst c12
    have H1:(some false)=some r:=by rw [if_neg (show ¬ (false=true) by decide)] at H;exact H
    clear H
    have H:=H1
    clear H1
    obtain rfl:=sj_ H
    go_enter Tryd.func58,Tryd.ntmps58
    go_wp2_with (first|((with_reducible refine gD_ (N:=1) rfl ?_);refine bx_ 1 (#[.int .i64 a0_0,.int .i64 a0_1,.string a0_2]) 37 ?_;intro gb326 hg w16 hbox hb;have n0_:=a_ (bS_ (bel_) hb);have n1_:=a_ (hbox);have n2_:=a_ ((by rw [hg];exact (below_size (bel_)):w.heap.size≤gb326));have n3_:=a_ ((by rw [hg];exact (below_size (bel_)):w.heap.size≤gb326));clear HB;have HB:=n0_;have BK326:=n1_;have GW326:=n2_;have GE326:=n3_;clear n0_ n1_ n2_ n3_;clear hb hbox hg;obtain ⟨Z17_0,Z17_1,Z17_2,Y17_0,Y17_1,Y17_2⟩:=op3_ BK326.out)|((with_reducible refine gC_ (f:=59) rfl ?_);refine gl_ 5 Tryd.func59 #[.int .i64 a0_0] ?_;(with_reducible refine (spec_l1Root.calls a0_0 false _ A2.out).mono ?_);rintro e w' ⟨rfl,⟨nd,rfl⟩⟩;refine ⟨_,rfl,?_⟩)|((with_reducible refine gC_ (f:=53) rfl ?_);refine gl_ 16 Tryd.func53 #[.int .i64 a0_0] ?_;(with_reducible refine (spec_l1Made.calls a0_0 true _ A9.out).mono ?_);rintro e w' ⟨rfl,⟨nd,rfl⟩⟩;refine ⟨_,rfl,?_⟩)|(go_at_call 92;(with_reducible refine (spec_l6In.calls a0_1 1 18 false _ A11.out).mono ?_);rintro e w' ⟨rfl,⟨nd,rfl⟩⟩))
    go_ret
    exact ⟨fi_,bel_⟩
  ·replace c10:=Bool.eq_false_iff.mpr c10
   subst c10
   have H1:(some false)=some r:=by rw [if_neg (show ¬ (false=true) by decide)] at H;exact H
   clear H
   have H:=H1
   clear H1
   obtain rfl:=sj_ H
   go_enter Tryd.func58,Tryd.ntmps58
   go_wp2_with (first|((with_reducible refine gD_ (N:=1) rfl ?_);refine bx_ 1 (#[.int .i64 a0_0,.int .i64 a0_1,.string a0_2]) 37 ?_;intro gb326 hg w18 hbox hb;have n0_:=a_ (bS_ (bel_) hb);have n1_:=a_ (hbox);have n2_:=a_ ((by rw [hg];exact (below_size (bel_)):w.heap.size≤gb326));have n3_:=a_ ((by rw [hg];exact (below_size (bel_)):w.heap.size≤gb326));clear HB;have HB:=n0_;have BK326:=n1_;have GW326:=n2_;have GE326:=n3_;clear n0_ n1_ n2_ n3_;clear hb hbox hg;obtain ⟨Z19_0,Z19_1,Z19_2,Y19_0,Y19_1,Y19_2⟩:=op3_ BK326.out)|((with_reducible refine gC_ (f:=59) rfl ?_);refine gl_ 5 Tryd.func59 #[.int .i64 a0_0] ?_;(with_reducible refine (spec_l1Root.calls a0_0 false _ A2.out).mono ?_);rintro e w' ⟨rfl,⟨nd,rfl⟩⟩;refine ⟨_,rfl,?_⟩)|((with_reducible refine gC_ (f:=53) rfl ?_);refine gl_ 16 Tryd.func53 #[.int .i64 a0_0] ?_;(with_reducible refine (spec_l1Made.calls a0_0 false _ A9.out).mono ?_);rintro e w' ⟨rfl,⟨nd,rfl⟩⟩;refine ⟨_,rfl,?_⟩))
   go_ret
   exact ⟨fi_,bel_⟩

def laws_lpInts.l0:Nat→List Int→List Int→Int→Option (Bool)
 | 0,_,_,_=>none
 | k+1,x0,x1,x5=>if x5 < (x0.length:Int) then (if 0≤x5 then (if x5 < (x1.length:Int) then (if (rd x0 x5)=(rd x1 x5) then (laws_lpInts.l0 k x0 x1 (wrap64 (x5+1))) else (some false)) else (none)) else (none)) else (some true)
def laws_lpInts.f (k:Nat) (l0:List Int) (l1:List Int):Option (Bool):=if (l0.length:Int)=(l1.length:Int) then (laws_lpInts.l0 k l0 l1 0) else (some false)
theorem laws_lpInts.mono_l:∀ k,(∀ y0 y1 y2,LeO (laws_lpInts.l0 k y0 y1 y2) (laws_lpInts.l0 (k+1) y0 y1 y2))
 | 0=>fun _ _ _ r h=>by simp [laws_lpInts.l0] at h
 | k+1=>by
  have ih0:=laws_lpInts.mono_l k
  ·intro y0 y1 y2
   unfold laws_lpInts.l0
   repeat' first
   | (with_reducible exact ih0 _ _ _)
   | (with_reducible exact LeO.refl _)
   | (with_reducible exact LeO.none _)
   | (with_reducible refine LeO.ite ?_ ?_)
   | (with_reducible refine LeO.bind ?_ (fun _=>?_))
theorem laws_lpInts.mono:∀ a0 a1 k,LeO (laws_lpInts.f k a0 a1) (laws_lpInts.f (k+1) a0 a1):=by
 intro a0 a1 k
 have ih0:=laws_lpInts.mono_l k
 unfold laws_lpInts.f
 repeat' first
   | (with_reducible exact ih0 _ _ _)
   | (with_reducible exact LeO.refl _)
   | (with_reducible exact LeO.none _)
   | (with_reducible refine LeO.ite ?_ ?_)
   | (with_reducible refine LeO.bind ?_ (fun _=>?_))
theorem laws_lpInts.calls (k:Nat) (A0:Option Addr) (c0:Nat) (l0:List Int) (A1:Option Addr) (c1:Nat) (l1:List Int) (r:Bool) (w:World) (hr0:Kd.C (Kd.int .i64) w A0 l0.length l0) (hc0:l0.length≤c0) (hr1:Kd.C (Kd.int .i64) w A1 l1.length l1) (hc1:l1.length≤c1) (h:laws_lpInts.f k l0 l1=some r) :
  Calls Tryd.prog 38 #[.slice A0 l0.length c0,.slice A1 l1.length c1] w fun e w'=>e=.returned (.bool r)∧Drawn0 w w':=by
 have HR0:=a_ hr0
 have HC0:=a_ hc0
 clear hr0 hc0
 have HR1:=a_ hr1
 have HC1:=a_ hc1
 clear hr1 hc1
 unfold laws_lpInts.f at h
 have H:=h
 clear h
 by_cases c3:(l0.length:Int)=(l1.length:Int)
 ·rw [if_pos c3] at H
  have c3b0:((l0.length:Int)==(l1.length:Int))=true:=beq_iff_eq.mpr c3
  have c3b1:((l0.length:Int) != (l1.length:Int))=false:=be_ c3
  have c3b2:(l0.length==l1.length)=true:=by first|simpa using c3|(simp at c3 ⊢;omega)
  clear c3
  have H':=a_ H
  clear H
  go_enter Tryd.func38,Tryd.ntmps38
  go_wp2
  repeat (go_quiet (fail);try go_wp2)
  go_loopg [5] k (fun kq v5 w'=>∃ (x5_1:Int),v5=.int .i64 x5_1∧Aside0 (laws_lpInts.l0 kq l0 l1 x5_1=some r)∧Aside0 (kq≤k)∧Drawn0 w w')
  case atStart=>exact ⟨(0),(si_),H',⟨Nat.le_refl _⟩,by repeat (first|exact Drawn0.refl _|apply Drawn0.step)⟩
  case round =>
   clear H'
   try clear c1
   try clear p2
   try clear c3
   try clear c3b0
   try clear c3b1
   try clear c3b2
   obtain ⟨x5_1,rfl,HA,HK1,⟨m1,rfl⟩⟩:=hrel
   cases gk with
   | zero=>exact absurd HA.out (by simp [laws_lpInts.l0])
   | succ k1 =>
    have H:=HA.out
    clear HA
    simp only [laws_lpInts.l0] at H
    by_cases c4:x5_1 < (l0.length:Int)
    ·rw [if_pos c4] at H
     have c4b0:decide (x5_1 < (l0.length:Int))=true:=dt_ c4
     clear c4
     by_cases c5:0≤x5_1
     ·rw [if_pos c5] at H
      have c5b0:decide (0≤x5_1)=true:=dt_ c5
      clear c5
      by_cases c6:x5_1 < (l1.length:Int)
      ·rw [if_pos c6] at H
       have c6b0:decide (x5_1 < (l1.length:Int))=true:=dt_ c6
       clear c6
       by_cases c7:(rd l0 x5_1)=(rd l1 x5_1)
       ·rw [if_pos c7] at H
        have c7b0:((rd l0 x5_1)==(rd l1 x5_1))=true:=beq_iff_eq.mpr c7
        have c7b1:((rd l0 x5_1) != (rd l1 x5_1))=false:=be_ c7
        clear c7
        have H':=a_ H
        clear H
        have p668:0≤(x5_1:Int):=od_
        have q668:x5_1 < (l0.length:Int):=od_
        obtain ⟨ad668,e668,hx668_0⟩:=Kd.at_int HR0.out x5_1 p668 q668
        cases e668
        replace p668:=eq_true p668
        replace q668:=eq_true q668
        have p669:0≤(x5_1:Int):=od_
        have q669:x5_1 < (l1.length:Int):=od_
        obtain ⟨ad669,e669,hx669_0⟩:=Kd.at_int HR1.out x5_1 p669 q669
        cases e669
        replace p669:=eq_true p669
        replace q669:=eq_true q669
        go_wp2
        repeat (go_quiet (fail);try go_wp2)
        go_roundg k1
        case measure=>have:=HK1.out;omega
        case rel=>exact ⟨(wrap64 (x5_1+1)),(si_),H',⟨by have:=HK1.out;omega⟩,by repeat (first|exact Drawn0.refl _|apply Drawn0.step)⟩
       ·rw [if_neg c7] at H
        have c7b0:((rd l0 x5_1)==(rd l1 x5_1))=false:=bn_ c7
        have c7b1:((rd l0 x5_1) != (rd l1 x5_1))=true:=bne_iff_ne.mpr c7
        obtain rfl:=sj_ H
        have p668:0≤(x5_1:Int):=od_
        have q668:x5_1 < (l0.length:Int):=od_
        obtain ⟨ad668,e668,hx668_0⟩:=Kd.at_int HR0.out x5_1 p668 q668
        cases e668
        replace p668:=eq_true p668
        replace q668:=eq_true q668
        have p669:0≤(x5_1:Int):=od_
        have q669:x5_1 < (l1.length:Int):=od_
        obtain ⟨ad669,e669,hx669_0⟩:=Kd.at_int HR1.out x5_1 p669 q669
        cases e669
        replace p669:=eq_true p669
        replace q669:=eq_true q669
        go_wp2
        repeat (go_quiet (fail);try go_wp2)
        go_ret
        exact ⟨si_,by repeat (first|exact Drawn0.refl _|apply Drawn0.step)⟩
      ·rw [if_neg c6] at H
       exact absurd H (by simp)
     ·rw [if_neg c5] at H
      exact absurd H (by simp)
    ·rw [if_neg c4] at H
     have c4b0:decide (x5_1 < (l0.length:Int))=false:=df_ c4
     clear c4
     obtain rfl:=sj_ H
     go_wp2
     repeat (go_quiet (fail);try go_wp2)
     go_ret
     exact ⟨si_,by repeat (first|exact Drawn0.refl _|apply Drawn0.step)⟩
 ·rw [if_neg c3] at H
  have c3b0:((l0.length:Int)==(l1.length:Int))=false:=bn_ c3
  have c3b1:((l0.length:Int) != (l1.length:Int))=true:=bne_iff_ne.mpr c3
  have c3b2:(l0.length==l1.length)=false:=by first|simpa using c3|(simp at c3 ⊢;omega)
  obtain rfl:=sj_ H
  go_enter Tryd.func38,Tryd.ntmps38
  go_wp2
  repeat (go_quiet (fail);try go_wp2)
  go_ret
  exact ⟨si_,by repeat (first|exact Drawn0.refl _|apply Drawn0.step)⟩


end Go.Proofs.YtlkheeegkifblaaDoor.P
namespace Go.Proofs.YtlkheeegkifblaaDoor.PL
open Go.RowKit Go.Proofs.YtlkheeegkifblaaDoor.P Go.Proofs.YtlkheeegkifblaaDoorW.PrintWords Go.Proofs.YtlkheeegkifblaaDoorW.PrintLast
theorem evnow {α:Type} (a:α):Ev (fun _=>some a) a:=⟨0,fun _ _=>rfl⟩
theorem ev_neg {α:Type} {c:Prop} [Decidable c] {f g:Nat→Option α} {r:α} (h:¬ c) (k:Ev g r):Ev (fun n=>if c then f n else g n) r:=Ev.congr (fun _=>if_neg h) k
theorem ev_pos {α:Type} {c:Prop} [Decidable c] {f g:Nat→Option α} {r:α} (h:c) (k:Ev f r):Ev (fun n=>if c then f n else g n) r:=Ev.congr (fun _=>if_pos h) k
theorem wrapS (i:Int) (h0:0≤i) (h:i≤4611686018427387904):wrap64 (i+1)=i+1:=by unfold wrap64;omega
theorem wrapT (i:Int) (h0:0≤i) (h:i+1≤9223372036854775807):wrap64 (i+1)=i+1:=by unfold wrap64;omega
def I64 (a:Int):Prop:=-9223372036854775808≤a∧a≤9223372036854775807

def madeB (a:Int):Bool:=decide (ownI a≠0)&&decide (ownI a≠1)
def rootB (a:Int):Bool:=decide (1≤a)&&decide (a≤3)
theorem in_f (a b c:Int):spec_l6In.f a b c=some (decide (b≤a)&&decide (a≤c)):=by
 unfold spec_l6In.f
 by_cases h:a≥b
 ·rw [if_pos h];simp [h]
 ·rw [if_neg h];simp [show ¬ b≤a from h]
theorem ownI_out (a:Int) (h:a < 0∨37≤a):ownI a=0:=by
 unfold ownI
 rw [if_neg (by omega)]
theorem small_made:∀ n:Nat,n < 37→(decide (1≤Int.tdiv (n:Int) 10)&&decide (Int.tdiv (n:Int) 10≤3))=true→(decide (1≤Int.tmod (n:Int) 10)&&decide (Int.tmod (n:Int) 10≤6))=madeB n:=by decide
theorem small_unmade:∀ n:Nat,n < 37→(decide (1≤Int.tdiv (n:Int) 10)&&decide (Int.tdiv (n:Int) 10≤3))=false→madeB n=false:=by decide
theorem small_root:∀ n:Nat,n < 37→(decide (ownI n≠0)&&decide (ownI n - 1=0))=rootB n:=by decide
theorem tdiv_wrap (a:Int) (h:I64 a):wrap64 (Int.tdiv a 10)=Int.tdiv a 10:=by
 obtain ⟨h1,h2⟩:=h
 have:Int.tdiv a 10≤9223372036854775807∧-9223372036854775808≤Int.tdiv a 10:=by
  rcases Int.le_total 0 a with h0|h0
  ·rw [Int.tdiv_eq_ediv_of_nonneg h0];omega
  ·have e:Int.tdiv a 10=-(Int.tdiv (-a) 10):=by rw [Int.neg_tdiv,Int.neg_neg]
   rw [e,Int.tdiv_eq_ediv_of_nonneg (by omega)];omega
 unfold wrap64;omega
theorem made_f (a:Int) (h:I64 a):spec_l1Made.f a=some (madeB a):=by
 unfold spec_l1Made.f
 rw [in_f,in_f,tdiv_wrap a h]
 simp only [Option.bind_some]
 by_cases hs:0≤a∧a < 37
 ·obtain ⟨n,rfl⟩:∃ n:Nat,a=n:=⟨a.toNat,by omega⟩
  have hn:n < 37:=by omega
  cases hd:(decide (1≤Int.tdiv (n:Int) 10)&&decide (Int.tdiv (n:Int) 10≤3)) with
  | true=>rw [if_pos rfl,small_made n hn hd]
  | false=>rw [if_neg (by decide),small_unmade n hn hd]
 ·have ho:madeB a=false:=by unfold madeB;rw [ownI_out a (by omega)];rfl
  rw [ho]
  rcases Int.lt_or_le a 0 with h0|h0
  ·have e:Int.tdiv a 10=-(Int.tdiv (-a) 10):=by rw [Int.neg_tdiv,Int.neg_neg]
   have h1:Int.tdiv a 10≤0:=by rw [e,Int.tdiv_eq_ediv_of_nonneg (by omega)];omega
   have h2:decide (1≤Int.tdiv a 10)=false:=df_ (by omega)
   rw [h2]
   simp
  ·have e1:=Int.tdiv_eq_ediv_of_nonneg (b:=10) h0
   have e2:Int.tmod a 10=a % 10:=Int.tmod_eq_emod_of_nonneg h0
   rw [e1,e2]
   by_cases h3:a / 10≤3
   ·have h4:decide (a % 10≤6)=false:=df_ (by omega)
    rw [h4]
    simp
   ·have h4:decide (a / 10≤3)=false:=df_ h3
    rw [h4]
    simp
theorem isMade_f (a:Int):impl_isMade.f a=some (madeB a):=by
 unfold impl_isMade.f impl_RowWho.f madeB
 simp only [Option.bind_some]
 by_cases h0:ownI a=0
 ·rw [if_pos h0];simp [h0]
 ·rw [if_neg h0]
  by_cases h1:ownI a=1
  ·simp [h1]
  ·simp [h0,h1]
   omega
theorem isRoot_f (a:Int):impl_isRoot.f a=some (rootB a):=by
 unfold impl_isRoot.f impl_RowWho.f
 simp only [Option.bind_some]
 by_cases hs:0≤a∧a < 37
 ·obtain ⟨n,rfl⟩:∃ n:Nat,a=n:=⟨a.toNat,by omega⟩
  have:=small_root n (by omega)
  rw [←this]
  by_cases h0:ownI (n:Int)=0
  ·rw [if_pos h0];simp [h0]
  ·rw [if_neg h0]
   by_cases h1:ownI (n:Int) - 1=0 <;> simp [h0,h1]
 ·rw [if_pos (ownI_out a (by omega))]
  have:rootB a=false:=by unfold rootB;simp;omega
  rw [this]
  simp
theorem root_f (a:Int):spec_l1Root.f a=some (rootB a):=by
 unfold spec_l1Root.f
 rw [in_f]
 rfl
def idB (a:Int):Bool:=rootB a || madeB a
def placeB (u a:Int):Bool:=idB u&&(decide (a=0) || madeB a)
theorem place_f (u a:Int):impl_placeOk.f u a=some (placeB u a):=by
 unfold impl_placeOk.f placeB idB
 rw [isMade_f,isMade_f,isRoot_f]
 simp only [Option.bind_some]
 by_cases h:a=0
 ·simp only [h,if_true]
  cases madeB u <;> cases rootB u <;> simp
 ·simp only [h,if_false]
  cases madeB u <;> cases rootB u <;> simp
def textFrom (s:ByteArray) (i:Nat):Nat→Bool
 | 0=>true
 | n+1=>decide (97≤bt s i)&&decide (bt s i≤100)&&textFrom s (i+1) n
def textB (s:ByteArray):Bool:=textFrom s 0 s.size&&decide (s.size≤4)
theorem bt_range (s:ByteArray) (i:Int):0≤bt s i∧bt s i≤255:=by
 unfold bt
 split
 ·rename_i h
  have:=(s[i.toNat]'h).toNat_lt
  omega
 ·omega
theorem text_l0 (s:ByteArray) (hs:s.size≤9223372036854775807):∀ (n:Nat) (i:Nat),i+n=s.size→Ev (fun k=>spec_l1Text.l0 k s i) (textFrom s i n&&decide (s.size≤4))
 | 0,i,h=>by
  refine Ev.step (f:=fun _=>some (decide ((s.size:Int)≤4))) (fun k=>?_) ?_
  ·simp only [spec_l1Text.l0];rw [if_neg (by omega)]
  ·have:decide ((s.size:Int)≤4)=(textFrom s i 0&&decide (s.size≤4)):=by simp [textFrom];omega
   rw [this];exact evnow _
 | n+1,i,h=>by
  have hw:wrap64 (bt s i)=bt s i:=by have:=bt_range s i;unfold wrap64;omega
  unfold textFrom
  cases ht:(decide (97≤bt s i)&&decide (bt s i≤100)) with
  | true =>
   rw [Bool.true_and]
   refine Ev.step (fun k=>?_) (text_l0 s hs n (i+1) (by omega))
   simp only [spec_l1Text.l0]
   rw [if_pos (by omega),if_pos (by omega),hw,in_f,ht,Option.bind_some,if_pos rfl,wrapT i (by omega) (by omega)]
   rfl
  | false =>
   rw [Bool.false_and,Bool.false_and]
   refine Ev.step (f:=fun _=>some false) (fun k=>?_) (evnow _)
   simp only [spec_l1Text.l0]
   rw [if_pos (by omega),if_pos (by omega),hw,in_f,ht,Option.bind_some,if_neg (by decide)]
theorem text_f (s:ByteArray) (hs:s.size≤9223372036854775807):Ev (fun k=>spec_l1Text.f k s) (textB s):=text_l0 s hs s.size 0 (by omega)
theorem itext_l0 (s:ByteArray) (hs:s.size≤9223372036854775807):∀ (n:Nat) (i:Nat),i+n=s.size→Ev (fun k=>impl_textOk.l0 k s i) (textFrom s i n)
 | 0,i,h=>by
  refine Ev.step (f:=fun _=>some true) (fun k=>?_) (evnow _)
  simp only [impl_textOk.l0];rw [if_neg (by omega)]
 | n+1,i,h=>by
  unfold textFrom
  by_cases h1:bt s i < 97
  ·have:decide (97≤bt s i)=false:=df_ (by omega)
   rw [this,Bool.false_and,Bool.false_and]
   refine Ev.step (f:=fun _=>some false) (fun k=>?_) (evnow _)
   simp only [impl_textOk.l0]
   rw [if_pos (by omega),if_pos (by omega),if_pos h1]
  ·by_cases h2:bt s i > 100
   ·have:decide (bt s i≤100)=false:=df_ (by omega)
    rw [this,Bool.and_false,Bool.false_and]
    refine Ev.step (f:=fun _=>some false) (fun k=>?_) (evnow _)
    simp only [impl_textOk.l0]
    rw [if_pos (by omega),if_pos (by omega),if_neg h1,if_pos h2]
   ·have e1:decide (97≤bt s i)=true:=dt_ (by omega)
    have e2:decide (bt s i≤100)=true:=dt_ (by omega)
    rw [e1,e2,Bool.true_and,Bool.true_and]
    refine Ev.step (fun k=>?_) (itext_l0 s hs n (i+1) (by omega))
    simp only [impl_textOk.l0]
    rw [if_pos (by omega),if_pos (by omega),if_neg h1,if_neg h2,wrapT i (by omega) (by omega)]
    rfl
theorem itext_f (s:ByteArray) (hs:s.size≤9223372036854775807):Ev (fun k=>impl_textOk.f k s) (textB s):=by
 unfold impl_textOk.f textB
 by_cases h:(s.size:Int) > 4
 ·refine ev_pos h ?_
  have:decide (s.size≤4)=false:=df_ (by omega)
  rw [this,Bool.and_false]
  exact evnow _
 ·refine ev_neg h ?_
  have:decide (s.size≤4)=true:=dt_ (by omega)
  rw [this,Bool.and_true]
  exact itext_l0 s hs s.size 0 (by omega)
def opB (k i u a:Int) (s:ByteArray):Bool :=
 madeB i&&(if k=1 then placeB u a&&textB s else if k=2 then decide (u=0)&&decide (a=0)&&textB s else if k=3 then placeB u a&&s.toList.isEmpty else false)
theorem opOk_f (k i u a:Int) (s:ByteArray) (hs:s.size≤9223372036854775807):Ev (fun n=>impl_OpOk.f n k i u a s) (opB k i u a s):=by
 unfold impl_OpOk.f impl_changeOf.f opB
 rw [isMade_f]
 simp only [Option.bind_some]
 cases madeB i with
 | false=>simp only [Bool.false_eq_true,if_false,Bool.false_and];exact evnow _
 | true =>
  simp only [if_true,Bool.true_and,place_f,Option.bind_some]
  by_cases h1:k=1
  ·simp only [h1,if_true]
   cases placeB u a with
   | true=>simp only [if_true,Bool.true_and];exact itext_f s hs
   | false=>simp only [Bool.false_eq_true,if_false,Bool.false_and];exact evnow _
  ·simp only [h1,if_false]
   by_cases h2:k=2
   ·simp only [h2,if_true]
    by_cases h3:u=0
    ·by_cases h4:a=0
     ·simp only [h3,h4,if_true,decide_true,Bool.true_and];exact itext_f s hs
     ·simp only [h3,h4,if_true,if_false,decide_true,decide_false,Bool.true_and,Bool.false_and];exact evnow _
    ·simp only [h3,if_false,decide_false,Bool.false_and];exact evnow _
   ·simp only [h2,if_false]
    by_cases h3:k=3
    ·simp only [h3,if_true]
     cases placeB u a with
     | true=>simp only [if_true,Bool.true_and];exact evnow _
     | false=>simp only [Bool.false_eq_true,if_false,Bool.false_and];exact evnow _
    ·simp only [h3,if_false];exact evnow _
theorem made_small (a:Int) (h:madeB a=true):0≤a∧a < 37:=by
 rcases Int.lt_or_le a 0 with h0|h0
 ·unfold madeB at h;rw [ownI_out a (by omega)] at h;simp at h
 ·rcases Int.lt_or_le a 37 with h1|h1
  ·exact ⟨h0,h1⟩
  ·unfold madeB at h;rw [ownI_out a (by omega)] at h;simp at h
theorem opB_made (k i u a:Int) (s:ByteArray) (h:opB k i u a s=true):madeB i=true:=by
 unfold opB at h
 simp only [Bool.and_eq_true] at h
 exact h.1
def rowB (r:S37):Bool:=if rootB r.f0 then decide (r.f1=0)&&(r.f2.toList==([]:List UInt8)) else madeB r.f0&&(decide (1≤r.f1)&&(decide (r.f1≤18)&&textB r.f2))
theorem itext_any (s:ByteArray):Ev (fun k=>impl_textOk.f k s) (textB s):=by
 by_cases hs:s.size≤9223372036854775807
 ·exact itext_f s hs
 ·have e:textB s=false:=by unfold textB;simp;omega
  rw [e]
  refine Ev.congr (fun k=>?_) (evnow false)
  unfold impl_textOk.f
  exact if_pos (by omega)
theorem row_f (r:S37):Ev (fun k=>impl_RowOk.f k r.f0 r.f1 r.f2) (rowB r):=by
 unfold impl_RowOk.f rowB
 rw [isRoot_f,isMade_f]
 simp only [Option.bind_some]
 cases rootB r.f0 with
 | true =>
  simp only [if_true]
  by_cases h:r.f1=0
  ·simp only [h,if_true,decide_true,Bool.true_and];exact evnow _
  ·simp only [h,if_false,decide_false,Bool.false_and];exact evnow _
 | false =>
  cases madeB r.f0 with
  | false=>simp only [Bool.false_eq_true,if_false,Bool.false_and];exact evnow _
  | true =>
   simp only [Bool.false_eq_true,if_false,if_true,Bool.true_and]
   by_cases h1:1≤r.f1
   ·refine ev_pos h1 ?_
    by_cases h2:r.f1≤18
    ·refine ev_pos h2 ?_
     simp only [h1,h2,decide_true,Bool.true_and]
     exact Ev.bind (itext_any r.f2) (evnow _)
    ·refine ev_neg h2 ?_
     simp only [h1,h2,decide_true,decide_false,Bool.true_and,Bool.false_and]
     exact evnow _
   ·refine ev_neg h1 ?_
    simp only [h1,decide_false,Bool.false_and]
    exact evnow _
theorem srow_f (r:S37) (hi:I64 r.f0) (hs:r.f2.size≤9223372036854775807):Ev (fun k=>spec_RowOk.f k r.f0 r.f1 r.f2) (rowB r):=by
 unfold spec_RowOk.f rowB
 rw [root_f,made_f _ hi,in_f]
 simp only [Option.bind_some]
 cases rootB r.f0 with
 | true =>
  simp only [if_true]
  by_cases h:r.f1=0
  ·simp only [h,if_true,decide_true,Bool.true_and];exact evnow _
  ·simp only [h,if_false,decide_false,Bool.false_and];exact evnow _
 | false =>
  cases madeB r.f0 with
  | false=>simp only [Bool.false_eq_true,if_false,Bool.false_and];exact evnow _
  | true =>
   simp only [Bool.false_eq_true,if_false,if_true,Bool.true_and]
   cases h:(decide (1≤r.f1)&&decide (r.f1≤18)) with
   | true =>
    simp only [Bool.and_eq_true] at h
    rw [h.1,h.2]
    simp only [if_true,Bool.true_and]
    exact Ev.bind (text_f r.f2 hs) (evnow _)
   | false =>
    rw [←Bool.and_assoc,h]
    simp only [Bool.false_eq_true,if_false,Bool.false_and]
    exact evnow _
end Go.Proofs.YtlkheeegkifblaaDoor.PL
namespace Go.Proofs.YtlkheeegkifblaaDoor.P
open Go.RowKit Go.Proofs.YtlkheeegkifblaaDoorW.PrintWords Go.Proofs.YtlkheeegkifblaaDoorW.PrintLast Go.Proofs.YtlkheeegkifblaaDoorW.PrintMore Go.Proofs.YtlkheeegkifblaaDoor.PL
def treeGo (seen:List Int) (roots depth:Int):List S37→Bool
 | []=>decide (roots=3)
 | r::rest=>rowB r&&(decide (r.f0∉seen)&&(decide (r.f1≤depth+1) &&
   (if rootB r.f0 then decide (r.f0=roots+1)&&treeGo (r.f0::seen) (roots+1) r.f1 rest else treeGo (r.f0::seen) roots r.f1 rest)))
def treeB (l:List S37):Bool:=treeGo [] 0 (-1) l
def impl_TreeOk.f (k:Nat) (l0:List S37):Option Bool:=some (treeB l0)
theorem impl_TreeOk.mono (l0:List S37) (k:Nat):LeO (impl_TreeOk.f k l0) (impl_TreeOk.f (k+1) l0):=LeO.refl _
def timesC (seen:List Int):Array Value:=((List.range 37).map fun i:Nat=>Value.int .i64 (if (i:Int)∈seen then 1 else 0)).toArray
theorem timesC_get (seen:List Int) (i:Nat) (hi:i < 37):(timesC seen)[i]?=some (.int .i64 (if (i:Int)∈seen then 1 else 0)):=by
 simp [timesC,hi]
theorem timesC_set (seen:List Int) (i:Nat) (hi:i < 37) (hs:(i:Int)∉seen):(timesC seen).setIfInBounds i (.int .i64 1)=timesC ((i:Int)::seen):=by
 unfold timesC
 rw [List.setIfInBounds_toArray]
 congr 1
 apply List.ext_getElem (by simp)
 intro k h1 h2
 simp only [List.getElem_set,List.getElem_map,List.getElem_range,List.mem_cons]
 by_cases hk:i=k
 ·subst hk;simp
 ·have:¬ ((k:Int)=(i:Int)):=fun e=>hk (by omega)
  rw [if_neg hk]
  simp [this]
theorem rowB_id {r:S37} (h:rowB r=true):0≤r.f0∧r.f0 < 37∧0≤r.f1∧r.f1≤18:=by
 unfold rowB at h
 by_cases hr:rootB r.f0=true
 ·rw [if_pos hr] at h
  unfold rootB at hr
  simp only [Bool.and_eq_true,decide_eq_true_eq] at hr h
  omega
 ·rw [if_neg hr] at h
  simp only [Bool.and_eq_true,decide_eq_true_eq] at h
  have:=made_small _ h.1
  omega
def TreeRel (l0:List S37) (r:Bool) (w:World) (ro dp i:Value) (wr:World):Prop :=
 ∃ (j roots depth:Int) (seen:List Int),0≤j∧j≤l0.length∧i=.int .i64 j∧ro=.int .i64 roots∧dp=.int .i64 depth∧(0≤roots∧roots≤3)∧(-1≤depth∧depth≤18)∧Aside0 (treeGo seen roots depth (l0.drop j.toNat)=r) ∧
  Aside0 (wr.heap[w.heap.size]?=some (.cells (timesC seen) 66 (0,0)))∧Aside0 (Below w.heap.size w wr)
theorem impl_TreeOk.calls (k:Nat) (A0:Option Addr) (c0:Nat) (l0:List S37) (r:Bool) (w:World) (hr0:Kd.C k37 w A0 l0.length l0) (hc0:l0.length≤c0) (h:impl_TreeOk.f k l0=some r) (hG:Glob w) :
  Calls Tryd.prog 25 #[.slice A0 l0.length c0] w fun e w'=>e=.returned (.bool r)∧Below w.heap.size w w':=by
 have hlen:=hr0.2.1
 have HR0:=a_ hr0
 have HG:=a_ hG
 have HH:=a_ (sj_ h)
 clear hr0 hG h
 go_enter Tryd.func25,Tryd.ntmps25
 go_wp2
 go_loopw [4,5,10] (fun ro dp i wr=>TreeRel l0 r w ro dp i wr) (fun _ _ i _=>l0.length - (intOf i).toNat)
 case atStart=>exact ⟨0,0,-1,[],Int.le_refl _,by omega,rfl,rfl,rfl,by omega,by omega,HH,⟨heap_alloc_new w (.cells (timesC []) 66)⟩,⟨below_box0 w _⟩⟩
 case round =>
  obtain ⟨j,roots,depth,seen,hj0,hj,rfl,rfl,rfl,hro,hdp,HGO,HT,HB⟩:=hrel
  clear HH
  by_cases hlt:j < l0.length
  ·have hd1:decide (j < (l0.length:Int))=true:=dt_ hlt
   obtain ⟨ad,e,hx0,hx1,hx2⟩:=at_T37 HR0.out j hj0 hlt
   cases e
   replace hx0:=(cb_ HB.out hx0 :)
   replace hx1:=(cb_ HB.out hx1 :)
   replace hx2:=(cb_ HB.out hx2 :)
   have hu:=Tryd.underlying37
   have hxe:rd_T37 l0 j=l0[j.toNat]'(by omega):=by
    unfold rd_T37
    rw [List.getD_eq_getElem?_getD,List.getElem?_eq_getElem (by omega)]
    rfl
   have htd:=List.drop_eq_getElem_cons (l:=l0) (i:=j.toNat) (by omega)
   rw [←hxe] at htd
   have hgo:=HGO.out
   rw [htd] at hgo
   clear HGO hxe
   generalize rd_T37 l0 j=x at hx0 hx1 hx2 htd hgo
   rw [show j.toNat+1=(j+1).toNat by omega] at htd hgo
   unfold treeGo at hgo
   obtain ⟨kr,hkr⟩:=row_f x
   have HKR:=a_ (hkr kr (Nat.le_refl _))
   have p1:=eq_true hj0
   have q1:=eq_true hlt
   have HGO:=a_ hgo
   have HTD:=a_ htd
   have HJ:=a_ (And.intro hj0 (And.intro hlt (And.intro hro hdp)))
   have HL:=a_ (show w.heap.size < wr.heap.size from blk_lt HT.out)
   have HB1:=a_ (wA_ HB.out (.cells #[.int .i64 x.f0,.int .i64 x.f1,.string x.f2] 37))
   have HT1:=a_ (bA_ HT.out (.cells #[.int .i64 x.f0,.int .i64 x.f1,.string x.f2] 37))
   clear hj0 hlt htd hgo hkr HB HT hro hdp
   by_cases hrow:rowB x=true
   ·have hid:=rowB_id hrow
    rw [hrow] at HKR
    have hgo:=HGO.out
    rw [hrow,Bool.true_and] at hgo
    clear HGO hrow
    obtain ⟨i,hi⟩:=Int.eq_ofNat_of_zero_le hid.1
    have hi37:i < 37:=by omega
    have hne:w.heap.size≠wr.heap.size:=by have:=HL.out;omega
    have hne':wr.heap.size≠w.heap.size:=fun e=>hne e.symm
    have i0:0≤(i:Int):=by omega
    have i37:(i:Int) < 37:=by omega
    have hf1:0≤x.f1:=hid.2.2.1
    have hf18:x.f1≤18:=hid.2.2.2
    have hdp0:-1≤depth:=HJ.out.2.2.2.1
    have hdp1:depth≤18:=HJ.out.2.2.2.2
    rw [hi] at hgo HKR HB1 HT1 hx0
    have HXI:=a_ hi
    clear hi hid
    by_cases hs:(i:Int)∈seen
    ·have HTG:=a_ (show (timesC seen)[i]?=some (.int .i64 1) by rw [timesC_get seen i hi37,if_pos hs])
     have hr:r=false:=by rw [←hgo,df_ (fun h=>h hs)];rfl
     clear hgo hs
     subst hr
     go_wp2_with (go_at_call 66;refine (impl_RowOk.calls kr (i:Int) x.f1 x.f2 true _ HKR.out (HG.out.below HB1.out)).mono ?_;rintro e W2 ⟨rfl,hb⟩;have HB2:=a_ (bS_ HB1.out hb);have HT2:=a_ (blk_below HT1.out hb);have HX2:=a_ (blk_below (blk_new wr _) hb);clear hb;have d0:=(bC_ HX2.out 0).trans rfl;have d1:=(bC_ HX2.out 1).trans rfl;have t0:=(bC_ HT2.out i).trans HTG.out;have tf:=bF_ HT2.out i)
     go_ret
     exact ⟨rfl,HB2.out⟩
    ·have HTG:=a_ (show (timesC seen)[i]?=some (.int .i64 0) by rw [timesC_get seen i hi37,if_neg hs])
     have HTS:=a_ (timesC_set seen i hi37 hs)
     rw [dt_ hs,Bool.true_and] at hgo
     clear hs
     by_cases hdep:x.f1≤depth+1
     ·have hdb:decide (depth+1 < x.f1)=false:=df_ (by omega)
      rw [dt_ hdep,Bool.true_and] at hgo
      clear hdep
      by_cases hroot:rootB (i:Int)=true
      ·have HRF:=a_ (isRoot_f (i:Int))
       rw [hroot] at HRF
       rw [if_pos hroot] at hgo
       have hr3:1≤i∧i≤3:=by unfold rootB at hroot;simp at hroot;omega
       have hro0:0≤roots:=HJ.out.2.2.1.1
       have hro3:roots≤3:=HJ.out.2.2.1.2
       clear hroot
       by_cases hn:(i:Int)=roots+1
       ·have hb1:((i:Int) != roots+1)=false:=bne_eq_false_iff_eq.2 hn
        rw [dt_ hn,Bool.true_and] at hgo
        have HN:=a_ hn
        have HGO:=a_ hgo
        clear hn hgo
        go_wp2_with (first|(go_at_call 66;refine (impl_RowOk.calls kr (i:Int) x.f1 x.f2 true _ HKR.out (HG.out.below HB1.out)).mono ?_;rintro e W2 ⟨rfl,hb⟩;have HB2:=a_ (bS_ HB1.out hb);have HT2:=a_ (blk_below HT1.out hb);have HX2:=a_ (blk_below (blk_new wr _) hb);clear hb;have d0:=(bC_ HX2.out 0).trans rfl;have d1:=(bC_ HX2.out 1).trans rfl;have t0:=(bC_ HT2.out i).trans HTG.out;have tf:=bF_ HT2.out i)|(go_at_call 67;refine (impl_isRoot.calls (i:Int) true _ HRF.out (HG.out.below (wS_ HB2.out (Nat.le_refl _)))).mono ?_;rintro e w' ⟨rfl,⟨nd,rfl⟩⟩))
        have hjj:=HJ.out
        have hww:wrap64 (j+1)=j+1:=by unfold wrap64;omega
        refine ⟨⟨j+1,roots+1,x.f1,(i:Int)::seen,by omega,by omega,by first|rfl|rw [hww],rfl,rfl,by have:=HN.out;omega,by omega,HGO,⟨?_⟩,⟨pw_below_drewN (wS_ HB2.out (Nat.le_refl _)) _⟩⟩,?_⟩
        ·have:=blk_set HT2.out i (.int .i64 1)
         rw [HTS.out] at this
         exact this
        ·first|(show l0.length - (j+1).toNat < l0.length - j.toNat;omega)|(rw [hww];show l0.length - (j+1).toNat < l0.length - j.toNat;omega)
       ·have hb1:((i:Int) != roots+1)=true:=bne_iff_ne.2 hn
        rw [df_ hn,Bool.false_and] at hgo
        subst hgo
        clear hn
        go_wp2_with (first|(go_at_call 66;refine (impl_RowOk.calls kr (i:Int) x.f1 x.f2 true _ HKR.out (HG.out.below HB1.out)).mono ?_;rintro e W2 ⟨rfl,hb⟩;have HB2:=a_ (bS_ HB1.out hb);have HT2:=a_ (blk_below HT1.out hb);have HX2:=a_ (blk_below (blk_new wr _) hb);clear hb;have d0:=(bC_ HX2.out 0).trans rfl;have d1:=(bC_ HX2.out 1).trans rfl;have t0:=(bC_ HT2.out i).trans HTG.out;have tf:=bF_ HT2.out i)|(go_at_call 67;refine (impl_isRoot.calls (i:Int) true _ HRF.out (HG.out.below (wS_ HB2.out (Nat.le_refl _)))).mono ?_;rintro e w' ⟨rfl,⟨nd,rfl⟩⟩))
        go_ret
        exact ⟨rfl,pw_below_drewN (wS_ HB2.out (Nat.le_refl _)) _⟩
      ·have hroot:rootB (i:Int)=false:=by simpa using hroot
       have HRF:=a_ (isRoot_f (i:Int))
       rw [hroot] at HRF
       rw [if_neg (by rw [hroot];decide)] at hgo
       have HGO:=a_ hgo
       clear hroot hgo
       go_wp2_with (first|(go_at_call 66;refine (impl_RowOk.calls kr (i:Int) x.f1 x.f2 true _ HKR.out (HG.out.below HB1.out)).mono ?_;rintro e W2 ⟨rfl,hb⟩;have HB2:=a_ (bS_ HB1.out hb);have HT2:=a_ (blk_below HT1.out hb);have HX2:=a_ (blk_below (blk_new wr _) hb);clear hb;have d0:=(bC_ HX2.out 0).trans rfl;have d1:=(bC_ HX2.out 1).trans rfl;have t0:=(bC_ HT2.out i).trans HTG.out;have tf:=bF_ HT2.out i)|(go_at_call 67;refine (impl_isRoot.calls (i:Int) false _ HRF.out (HG.out.below (wS_ HB2.out (Nat.le_refl _)))).mono ?_;rintro e w' ⟨rfl,⟨nd,rfl⟩⟩))
       have hjj:=HJ.out
       have hww:wrap64 (j+1)=j+1:=by unfold wrap64;omega
       refine ⟨⟨j+1,roots,x.f1,(i:Int)::seen,by omega,by omega,by first|rfl|rw [hww],rfl,rfl,by omega,by omega,HGO,⟨?_⟩,⟨pw_below_drewN (wS_ HB2.out (Nat.le_refl _)) _⟩⟩,?_⟩
       ·have:=blk_set HT2.out i (.int .i64 1)
        rw [HTS.out] at this
        exact this
       ·first|(show l0.length - (j+1).toNat < l0.length - j.toNat;omega)|(rw [hww];show l0.length - (j+1).toNat < l0.length - j.toNat;omega)
     ·have hdb:decide (depth+1 < x.f1)=true:=dt_ (by omega)
      rw [df_ hdep,Bool.false_and] at hgo
      subst hgo
      clear hdep
      go_wp2_with (go_at_call 66;refine (impl_RowOk.calls kr (i:Int) x.f1 x.f2 true _ HKR.out (HG.out.below HB1.out)).mono ?_;rintro e W2 ⟨rfl,hb⟩;have HB2:=a_ (bS_ HB1.out hb);have HT2:=a_ (blk_below HT1.out hb);have HX2:=a_ (blk_below (blk_new wr _) hb);clear hb;have d0:=(bC_ HX2.out 0).trans rfl;have d1:=(bC_ HX2.out 1).trans rfl;have t0:=(bC_ HT2.out i).trans HTG.out;have tf:=bF_ HT2.out i)
      go_ret
      exact ⟨rfl,HB2.out⟩
   ·have hrow:rowB x=false:=by simpa using hrow
    rw [hrow] at HKR
    have hgo:=HGO.out
    rw [hrow,Bool.false_and] at hgo
    subst hgo
    clear hrow HGO
    go_wp2_with (go_at_call 66;refine (impl_RowOk.calls kr x.f0 x.f1 x.f2 false _ HKR.out (HG.out.below HB1.out)).mono ?_;rintro e W2 ⟨rfl,hb⟩;have HB2:=a_ (bS_ HB1.out hb);have HT2:=a_ (blk_below HT1.out hb);have HX2:=a_ (blk_below (blk_new wr _) hb);clear hb;have d0:=(bC_ HX2.out 0).trans rfl;have d1:=(bC_ HX2.out 1).trans rfl)
    go_ret
    exact ⟨rfl,HB2.out⟩
  ·have hd1:decide (j < (l0.length:Int))=false:=df_ hlt
   have hgo:=HGO.out
   rw [List.drop_eq_nil_of_le (by omega)] at hgo
   unfold treeGo at hgo
   have HGO2:=a_ hgo
   clear hgo HGO hlt
   by_cases h3:roots=3
   ·subst h3
    go_wp2
    go_ret
    exact ⟨by rw [←HGO2.out];rfl,HB.out⟩
   ·have hb3:(roots==3)=false:=beq_eq_false_iff_ne.2 h3
    have HGO3:=a_ (df_ h3)
    clear h3
    go_wp2
    go_ret
    exact ⟨by rw [←HGO2.out,HGO3.out];rfl,HB.out⟩
end Go.Proofs.YtlkheeegkifblaaDoor.P
namespace Go.Proofs.YtlkheeegkifblaaDoor.P
open Go.RowKit Go.Proofs.YtlkheeegkifblaaDoorW.PrintWords Go.Proofs.YtlkheeegkifblaaDoorW.PrintLast Go.Proofs.YtlkheeegkifblaaDoorW.PrintMore Go.Proofs.YtlkheeegkifblaaDoor.PL Go.Proofs.YtlkheeegkifblaaDoor.FP
structure PlantOk (G:Fo) (A:Nat→Option Nat) (h:Nat→Nd) (la:Nat→Nat) (seen:List Int) (roots:Int):Prop where
 rep:RepTop h G
 nd:G.ids.Nodup
 dom:∀ x,A x≠none↔x∈G.ids
 seen:∀ x:Int,x∈seen↔∃ i∈G.ids,x=(i:Int)
 tops:∃ n:Nat,roots=n∧G.tops=List.range' 1 n
 edge:∀ d,d < dpth G→la d=sp d G
 stale:∀ d,dpth G≤d→la d=0∨(la d∈G.ids∧(d=dpth G→(h (la d)).up≠sp (d - 1) G))
def upL (la:Nat→Nat) (e i:Nat):Nat→Nat:=fun d=>if d=e then i else la d
theorem upN_out {h:Nat→Nd} {i j:Nat} {x:Nd} (e:j≠i):upN h i x j=h j:=if_neg e
theorem up_in {h:Nat→Nd} {G:Fo} (hr:RepTop h G) (hn:G.ids.Nodup) {x:Nat} (hx:x∈G.ids):(h x).up=0∨(h x).up∈G.ids:=by
 by_cases ht:x∈G.tops
 ·exact Or.inl (reptop_root hr ht)
 ·exact Or.inr (reptop_up hr hn hx ht).1
theorem plant_common {G:Fo} {A:Nat→Option Nat} {h h':Nat→Nd} {la:Nat→Nat} {seen:List Int} {roots roots':Int} (p:PlantOk G A h la seen roots) {i e b:Nat} {t:ByteArray} (hi0:i≠0) (hi:i∉G.ids) (he:e≤dpth G)
  (hrep:RepTop h' (snoc i t e G)) (hup:∀ x∈G.ids,(h' x).up=(h x).up) (htops:∃ n:Nat,roots'=n∧(snoc i t e G).tops=List.range' 1 n) :
  PlantOk (snoc i t e G) (upA A i b) h' (upL la e i) ((i:Int)::seen) roots' where
 rep:=hrep
 nd:=by
  rw [snoc_ids]
  exact List.nodup_append.2 ⟨p.nd,by simp,fun x hx y hy e=>by rw [List.mem_singleton.1 hy] at e;exact hi (e ▸ hx)⟩
 dom:=fun x=>by
  rw [snoc_ids]
  unfold upA
  by_cases hx:x=i
  ·simp [hx]
  ·simp only [if_neg hx,List.mem_append,List.mem_singleton,hx,or_false]
   exact p.dom x
 seen:=fun x=>by
  rw [snoc_ids]
  simp only [List.mem_cons,List.mem_append,List.not_mem_nil,or_false]
  constructor
  ·rintro (rfl|hx)
   ·exact ⟨i,Or.inr rfl,rfl⟩
   ·obtain ⟨j,hj,e⟩:=(p.seen x).1 hx
    exact ⟨j,Or.inl hj,e⟩
  ·rintro ⟨j,hj|rfl,e⟩
   ·exact Or.inr ((p.seen x).2 ⟨j,hj,e⟩)
   ·exact Or.inl e
 tops:=htops
 edge:=fun d hd=>by
  rw [snoc_dpth i t G e he] at hd
  obtain ⟨h1,h2⟩:=snoc_sp i t G e he
  unfold upL
  by_cases hde:d=e
  ·rw [if_pos hde,hde,h1]
  ·rw [if_neg hde,h2 d (by omega)]
   exact p.edge d (by omega)
 stale:=fun d hd=>by
  rw [snoc_dpth i t G e he] at hd ⊢
  unfold upL
  rw [if_neg (by omega),snoc_ids]
  have key:la d∈G.ids→la d=0∨(la d∈G.ids++[i]∧(d=e+1→(h' (la d)).up≠sp (d - 1) (snoc i t e G))):=fun hm=>by
   refine Or.inr ⟨List.mem_append_left _ hm,fun hde=>?_⟩
   subst hde
   rw [Nat.add_sub_cancel,(snoc_sp i t G e he).1,hup _ hm]
   rcases up_in p.rep p.nd hm with e1|e1
   ·rw [e1];exact fun e2=>hi0 e2.symm
   ·intro e2;exact hi (e2 ▸ e1)
  rcases Nat.lt_or_ge d (dpth G) with hdd|hdd
  ·exact key (by rw [p.edge d hdd];exact sp_mem G d hdd)
  ·rcases p.stale d hdd with h1|⟨h1,_⟩
   ·exact Or.inl h1
   ·exact key h1
theorem plant_root {G:Fo} {A:Nat→Option Nat} {h:Nat→Nd} {la:Nat→Nat} {seen:List Int} {roots:Int} (p:PlantOk G A h la seen roots) {i b:Nat} {t:ByteArray} (hi0:i≠0) (hi:i∉G.ids) (hr:(i:Int)=roots+1) :
  PlantOk (snoc i t 0 G) (upA A i b) (upN h i ⟨t,0,0,0⟩) (upL la 0 i) ((i:Int)::seen) (roots+1):=by
 refine plant_common p hi0 hi (Nat.zero_le _) (reptop_snoc0 hi0 (if_pos rfl) G (p.rep.ext fun x hx=>upN_out (fun e=>hi (e ▸ hx)))) (fun x hx=>by rw [upN_out (show x≠i from fun e=>hi (e ▸ hx))]) ?_
 obtain ⟨n,hn,ht⟩:=p.tops
 refine ⟨n+1,by omega,?_⟩
 rw [snoc_tops i t G 0 (Nat.zero_le _),if_pos rfl,ht,List.range'_concat]
 have:i=1+1 * n:=by omega
 rw [this]
theorem plant_made {G:Fo} {A:Nat→Option Nat} {h:Nat→Nd} {la:Nat→Nat} {seen:List Int} {roots:Int} (p:PlantOk G A h la seen roots) {i e b:Nat} {t:ByteArray} (hi0:i≠0) (hi:i∉G.ids) (he:e+1≤dpth G) :
  PlantOk (snoc i t (e+1) G) (upA A i b) (attachH (upN h i ⟨t,0,0,0⟩) i (sp e G) (if e+1 < dpth G then sp (e+1) G else 0)) (upL la (e+1) i) ((i:Int)::seen) roots:=by
 have hext:RepTop (upN h i ⟨t,0,0,0⟩) G:=p.rep.ext fun x hx=>upN_out (fun e=>hi (e ▸ hx))
 have hfree:Free (upN h i ⟨t,0,0,0⟩) i t .nil:=⟨hi0,by rw [show upN h i ⟨t,0,0,0⟩ i=⟨t,0,0,0⟩ from if_pos rfl],by rw [show upN h i ⟨t,0,0,0⟩ i=⟨t,0,0,0⟩ from if_pos rfl];rfl,trivial,by simp [Fo.ids]⟩
 have hup:=sp_mem G e (by omega)
 have hupi:sp e G≠i:=fun e2=>hi (e2 ▸ hup)
 have htops:∃ n:Nat,roots=n∧(snoc i t (e+1) G).tops=List.range' 1 n:=by
  obtain ⟨n,hn,ht⟩:=p.tops
  exact ⟨n,hn,by rw [snoc_tops i t G (e+1) he,if_neg (by omega),ht]⟩
 by_cases hlt:e+1 < dpth G
 ·rw [if_pos hlt]
  have hm:=sp_mem G (e+1) hlt
  have hmi:sp (e+1) G≠i:=fun e2=>hi (e2 ▸ hm)
  have hm0:sp (e+1) G≠0:=p.rep.ne0 _ hm
  have hat:=attachH_pos (upN h i ⟨t,0,0,0⟩) i (sp e G) (sp (e+1) G) hm0
  refine plant_common p hi0 hi he ?_ (fun x hx=>?_) htops
  ·rw [snoc_after i t G (e+1) p.nd hlt]
   exact reptop_insAfter hfree hm0 (by rw [upN_out hmi];exact reptop_sp G e p.rep hlt) hext p.nd hi (sp_not_top G e p.nd hlt) (by simp [Fo.ids]) hmi (fun j hj=>by simp [Fo.ids] at hj)
  ·have hxi:x≠i:=fun e2=>hi (e2 ▸ hx)
   rw [hat x]
   by_cases hxa:x=sp (e+1) G
   ·subst hxa;rw [if_pos rfl,upN_out hmi]
   ·rw [if_neg hxa,if_neg hxi,upN_out hxi]
 ·rw [if_neg hlt]
  have hat:=attachH_zero (upN h i ⟨t,0,0,0⟩) i (sp e G)
  refine plant_common p hi0 hi he ?_ (fun x hx=>?_) htops
  ·rw [snoc_first i t G e p.nd (by omega)]
   exact reptop_insFirst hfree hext p.nd hi (by simp [Fo.ids]) hupi (fun j hj=>by simp [Fo.ids] at hj)
  ·have hxi:x≠i:=fun e2=>hi (e2 ▸ hx)
   rw [hat x]
   by_cases hxa:x=sp e G
   ·subst hxa;rw [if_pos rfl,upN_out hupi]
   ·rw [if_neg hxa,if_neg hxi,upN_out hxi]
def lastC (A:Nat→Option Nat) (la:Nat→Nat):Array Value:=((List.range 19).map fun d:Nat=>Value.pointer (pa (A (la d)))).toArray
theorem lastC_get (A:Nat→Option Nat) (la:Nat→Nat) (d:Nat) (hd:d < 19):(lastC A la)[d]?=some (.pointer (pa (A (la d)))):=by simp [lastC,hd]
theorem lastC_set (A:Nat→Option Nat) (la:Nat→Nat) (e i b:Nat) (he:e < 19) (hla:∀ d,la d≠i):(lastC A la).setIfInBounds e (.pointer (some ⟨b,0,none⟩))=lastC (upA A i b) (upL la e i):=by
 unfold lastC
 rw [List.setIfInBounds_toArray]
 congr 1
 apply List.ext_getElem (by simp)
 intro k h1 h2
 simp only [List.getElem_set,List.getElem_map,List.getElem_range,upA,upL]
 by_cases hk:e=k
 ·subst hk;simp;rfl
 ·have:¬ (k=e):=fun e2=>hk e2.symm
  simp [hk,this,hla k]
def PlantRel (l0:List S37) (w:World) (Fb Lb:Nat) (i:Value) (wr:World):Prop :=
 ∃ (j:Nat) (G:Fo) (A:Nat→Option Nat) (h:Nat→Nd) (la:Nat→Nat) (seen:List Int) (roots:Int),j≤l0.length∧i=.int .i64 (j:Int)∧Aside0 (Mem wr w.heap.size Fb A h)∧Aside0 (wr.heap[Lb]?=some (.cells (lastC A la) 111 (0,0))) ∧
  Aside0 (PlantOk G A h la seen roots)∧Aside0 (G.fl 0=l0.take j)∧Aside0 (treeGo seen roots ((dpth G:Int) - 1) (l0.drop j)=true)∧Aside0 (Below w.heap.size w wr)
def Planted (l0:List S37) (w:World) (e:Ending) (w':World):Prop :=
 ∃ (Fb:Nat) (G:Fo) (A:Nat→Option Nat) (h:Nat→Nd),e=.returned (.tuple #[.pointer (some ⟨Fb,0,none⟩),.bool true])∧Mem w' w.heap.size Fb A h∧RepTop h G∧G.ids.Nodup∧(∀ x,A x≠none↔x∈G.ids)∧G.tops=[1,2,3]∧G.fl 0=l0∧Below w.heap.size w w'
theorem neZ (b:Addr) (w:World):(binOp .neq 70 (.pointer none) (.pointer (some b))).run Tryd.prog w=.ok (.bool true) w:=by
 have h:∀ d:Nat,(Op.equalIn (d+1) 70 (.pointer none) (.pointer (some b))).run Tryd.prog w=.ok false w:=fun d=>by
  simp [Op.equalIn,run_underlying Tryd.underlying70]
 have h2:(Op.equal 70 (.pointer none) (.pointer (some b))).run Tryd.prog w=.ok false w:=by simp [Op.equal,Op.maxDepth,h 9999]
 simp only [binOp];simp [h2]
theorem Mem.far {w:World} {n0 F:Nat} {A:Nat→Option Nat} {h:Nat→Nd} (m:Mem w n0 F A h) {p:Addr} (hF:F≠p.block) (hA:∀ i,A i≠some p.block) (v:Value):Mem (w.setCell p v) n0 F A h :=
 { m with tab:=blk_far m.tab hF v,nod:=fun i b e=>blk_far (m.nod i b e) (fun e2=>hA i (e2 ▸ e)) v }
theorem Mem.no_last {w:World} {n0 F:Nat} {A:Nat→Option Nat} {h:Nat→Nd} (m:Mem w n0 F A h) {L:Nat} {cs:Array Value} (hL:w.heap[L]?=some (.cells cs 111 (0,0))) (y:Nat):A y≠some L:=fun hy=>by
 have h1:=m.nod y L hy
 rw [hL] at h1
 injection h1 with h1
 injection h1 with _ h2
 exact absurd h2 (by decide)
theorem plant_next {l0:List S37} {w wr:World} {F L g i e j:Nat} {x:S37} {G:Fo} {A:Nat→Option Nat} {h':Nat→Nd} {la:Nat→Nat} {seen:List Int} {roots':Int}
  (hx:x.f0=(i:Int)∧x.f1=(e:Int)) (he:e≤dpth G) (he18:e < 19) (hlt:j < l0.length) (hla:∀ d,la d≠i) (hLF:F≠L) (hwL:w.heap.size≤L)
  (m:Mem wr w.heap.size F (upA A i (g+1)) h') (hL:wr.heap[L]?=some (.cells (lastC A la) 111 (0,0)))
  (p:PlantOk (snoc i x.f2 e G) (upA A i (g+1)) h' (upL la e i) ((i:Int)::seen) roots')
  (hfl:G.fl 0=l0.take j) (htk:l0.take (j+1)=l0.take j++[x])
  (hgo:treeGo ((i:Int)::seen) roots' (e:Int) (l0.drop (j+1))=true) (hb:Below w.heap.size w wr) :
  PlantRel l0 w F L (.int .i64 ((j+1:Nat):Int)) (wr.setCell ⟨L,e,none⟩ (.pointer (some ⟨g+1,0,none⟩))):=by
 refine ⟨j+1,snoc i x.f2 e G,upA A i (g+1),h',upL la e i,(i:Int)::seen,roots',hlt,rfl,⟨m.far hLF (fun y=>m.no_last hL y) _⟩,⟨?_⟩,⟨p⟩,⟨?_⟩,⟨?_⟩,⟨hb.setCell hwL _⟩⟩
 ·have:=blk_set hL e (.pointer (some ⟨g+1,0,none⟩))
  rw [lastC_set A la e i (g+1) he18 hla] at this
  exact this
 ·rw [snoc_fl i x.f2 G e 0 he,hfl,htk]
  obtain ⟨x0,x1,x2⟩:=x
  obtain ⟨e0,e1⟩:=hx
  simp only at e0 e1
  subst e0 e1
  simp
 ·rw [snoc_dpth i x.f2 G e he,show (((e+1:Nat):Int) - 1)=(e:Int) by omega]
  exact hgo
theorem plant_no (A0:Option Addr) (c0:Nat) (l0:List S37) (w:World) (hr0:Kd.C k37 w A0 l0.length l0) (hc0:l0.length≤c0) (h:treeB l0=false) (hG:Glob w) :
  Calls Tryd.prog 60 #[.slice A0 l0.length c0] w fun e w'=>e=.returned (.tuple #[.pointer none,.bool false])∧Below w.heap.size w w':=by
 have HC:=a_ (impl_TreeOk.calls 0 A0 c0 l0 false w hr0 hc0 (by unfold impl_TreeOk.f;rw [h]) hG)
 clear hr0 hG h
 go_enter Tryd.func60,Tryd.ntmps60
 go_wp2_with (go_at_call 25;refine (HC.out).mono ?_;clear HC;rintro e w1 ⟨rfl,hb⟩;have HB:=a_ hb;clear hb)
 go_ret2
 exact ⟨rfl,HB.out⟩
theorem mem_none {w:World} {n0 F:Nat} (h:n0≤F) (ht:w.heap[F]?=some (.cells (tabC fun _=>none) 110 (0,0))) (hh:Nat→Nd):Mem w n0 F (fun _=>none) hh where
 z:=rfl
 rng:=fun _ _ e=>by cases e
 inj:=fun _ _ _ e=>by cases e
 ne:=fun _ _ e=>by cases e
 lo:=fun _ _ e=>by cases e
 loF:=h
 tab:=ht
 nod:=fun _ _ e=>by cases e
 cu:=fun _ e=>absurd rfl e
 cf:=fun _ e=>absurd rfl e
 cn:=fun _ e=>absurd rfl e
theorem plant_none (hh:Nat→Nd):PlantOk .nil (fun _=>none) hh (fun _=>0) [] 0 where
 rep:=trivial
 nd:=List.nodup_nil
 dom:=fun x=>by simp [Fo.ids]
 seen:=fun x=>by simp [Fo.ids]
 tops:=⟨0,rfl,rfl⟩
 edge:=fun d hd=>by simp [dpth] at hd
 stale:=fun d _=>Or.inl rfl
theorem plant_yes (A0:Option Addr) (c0:Nat) (l0:List S37) (w:World) (hr0:Kd.C k37 w A0 l0.length l0) (hc0:l0.length≤c0) (h:treeB l0=true) (hG:Glob w) :
  Calls Tryd.prog 60 #[.slice A0 l0.length c0] w (Planted l0 w):=by
 have hlen:=hr0.2.1
 have HC:=a_ (impl_TreeOk.calls 0 A0 c0 l0 true w hr0 hc0 (by unfold impl_TreeOk.f;rw [h]) hG)
 have HR0:=a_ hr0
 have HH:=a_ h
 clear hr0 hG h
 go_enter Tryd.func60,Tryd.ntmps60
 go_wp2_with (go_at_call 25;refine (HC.out).mono ?_;clear HC;rintro e w1 ⟨rfl,hb⟩;have HB:=a_ hb;clear hb)
 have hb1:=HB.out.size
 go_loopw [18] (fun i wr=>PlantRel l0 w w1.heap.size (w1.heap.size+1) i wr) (fun i _=>l0.length - (intOf i).toNat)
 case atStart =>
  refine ⟨0,.nil,fun _=>none,fun _=>⟨ByteArray.empty,0,0,0⟩,fun _=>0,[],0,Nat.zero_le _,rfl,⟨?_⟩,⟨?_⟩,⟨?_⟩,⟨rfl⟩,⟨HH.out⟩,⟨wA_ (wA_ HB.out _) _⟩⟩
  ·exact mem_none hb1 (bA_ (heap_alloc_new w1 (.cells (tabC fun _=>none) 110)) _) _
  ·have:=heap_alloc_new (w1.alloc (.cells (tabC fun _=>none) 110)) (.cells (lastC (fun _=>none) (fun _=>0)) 111)
   rw [World.size_alloc] at this
   exact this
  ·exact plant_none _
 case round =>
  obtain ⟨j,G,A,h,la,seen,roots,hj,rfl,HM,HL,HP,HF,HGO,HBr⟩:=hrel
  clear HH
  by_cases hlt:j < l0.length
  ·have hd1:decide ((j:Int) < (l0.length:Int))=true:=dt_ (by omega)
   have hd2:decide (j < l0.length)=true:=dt_ hlt
   obtain ⟨ad,e0,hx0,hx1,hx2⟩:=at_T37 HR0.out (j:Int) (by omega) (by omega)
   cases e0
   replace hx0:=(HBr.out.cell (bl_ w _ hx0)).trans hx0
   replace hx1:=(HBr.out.cell (bl_ w _ hx1)).trans hx1
   replace hx2:=(HBr.out.cell (bl_ w _ hx2)).trans hx2
   simp only [Int.toNat_natCast] at hx0 hx1 hx2
   have hu:=Tryd.underlying37
   have hxe:rd_T37 l0 (j:Int)=l0[j]'hlt:=by
    unfold rd_T37
    rw [List.getD_eq_getElem?_getD,show ((j:Int)).toNat=j from rfl,List.getElem?_eq_getElem hlt]
    rfl
   have htd:=List.drop_eq_getElem_cons (l:=l0) (i:=j) hlt
   have htk:=List.take_succ_eq_append_getElem (l:=l0) (i:=j) hlt
   rw [←hxe] at htd htk
   have hgo:=HGO.out
   rw [htd] at hgo
   clear HGO hxe
   generalize rd_T37 l0 (j:Int)=x at hx0 hx1 hx2 htd htk hgo
   unfold treeGo at hgo
   simp only [Bool.and_eq_true,decide_eq_true_eq] at hgo
   obtain ⟨hrow,hns,hdep,hrest⟩:=hgo
   obtain ⟨b0,b37,d0,d18⟩:=rowB_id hrow
   obtain ⟨i,hi⟩:=Int.eq_ofNat_of_zero_le b0
   obtain ⟨e,he⟩:=Int.eq_ofNat_of_zero_le d0
   have hiG:i∉G.ids:=fun hc=>hns ((HP.out.seen x.f0).2 ⟨i,hc,hi⟩)
   have heG:e≤dpth G:=by omega
   have hi37:i < 37:=by omega
   have hi0:i≠0:=by
    intro e0
    subst e0
    unfold rowB at hrow
    rw [hi] at hrow
    revert hrow
    have r0:rootB (0:Int)=false:=by decide
    have m0:madeB (0:Int)=false:=by decide
    simp [r0,m0]
   have hAi:A i=none:=by
    rcases Option.eq_none_or_eq_some (A i) with h1|⟨c,h1⟩
    ·exact h1
    ·exact absurd ((HP.out.dom i).1 (by rw [h1];simp)) hiG
   have hne3:∀ y,A y≠none→(h y).up≠i∧(h y).first≠i∧(h y).next≠i:=fun y hy =>
    ⟨fun e2=>(HM.out.cu y hy).elim (fun e3=>hi0 (e2 ▸ e3)) (fun e3=>e3 (e2 ▸ hAi)),fun e2=>(HM.out.cf y hy).elim (fun e3=>hi0 (e2 ▸ e3)) (fun e3=>e3 (e2 ▸ hAi)),fun e2=>(HM.out.cn y hy).elim (fun e3=>hi0 (e2 ▸ e3)) (fun e3=>e3 (e2 ▸ hAi))⟩
   -- the memory behind the new node
   obtain ⟨g,hg⟩:∃ g,g=wr.heap.size:=⟨_,rfl⟩
   obtain ⟨W1,hW1⟩:∃ W1,W1=(wr.alloc (.cells #[.int .i64 (i:Int),.int .i64 (e:Int),.string x.f2] 37)).alloc (.cells #[.int .i64 (i:Int),.string x.f2,.pointer none,.pointer none,.pointer none] 85):=⟨_,rfl⟩
   have nG:W1.heap[g]?=some (.cells #[.int .i64 (i:Int),.int .i64 (e:Int),.string x.f2] 37 (0,0)):=by rw [hW1,hg];exact bA_ (blk_new wr _) _
   have nB:W1.heap[g+1]?=some (.cells #[.int .i64 (i:Int),.string x.f2,.pointer none,.pointer none,.pointer none] 85 (0,0)):=by
    have:=blk_new (wr.alloc (.cells #[.int .i64 (i:Int),.int .i64 (e:Int),.string x.f2] 37)) (.cells #[.int .i64 (i:Int),.string x.f2,.pointer none,.pointer none,.pointer none] 85)
    rw [World.size_alloc] at this
    rw [hW1,hg];exact this
   have mW1:Mem W1 w.heap.size w1.heap.size A h:=by rw [hW1];exact (HM.out.alloc _).alloc _
   have lW1:W1.heap[w1.heap.size+1]?=some (.cells (lastC A la) 111 (0,0)):=by rw [hW1];exact bA_ (bA_ HL.out _) _
   have bW1:Below w.heap.size w W1:=by rw [hW1];exact wA_ (wA_ HBr.out _) _
   have hltF:=HM.out.ltF
   have hltL:=blk_lt HL.out
   have hbA:∀ y,A y≠some (g+1):=fun y hy=>by have:=HM.out.lt hy;omega
   have hgA:∀ y,A y≠some g:=fun y hy=>by have:=HM.out.lt hy;omega
   have mem2:=mW1.add hi0 hi37 hAi hne3 (b:=g+1) (t:=x.f2) hbA (by omega) (by omega) nB
   have nG2:=blk_far (p:=⟨w1.heap.size,i,none⟩) nG (show g≠w1.heap.size by omega) (.pointer (some ⟨g+1,0,none⟩))
   have nB2:=blk_far (p:=⟨w1.heap.size,i,none⟩) nB (show g+1≠w1.heap.size by omega) (.pointer (some ⟨g+1,0,none⟩))
   have lW2:=blk_far (p:=⟨w1.heap.size,i,none⟩) lW1 (show w1.heap.size+1≠w1.heap.size by omega) (.pointer (some ⟨g+1,0,none⟩))
   have bW2:Below w.heap.size w (W1.setCell ⟨w1.heap.size,i,none⟩ (.pointer (some ⟨g+1,0,none⟩))):=bW1.setCell (p:=⟨w1.heap.size,i,none⟩) hb1 _
   have cT:=mW1.cF i hi37
   have fT:=mW1.fzF i
   have HMEM:=a_ mem2
   have HNG:=a_ nG2
   have HNB:=a_ nB2
   have HLW:=a_ lW2
   have HBW:=a_ bW2
   have HHB:=a_ hbA
   have HGA:=a_ hgA
   have q0:=(bC_ nG 0).trans rfl
   have q1:=(bC_ nG 1).trans rfl
   have q2:=(bC_ nG 2).trans rfl
   have hla:∀ d,la d≠i:=fun d e2=>by
    rcases Nat.lt_or_ge d (dpth G) with hdd|hdd
    ·exact hiG (e2 ▸ (HP.out.edge d hdd ▸ sp_mem G d hdd))
    ·rcases HP.out.stale d hdd with h1|⟨h1,_⟩
     ·exact hi0 (e2 ▸ h1)
     ·exact hiG (e2 ▸ h1)
   obtain ⟨W2,hW2⟩:∃ W2,W2=(W1.setCell ⟨w1.heap.size,i,none⟩ (.pointer (some ⟨g+1,0,none⟩))).drew:=⟨_,rfl⟩
   have mem3:Mem W2 w.heap.size w1.heap.size (upA A i (g+1)) (upN h i ⟨x.f2,0,0,0⟩):=by rw [hW2];exact mem2.drew
   have nG3:W2.heap[g]?=some (.cells #[.int .i64 (i:Int),.int .i64 (e:Int),.string x.f2] 37 (0,0)):=by rw [hW2];exact nG2
   have lW3:W2.heap[w1.heap.size+1]?=some (.cells (lastC A la) 111 (0,0)):=by rw [hW2];exact lW2
   have bW3:Below w.heap.size w W2:=by rw [hW2];exact bW2.drew
   have HMEM:=a_ mem3
   have HNG:=a_ nG3
   have HLW:=a_ lW3
   have HBW:=a_ bW3
   have HLA:=a_ hla
   have r1:=(bC_ nG3 1).trans rfl
   have zL:=bF_ lW3 e
   have HE:=a_ (And.intro hi he)
   have HI:=a_ (And.intro hi0 (And.intro hiG heG))
   have HW2:=a_ hW2
   have hx0':x.f0=(i:Int):=hi
   have hx1':x.f1=(e:Int):=he
   rw [hx0'] at hx0
   rw [hx1'] at hx1
   have ne1:g≠w1.heap.size:=by omega
   have ne2:g≠w1.heap.size+1:=by omega
   have ne3:w1.heap.size≠g:=fun e=>ne1 e.symm
   have ne4:w1.heap.size+1≠g:=fun e=>ne2 e.symm
   have i37:(i:Int) < 37:=by omega
   have i0':0≤(i:Int):=by omega
   have e0':0≤(e:Int):=by omega
   have e18:(e:Int)≤18:=by omega
   have e19:(e:Int) < 19:=by omega
   have HW1:=a_ hW1
   have HG:=a_ hg
   rw [hx0',hx1'] at hrest
   have HREST:=a_ hrest
   have HROW:=a_ hrow
   have HTD:=a_ (And.intro htd htk)
   have HJ:=a_ (And.intro hlt hlen)
   have HGA:=a_ hgA
   have ce:=(bC_ lW3 e).trans (lastC_get A la e (by omega))
   clear hrest hdep hns b0 b37 d0 d18 hi he hiG heG hi37 hi0 hAi hne3 hx0' hx1' nG nB mW1 lW1 bW1 hltF hltL hbA hgA mem2 nG2 nB2 lW2 bW2 htd htk HM HL HBr hW1 hg hj mem3 nG3 lW3 bW3 hla hW2
   have HROW:=a_ hrow
   clear hrow
   go_wp2
   rw [←HG.out,←HW1.out]
   go_region
   rw [←HW2.out]
   clear q0 q1 q2 cT fT hx0 hx1 hx2
   rcases Nat.eq_zero_or_pos e with e00|epos
   ·
    have hd3:decide ((0:Int) < (e:Int))=false:=df_ (by omega)
    have hd4:decide (0 < e)=false:=df_ (by omega)
    have HR:Aside0 (rootB (i:Int)=true):=⟨by
     by_cases hrt:rootB x.f0=true
     ·rw [←HE.out.1];exact hrt
     ·exfalso
      have hrow:=HROW.out
      unfold rowB at hrow
      rw [if_neg hrt] at hrow
      simp only [Bool.and_eq_true,decide_eq_true_eq] at hrow
      have:=HE.out.2
      omega⟩
    have HE0:=a_ e00
    clear e00
    go_wp2
    have hrest:=HREST.out
    rw [if_pos HR.out,Bool.and_eq_true,decide_eq_true_eq] at hrest
    refine ⟨?_,?_⟩
    ·have hp:PlantOk (snoc i x.f2 e G) (upA A i (g+1)) (upN h i ⟨x.f2,0,0,0⟩) (upL la e i) ((i:Int)::seen) (roots+1):=by
      rw [show e=0 from HE0.out]
      exact plant_root (b:=g+1) (t:=x.f2) HP.out HI.out.1 HI.out.2.1 hrest.1
     exact plant_next HE.out HI.out.2.2 (by omega) HJ.out.1 HLA.out (by omega) (by omega) HMEM.out HLW.out hp HF.out HTD.out.2 hrest.2 HBW.out
    ·show l0.length - (j+1) < l0.length - j
     omega
   ·have hd3:decide ((0:Int) < (e:Int))=true:=dt_ (by omega)
    have hd4:decide (0 < e)=true:=dt_ (by omega)
    have hu1:la (e - 1)=sp (e - 1) G:=HP.out.edge (e - 1) (by have:=HI.out.2.2;omega)
    have hum:sp (e - 1) G∈G.ids:=sp_mem G (e - 1) (by have:=HI.out.2.2;omega)
    obtain ⟨u,hue⟩:∃ u,u=sp (e - 1) G:=⟨_,rfl⟩
    rw [←hue] at hu1 hum
    obtain ⟨bu,hbu⟩:=Option.ne_none_iff_exists'.1 ((HP.out.dom u).2 hum)
    have hui:u≠i:=fun e2=>HI.out.2.1 (e2 ▸ hum)
    have cu:=(bC_ HLW.out (e - 1)).trans (lastC_get A la (e - 1) (by omega))
    rw [hu1,hbu,pa_some] at cu
    have hA'u:upA A i (g+1) u=some bu:=by unfold upA;rw [if_neg hui,hbu]
    have hA'i:upA A i (g+1) i=some (g+1):=if_pos rfl
    have hnr:rootB (i:Int)=false:=by
     by_cases hrt:rootB x.f0=true
     ·exfalso
      have hrow:=HROW.out
      unfold rowB at hrow
      rw [if_pos hrt] at hrow
      simp only [Bool.and_eq_true,decide_eq_true_eq] at hrow
      have:=HE.out.2
      have:=hrow.1
      omega
     ·rw [←HE.out.1];simpa using hrt
    have hrest:=HREST.out
    rw [if_neg (by rw [hnr];decide)] at hrest
    have HREST2:=a_ hrest
    have hp:=plant_made (b:=g+1) (t:=x.f2) (e:=e - 1) HP.out HI.out.1 HI.out.2.1 (by have:=HI.out.2.2;omega)
    rw [show e - 1+1=e by omega,←hue] at hp
    have HPM:=a_ hp
    have HAU:=a_ hA'u
    have HAI:=a_ hA'i
    have e191:((e - 1:Nat):Int) < 19:=by omega
    have HGB:Aside0 (∀ y,upA A i (g+1) y≠some g):=⟨fun y hy=>by
     unfold upA at hy
     split at hy
     ·have:=sj_ hy;omega
     ·exact HGA.out y hy⟩
    clear hrest hp hbu hnr hA'u hA'i hum hu1
    by_cases hlt2:e < dpth G
    ·
     have hm:sp e G∈G.ids:=sp_mem G e hlt2
     obtain ⟨a,hae⟩:∃ a,a=sp e G:=⟨_,rfl⟩
     have hla1:la e=a:=(HP.out.edge e hlt2).trans hae.symm
     rw [←hae] at hm
     obtain ⟨ba,hba⟩:=Option.ne_none_iff_exists'.1 ((HP.out.dom a).2 hm)
     have hai:a≠i:=fun e2=>HI.out.2.1 (e2 ▸ hm)
     have hA'a:upA A i (g+1) a=some ba:=by unfold upA;rw [if_neg hai,hba]
     have hau:(upN h i ⟨x.f2,0,0,0⟩ a).up=u:=by
      rw [upN_out hai,hae,hue]
      have:=reptop_sp G (e - 1) HP.out.rep (by omega)
      rw [show e - 1+1=e by omega] at this
      exact this
     rw [hla1,hba,pa_some] at ce
     have c2:=HMEM.out.c2 hA'a
     rw [hau,HAU.out,pa_some] at c2
     have hN:=neS ⟨bu,0,none⟩ W2
     have HPM2:=HPM.out
     rw [if_pos hlt2,←hae] at HPM2
     have HPM3:=a_ HPM2
     have HAT:=a_ (attach_behind HMEM.out HAI.out HAU.out hA'a hai)
     clear HPM2 hm hba hA'a hau hlt2 hla1
     go_wp2_with (go_at_call 96;refine (HAT.out).mono ?_;clear HAT;rintro en W3 ⟨⟨v,rfl⟩,hm3,hb3,hk3⟩;have hL3:=(hk3 (w1.heap.size+1) (fun y=>HMEM.out.no_last HLW.out y)).trans HLW.out;have hG3:=(hk3 g HGB.out).trans HNG.out;have hz3:=bF_ hL3 e;have ce3:=(bC_ hL3 e).trans (lastC_get A la e (by omega));have r3:=(bC_ hG3 1).trans rfl;have HM3:=a_ hm3;have HB3:=a_ hb3;have HL3:=a_ hL3;clear hm3 hb3 hk3 hL3 hG3)
     refine ⟨plant_next HE.out HI.out.2.2 (by omega) HJ.out.1 HLA.out (by omega) (by omega) HM3.out HL3.out HPM3.out HF.out HTD.out.2 HREST2.out (HBW.out.trans HB3.out),?_⟩
     show l0.length - (j+1) < l0.length - j
     omega
    ·have HAT:=a_ (attach_first HMEM.out HAI.out HAU.out hui)
     have HPM2:=HPM.out
     rw [if_neg hlt2] at HPM2
     have HPM3:=a_ HPM2
     have hst:=HP.out.stale e (by omega)
     clear HPM2
     by_cases ha0:la e=0
     ·rw [ha0,show A 0=none from Option.not_isSome_iff_eq_none.1 (fun hs=>by
       obtain ⟨c,hc⟩:=Option.isSome_iff_exists.1 hs
       exact HP.out.rep.ne0 0 ((HP.out.dom 0).1 (by rw [hc];simp)) rfl),pa_none] at ce
      clear hst hlt2 ha0
      go_wp2_with (go_at_call 96;refine (HAT.out).mono ?_;clear HAT;rintro en W3 ⟨⟨v,rfl⟩,hm3,hb3,hk3⟩;have hL3:=(hk3 (w1.heap.size+1) (fun y=>HMEM.out.no_last HLW.out y)).trans HLW.out;have hG3:=(hk3 g HGB.out).trans HNG.out;have hz3:=bF_ hL3 e;have ce3:=(bC_ hL3 e).trans (lastC_get A la e (by omega));have r3:=(bC_ hG3 1).trans rfl;have HM3:=a_ hm3;have HB3:=a_ hb3;have HL3:=a_ hL3;clear hm3 hb3 hk3 hL3 hG3)
      refine ⟨plant_next HE.out HI.out.2.2 (by omega) HJ.out.1 HLA.out (by omega) (by omega) HM3.out HL3.out HPM3.out HF.out HTD.out.2 HREST2.out (HBW.out.trans HB3.out),?_⟩
      show l0.length - (j+1) < l0.length - j
      omega
     ·obtain ⟨hm,hne⟩:=hst.resolve_left ha0
      have hne:=hne (by have:=HI.out.2.2;omega)
      rw [←hue] at hne
      obtain ⟨a,hae⟩:∃ a,a=la e:=⟨_,rfl⟩
      rw [←hae] at hm hne ha0 ce
      obtain ⟨ba,hba⟩:=Option.ne_none_iff_exists'.1 ((HP.out.dom a).2 hm)
      have hai:a≠i:=fun e2=>HI.out.2.1 (e2 ▸ hm)
      have hA'a:upA A i (g+1) a=some ba:=by unfold upA;rw [if_neg hai,hba]
      have hau:(upN h i ⟨x.f2,0,0,0⟩ a).up=(h a).up:=by rw [upN_out hai]
      rw [hba,pa_some] at ce
      have c2:=HMEM.out.c2 hA'a
      rw [hau] at c2
      have hcu:=HMEM.out.cu a (by rw [hA'a];simp)
      rw [hau] at hcu
      obtain ⟨q,hq⟩:∃ q,q=(h a).up:=⟨_,rfl⟩
      rw [←hq] at c2 hcu hne
      by_cases hq0:q=0
      ·rw [hq0,HMEM.out.z,pa_none] at c2
       have hN:=neZ ⟨bu,0,none⟩ W2
       clear hm hba hA'a hau hlt2 hst ha0 hae hcu hq hne hq0
       go_wp2_with (go_at_call 96;refine (HAT.out).mono ?_;clear HAT;rintro en W3 ⟨⟨v,rfl⟩,hm3,hb3,hk3⟩;have hL3:=(hk3 (w1.heap.size+1) (fun y=>HMEM.out.no_last HLW.out y)).trans HLW.out;have hG3:=(hk3 g HGB.out).trans HNG.out;have hz3:=bF_ hL3 e;have ce3:=(bC_ hL3 e).trans (lastC_get A la e (by omega));have r3:=(bC_ hG3 1).trans rfl;have HM3:=a_ hm3;have HB3:=a_ hb3;have HL3:=a_ hL3;clear hm3 hb3 hk3 hL3 hG3)
       refine ⟨plant_next HE.out HI.out.2.2 (by omega) HJ.out.1 HLA.out (by omega) (by omega) HM3.out HL3.out HPM3.out HF.out HTD.out.2 HREST2.out (HBW.out.trans HB3.out),?_⟩
       show l0.length - (j+1) < l0.length - j
       omega
      ·obtain ⟨bq,hbq⟩:=Option.ne_none_iff_exists'.1 (hcu.resolve_left hq0)
       rw [hbq,pa_some] at c2
       have hN:=HMEM.out.nen hbq HAU.out hne
       clear hm hba hA'a hau hlt2 hst ha0 hae hcu hq hne hq0 hbq
       go_wp2_with (go_at_call 96;refine (HAT.out).mono ?_;clear HAT;rintro en W3 ⟨⟨v,rfl⟩,hm3,hb3,hk3⟩;have hL3:=(hk3 (w1.heap.size+1) (fun y=>HMEM.out.no_last HLW.out y)).trans HLW.out;have hG3:=(hk3 g HGB.out).trans HNG.out;have hz3:=bF_ hL3 e;have ce3:=(bC_ hL3 e).trans (lastC_get A la e (by omega));have r3:=(bC_ hG3 1).trans rfl;have HM3:=a_ hm3;have HB3:=a_ hb3;have HL3:=a_ hL3;clear hm3 hb3 hk3 hL3 hG3)
       refine ⟨plant_next HE.out HI.out.2.2 (by omega) HJ.out.1 HLA.out (by omega) (by omega) HM3.out HL3.out HPM3.out HF.out HTD.out.2 HREST2.out (HBW.out.trans HB3.out),?_⟩
       show l0.length - (j+1) < l0.length - j
       omega
  ·have hd1:decide ((j:Int) < (l0.length:Int))=false:=df_ (by omega)
   have hd2:decide (j < l0.length)=false:=df_ hlt
   have hjl:j=l0.length:=by omega
   have hgo:=HGO.out
   rw [List.drop_eq_nil_of_le (by omega)] at hgo
   have h3:roots=3:=by simpa [treeGo] using hgo
   have HF2:=a_ (show G.fl 0=l0 by rw [HF.out,hjl,List.take_length])
   have HT2:=a_ (show G.tops=[1,2,3] by
    obtain ⟨n,hn,ht⟩:=HP.out.tops
    rw [ht,show n=3 by omega];rfl)
   clear hgo h3 hjl HF HGO hlt
   go_wp2
   go_ret2
   exact ⟨_,G,A,h,rfl,HM.out,HP.out.rep,HP.out.nd,HP.out.dom,HT2.out,HF2.out,HBr.out⟩
def fnd (A:Nat→Option Nat) (x:Int):Nat:=if (findA A x).isSome then x.toNat else 0
theorem fnd_eq {w:World} {n0 F:Nat} {A:Nat→Option Nat} {h:Nat→Nd} (m:Mem w n0 F A h) (x:Int):findA A x=A (fnd A x):=by
 unfold fnd
 cases hf:findA A x with
 | none=>simp [m.z]
 | some b =>
  simp only [Option.isSome_some,if_true]
  unfold findA at hf
  split at hf
  ·exact hf.symm
  ·cases hf
theorem fnd_ok {w:World} {n0 F:Nat} {A:Nat→Option Nat} {h:Nat→Nd} (m:Mem w n0 F A h) (x:Int):fnd A x=0∨A (fnd A x)≠none:=by
 by_cases h0:(findA A x).isSome
 ·exact Or.inr (by rw [←fnd_eq m x];exact Option.isSome_iff_ne_none.1 h0)
 ·exact Or.inl (by unfold fnd;rw [if_neg h0])
theorem fnd_zero {w:World} {n0 F:Nat} {A:Nat→Option Nat} {h:Nat→Nd} (m:Mem w n0 F A h) (x:Int) (e:fnd A x=0):findA A x=none:=by rw [fnd_eq m x,e,m.z]
theorem fnd_int {w:World} {n0 F:Nat} {A:Nat→Option Nat} {h:Nat→Nd} (m:Mem w n0 F A h) (x:Int) (e:fnd A x≠0):(fnd A x:Int)=x:=by
 have h1:(findA A x).isSome:=by
  by_cases h0:(findA A x).isSome
  ·exact h0
  ·exact absurd (by unfold fnd;rw [if_neg h0]) e
 have h2:fnd A x=x.toNat:=by unfold fnd;rw [if_pos h1]
 have h3:0≤x:=by
  unfold findA at h1
  split at h1
  ·omega
  ·cases h1
 rw [h2];omega
def nearN (A:Nat→Option Nat) (h:Nat→Nd) (id up at_:Int):Nat×Nat :=
 if fnd A up=0 then (fnd A 3,0)
 else if fnd A at_=0 then (fnd A up,0)
 else if (h (fnd A at_)).up≠fnd A up then (fnd A up,0)
 else if at_=id then (fnd A up,0)
 else (fnd A up,fnd A at_)
theorem near_any {w:World} {n0 F:Nat} {A:Nat→Option Nat} {h:Nat→Nd} (m:Mem w n0 F A h) (id up at_:Int) :
  Calls Tryd.prog 110 #[.pointer (some ⟨F,0,none⟩),.int .i64 id,.int .i64 up,.int .i64 at_] w fun e w'=>e=.returned (.tuple #[.pointer (pa (A (nearN A h id up at_).1)),.pointer (pa (A (nearN A h id up at_).2))])∧w'=w:=by
 have F1:=a_ (find_any m up)
 have F2:=a_ (find_any m at_)
 have F3:=a_ (find_any m 3)
 have z:=m.z
 by_cases h1:fnd A up=0
 ·have hn:nearN A h id up at_=(fnd A 3,0):=by unfold nearN;rw [if_pos h1]
  rw [hn,z,←fnd_eq m 3,pa_none]
  rw [fnd_zero m up h1,pa_none] at F1
  clear m h1 hn z
  go_enter Tryd.func110,Tryd.ntmps110
  go_wp2_with (go_at_call 61;first|(refine (F1.out).mono ?_;clear F1;rintro en w1 ⟨rfl,rfl⟩)|(refine (F3.out).mono ?_;clear F3;rintro en w1 ⟨rfl,rfl⟩))
  go_ret2
  exact ⟨rfl,rfl⟩
 ·obtain ⟨b1,hb1⟩:=Option.ne_none_iff_exists'.1 ((fnd_ok m up).resolve_left h1)
  rw [fnd_eq m up,hb1,pa_some] at F1
  by_cases h2:fnd A at_=0
  ·have hn:nearN A h id up at_=(fnd A up,0):=by unfold nearN;rw [if_neg h1,if_pos h2]
   rw [hn,z,hb1,pa_none,pa_some]
   rw [fnd_zero m at_ h2,pa_none] at F2
   clear m h1 h2 hn z F3 hb1
   go_enter Tryd.func110,Tryd.ntmps110
   go_wp2_with (go_at_call 61;first|(refine (F1.out).mono ?_;clear F1;rintro en w1 ⟨rfl,rfl⟩)|(refine (F2.out).mono ?_;clear F2;rintro en w1 ⟨rfl,rfl⟩))
   go_ret2
   exact ⟨rfl,rfl⟩
  ·obtain ⟨b2,hb2⟩:=Option.ne_none_iff_exists'.1 ((fnd_ok m at_).resolve_left h2)
   rw [fnd_eq m at_,hb2,pa_some] at F2
   have c2:=m.c2 hb2
   have c0:=m.c0 hb2
   have hi2:=fnd_int m at_ h2
   rw [hi2] at c0
   by_cases h3:(h (fnd A at_)).up≠fnd A up
   ·have hn:nearN A h id up at_=(fnd A up,0):=by unfold nearN;rw [if_neg h1,if_neg h2,if_pos h3]
    rw [hn,z,hb1,pa_none,pa_some]
    obtain ⟨q,hq⟩:∃ q,q=(h (fnd A at_)).up:=⟨_,rfl⟩
    have hcu:=m.cu (fnd A at_) (by rw [hb2];simp)
    rw [←hq] at c2 h3 hcu
    by_cases hq0:q=0
    ·rw [hq0,z,pa_none] at c2
     have hN:=neZ ⟨b1,0,none⟩ w
     clear m h1 h2 hn z F3 hb1 hb2 h3 hq hq0 hcu hi2
     go_enter Tryd.func110,Tryd.ntmps110
     go_wp2_with (go_at_call 61;first|(refine (F1.out).mono ?_;clear F1;rintro en w1 ⟨rfl,rfl⟩)|(refine (F2.out).mono ?_;clear F2;rintro en w1 ⟨rfl,rfl⟩))
     go_ret2
     exact ⟨rfl,rfl⟩
    ·obtain ⟨bq,hbq⟩:=Option.ne_none_iff_exists'.1 (hcu.resolve_left hq0)
     rw [hbq,pa_some] at c2
     have hN:=m.nen hbq hb1 h3
     clear m h1 h2 hn z F3 hb1 hb2 h3 hq hq0 hcu hbq hi2
     go_enter Tryd.func110,Tryd.ntmps110
     go_wp2_with (go_at_call 61;first|(refine (F1.out).mono ?_;clear F1;rintro en w1 ⟨rfl,rfl⟩)|(refine (F2.out).mono ?_;clear F2;rintro en w1 ⟨rfl,rfl⟩))
     go_ret2
     exact ⟨rfl,rfl⟩
   ·have h3':(h (fnd A at_)).up=fnd A up:=Decidable.of_not_not h3
    rw [h3',hb1,pa_some] at c2
    have hN:=neS ⟨b1,0,none⟩ w
    by_cases h4:at_=id
    ·have hn:nearN A h id up at_=(fnd A up,0):=by unfold nearN;rw [if_neg h1,if_neg h2,if_neg h3,if_pos h4]
     rw [hn,z,hb1,pa_none,pa_some]
     subst h4
     have hd:(at_==at_)=true:=beq_self_eq_true at_
     clear m h1 h2 hn z F3 hb1 hb2 h3 h3' hi2
     go_enter Tryd.func110,Tryd.ntmps110
     go_wp2_with (go_at_call 61;first|(refine (F1.out).mono ?_;clear F1;rintro en w1 ⟨rfl,rfl⟩)|(refine (F2.out).mono ?_;clear F2;rintro en w1 ⟨rfl,rfl⟩))
     go_ret2
     exact ⟨rfl,rfl⟩
    ·have hn:nearN A h id up at_=(fnd A up,fnd A at_):=by unfold nearN;rw [if_neg h1,if_neg h2,if_neg h3,if_neg h4]
     rw [hn,hb1,hb2,pa_some,pa_some]
     have hd:(at_==id)=false:=beq_eq_false_iff_ne.2 h4
     clear m h1 h2 hn z F3 hb1 hb2 h3 h3' h4 hi2
     go_enter Tryd.func110,Tryd.ntmps110
     go_wp2_with (go_at_call 61;first|(refine (F1.out).mono ?_;clear F1;rintro en w1 ⟨rfl,rfl⟩)|(refine (F2.out).mono ?_;clear F2;rintro en w1 ⟨rfl,rfl⟩))
     go_ret2
     exact ⟨rfl,rfl⟩
theorem as_hit {P:Program} {t xT:TypeId} {fs:Array Field} (hu:P.underlying t=some (.struct fs)) (v:Value) (w:World):(Instr.typeAssert (.iface t v) xT t true).run P w=.ok (.tuple #[v,.bool true]) w:=by
 simp [Instr.typeAssert,run_underlying hu]
theorem as_miss {P:Program} {t t' xT:TypeId} {fs:Array Field} {z:Value} (hu:P.underlying t'=some (.struct fs)) (hz:(P.info? t').map (·.zero)=some (some z)) (hne:t≠t') (v:Value) (w:World):(Instr.typeAssert (.iface t v) xT t' true).run P w=.ok (.tuple #[z,.bool false]) w:=by
 obtain ⟨j,hj,hz'⟩:=Option.map_eq_some_iff.1 hz
 simp [Instr.typeAssert,run_underlying hu,typeInfo,zeroValue,hj,hz',hne]
@[go_sem]
theorem as_mm (v:Value) (w:World):(Instr.typeAssert (.iface 114 v) 74 114 true).run Tryd.prog w=.ok (.tuple #[v,.bool true]) w:=as_hit Tryd.underlying114 v w
@[go_sem]
theorem as_tt (v:Value) (w:World):(Instr.typeAssert (.iface 117 v) 74 117 true).run Tryd.prog w=.ok (.tuple #[v,.bool true]) w:=as_hit Tryd.underlying117 v w
@[go_sem]
theorem as_vv (v:Value) (w:World):(Instr.typeAssert (.iface 119 v) 74 119 true).run Tryd.prog w=.ok (.tuple #[v,.bool true]) w:=as_hit Tryd.underlying119 v w
def zM:Value:=.agg #[.int .i64 0,.int .i64 0,.int .i64 0,.string ByteArray.empty]
def zT:Value:=.agg #[.int .i64 0,.string ByteArray.empty]
def zV:Value:=.agg #[.int .i64 0,.int .i64 0,.int .i64 0]
@[go_sem]
theorem as_tm (v:Value) (w:World):(Instr.typeAssert (.iface 117 v) 74 114 true).run Tryd.prog w=.ok (.tuple #[zM,.bool false]) w:=as_miss Tryd.underlying114 (by kernel_rfl) (by decide) v w
@[go_sem]
theorem as_vm (v:Value) (w:World):(Instr.typeAssert (.iface 119 v) 74 114 true).run Tryd.prog w=.ok (.tuple #[zM,.bool false]) w:=as_miss Tryd.underlying114 (by kernel_rfl) (by decide) v w
@[go_sem]
theorem as_mt (v:Value) (w:World):(Instr.typeAssert (.iface 114 v) 74 117 true).run Tryd.prog w=.ok (.tuple #[zT,.bool false]) w:=as_miss Tryd.underlying117 (by kernel_rfl) (by decide) v w
@[go_sem]
theorem as_vt (v:Value) (w:World):(Instr.typeAssert (.iface 119 v) 74 117 true).run Tryd.prog w=.ok (.tuple #[zT,.bool false]) w:=as_miss Tryd.underlying117 (by kernel_rfl) (by decide) v w
@[go_sem]
theorem as_mv (v:Value) (w:World):(Instr.typeAssert (.iface 114 v) 74 119 true).run Tryd.prog w=.ok (.tuple #[zV,.bool false]) w:=as_miss Tryd.underlying119 (by kernel_rfl) (by decide) v w
@[go_sem]
theorem as_tv (v:Value) (w:World):(Instr.typeAssert (.iface 117 v) 74 119 true).run Tryd.prog w=.ok (.tuple #[zV,.bool false]) w:=as_miss Tryd.underlying119 (by kernel_rfl) (by decide) v w
def whereR (A:Nat→Option Nat) (p:Nat×Nat) (ok:Bool):Ending:=.returned (.tuple #[.pointer (pa (A p.1)),.pointer (pa (A p.2)),.bool ok])
def WherePost (w:World) (A:Nat→Option Nat) (p:Nat×Nat) (ok:Bool) (e:Ending) (w':World):Prop:=e=whereR A p ok∧Below w.heap.size w w'
theorem where_make {w:World} {n0 F:Nat} {A:Nat→Option Nat} {h:Nat→Nd} (m:Mem w n0 F A h) (id up at_:Int) (s:ByteArray) :
  Calls Tryd.prog 89 #[.pointer (some ⟨F,0,none⟩),.iface 114 (.agg #[.int .i64 id,.int .i64 up,.int .i64 at_,.string s])] w (WherePost w A (if fnd A id=0 then nearN A h id up at_ else (0,0)) (decide (fnd A id=0))):=by
 have z:=m.z
 have HM:=a_ m
 by_cases h1:fnd A id=0
 ·have F1:=a_ (fnd_zero m id h1)
  rw [if_pos h1,dt_ h1]
  obtain ⟨p,hp⟩:∃ p,p=nearN A h id up at_:=⟨_,rfl⟩
  rw [←hp]
  have HP:=a_ hp
  clear m h1 z hp
  go_enter Tryd.func89,Tryd.ntmps89
  go_wp2_with (first|(go_at_call 61;with_reducible refine (find_any (HM.out.alloc _) id).mono ?_;rw [F1.out,pa_none];rintro en w1 ⟨rfl,rfl⟩)|(go_at_call 110;with_reducible refine (near_any (HM.out.alloc _) id up at_).mono ?_;rw [←HP.out];rintro en w1 ⟨rfl,rfl⟩))
  go_ret3
  exact ⟨rfl,below_box0 w _⟩
 ·obtain ⟨b1,hb1⟩:=Option.ne_none_iff_exists'.1 ((fnd_ok m id).resolve_left h1)
  have F1:=a_ ((fnd_eq m id).trans hb1)
  rw [if_neg h1,df_ h1]
  have HZ:=a_ z
  clear m h1 z hb1
  go_enter Tryd.func89,Tryd.ntmps89
  go_wp2_with (first|(go_at_call 61;with_reducible refine (find_any (HM.out.alloc _) id).mono ?_;rw [F1.out,pa_some];rintro en w1 ⟨rfl,rfl⟩))
  go_ret3
  exact ⟨by unfold whereR;rw [HZ.out,pa_none];rfl,below_box0 w _⟩
theorem where_move {w:World} {n0 F:Nat} {A:Nat→Option Nat} {h:Nat→Nd} (m:Mem w n0 F A h) (id up at_:Int) (k:Nat) (r:Bool) (hr:fnd A id≠0→withinF h (fnd A id) k (fnd A up)=some r) :
  Calls Tryd.prog 89 #[.pointer (some ⟨F,0,none⟩),.iface 119 (.agg #[.int .i64 id,.int .i64 up,.int .i64 at_])] w (WherePost w A (if fnd A id=0 then (0,0) else if r=true then (0,0) else nearN A h id up at_) (decide (fnd A id≠0)&&!r)):=by
 have z:=m.z
 have HM:=a_ m
 by_cases h1:fnd A id=0
 ·have F1:=a_ (fnd_zero m id h1)
  rw [if_pos h1,df_ (fun e=>e h1),Bool.false_and]
  have HZ:=a_ z
  clear m h1 z hr
  go_enter Tryd.func89,Tryd.ntmps89
  go_wp2_with (first|(go_at_call 61;with_reducible refine (find_any (HM.out.alloc _) id).mono ?_;rw [F1.out,pa_none];rintro en w1 ⟨rfl,rfl⟩))
  go_ret3
  exact ⟨by unfold whereR;rw [HZ.out,pa_none];rfl,below_box0 w _⟩
 ·obtain ⟨b1,hb1⟩:=Option.ne_none_iff_exists'.1 ((fnd_ok m id).resolve_left h1)
  have F1:=a_ ((fnd_eq m id).trans hb1)
  have F2:=a_ (fnd_eq m up)
  have HR:=a_ (hr h1)
  have HK:=a_ (fnd_ok m up)
  have HB1:=a_ hb1
  rw [if_neg h1,dt_ h1,Bool.true_and]
  have HZ:=a_ z
  obtain ⟨c,hc⟩:∃ c,c=pa (findA A id):=⟨_,rfl⟩
  obtain ⟨u,hu⟩:∃ u,u=fnd A id:=⟨_,rfl⟩
  obtain ⟨x,hx⟩:∃ x,x=fnd A up:=⟨_,rfl⟩
  rw [←hu] at HR HB1
  rw [←hx] at HR HK F2
  clear m h1 z hb1 hr hc hu hx
  cases r with
  | true =>
   rw [if_pos rfl]
   go_enter Tryd.func89,Tryd.ntmps89
   go_wp2_with (first|(go_at_call 61;with_reducible refine (find_any (HM.out.alloc _) id).mono ?_;rw [F1.out,pa_some];rintro en w1 ⟨rfl,rfl⟩)|(go_at_call 61;with_reducible refine (find_any (HM.out.alloc _) up).mono ?_;rw [F2.out];rintro en w1 ⟨rfl,rfl⟩)|(go_at_call 62;with_reducible refine (within_any (HM.out.alloc _) x u HK.out HB1.out k true HR.out).mono ?_;rintro en w1 ⟨rfl,rfl⟩))
   go_ret3
   exact ⟨by unfold whereR;rw [HZ.out,pa_none];rfl,below_box0 w _⟩
  | false =>
   rw [if_neg (by decide)]
   obtain ⟨p,hp⟩:∃ p,p=nearN A h id up at_:=⟨_,rfl⟩
   rw [←hp]
   have HP:=a_ hp
   clear hp
   go_enter Tryd.func89,Tryd.ntmps89
   go_wp2_with (first|(go_at_call 61;with_reducible refine (find_any (HM.out.alloc _) id).mono ?_;rw [F1.out,pa_some];rintro en w1 ⟨rfl,rfl⟩)|(go_at_call 61;with_reducible refine (find_any (HM.out.alloc _) up).mono ?_;rw [F2.out];rintro en w1 ⟨rfl,rfl⟩)|(go_at_call 62;with_reducible refine (within_any (HM.out.alloc _) x u HK.out HB1.out k false HR.out).mono ?_;rintro en w1 ⟨rfl,rfl⟩)|(go_at_call 110;with_reducible refine (near_any (HM.out.alloc _) id up at_).mono ?_;rw [←HP.out];rintro en w1 ⟨rfl,rfl⟩))
   go_ret3
   exact ⟨rfl,below_box0 w _⟩
structure At (w:World) (n0 F:Nat) (A:Nat→Option Nat) (h:Nat→Nd) (G:Fo):Prop where
 m:Mem w n0 F A h
 rep:RepTop h G
 nd:G.ids.Nodup
 dom:∀ x,A x≠none↔x∈G.ids
 tops:G.tops=[1,2,3]
theorem At.kept {w w':World} {n0 F:Nat} {A:Nat→Option Nat} {h:Nat→Nd} {G:Fo} (t:At w n0 F A h G) (m:Mem w' n0 F A h):At w' n0 F A h G:=⟨m,t.rep,t.nd,t.dom,t.tops⟩
theorem At.fnd {w:World} {n0 F:Nat} {A:Nat→Option Nat} {h:Nat→Nd} {G:Fo} (t:At w n0 F A h G) (x:Int):fnd A x=fndF G x:=by
 unfold P.fnd fndF findA
 by_cases hx:0≤x∧x.toNat∈G.ids
 ·obtain ⟨b,hb⟩:=Option.ne_none_iff_exists'.1 ((t.dom x.toNat).2 hx.2)
  have:=t.m.rng _ b hb
  rw [if_pos hx,if_pos (show 0≤x∧x < 37 by omega),hb]
  rfl
 ·rw [if_neg hx]
  by_cases h1:0≤x∧x < 37
  ·rw [if_pos h1]
   have:A x.toNat=none:=Decidable.byContradiction fun g=>hx ⟨h1.1,(t.dom _).1 g⟩
   rw [this];rfl
  ·rw [if_neg h1];rfl
theorem At.ok {w:World} {n0 F:Nat} {A:Nat→Option Nat} {h:Nat→Nd} {G:Fo} (t:At w n0 F A h G) {x:Nat} (hx:x∈G.ids):∃ b,A x=some b:=Option.ne_none_iff_exists'.1 ((t.dom x).2 hx)
theorem At.three {w:World} {n0 F:Nat} {A:Nat→Option Nat} {h:Nat→Nd} {G:Fo} (t:At w n0 F A h G):3∈G.tops:=by rw [t.tops];simp
theorem At.near {w:World} {n0 F:Nat} {A:Nat→Option Nat} {h:Nat→Nd} {G:Fo} (t:At w n0 F A h G) (id up at_:Int):nearN A h id up at_=nearF G id up at_:=by
 unfold nearN nearF
 rw [t.fnd up,t.fnd at_,t.fnd 3]
 by_cases h1:fndF G up=0
 ·rw [if_pos h1,if_pos h1]
  have h3:fndF G 3=3:=by
   unfold fndF
   rw [if_pos ⟨by omega,show (3:Int).toNat∈G.ids from tops_ids t.three⟩];rfl
  rw [h3]
 ·rw [if_neg h1,if_neg h1]
  by_cases h2:fndF G at_=0
  ·rw [if_pos h2,if_pos h2]
  ·rw [if_neg h2,if_neg h2,reptop_par t.rep t.nd (fndF_mem h2).1]
theorem attach_any {w:World} {n0 F:Nat} {A:Nat→Option Nat} {h:Nat→Nd} (m:Mem w n0 F A h) {i u a bi bu:Nat} (hi:A i=some bi) (hu:A u=some bu) (hui:u≠i) (ha:a=0∨A a≠none) (hai:a≠i) :
  Calls Tryd.prog 96 #[.pointer (some ⟨bi,0,none⟩),.pointer (some ⟨bu,0,none⟩),.pointer (pa (A a))] w fun e w'=>(∃ v,e=.returned v)∧Mem w' n0 F A (attachH h i u a)∧Below n0 w w':=by
 by_cases h0:a=0
 ·rw [h0,m.z,pa_none]
  exact (attach_first m hi hu hui).mono fun e w' ⟨a1,a2,a3,_⟩=>⟨a1,a2,a3⟩
 ·obtain ⟨ba,hba⟩:=Option.ne_none_iff_exists'.1 (ha.resolve_left h0)
  rw [hba,pa_some]
  exact (attach_behind m hi hu hba hai).mono fun e w' ⟨a1,a2,a3,_⟩=>⟨a1,a2,a3⟩
def ApplyPost (w:World) (n0 F:Nat) (G:Fo) (e:Ending) (w':World):Prop:=(∃ v,e=.returned v)∧(∃ A h,At w' n0 F A h G)∧Below n0 w w'
theorem apply_text_no {w:World} {n0 F:Nat} {A:Nat→Option Nat} {h:Nat→Nd} {G:Fo} (t:At w n0 F A h G) (hn0:n0≤w.heap.size) (id:Int) (s:ByteArray) (h1:fndF G id=0) :
  Calls Tryd.prog 64 #[.pointer (some ⟨F,0,none⟩),.iface 117 (.agg #[.int .i64 id,.string s])] w (ApplyPost w n0 F G):=by
 have F1:=a_ (fnd_zero t.m id ((t.fnd id).trans h1))
 have HT:=a_ t
 have HN:=a_ hn0
 clear t h1 hn0
 go_enter Tryd.func64,Tryd.ntmps64
 go_wp2_with (go_at_call 61;(with_reducible refine (find_any (HT.out.m.alloc _) id).mono ?_);rw [F1.out,pa_none];rintro en w1 ⟨rfl,rfl⟩)
 go_end0
 exact ⟨⟨_,rfl⟩,⟨A,h,HT.out.kept (HT.out.m.alloc _)⟩,(below_box0 w _).mono HN.out⟩
theorem apply_text_yes {w:World} {n0 F:Nat} {A:Nat→Option Nat} {h:Nat→Nd} {G:Fo} (t:At w n0 F A h G) (hn0:n0≤w.heap.size) (id:Int) (s:ByteArray) (i:Nat) (hi:fndF G id=i) (h1:i≠0) :
  Calls Tryd.prog 64 #[.pointer (some ⟨F,0,none⟩),.iface 117 (.agg #[.int .i64 id,.string s])] w (ApplyPost w n0 F (setF i s G)):=by
 obtain ⟨b,hb⟩:=t.ok (hi ▸ (fndF_mem (hi ▸ h1)).1)
 have F1:Aside0 (findA A id=some b):=⟨(fnd_eq t.m id).trans (by rw [t.fnd id,hi];exact hb)⟩
 have m1:=t.m.alloc (.cells #[.int .i64 id,.string s] 117)
 have c1:=m1.c1 hb
 have z1:=m1.fz hb 1
 have HB:=a_ hb
 have HT:=a_ t
 have HN:=a_ hn0
 have HM:=a_ m1
 clear t h1 hn0 hb hi m1
 go_enter Tryd.func64,Tryd.ntmps64
 go_wp2_with (go_at_call 61;(with_reducible refine (find_any (HT.out.m.alloc _) id).mono ?_);rw [F1.out,pa_some];rintro en w1 ⟨rfl,rfl⟩)
 go_end0
 refine ⟨⟨_,rfl⟩,⟨A,_,HM.out.setT HB.out s,reptop_setF HT.out.rep,by rw [setF_ids];exact HT.out.nd,fun x=>by rw [setF_ids];exact HT.out.dom x,by rw [setF_tops];exact HT.out.tops⟩,?_⟩
 exact ((below_box0 w _).mono HN.out).setCell (p:=⟨b,1,none⟩) (HT.out.m.lo i b HB.out) _
theorem apply_make_no {w:World} {n0 F:Nat} {A:Nat→Option Nat} {h:Nat→Nd} {G:Fo} (t:At w n0 F A h G) (hn0:n0≤w.heap.size) (id up at_:Int) (s:ByteArray) (h1:fndF G id≠0) :
  Calls Tryd.prog 64 #[.pointer (some ⟨F,0,none⟩),.iface 114 (.agg #[.int .i64 id,.int .i64 up,.int .i64 at_,.string s])] w (ApplyPost w n0 F G):=by
 have hz:whereR A (0,0) false=.returned (.tuple #[.pointer none,.pointer none,.bool false]):=by unfold whereR;rw [t.m.z];rfl
 have HW:=a_ (where_make (t.m.alloc (.cells #[.int .i64 id,.int .i64 up,.int .i64 at_,.string s] 114)) id up at_ s)
 rw [t.fnd id,if_neg h1,df_ h1] at HW
 have HT:=a_ t
 have HN:=a_ hn0
 have HZ:=a_ hz
 clear t h1 hn0 hz
 go_enter Tryd.func64,Tryd.ntmps64
 go_wp2_with (go_at_call 89;(with_reducible refine (HW.out).mono ?_);rintro en w1 ⟨he,hb⟩;rw [HZ.out] at he;subst he;have HB:=a_ hb;clear hb)
 go_end0
 exact ⟨⟨_,rfl⟩,⟨A,h,HT.out.kept ((HT.out.m.alloc _).below HB.out)⟩,((below_box0 w _).mono HN.out).trans (HB.out.mono (by have:=HN.out;simp;omega))⟩
end Go.Proofs.YtlkheeegkifblaaDoor.P
