/- Joined by a program (wip/shake.py): the declarations that 'YtdpklbomhdpimaaDoorCardFnHearAgain' reaches. -/
import Derived.Test.YtdpklbomhdpimaaDoorHb0
set_option linter.unusedVariables false
set_option linter.unusedSimpArgs false
set_option linter.unusedSectionVars false
set_option maxHeartbeats 8000000
set_option maxRecDepth 100000
namespace Go.Proofs.YtdpklbomhdpimaaDoor.P
open Go.RowKit Go.Proofs.YtdpklbomhdpimaaDoorW.PrintWords Go.Proofs.YtdpklbomhdpimaaDoorW.PrintLast
mutual
def spec_l72Op.j0:Nat→Int→Int→Int→Int→List Int→Int→Bool→List Int→Int→Option (Int×Int×Int×Int×ByteArray×Int)
 | 0,_,_,_,_,_,_,_,_,_=>none
 | k+1,x2,x3,x9,x10,x11,x12,x40,x1000,x1001=>if x40=true then ((spec_l6Rd_pick.f k x1000 x1001 (x11.length:Int)).bind fun bt197=>(if 0≤bt197.1 then (if bt197.1 < (x11.length:Int) then (spec_l72Op.j1 k x2 x3 x9 x10 (rd x11 bt197.1) x1000 bt197.2) else (none)) else (none))) else (spec_l72Op.j1 k x2 x3 x9 x10 x12 x1000 x1001)
def spec_l72Op.j1:Nat→Int→Int→Int→Int→Int→List Int→Int→Option (Int×Int×Int×Int×ByteArray×Int)
 | 0,_,_,_,_,_,_,_=>none
 | k+1,x2,x3,x9,x10,x12,x1000,x1001=>(spec_l71Text.f k x1000 x1001).bind fun bt200=>((spec_l1Text.f k bt200.1).bind fun t202=>(if t202=true then (spec_l72Op.j2 k x2 x3 x9 x10 x12 bt200.1 x1000 bt200.2) else (spec_l72Op.j2 k x2 x3 x9 x10 x12 (⟨#[97]⟩:ByteArray) x1000 bt200.2)))
def spec_l72Op.j2:Nat→Int→Int→Int→Int→Int→ByteArray→List Int→Int→Option (Int×Int×Int×Int×ByteArray×Int)
 | 0,_,_,_,_,_,_,_,_=>none
 | k+1,x2,x3,x9,x10,x12,x13,x1000,x1001=>(spec_l6Rd_pick.f k x1000 x1001 6).bind fun bt203=>(if bt203.1=0 then ((spec_l71Id.f k x1000 bt203.2).bind fun bt205=>(spec_l72Op.j3 k x2 x3 x9 bt205.1 x12 x13 x1000 bt205.2)) else (spec_l72Op.j3 k x2 x3 x9 x10 x12 x13 x1000 bt203.2))
def spec_l72Op.j3:Nat→Int→Int→Int→Int→Int→ByteArray→List Int→Int→Option (Int×Int×Int×Int×ByteArray×Int)
 | 0,_,_,_,_,_,_,_,_=>none
 | k+1,x2,x3,x9,x10,x12,x13,x1000,x1001=>if x3 < 6 then ((spec_l6Rd_pick.f k x1000 x1001 3).bind fun bt207=>(if bt207.1=0 then (spec_l72Op.j4 k x2 x3 x9 x10 x12 x13 true x1000 bt207.2) else ((spec_l1Made.f x9).bind fun t209=>(spec_l72Op.j4 k x2 x3 x9 x10 x12 x13 (!t209) x1000 bt207.2)))) else (spec_l72Op.j4 k x2 x3 x9 x10 x12 x13 false x1000 x1001)
def spec_l72Op.j4:Nat→Int→Int→Int→Int→Int→ByteArray→Bool→List Int→Int→Option (Int×Int×Int×Int×ByteArray×Int)
 | 0,_,_,_,_,_,_,_,_,_=>none
 | k+1,x2,x3,x9,x10,x12,x13,x69,x1000,x1001=>if x69=true then ((spec_RowMade.f x2 (wrap64 (x3+1))).bind fun t210=>(some (1,t210,x10,x12,x13,x1001))) else ((spec_l1Made.f x9).bind fun t211=>(if t211=true then ((spec_l6Rd_pick.f k x1000 x1001 3).bind fun bt212=>(if bt212.1=0 then (some (2,x9,0,0,x13,bt212.2)) else (some (3,x9,x10,x12,(⟨#[]⟩:ByteArray),bt212.2)))) else ((spec_l71Id.f k x1000 x1001).bind fun bt214=>((spec_l6Rd_pick.f k x1000 bt214.2 3).bind fun bt216=>(if bt216.1=0 then (some (2,bt214.1,0,0,x13,bt216.2)) else (some (3,bt214.1,x10,x12,(⟨#[]⟩:ByteArray),bt216.2)))))))
end
def spec_l72Op.f (k:Nat) (s0_0:List Int) (s0_1:Int) (l1:List (S69)) (a2:Int) (a3:Int):Option (Int×Int×Int×Int×ByteArray×Int):=(spec_l6Rd_pick.f k s0_0 s0_1 (l1.length:Int)).bind fun bt186=>(if 0≤bt186.1 then (if bt186.1 < (l1.length:Int) then ((spec_l6Rd_pick.f k s0_0 bt186.2 (l1.length:Int)).bind fun bt189=>(if 0≤bt189.1 then (if bt189.1 < (l1.length:Int) then ((spec_l2Kids.f k l1 ((rd_T69 l1 bt189.1).f0)).bind fun t192=>(if (t192.length:Int) > 0 then ((spec_l6Rd_pick.f k s0_0 bt189.2 2).bind fun bt195=>(spec_l72Op.j0 k a2 a3 ((rd_T69 l1 bt186.1).f0) ((rd_T69 l1 bt189.1).f0) t192 0 (bt195.1==0) s0_0 bt195.2)) else (spec_l72Op.j0 k a2 a3 ((rd_T69 l1 bt186.1).f0) ((rd_T69 l1 bt189.1).f0) t192 0 false s0_0 bt189.2))) else (none)) else (none))) else (none)) else (none))
theorem spec_l72Op.mono_l:∀ k,(∀ y0 y1 y2 y3 y4 y5 y6 y7 y8,LeO (spec_l72Op.j0 k y0 y1 y2 y3 y4 y5 y6 y7 y8) (spec_l72Op.j0 (k+1) y0 y1 y2 y3 y4 y5 y6 y7 y8))∧(∀ y0 y1 y2 y3 y4 y5 y6,LeO (spec_l72Op.j1 k y0 y1 y2 y3 y4 y5 y6) (spec_l72Op.j1 (k+1) y0 y1 y2 y3 y4 y5 y6))∧(∀ y0 y1 y2 y3 y4 y5 y6 y7,LeO (spec_l72Op.j2 k y0 y1 y2 y3 y4 y5 y6 y7) (spec_l72Op.j2 (k+1) y0 y1 y2 y3 y4 y5 y6 y7))∧(∀ y0 y1 y2 y3 y4 y5 y6 y7,LeO (spec_l72Op.j3 k y0 y1 y2 y3 y4 y5 y6 y7) (spec_l72Op.j3 (k+1) y0 y1 y2 y3 y4 y5 y6 y7))∧(∀ y0 y1 y2 y3 y4 y5 y6 y7 y8,LeO (spec_l72Op.j4 k y0 y1 y2 y3 y4 y5 y6 y7 y8) (spec_l72Op.j4 (k+1) y0 y1 y2 y3 y4 y5 y6 y7 y8))
 | 0=>⟨fun _ _ _ _ _ _ _ _ _ r h=>by simp [spec_l72Op.j0] at h,fun _ _ _ _ _ _ _ r h=>by simp [spec_l72Op.j1] at h,fun _ _ _ _ _ _ _ _ r h=>by simp [spec_l72Op.j2] at h,fun _ _ _ _ _ _ _ _ r h=>by simp [spec_l72Op.j3] at h,fun _ _ _ _ _ _ _ _ _ r h=>by simp [spec_l72Op.j4] at h⟩
 | k+1=>by
  obtain ⟨ih0,ih1,ih2,ih3,ih4⟩:=spec_l72Op.mono_l k
  refine ⟨?_,?_,?_,?_,?_⟩
  all_goals intros
  all_goals first|unfold spec_l72Op.j0|unfold spec_l72Op.j1|unfold spec_l72Op.j2|unfold spec_l72Op.j3|unfold spec_l72Op.j4
  all_goals repeat' first
  | (with_reducible exact ih0 _ _ _ _ _ _ _ _ _)
  | (with_reducible exact ih1 _ _ _ _ _ _ _)
  | (with_reducible exact ih2 _ _ _ _ _ _ _ _)
  | (with_reducible exact ih3 _ _ _ _ _ _ _ _)
  | (with_reducible exact ih4 _ _ _ _ _ _ _ _ _)
  | (with_reducible exact spec_l1Text.mono _ _)
  | (with_reducible exact spec_l2Kids.mono _ _ _)
  | (with_reducible exact spec_l6Rd_pick.mono _ _ _ _)
  | (with_reducible exact spec_l71Id.mono _ _ _)
  | (with_reducible exact spec_l71Text.mono _ _ _)
  | (with_reducible exact LeO.refl _)
  | (with_reducible exact LeO.none _)
  | (with_reducible refine LeO.ite ?_ ?_)
  | (with_reducible refine LeO.bind ?_ (fun _=>?_))
theorem spec_l72Op.mono:∀ a0 a1 a2 a3 a4 k,LeO (spec_l72Op.f k a0 a1 a2 a3 a4) (spec_l72Op.f (k+1) a0 a1 a2 a3 a4):=by
 intro a0 a1 a2 a3 a4 k
 obtain ⟨ih0,ih1,ih2,ih3,ih4⟩:=spec_l72Op.mono_l k
 unfold spec_l72Op.f
 repeat' first
   | (with_reducible exact ih0 _ _ _ _ _ _ _ _ _)
   | (with_reducible exact ih1 _ _ _ _ _ _ _)
   | (with_reducible exact ih2 _ _ _ _ _ _ _ _)
   | (with_reducible exact ih3 _ _ _ _ _ _ _ _)
   | (with_reducible exact ih4 _ _ _ _ _ _ _ _ _)
   | (with_reducible exact spec_l1Text.mono _ _)
   | (with_reducible exact spec_l2Kids.mono _ _ _)
   | (with_reducible exact spec_l6Rd_pick.mono _ _ _ _)
   | (with_reducible exact spec_l71Id.mono _ _ _)
   | (with_reducible exact spec_l71Text.mono _ _ _)
   | (with_reducible exact LeO.refl _)
   | (with_reducible exact LeO.none _)
   | (with_reducible refine LeO.ite ?_ ?_)
   | (with_reducible refine LeO.bind ?_ (fun _=>?_))
theorem spec_l72Op.calls (k:Nat) (g:Nat) (s0_0:List Int) (s0_1:Int) (A1:Option Addr) (c1:Nat) (l1:List (S69)) (a2:Int) (a3:Int) (r1:Int) (r2:Int) (r3:Int) (r4:Int) (r5:ByteArray) (r6:Int) (w0 w:World) (hI:IsS145 w0 w g s0_0 s0_1) (hB:Below w0.heap.size w0 w) (hr1:∀ W_,KeepBut w W_ g none→Kd.C k69 W_ A1 l1.length l1) (hc1:l1.length≤c1) (h:spec_l72Op.f k s0_0 s0_1 l1 a2 a3=some (r1,r2,r3,r4,r5,r6)) :
  Calls Tryd.prog 124 #[.pointer (some ⟨g,0,none⟩),.slice A1 l1.length c1,.int .i64 a2,.int .i64 a3] w fun e w'=>e=.returned (.agg #[.int .i64 r1,.int .i64 r2,.int .i64 r3,.int .i64 r4,.string r5])∧IsS145 w0 w' g s0_0 r6∧Below w0.heap.size w0 w'∧KeepBut w w' g none:=by
 have hu42:=Tryd.underlying42
 have HR1:=a_ hr1
 have HC1:=a_ hc1
 clear hr1 hc1
 have HI0:=a_ hI
 have HK:=a_ (KeepBut.refl w g none)
 have HL:=a_ hB.size
 clear hI
 have HW0:=a_ hB.size
 have HB:=a_ hB
 clear hB
 unfold spec_l72Op.f at h
 have H:=h
 clear h
 replace H:=bs_ H
 obtain ⟨⟨t186,t187⟩,A50,H⟩:=H
 try dsimp only at H
 have A5:=a_ A50
 clear A50
 by_cases c6:0≤t186
 ·rw [if_pos c6] at H
  have c6b0:decide (0≤t186)=true:=dt_ c6
  clear c6
  by_cases c7:t186 < (l1.length:Int)
  ·rw [if_pos c7] at H
   have c7b0:decide (t186 < (l1.length:Int))=true:=dt_ c7
   clear c7
   replace H:=bs_ H
   obtain ⟨⟨t189,t190⟩,A80,H⟩:=H
   try dsimp only at H
   have A8:=a_ A80
   clear A80
   by_cases c9:0≤t189
   ·rw [if_pos c9] at H
    have c9b0:decide (0≤t189)=true:=dt_ c9
    clear c9
    by_cases c10:t189 < (l1.length:Int)
    ·rw [if_pos c10] at H
     have c10b0:decide (t189 < (l1.length:Int))=true:=dt_ c10
     clear c10
     replace H:=bs_ H
     obtain ⟨t192,A110,H⟩:=H
     try dsimp only at H
     have A11:=a_ A110
     clear A110
     have HC12:=a_ H
     clear H
     go_enter Tryd.func124,Tryd.ntmps124
     go_upto_region 5 with (first|((with_reducible refine gD_ (N:=8) rfl ?_);refine bx_ 8 (#[.int .i64 0,.int .i64 0,.int .i64 0,.int .i64 0,.string (⟨#[]⟩:ByteArray)]) 42 ?_;intro gb185 hg w13 hbox hb;have n0_:=a_ (IsS145.below (is_HI0) hb);have n1_:=a_ (KeepBut.trans (ke_) (KeepBut.of_below hb g none) (.inl rfl));have n2_:=a_ (bS_ (bel_) hb);have n3_:=a_ (hbox);have n4_:=a_ ((by rw [hg];exact (keep_size (w:=w) (g:=g) (row:=none) (ke_)):w.heap.size≤gb185));have n5_:=a_ ((Nat.le_trans HW0.out (by rw [hg];exact (keep_size (w:=w) (g:=g) (row:=none) (ke_)):w.heap.size≤gb185):w0.heap.size≤gb185));have n6_:=a_ ((by rw [hg];exact Nat.ne_of_lt (IsS145.lt (show IsS145 w0 _ g s0_0 s0_1 from is_HI0)):g≠gb185));have n7_:=a_ ((by rw [hg];exact Nat.ne_of_gt (IsS145.lt (show IsS145 w0 _ g s0_0 s0_1 from is_HI0)):gb185≠g));clear HI0;clear HK;clear HB;have HI0:=n0_;have HK:=n1_;have HB:=n2_;have BK185:=n3_;have GW185:=n4_;have GE185:=n5_;have NB0_185:=n6_;have NB185_0:=n7_;clear n0_ n1_ n2_ n3_ n4_ n5_ n6_ n7_;clear hb hbox hg)|((with_reducible refine gC_ (f:=74) rfl ?_);refine gl_ 18 Tryd.func74 #[.pointer (some ⟨g,0,none⟩),.int .i64 (l1.length:Int)] ?_;(with_reducible refine (spec_l6Rd_pick.calls k g s0_0 s0_1 (l1.length:Int) t186 t187 w0 _ ?side1 ?side2 A5.out).mono ?_);(case side1=>exact is_HI0);(case side2=>exact bel_);rintro e w14 ⟨rfl,hi,hb,hk⟩;refine ⟨_,rfl,?_⟩;replace BK185:=a_ (kb_ hk BK185.out NB185_0.out);replace HK:=a_ (KeepBut.trans (kf_ HK.out) hk (.inl rfl));replace HB:=a_ (hb);replace HI0:=a_ (hi);(try clear hb hk hi);have p188:0≤(t186:Int):=od_;have q188:t186 < (l1.length:Int):=od_;obtain ⟨ad188,e188,hx188_0,hx188_1,hx188_2⟩:=at_T69 (Kd.C_foot_now HR1.out HK.out) t186 p188 q188;cases e188;replace p188:=eq_true p188;replace q188:=eq_true q188)|((with_reducible refine gC_ (f:=74) rfl ?_);refine gl_ 26 Tryd.func74 #[.pointer (some ⟨g,0,none⟩),.int .i64 (l1.length:Int)] ?_;(with_reducible refine (spec_l6Rd_pick.calls k g s0_0 t187 (l1.length:Int) t189 t190 w0 _ ?side1 ?side2 A8.out).mono ?_);(case side1=>exact is_HI0);(case side2=>exact bel_);rintro e w15 ⟨rfl,hi,hb,hk⟩;refine ⟨_,rfl,?_⟩;replace BK185:=a_ (kb_ hk BK185.out NB185_0.out);replace HK:=a_ (KeepBut.trans (kf_ HK.out) hk (.inl rfl));replace HB:=a_ (hb);replace HI0:=a_ (hi);(try clear hb hk hi);have p191:0≤(t189:Int):=od_;have q191:t189 < (l1.length:Int):=od_;obtain ⟨ad191,e191,hx191_0,hx191_1,hx191_2⟩:=at_T69 (Kd.C_foot_now HR1.out HK.out) t189 p191 q191;obtain rfl:ad188=ad191:=(by injection e191);replace p191:=eq_true p191;replace q191:=eq_true q191)|((with_reducible refine gC_ (f:=144) rfl ?_);refine gl_ 32 Tryd.func144 #[.slice (some ad188) l1.length c1,.int .i64 ((rd_T69 l1 t189).f0)] ?_;(with_reducible refine (spec_l2Kids.calls k _ _ l1 ((rd_T69 l1 t189).f0) t192 _ ?side1 ?side2 A11.out).mono ?_);(case side1=>exact Kd.C_foot_now HR1.out (kf_ HK.out));(case side2=>exact HC1.out);rintro e w16 ⟨v193,rfl,ho0,hb⟩;refine ⟨_,rfl,?_⟩;have HO194:=a_ (Kd.R_lower ho0 (keep_size (w:=w) (g:=g) (row:=none) (kf_ HK.out)));replace HK:=a_ (KeepBut.trans (kf_ HK.out) (KeepBut.of_below hb g none) (.inl rfl));replace HB:=a_ (bS_ (bel_) hb);replace HI0:=a_ (IsS145.below (is_HI0) hb);replace BK185:=a_ (bb_ BK185.out hb);(try clear hb ho0)))
     (try simp only [Act.put,List.setIfInBounds_toArray,List.set_cons_zero,List.set_cons_succ])
     go_cut [40] (fun v40 wc=>∃ (kq:Nat) (x40_11:Bool) (x1001_11:Int),v40=.bool x40_11∧Aside0 (spec_l72Op.j0 kq a2 a3 ((rd_T69 l1 t186).f0) ((rd_T69 l1 t189).f0) t192 0 x40_11 s0_0 x1001_11=some (r1,r2,r3,r4,r5,r6))∧Aside0 (kq≤k)∧Aside0 (Kd.R (Kd.int .i64) 3 wc w.heap.size (fun _=>True) v193 t192)∧Aside0 (wc.heap[gb185]?=some (.cells #[.int .i64 0,.int .i64 0,.int .i64 0,.int .i64 0,.string (⟨#[]⟩:ByteArray)] 42 (0,0)))∧Aside0 (IsS145 w0 wc g s0_0 x1001_11)∧Aside0 (KeepBut w wc g none)∧Aside0 (Below w0.heap.size w0 wc))
     case first =>
      have H:=HC12.out
      clear HC12
      by_cases c17:(t192.length:Int) > 0
      ·rw [if_pos c17] at H
       have c17b0:decide (0 < (t192.length:Int))=true:=dt_ c17
       have c17b1:decide (0 < t192.length)=true:=dt_ (by omega)
       clear c17
       (first|rw [c17b0]|(simp only [i64_w,i32_w];rw [c17b0])|skip)
       replace H:=bs_ H
       obtain ⟨⟨t195,t196⟩,A180,H⟩:=H
       try dsimp only at H
       have A18:=a_ A180
       clear A180
       have H':=a_ H
       clear H
       obtain ⟨Ao19,co19,eo19⟩:=Kd.R_slice HO194.out
       subst eo19
       go_wp2_with (first|(go_at_call 74;(with_reducible refine (spec_l6Rd_pick.calls k g s0_0 t190 2 t195 t196 w0 _ ?side1 ?side2 A18.out).mono ?_);(case side1=>exact is_HI0);(case side2=>exact bel_);rintro e w20 ⟨rfl,hi,hb,hk⟩;replace BK185:=a_ (kb_ hk BK185.out NB185_0.out);replace HO194:=a_ (Kd.R_mono (Kd.R_keep (IsS145.apart (show IsS145 w0 _ g s0_0 t190 from is_HI0) (rp_ HO194.out) (by decide)) hk (fun _ h=>h.2)) (fun _ h=>h.1));replace HK:=a_ (KeepBut.trans (kf_ HK.out) hk (.inl rfl));replace HB:=a_ (hb);replace HI0:=a_ (hi);(try clear hb hk hi)))
       go_meet
       case rel=>exact ⟨_,((t195==0)),(t196),(si_),H',⟨by first|omega|exact Nat.le_refl _⟩,⟨by (with_reducible repeat (first|apply Kd.R_alloc|apply Kd.R_drewN|apply Kd.R_drew));exact HO194.out⟩,⟨bp_ BK185.out⟩,⟨is_HI0⟩,⟨kf_ HK.out⟩,⟨bel_⟩⟩
      ·rw [if_neg c17] at H
       have c17b0:decide (0 < (t192.length:Int))=false:=df_ c17
       have c17b1:decide (0 < t192.length)=false:=df_ (by omega)
       clear c17
       (first|rw [c17b0]|(simp only [i64_w,i32_w];rw [c17b0])|skip)
       have H':=a_ H
       clear H
       obtain ⟨Ao21,co21,eo21⟩:=Kd.R_slice HO194.out
       subst eo21
       go_wp2
       go_meet
       case rel=>exact ⟨_,(false),(t190),(si_),H',⟨by first|omega|exact Nat.le_refl _⟩,⟨by (with_reducible repeat (first|apply Kd.R_alloc|apply Kd.R_drewN|apply Kd.R_drew));exact HO194.out⟩,⟨bp_ BK185.out⟩,⟨is_HI0⟩,⟨kf_ HK.out⟩,⟨bel_⟩⟩
     case rest =>
      clear HC12
      try clear c1
      try clear p1
      try clear q1
      try clear hx1
      try clear p2
      try clear c6
      try clear c6b0
      try clear c7
      try clear c7b0
      try clear c9
      try clear c9b0
      try clear c10
      try clear c10b0
      try clear c12
      try clear c14
      try clear c17
      try clear c17b0
      try clear c17b1
      try clear p18
      try clear q18
      try clear hx18
      try clear p19
      try clear q19
      try clear hx19
      try clear hx188_0
      try clear hx188_1
      try clear hx188_2
      try clear hx191_0
      try clear hx191_1
      try clear hx191_2
      try clear p188
      try clear p191
      try clear q188
      try clear q191
      obtain ⟨kq,x40_11,x1001_11,rfl,HA,HJ11,HO_11,BK185,HI0,HK,HB⟩:=hcut
      cases kq with
      | zero=>exact absurd HA.out (by simp [spec_l72Op.j0])
      | succ kj11 =>
       have H:=HA.out
       clear HA
       simp only [spec_l72Op.j0] at H
       have HC22:=a_ H
       clear H
       go_upto_if 40 with (fail)
       go_cut [12] (fun v12 wc=>∃ (kq:Nat) (x12_21:Int) (x1001_21:Int),v12=.int .i64 x12_21∧Aside0 (spec_l72Op.j1 kq a2 a3 ((rd_T69 l1 t186).f0) ((rd_T69 l1 t189).f0) x12_21 s0_0 x1001_21=some (r1,r2,r3,r4,r5,r6))∧Aside0 (kq≤kj11)∧Aside0 (wc.heap[gb185]?=some (.cells #[.int .i64 0,.int .i64 0,.int .i64 0,.int .i64 0,.string (⟨#[]⟩:ByteArray)] 42 (0,0)))∧Aside0 (IsS145 w0 wc g s0_0 x1001_21)∧Aside0 (KeepBut w wc g none)∧Aside0 (Below w0.heap.size w0 wc))
       case first =>
        have H:=HC22.out
        clear HC22
        by_cases c23:x40_11=true
        ·subst c23
         have H1:((spec_l6Rd_pick.f kj11 s0_0 x1001_11 (t192.length:Int)).bind fun bt197=>(if 0≤bt197.1 then (if bt197.1 < (t192.length:Int) then (spec_l72Op.j1 kj11 a2 a3 ((rd_T69 l1 t186).f0) ((rd_T69 l1 t189).f0) (rd t192 bt197.1) s0_0 bt197.2) else (none)) else (none)))=some (r1,r2,r3,r4,r5,r6):=by rw [if_pos rfl] at H;exact H
         clear H
         have H:=H1
         clear H1
         replace H:=bs_ H
         obtain ⟨⟨t197,t198⟩,A240,H⟩:=H
         try dsimp only at H
         have A24:=a_ A240
         clear A240
         by_cases c25:0≤t197
         ·rw [if_pos c25] at H
          have c25b0:decide (0≤t197)=true:=dt_ c25
          clear c25
          (first|rw [c25b0]|(simp only [i64_w,i32_w];rw [c25b0])|skip)
          by_cases c26:t197 < (t192.length:Int)
          ·rw [if_pos c26] at H
           have c26b0:decide (t197 < (t192.length:Int))=true:=dt_ c26
           clear c26
           have H':=a_ H
           clear H
           obtain ⟨Ao27,co27,eo27⟩:=Kd.R_slice HO_11.out
           subst eo27
           go_wp2_with (first|((with_reducible refine gC_ (f:=74) rfl ?_);refine gl_ 45 Tryd.func74 #[.pointer (some ⟨g,0,none⟩),.int .i64 (t192.length:Int)] ?_;(with_reducible refine (spec_l6Rd_pick.calls kj11 g s0_0 x1001_11 (t192.length:Int) t197 t198 w0 _ ?side1 ?side2 A24.out).mono ?_);(case side1=>exact is_HI0);(case side2=>exact bel_);rintro e w28 ⟨rfl,hi,hb,hk⟩;refine ⟨_,rfl,?_⟩;replace HO_11:=a_ (Kd.R_mono (Kd.R_keep (IsS145.apart (show IsS145 w0 _ g s0_0 x1001_11 from is_HI0) (rp_ HO_11.out) (by decide)) hk (fun _ h=>h.2)) (fun _ h=>h.1));replace BK185:=a_ (kb_ hk BK185.out NB185_0.out);replace HK:=a_ (KeepBut.trans (kf_ HK.out) hk (.inl rfl));replace HB:=a_ (hb);replace HI0:=a_ (hi);(try clear hb hk hi);have p199:0≤(t197:Int):=od_;have q199:t197 < (t192.length:Int):=od_;obtain ⟨ad199,e199,hx199_0⟩:=Kd.at_int (Kd.R_reads' HO_11.out).2.2 t197 p199 q199;cases e199;replace p199:=eq_true p199;replace q199:=eq_true q199))
           go_meet
           case rel=>exact ⟨_,(rd t192 t197),(t198),(si_),H',⟨by have:=HJ11.out;first|omega|exact Nat.le_refl _⟩,⟨bp_ BK185.out⟩,⟨is_HI0⟩,⟨kf_ HK.out⟩,⟨bel_⟩⟩
          ·rw [if_neg c26] at H
           exact absurd H (by simp)
         ·rw [if_neg c25] at H
          exact absurd H (by simp)
        ·replace c23:=Bool.eq_false_iff.mpr c23
         subst c23
         have H1:(spec_l72Op.j1 kj11 a2 a3 ((rd_T69 l1 t186).f0) ((rd_T69 l1 t189).f0) 0 s0_0 x1001_11)=some (r1,r2,r3,r4,r5,r6):=by rw [if_neg (show ¬ (false=true) by decide)] at H;exact H
         clear H
         have H:=H1
         clear H1
         have H':=a_ H
         clear H
         go_wp2
         go_meet
         case rel=>exact ⟨_,(0),(x1001_11),(si_),H',⟨by have:=HJ11.out;first|omega|exact Nat.le_refl _⟩,⟨bp_ BK185.out⟩,⟨is_HI0⟩,⟨kf_ HK.out⟩,⟨bel_⟩⟩
       case rest =>
        clear HC22
        try clear c1
        try clear p1
        try clear q1
        try clear hx1
        try clear c2
        try clear p2
        try clear c6
        try clear c6b0
        try clear c7
        try clear c7b0
        try clear c9
        try clear c9b0
        try clear c10
        try clear c10b0
        try clear c12
        try clear c14
        try clear c17
        try clear c17b0
        try clear c17b1
        try clear p18
        try clear q18
        try clear hx18
        try clear p19
        try clear q19
        try clear hx19
        try clear c23
        try clear c25
        try clear c25b0
        try clear c26
        try clear c26b0
        try clear hx188_0
        try clear hx188_1
        try clear hx188_2
        try clear hx191_0
        try clear hx191_1
        try clear hx191_2
        try clear hx199_0
        try clear p1
        try clear p18
        try clear p188
        try clear p19
        try clear p191
        try clear p199
        try clear p2
        try clear q1
        try clear q18
        try clear q188
        try clear q19
        try clear q191
        try clear q199
        obtain ⟨kq,x12_21,x1001_21,rfl,HA,HJ21,BK185,HI0,HK,HB⟩:=hcut
        cases kq with
        | zero=>exact absurd HA.out (by simp [spec_l72Op.j1])
        | succ kj21 =>
         have H:=HA.out
         clear HA
         simp only [spec_l72Op.j1] at H
         replace H:=bs_ H
         obtain ⟨⟨t200,t201⟩,A290,H⟩:=H
         try dsimp only at H
         have A29:=a_ A290
         clear A290
         replace H:=bs_ H
         obtain ⟨t202,A300,H⟩:=H
         try dsimp only at H
         have A30:=a_ A300
         clear A300
         have HC31:=a_ H
         clear H
         go_upto_if 52 with (first|((with_reducible refine gC_ (f:=136) rfl ?_);refine gl_ 49 Tryd.func136 #[.pointer (some ⟨g,0,none⟩)] ?_;(with_reducible refine (spec_l71Text.calls kj21 g s0_0 x1001_21 t200 t201 w0 _ ?side1 ?side2 A29.out).mono ?_);(case side1=>exact is_HI0);(case side2=>exact bel_);rintro e w32 ⟨rfl,hi,hb,hk⟩;refine ⟨_,rfl,?_⟩;replace BK185:=a_ (kb_ hk BK185.out NB185_0.out);replace HK:=a_ (KeepBut.trans (kf_ HK.out) hk (.inl rfl));replace HB:=a_ (hb);replace HI0:=a_ (hi);(try clear hb hk hi))|((with_reducible refine gC_ (f:=121) rfl ?_);refine gl_ 51 Tryd.func121 #[.string t200] ?_;(with_reducible refine (spec_l1Text.calls kj21 t200 t202 _ A30.out).mono ?_);rintro e w' ⟨rfl,⟨nd,rfl⟩⟩;refine ⟨_,rfl,?_⟩))
         (try simp only [Act.put,List.setIfInBounds_toArray,List.set_cons_zero,List.set_cons_succ])
         go_cut [13] (fun v13 wc=>∃ (kq:Nat) (x13_30:ByteArray),v13=.string x13_30∧Aside0 (spec_l72Op.j2 kq a2 a3 ((rd_T69 l1 t186).f0) ((rd_T69 l1 t189).f0) x12_21 x13_30 s0_0 t201=some (r1,r2,r3,r4,r5,r6))∧Aside0 (kq≤kj21)∧Aside0 (wc.heap[gb185]?=some (.cells #[.int .i64 0,.int .i64 0,.int .i64 0,.int .i64 0,.string (⟨#[]⟩:ByteArray)] 42 (0,0)))∧Aside0 (IsS145 w0 wc g s0_0 t201)∧Aside0 (KeepBut w wc g none)∧Aside0 (Below w0.heap.size w0 wc))
         case first =>
          have H:=HC31.out
          clear HC31
          by_cases c33:t202=true
          ·subst c33
           have H1:(spec_l72Op.j2 kj21 a2 a3 ((rd_T69 l1 t186).f0) ((rd_T69 l1 t189).f0) x12_21 t200 s0_0 t201)=some (r1,r2,r3,r4,r5,r6):=by rw [if_pos rfl] at H;exact H
           clear H
           have H:=H1
           clear H1
           have H':=a_ H
           clear H
           go_wp2
           go_meet
           case rel=>exact ⟨_,(t200),(si_),H',⟨by have:=HJ11.out;have:=HJ21.out;first|omega|exact Nat.le_refl _⟩,⟨bp_ BK185.out⟩,⟨is_HI0⟩,⟨kf_ HK.out⟩,⟨bel_⟩⟩
          ·replace c33:=Bool.eq_false_iff.mpr c33
           subst c33
           have H1:(spec_l72Op.j2 kj21 a2 a3 ((rd_T69 l1 t186).f0) ((rd_T69 l1 t189).f0) x12_21 (⟨#[97]⟩:ByteArray) s0_0 t201)=some (r1,r2,r3,r4,r5,r6):=by rw [if_neg (show ¬ (false=true) by decide)] at H;exact H
           clear H
           have H:=H1
           clear H1
           have H':=a_ H
           clear H
           go_wp2
           go_meet
           case rel=>exact ⟨_,((⟨#[97]⟩:ByteArray)),(si_),H',⟨by have:=HJ11.out;have:=HJ21.out;first|omega|exact Nat.le_refl _⟩,⟨bp_ BK185.out⟩,⟨is_HI0⟩,⟨kf_ HK.out⟩,⟨bel_⟩⟩
         case rest =>
          clear HC31
          try clear c1
          try clear p1
          try clear q1
          try clear hx1
          try clear c2
          try clear p2
          try clear c3
          try clear c6
          try clear c6b0
          try clear c7
          try clear c7b0
          try clear c9
          try clear c9b0
          try clear c10
          try clear c10b0
          try clear c12
          try clear c13
          try clear c14
          try clear c17
          try clear c17b0
          try clear c17b1
          try clear p18
          try clear q18
          try clear hx18
          try clear p19
          try clear q19
          try clear hx19
          try clear c23
          try clear c25
          try clear c25b0
          try clear c26
          try clear c26b0
          try clear c33
          try clear hx188_0
          try clear hx188_1
          try clear hx188_2
          try clear hx191_0
          try clear hx191_1
          try clear hx191_2
          try clear hx199_0
          try clear p1
          try clear p18
          try clear p188
          try clear p19
          try clear p191
          try clear p199
          try clear p2
          try clear q1
          try clear q18
          try clear q188
          try clear q19
          try clear q191
          try clear q199
          obtain ⟨kq,x13_30,rfl,HA,HJ30,BK185,HI0,HK,HB⟩:=hcut
          cases kq with
          | zero=>exact absurd HA.out (by simp [spec_l72Op.j2])
          | succ kj30 =>
           have H:=HA.out
           clear HA
           simp only [spec_l72Op.j2] at H
           replace H:=bs_ H
           obtain ⟨⟨t203,t204⟩,A340,H⟩:=H
           try dsimp only at H
           have A34:=a_ A340
           clear A340
           have HC35:=a_ H
           clear H
           go_upto_if 55 with (first|((with_reducible refine gC_ (f:=74) rfl ?_);refine gl_ 54 Tryd.func74 #[.pointer (some ⟨g,0,none⟩),.int .i64 6] ?_;(with_reducible refine (spec_l6Rd_pick.calls kj30 g s0_0 t201 6 t203 t204 w0 _ ?side1 ?side2 A34.out).mono ?_);(case side1=>exact is_HI0);(case side2=>exact bel_);rintro e w36 ⟨rfl,hi,hb,hk⟩;refine ⟨_,rfl,?_⟩;replace BK185:=a_ (kb_ hk BK185.out NB185_0.out);replace HK:=a_ (KeepBut.trans (kf_ HK.out) hk (.inl rfl));replace HB:=a_ (hb);replace HI0:=a_ (hi);(try clear hb hk hi)))
           (try simp only [Act.put,List.setIfInBounds_toArray,List.set_cons_zero,List.set_cons_succ])
           go_cut [10] (fun v10 wc=>∃ (kq:Nat) (x10_34:Int) (x1001_34:Int),v10=.int .i64 x10_34∧Aside0 (spec_l72Op.j3 kq a2 a3 ((rd_T69 l1 t186).f0) x10_34 x12_21 x13_30 s0_0 x1001_34=some (r1,r2,r3,r4,r5,r6))∧Aside0 (kq≤kj30)∧Aside0 (wc.heap[gb185]?=some (.cells #[.int .i64 0,.int .i64 0,.int .i64 0,.int .i64 0,.string (⟨#[]⟩:ByteArray)] 42 (0,0)))∧Aside0 (IsS145 w0 wc g s0_0 x1001_34)∧Aside0 (KeepBut w wc g none)∧Aside0 (Below w0.heap.size w0 wc))
           case first =>
            have H:=HC35.out
            clear HC35
            by_cases c37:t203=0
            ·rw [if_pos c37] at H
             have c37b0:(t203==0)=true:=beq_iff_eq.mpr c37
             have c37b1:(t203 != 0)=false:=be_ c37
             clear c37
             (first|rw [c37b0]|(simp only [i64_w,i32_w];rw [c37b0])|skip)
             replace H:=bs_ H
             obtain ⟨⟨t205,t206⟩,A380,H⟩:=H
             try dsimp only at H
             have A38:=a_ A380
             clear A380
             have H':=a_ H
             clear H
             go_wp2_with (first|((with_reducible refine gC_ (f:=135) rfl ?_);refine gl_ 57 Tryd.func135 #[.pointer (some ⟨g,0,none⟩)] ?_;(with_reducible refine (spec_l71Id.calls kj30 g s0_0 t204 t205 t206 w0 _ ?side1 ?side2 A38.out).mono ?_);(case side1=>exact is_HI0);(case side2=>exact bel_);rintro e w39 ⟨rfl,hi,hb,hk⟩;refine ⟨_,rfl,?_⟩;replace BK185:=a_ (kb_ hk BK185.out NB185_0.out);replace HK:=a_ (KeepBut.trans (kf_ HK.out) hk (.inl rfl));replace HB:=a_ (hb);replace HI0:=a_ (hi);(try clear hb hk hi)))
             go_meet
             case rel=>exact ⟨_,(t205),(t206),(si_),H',⟨by have:=HJ11.out;have:=HJ21.out;have:=HJ30.out;first|omega|exact Nat.le_refl _⟩,⟨bp_ BK185.out⟩,⟨is_HI0⟩,⟨kf_ HK.out⟩,⟨bel_⟩⟩
            ·rw [if_neg c37] at H
             have c37b0:(t203==0)=false:=bn_ c37
             have c37b1:(t203 != 0)=true:=bne_iff_ne.mpr c37
             (first|rw [c37b0]|(simp only [i64_w,i32_w];rw [c37b0])|skip)
             have H':=a_ H
             clear H
             go_wp2
             go_meet
             case rel=>exact ⟨_,(((rd_T69 l1 t189).f0)),(t204),(si_),H',⟨by have:=HJ11.out;have:=HJ21.out;have:=HJ30.out;first|omega|exact Nat.le_refl _⟩,⟨bp_ BK185.out⟩,⟨is_HI0⟩,⟨kf_ HK.out⟩,⟨bel_⟩⟩
           case rest =>
            clear HC35
            try clear c1
            try clear p1
            try clear q1
            try clear hx1
            try clear c2
            try clear p2
            try clear c3
            try clear c6
            try clear c6b0
            try clear c7
            try clear c7b0
            try clear c9
            try clear c9b0
            try clear c10
            try clear c10b0
            try clear c12
            try clear c13
            try clear c14
            try clear c17
            try clear c17b0
            try clear c17b1
            try clear p18
            try clear q18
            try clear hx18
            try clear p19
            try clear q19
            try clear hx19
            try clear c23
            try clear c25
            try clear c25b0
            try clear c26
            try clear c26b0
            try clear c33
            try clear c37
            try clear c37b0
            try clear c37b1
            try clear hx188_0
            try clear hx188_1
            try clear hx188_2
            try clear hx191_0
            try clear hx191_1
            try clear hx191_2
            try clear hx199_0
            try clear p1
            try clear p18
            try clear p188
            try clear p19
            try clear p191
            try clear p199
            try clear p2
            try clear q1
            try clear q18
            try clear q188
            try clear q19
            try clear q191
            try clear q199
            obtain ⟨kq,x10_34,x1001_34,rfl,HA,HJ34,BK185,HI0,HK,HB⟩:=hcut
            cases kq with
            | zero=>exact absurd HA.out (by simp [spec_l72Op.j3])
            | succ kj34 =>
             have H:=HA.out
             clear HA
             simp only [spec_l72Op.j3] at H
             have HC40:=a_ H
             clear H
             go_upto_region 12 with (fail)
             go_cut [69] (fun v69 wc=>∃ (kq:Nat) (x69_39:Bool) (x1001_39:Int),v69=.bool x69_39∧Aside0 (spec_l72Op.j4 kq a2 a3 ((rd_T69 l1 t186).f0) x10_34 x12_21 x13_30 x69_39 s0_0 x1001_39=some (r1,r2,r3,r4,r5,r6))∧Aside0 (kq≤kj34)∧Aside0 (wc.heap[gb185]?=some (.cells #[.int .i64 0,.int .i64 0,.int .i64 0,.int .i64 0,.string (⟨#[]⟩:ByteArray)] 42 (0,0)))∧Aside0 (IsS145 w0 wc g s0_0 x1001_39)∧Aside0 (KeepBut w wc g none)∧Aside0 (Below w0.heap.size w0 wc))
             case first =>
              have H:=HC40.out
              clear HC40
              by_cases c41:a3 < 6
              ·rw [if_pos c41] at H
               have c41b0:decide (a3 < 6)=true:=dt_ c41
               clear c41
               (first|rw [c41b0]|(simp only [i64_w,i32_w];rw [c41b0])|skip)
               replace H:=bs_ H
               obtain ⟨⟨t207,t208⟩,A420,H⟩:=H
               try dsimp only at H
               have A42:=a_ A420
               clear A420
               by_cases c43:t207=0
               ·rw [if_pos c43] at H
                have c43b0:(t207==0)=true:=beq_iff_eq.mpr c43
                have c43b1:(t207 != 0)=false:=be_ c43
                clear c43
                have H':=a_ H
                clear H
                go_wp2_with (first|(go_at_call 74;(with_reducible refine (spec_l6Rd_pick.calls kj34 g s0_0 x1001_34 3 t207 t208 w0 _ ?side1 ?side2 A42.out).mono ?_);(case side1=>exact is_HI0);(case side2=>exact bel_);rintro e w44 ⟨rfl,hi,hb,hk⟩;replace BK185:=a_ (kb_ hk BK185.out NB185_0.out);replace HK:=a_ (KeepBut.trans (kf_ HK.out) hk (.inl rfl));replace HB:=a_ (hb);replace HI0:=a_ (hi);(try clear hb hk hi)))
                go_meet
                case rel=>exact ⟨_,(true),(t208),(si_),H',⟨by have:=HJ11.out;have:=HJ21.out;have:=HJ30.out;have:=HJ34.out;first|omega|exact Nat.le_refl _⟩,⟨bp_ BK185.out⟩,⟨is_HI0⟩,⟨kf_ HK.out⟩,⟨bel_⟩⟩
               ·rw [if_neg c43] at H
                have c43b0:(t207==0)=false:=bn_ c43
                have c43b1:(t207 != 0)=true:=bne_iff_ne.mpr c43
                replace H:=bs_ H
                obtain ⟨t209,A450,H⟩:=H
                try dsimp only at H
                have A45:=a_ A450
                clear A450
                have H':=a_ H
                clear H
                go_wp2_with (first|(go_at_call 74;(with_reducible refine (spec_l6Rd_pick.calls kj34 g s0_0 x1001_34 3 t207 t208 w0 _ ?side1 ?side2 A42.out).mono ?_);(case side1=>exact is_HI0);(case side2=>exact bel_);rintro e w46 ⟨rfl,hi,hb,hk⟩;replace BK185:=a_ (kb_ hk BK185.out NB185_0.out);replace HK:=a_ (KeepBut.trans (kf_ HK.out) hk (.inl rfl));replace HB:=a_ (hb);replace HI0:=a_ (hi);(try clear hb hk hi))|(go_at_call 120;(with_reducible refine (spec_l1Made.calls ((rd_T69 l1 t186).f0) t209 _ A45.out).mono ?_);rintro e w' ⟨rfl,⟨nd,rfl⟩⟩))
                go_meet
                case rel=>exact ⟨_,(!t209),(t208),(si_),H',⟨by have:=HJ11.out;have:=HJ21.out;have:=HJ30.out;have:=HJ34.out;first|omega|exact Nat.le_refl _⟩,⟨bp_ BK185.out⟩,⟨is_HI0⟩,⟨kf_ HK.out⟩,⟨bel_⟩⟩
              ·rw [if_neg c41] at H
               have c41b0:decide (a3 < 6)=false:=df_ c41
               clear c41
               (first|rw [c41b0]|(simp only [i64_w,i32_w];rw [c41b0])|skip)
               have H':=a_ H
               clear H
               go_wp2
               go_meet
               case rel=>exact ⟨_,(false),(x1001_34),(si_),H',⟨by have:=HJ11.out;have:=HJ21.out;have:=HJ30.out;have:=HJ34.out;first|omega|exact Nat.le_refl _⟩,⟨bp_ BK185.out⟩,⟨is_HI0⟩,⟨kf_ HK.out⟩,⟨bel_⟩⟩
             case rest =>
              clear HC40
              try clear c1
              try clear p1
              try clear q1
              try clear hx1
              try clear c2
              try clear p2
              try clear c3
              try clear c4
              try clear c6
              try clear c6b0
              try clear c7
              try clear c7b0
              try clear c9
              try clear c9b0
              try clear c10
              try clear c10b0
              try clear c12
              try clear c13
              try clear c14
              try clear c17
              try clear c17b0
              try clear c17b1
              try clear p18
              try clear q18
              try clear hx18
              try clear p19
              try clear q19
              try clear hx19
              try clear c23
              try clear c25
              try clear c25b0
              try clear c26
              try clear c26b0
              try clear c33
              try clear c37
              try clear c37b0
              try clear c37b1
              try clear c41
              try clear c41b0
              try clear c43
              try clear c43b0
              try clear c43b1
              try clear hx188_0
              try clear hx188_1
              try clear hx188_2
              try clear hx191_0
              try clear hx191_1
              try clear hx191_2
              try clear hx199_0
              try clear p1
              try clear p18
              try clear p188
              try clear p19
              try clear p191
              try clear p199
              try clear p2
              try clear q1
              try clear q18
              try clear q188
              try clear q19
              try clear q191
              try clear q199
              obtain ⟨kq,x69_39,x1001_39,rfl,HA,HJ39,BK185,HI0,HK,HB⟩:=hcut
              cases kq with
              | zero=>exact absurd HA.out (by simp [spec_l72Op.j4])
              | succ kj39 =>
               have H:=HA.out
               clear HA
               simp only [spec_l72Op.j4] at H
               by_cases c47:x69_39=true
               ·subst c47
                have H1:((spec_RowMade.f a2 (wrap64 (a3+1))).bind fun t210=>(some (1,t210,x10_34,x12_21,x13_30,x1001_39)))=some (r1,r2,r3,r4,r5,r6):=by rw [if_pos rfl] at H;exact H
                clear H
                have H:=H1
                clear H1
                replace H:=bs_ H
                obtain ⟨t210,A480,H⟩:=H
                try dsimp only at H
                have A48:=a_ A480
                clear A480
                simp only [Option.some.injEq,Prod.mk.injEq] at H
                obtain ⟨rfl,rfl,rfl,rfl,rfl,rfl⟩:=H
                go_wp2_with (first|((with_reducible refine gC_ (f:=143) rfl ?_);refine gl_ 73 Tryd.func143 #[.int .i64 a2,.int .i64 (wrap64 (a3+1))] ?_;(with_reducible refine (spec_RowMade.calls a2 (wrap64 (a3+1)) t210 _ A48.out).mono ?_);rintro e w' ⟨rfl,⟨nd,rfl⟩⟩;refine ⟨_,rfl,?_⟩;(try (rw [drewN_self wc];generalize hq_:World.drewN wc _=wc;have n0_:Aside0 (wc.heap[gb185]?=some (.cells #[.int .i64 0,.int .i64 0,.int .i64 0,.int .i64 0,.string (⟨#[]⟩:ByteArray)] 42 (0,0))):=⟨by rw [←hq_];exact (bp_ BK185.out)⟩;have n1_:Aside0 (IsS145 w0 wc g s0_0 x1001_39):=⟨by rw [←hq_];exact (is_HI0)⟩;have n2_:Aside0 (KeepBut w wc g none):=⟨by rw [←hq_];exact (kf_ HK.out)⟩;have n3_:Aside0 (Below w0.heap.size w0 wc):=⟨by rw [←hq_];exact (bel_)⟩;clear BK185 HI0 HK HB hq_;have BK185:=n0_;have HI0:=n1_;have HK:=n2_;have HB:=n3_;clear n0_ n1_ n2_ n3_));have hnb49:=NB185_0.out;have hnc49:=NB0_185.out;obtain ⟨Z50_0,Z50_1,Z50_2,Z50_3,Z50_4,Y50_0,Y50_1,Y50_2,Y50_3,Y50_4⟩:=op5_ (W:=wc) BK185.out))
                refine bodyPost_ret (results_cell_row rfl _ _ gb185 42 #[.int .i64 1,.int .i64 t210,.int .i64 x10_34,.int .i64 x12_21,.string x13_30] (0,0) _ rfl (k5p_ BK185.out) Tryd.underlying42 rfl (by kernel_rfl)) rfl ?_
                exact ⟨fi_,is_HI0,bel_,kf_ HK.out⟩
               ·replace c47:=Bool.eq_false_iff.mpr c47
                subst c47
                have H1:((spec_l1Made.f ((rd_T69 l1 t186).f0)).bind fun t211=>(if t211=true then ((spec_l6Rd_pick.f kj39 s0_0 x1001_39 3).bind fun bt212=>(if bt212.1=0 then (some (2,((rd_T69 l1 t186).f0),0,0,x13_30,bt212.2)) else (some (3,((rd_T69 l1 t186).f0),x10_34,x12_21,(⟨#[]⟩:ByteArray),bt212.2)))) else ((spec_l71Id.f kj39 s0_0 x1001_39).bind fun bt214=>((spec_l6Rd_pick.f kj39 s0_0 bt214.2 3).bind fun bt216=>(if bt216.1=0 then (some (2,bt214.1,0,0,x13_30,bt216.2)) else (some (3,bt214.1,x10_34,x12_21,(⟨#[]⟩:ByteArray),bt216.2)))))))=some (r1,r2,r3,r4,r5,r6):=by rw [if_neg (show ¬ (false=true) by decide)] at H;exact H
                clear H
                have H:=H1
                clear H1
                replace H:=bs_ H
                obtain ⟨t211,A510,H⟩:=H
                try dsimp only at H
                have A51:=a_ A510
                clear A510
                by_cases c52:t211=true
                ·subst c52
                 have H1:((spec_l6Rd_pick.f kj39 s0_0 x1001_39 3).bind fun bt212=>(if bt212.1=0 then (some (2,((rd_T69 l1 t186).f0),0,0,x13_30,bt212.2)) else (some (3,((rd_T69 l1 t186).f0),x10_34,x12_21,(⟨#[]⟩:ByteArray),bt212.2))))=some (r1,r2,r3,r4,r5,r6):=by rw [if_pos rfl] at H;exact H
                 clear H
                 have H:=H1
                 clear H1
                 replace H:=bs_ H
                 obtain ⟨⟨t212,t213⟩,A530,H⟩:=H
                 try dsimp only at H
                 have A53:=a_ A530
                 clear A530
                 by_cases c54:t212=0
                 ·rw [if_pos c54] at H
                  have c54b0:(t212==0)=true:=beq_iff_eq.mpr c54
                  have c54b1:(t212 != 0)=false:=be_ c54
                  clear c54
                  simp only [Option.some.injEq,Prod.mk.injEq] at H
                  obtain ⟨rfl,rfl,rfl,rfl,rfl,rfl⟩:=H
                  go_wp2_with (first|((with_reducible refine gC_ (f:=120) rfl ?_);refine gl_ 79 Tryd.func120 #[.int .i64 ((rd_T69 l1 t186).f0)] ?_;(with_reducible refine (spec_l1Made.calls ((rd_T69 l1 t186).f0) true _ A51.out).mono ?_);rintro e w' ⟨rfl,⟨nd,rfl⟩⟩;refine ⟨_,rfl,?_⟩;(try (rw [drewN_self wc];generalize hq_:World.drewN wc _=wc;have n0_:Aside0 (wc.heap[gb185]?=some (.cells #[.int .i64 0,.int .i64 0,.int .i64 0,.int .i64 0,.string (⟨#[]⟩:ByteArray)] 42 (0,0))):=⟨by rw [←hq_];exact (bp_ BK185.out)⟩;have n1_:Aside0 (IsS145 w0 wc g s0_0 x1001_39):=⟨by rw [←hq_];exact (is_HI0)⟩;have n2_:Aside0 (KeepBut w wc g none):=⟨by rw [←hq_];exact (kf_ HK.out)⟩;have n3_:Aside0 (Below w0.heap.size w0 wc):=⟨by rw [←hq_];exact (bel_)⟩;clear BK185 HI0 HK HB hq_;have BK185:=n0_;have HI0:=n1_;have HK:=n2_;have HB:=n3_;clear n0_ n1_ n2_ n3_)))|((with_reducible refine gC_ (f:=74) rfl ?_);refine gl_ 84 Tryd.func74 #[.pointer (some ⟨g,0,none⟩),.int .i64 3] ?_;(with_reducible refine (spec_l6Rd_pick.calls kj39 g s0_0 x1001_39 3 t212 t213 w0 _ ?side1 ?side2 A53.out).mono ?_);(case side1=>exact is_HI0);(case side2=>exact bel_);rintro e w55 ⟨rfl,hi,hb,hk⟩;refine ⟨_,rfl,?_⟩;replace BK185:=a_ (kb_ hk BK185.out NB185_0.out);replace HK:=a_ (KeepBut.trans (kf_ HK.out) hk (.inl rfl));replace HB:=a_ (hb);replace HI0:=a_ (hi);(try clear hb hk hi);have hnb56:=NB185_0.out;have hnc56:=NB0_185.out;obtain ⟨Z57_0,Z57_1,Z57_2,Z57_3,Z57_4,Y57_0,Y57_1,Y57_2,Y57_3,Y57_4⟩:=op5_ BK185.out))
                  refine bodyPost_ret (results_cell_row rfl _ _ gb185 42 #[.int .i64 2,.int .i64 ((rd_T69 l1 t186).f0),.int .i64 0,.int .i64 0,.string x13_30] (0,0) _ rfl (k5p_ BK185.out) Tryd.underlying42 rfl (by kernel_rfl)) rfl ?_
                  exact ⟨fi_,is_HI0,bel_,kf_ HK.out⟩
                 ·rw [if_neg c54] at H
                  have c54b0:(t212==0)=false:=bn_ c54
                  have c54b1:(t212 != 0)=true:=bne_iff_ne.mpr c54
                  simp only [Option.some.injEq,Prod.mk.injEq] at H
                  obtain ⟨rfl,rfl,rfl,rfl,rfl,rfl⟩:=H
                  go_wp2_with (first|((with_reducible refine gC_ (f:=120) rfl ?_);refine gl_ 79 Tryd.func120 #[.int .i64 ((rd_T69 l1 t186).f0)] ?_;(with_reducible refine (spec_l1Made.calls ((rd_T69 l1 t186).f0) true _ A51.out).mono ?_);rintro e w' ⟨rfl,⟨nd,rfl⟩⟩;refine ⟨_,rfl,?_⟩;(try (rw [drewN_self wc];generalize hq_:World.drewN wc _=wc;have n0_:Aside0 (wc.heap[gb185]?=some (.cells #[.int .i64 0,.int .i64 0,.int .i64 0,.int .i64 0,.string (⟨#[]⟩:ByteArray)] 42 (0,0))):=⟨by rw [←hq_];exact (bp_ BK185.out)⟩;have n1_:Aside0 (IsS145 w0 wc g s0_0 x1001_39):=⟨by rw [←hq_];exact (is_HI0)⟩;have n2_:Aside0 (KeepBut w wc g none):=⟨by rw [←hq_];exact (kf_ HK.out)⟩;have n3_:Aside0 (Below w0.heap.size w0 wc):=⟨by rw [←hq_];exact (bel_)⟩;clear BK185 HI0 HK HB hq_;have BK185:=n0_;have HI0:=n1_;have HK:=n2_;have HB:=n3_;clear n0_ n1_ n2_ n3_)))|((with_reducible refine gC_ (f:=74) rfl ?_);refine gl_ 84 Tryd.func74 #[.pointer (some ⟨g,0,none⟩),.int .i64 3] ?_;(with_reducible refine (spec_l6Rd_pick.calls kj39 g s0_0 x1001_39 3 t212 t213 w0 _ ?side1 ?side2 A53.out).mono ?_);(case side1=>exact is_HI0);(case side2=>exact bel_);rintro e w58 ⟨rfl,hi,hb,hk⟩;refine ⟨_,rfl,?_⟩;replace BK185:=a_ (kb_ hk BK185.out NB185_0.out);replace HK:=a_ (KeepBut.trans (kf_ HK.out) hk (.inl rfl));replace HB:=a_ (hb);replace HI0:=a_ (hi);(try clear hb hk hi);have hnb59:=NB185_0.out;have hnc59:=NB0_185.out;obtain ⟨Z60_0,Z60_1,Z60_2,Z60_3,Z60_4,Y60_0,Y60_1,Y60_2,Y60_3,Y60_4⟩:=op5_ BK185.out))
                  refine bodyPost_ret (results_cell_row rfl _ _ gb185 42 #[.int .i64 3,.int .i64 ((rd_T69 l1 t186).f0),.int .i64 x10_34,.int .i64 x12_21,.string (⟨#[]⟩:ByteArray)] (0,0) _ rfl (k5p_ BK185.out) Tryd.underlying42 rfl (by kernel_rfl)) rfl ?_
                  exact ⟨fi_,is_HI0,bel_,kf_ HK.out⟩
                ·replace c52:=Bool.eq_false_iff.mpr c52
                 subst c52
                 have H1:((spec_l71Id.f kj39 s0_0 x1001_39).bind fun bt214=>((spec_l6Rd_pick.f kj39 s0_0 bt214.2 3).bind fun bt216=>(if bt216.1=0 then (some (2,bt214.1,0,0,x13_30,bt216.2)) else (some (3,bt214.1,x10_34,x12_21,(⟨#[]⟩:ByteArray),bt216.2)))))=some (r1,r2,r3,r4,r5,r6):=by rw [if_neg (show ¬ (false=true) by decide)] at H;exact H
                 clear H
                 have H:=H1
                 clear H1
                 replace H:=bs_ H
                 obtain ⟨⟨t214,t215⟩,A610,H⟩:=H
                 try dsimp only at H
                 have A61:=a_ A610
                 clear A610
                 replace H:=bs_ H
                 obtain ⟨⟨t216,t217⟩,A620,H⟩:=H
                 try dsimp only at H
                 have A62:=a_ A620
                 clear A620
                 by_cases c63:t216=0
                 ·rw [if_pos c63] at H
                  have c63b0:(t216==0)=true:=beq_iff_eq.mpr c63
                  have c63b1:(t216 != 0)=false:=be_ c63
                  clear c63
                  simp only [Option.some.injEq,Prod.mk.injEq] at H
                  obtain ⟨rfl,rfl,rfl,rfl,rfl,rfl⟩:=H
                  go_wp2_with (first|((with_reducible refine gC_ (f:=120) rfl ?_);refine gl_ 79 Tryd.func120 #[.int .i64 ((rd_T69 l1 t186).f0)] ?_;(with_reducible refine (spec_l1Made.calls ((rd_T69 l1 t186).f0) false _ A51.out).mono ?_);rintro e w' ⟨rfl,⟨nd,rfl⟩⟩;refine ⟨_,rfl,?_⟩;(try (rw [drewN_self wc];generalize hq_:World.drewN wc _=wc;have n0_:Aside0 (wc.heap[gb185]?=some (.cells #[.int .i64 0,.int .i64 0,.int .i64 0,.int .i64 0,.string (⟨#[]⟩:ByteArray)] 42 (0,0))):=⟨by rw [←hq_];exact (bp_ BK185.out)⟩;have n1_:Aside0 (IsS145 w0 wc g s0_0 x1001_39):=⟨by rw [←hq_];exact (is_HI0)⟩;have n2_:Aside0 (KeepBut w wc g none):=⟨by rw [←hq_];exact (kf_ HK.out)⟩;have n3_:Aside0 (Below w0.heap.size w0 wc):=⟨by rw [←hq_];exact (bel_)⟩;clear BK185 HI0 HK HB hq_;have BK185:=n0_;have HI0:=n1_;have HK:=n2_;have HB:=n3_;clear n0_ n1_ n2_ n3_)))|((with_reducible refine gC_ (f:=135) rfl ?_);refine gl_ 82 Tryd.func135 #[.pointer (some ⟨g,0,none⟩)] ?_;(with_reducible refine (spec_l71Id.calls kj39 g s0_0 x1001_39 t214 t215 w0 _ ?side1 ?side2 A61.out).mono ?_);(case side1=>exact is_HI0);(case side2=>exact bel_);rintro e w64 ⟨rfl,hi,hb,hk⟩;refine ⟨_,rfl,?_⟩;replace BK185:=a_ (kb_ hk BK185.out NB185_0.out);replace HK:=a_ (KeepBut.trans (kf_ HK.out) hk (.inl rfl));replace HB:=a_ (hb);replace HI0:=a_ (hi);(try clear hb hk hi))|((with_reducible refine gC_ (f:=74) rfl ?_);refine gl_ 84 Tryd.func74 #[.pointer (some ⟨g,0,none⟩),.int .i64 3] ?_;(with_reducible refine (spec_l6Rd_pick.calls kj39 g s0_0 t215 3 t216 t217 w0 _ ?side1 ?side2 A62.out).mono ?_);(case side1=>exact is_HI0);(case side2=>exact bel_);rintro e w65 ⟨rfl,hi,hb,hk⟩;refine ⟨_,rfl,?_⟩;replace BK185:=a_ (kb_ hk BK185.out NB185_0.out);replace HK:=a_ (KeepBut.trans (kf_ HK.out) hk (.inl rfl));replace HB:=a_ (hb);replace HI0:=a_ (hi);(try clear hb hk hi);have hnb66:=NB185_0.out;have hnc66:=NB0_185.out;obtain ⟨Z67_0,Z67_1,Z67_2,Z67_3,Z67_4,Y67_0,Y67_1,Y67_2,Y67_3,Y67_4⟩:=op5_ BK185.out))
                  refine bodyPost_ret (results_cell_row rfl _ _ gb185 42 #[.int .i64 2,.int .i64 t214,.int .i64 0,.int .i64 0,.string x13_30] (0,0) _ rfl (k5p_ BK185.out) Tryd.underlying42 rfl (by kernel_rfl)) rfl ?_
                  exact ⟨fi_,is_HI0,bel_,kf_ HK.out⟩
                 ·rw [if_neg c63] at H
                  have c63b0:(t216==0)=false:=bn_ c63
                  have c63b1:(t216 != 0)=true:=bne_iff_ne.mpr c63
                  simp only [Option.some.injEq,Prod.mk.injEq] at H
                  obtain ⟨rfl,rfl,rfl,rfl,rfl,rfl⟩:=H
                  go_wp2_with (first|((with_reducible refine gC_ (f:=120) rfl ?_);refine gl_ 79 Tryd.func120 #[.int .i64 ((rd_T69 l1 t186).f0)] ?_;(with_reducible refine (spec_l1Made.calls ((rd_T69 l1 t186).f0) false _ A51.out).mono ?_);rintro e w' ⟨rfl,⟨nd,rfl⟩⟩;refine ⟨_,rfl,?_⟩;(try (rw [drewN_self wc];generalize hq_:World.drewN wc _=wc;have n0_:Aside0 (wc.heap[gb185]?=some (.cells #[.int .i64 0,.int .i64 0,.int .i64 0,.int .i64 0,.string (⟨#[]⟩:ByteArray)] 42 (0,0))):=⟨by rw [←hq_];exact (bp_ BK185.out)⟩;have n1_:Aside0 (IsS145 w0 wc g s0_0 x1001_39):=⟨by rw [←hq_];exact (is_HI0)⟩;have n2_:Aside0 (KeepBut w wc g none):=⟨by rw [←hq_];exact (kf_ HK.out)⟩;have n3_:Aside0 (Below w0.heap.size w0 wc):=⟨by rw [←hq_];exact (bel_)⟩;clear BK185 HI0 HK HB hq_;have BK185:=n0_;have HI0:=n1_;have HK:=n2_;have HB:=n3_;clear n0_ n1_ n2_ n3_)))|((with_reducible refine gC_ (f:=135) rfl ?_);refine gl_ 82 Tryd.func135 #[.pointer (some ⟨g,0,none⟩)] ?_;(with_reducible refine (spec_l71Id.calls kj39 g s0_0 x1001_39 t214 t215 w0 _ ?side1 ?side2 A61.out).mono ?_);(case side1=>exact is_HI0);(case side2=>exact bel_);rintro e w68 ⟨rfl,hi,hb,hk⟩;refine ⟨_,rfl,?_⟩;replace BK185:=a_ (kb_ hk BK185.out NB185_0.out);replace HK:=a_ (KeepBut.trans (kf_ HK.out) hk (.inl rfl));replace HB:=a_ (hb);replace HI0:=a_ (hi);(try clear hb hk hi))|((with_reducible refine gC_ (f:=74) rfl ?_);refine gl_ 84 Tryd.func74 #[.pointer (some ⟨g,0,none⟩),.int .i64 3] ?_;(with_reducible refine (spec_l6Rd_pick.calls kj39 g s0_0 t215 3 t216 t217 w0 _ ?side1 ?side2 A62.out).mono ?_);(case side1=>exact is_HI0);(case side2=>exact bel_);rintro e w69 ⟨rfl,hi,hb,hk⟩;refine ⟨_,rfl,?_⟩;replace BK185:=a_ (kb_ hk BK185.out NB185_0.out);replace HK:=a_ (KeepBut.trans (kf_ HK.out) hk (.inl rfl));replace HB:=a_ (hb);replace HI0:=a_ (hi);(try clear hb hk hi);have hnb70:=NB185_0.out;have hnc70:=NB0_185.out;obtain ⟨Z71_0,Z71_1,Z71_2,Z71_3,Z71_4,Y71_0,Y71_1,Y71_2,Y71_3,Y71_4⟩:=op5_ BK185.out))
                  refine bodyPost_ret (results_cell_row rfl _ _ gb185 42 #[.int .i64 3,.int .i64 t214,.int .i64 x10_34,.int .i64 x12_21,.string (⟨#[]⟩:ByteArray)] (0,0) _ rfl (k5p_ BK185.out) Tryd.underlying42 rfl (by kernel_rfl)) rfl ?_
                  exact ⟨fi_,is_HI0,bel_,kf_ HK.out⟩
    ·rw [if_neg c10] at H
     exact absurd H (by simp)
   ·rw [if_neg c9] at H
    exact absurd H (by simp)
  ·rw [if_neg c7] at H
   exact absurd H (by simp)
 ·rw [if_neg c6] at H
  exact absurd H (by simp)

def spec_l2Under.f (k:Nat) (l0:List (S69)) (a1:Int) (a2:Int):Option (Bool):=(spec_l2At.f k l0 a1).bind fun t218=>((spec_l2At.f k l0 a2).bind fun t219=>(if t218≥0 then (if t219≥0 then ((spec_l2End.f k l0 t219).bind fun t220=>((spec_l6In.f t218 t219 (wrap64 (t220 - 1))).bind fun t221=>(some t221))) else (some false)) else (some false)))
theorem spec_l2Under.mono:∀ a0 a1 a2 k,LeO (spec_l2Under.f k a0 a1 a2) (spec_l2Under.f (k+1) a0 a1 a2):=by
 intro a0 a1 a2 k
 unfold spec_l2Under.f
 repeat' first
   | (with_reducible exact spec_l2At.mono _ _ _)
   | (with_reducible exact spec_l2End.mono _ _ _)
   | (with_reducible exact LeO.refl _)
   | (with_reducible exact LeO.none _)
   | (with_reducible refine LeO.ite ?_ ?_)
   | (with_reducible refine LeO.bind ?_ (fun _=>?_))
theorem spec_l2Under.calls (k:Nat) (A0:Option Addr) (c0:Nat) (l0:List (S69)) (a1:Int) (a2:Int) (r:Bool) (w:World) (hr0:Kd.C k69 w A0 l0.length l0) (hc0:l0.length≤c0) (h:spec_l2Under.f k l0 a1 a2=some r) :
  Calls Tryd.prog 155 #[.slice A0 l0.length c0,.int .i64 a1,.int .i64 a2] w fun e w'=>e=.returned (.bool r)∧Drawn0 w w':=by
 have HR0:=a_ hr0
 have HC0:=a_ hc0
 clear hr0 hc0
 unfold spec_l2Under.f at h
 have H:=h
 clear h
 replace H:=bs_ H
 obtain ⟨t218,A40,H⟩:=H
 try dsimp only at H
 have A4:=a_ A40
 clear A40
 replace H:=bs_ H
 obtain ⟨t219,A50,H⟩:=H
 try dsimp only at H
 have A5:=a_ A50
 clear A50
 by_cases c6:t218≥0
 ·rw [if_pos c6] at H
  have c6b0:decide (0≤t218)=true:=dt_ c6
  clear c6
  by_cases c7:t219≥0
  ·rw [if_pos c7] at H
   have c7b0:decide (0≤t219)=true:=dt_ c7
   clear c7
   replace H:=bs_ H
   obtain ⟨t220,A80,H⟩:=H
   try dsimp only at H
   have A8:=a_ A80
   clear A80
   replace H:=bs_ H
   obtain ⟨t221,A90,H⟩:=H
   try dsimp only at H
   have A9:=a_ A90
   clear A90
   obtain rfl:=sj_ H
   go_enter Tryd.func155,Tryd.ntmps155
   go_wp2_with (first|((with_reducible refine gC_ (f:=145) rfl ?_);refine gl_ 11 Tryd.func145 #[.slice A0 l0.length c0,.int .i64 a1] ?_;(with_reducible refine (spec_l2At.calls k _ _ l0 a1 t218 _ ?side1 ?side2 A4.out).mono ?_);(case side1=>exact cx_ HR0.out);(case side2=>exact HC0.out);rintro e w' ⟨rfl,⟨nd,rfl⟩⟩;refine ⟨_,rfl,?_⟩)|((with_reducible refine gC_ (f:=145) rfl ?_);refine gl_ 14 Tryd.func145 #[.slice A0 l0.length c0,.int .i64 a2] ?_;(with_reducible refine (spec_l2At.calls k _ _ l0 a2 t219 _ ?side1 ?side2 A5.out).mono ?_);(case side1=>exact cx_ HR0.out);(case side2=>exact HC0.out);rintro e w' ⟨rfl,⟨nd,rfl⟩⟩;refine ⟨_,rfl,?_⟩)|(go_at_call 148;(with_reducible refine (spec_l2End.calls k _ _ l0 t219 t220 _ ?side1 ?side2 A8.out).mono ?_);(case side1=>exact cx_ HR0.out);(case side2=>exact HC0.out);rintro e w' ⟨rfl,⟨nd,rfl⟩⟩)|(go_at_call 75;(with_reducible refine (spec_l6In.calls t218 t219 (wrap64 (t220 - 1)) t221 _ A9.out).mono ?_);rintro e w' ⟨rfl,⟨nd,rfl⟩⟩))
   go_ret
   exact ⟨si_,by repeat (first|exact Drawn0.refl _|apply Drawn0.step)⟩
  ·rw [if_neg c7] at H
   have c7b0:decide (0≤t219)=false:=df_ c7
   clear c7
   obtain rfl:=sj_ H
   go_enter Tryd.func155,Tryd.ntmps155
   go_wp2_with (first|((with_reducible refine gC_ (f:=145) rfl ?_);refine gl_ 11 Tryd.func145 #[.slice A0 l0.length c0,.int .i64 a1] ?_;(with_reducible refine (spec_l2At.calls k _ _ l0 a1 t218 _ ?side1 ?side2 A4.out).mono ?_);(case side1=>exact cx_ HR0.out);(case side2=>exact HC0.out);rintro e w' ⟨rfl,⟨nd,rfl⟩⟩;refine ⟨_,rfl,?_⟩)|((with_reducible refine gC_ (f:=145) rfl ?_);refine gl_ 14 Tryd.func145 #[.slice A0 l0.length c0,.int .i64 a2] ?_;(with_reducible refine (spec_l2At.calls k _ _ l0 a2 t219 _ ?side1 ?side2 A5.out).mono ?_);(case side1=>exact cx_ HR0.out);(case side2=>exact HC0.out);rintro e w' ⟨rfl,⟨nd,rfl⟩⟩;refine ⟨_,rfl,?_⟩))
   go_ret
   exact ⟨si_,by repeat (first|exact Drawn0.refl _|apply Drawn0.step)⟩
 ·rw [if_neg c6] at H
  have c6b0:decide (0≤t218)=false:=df_ c6
  clear c6
  obtain rfl:=sj_ H
  go_enter Tryd.func155,Tryd.ntmps155
  go_wp2_with (first|((with_reducible refine gC_ (f:=145) rfl ?_);refine gl_ 11 Tryd.func145 #[.slice A0 l0.length c0,.int .i64 a1] ?_;(with_reducible refine (spec_l2At.calls k _ _ l0 a1 t218 _ ?side1 ?side2 A4.out).mono ?_);(case side1=>exact cx_ HR0.out);(case side2=>exact HC0.out);rintro e w' ⟨rfl,⟨nd,rfl⟩⟩;refine ⟨_,rfl,?_⟩)|((with_reducible refine gC_ (f:=145) rfl ?_);refine gl_ 14 Tryd.func145 #[.slice A0 l0.length c0,.int .i64 a2] ?_;(with_reducible refine (spec_l2At.calls k _ _ l0 a2 t219 _ ?side1 ?side2 A5.out).mono ?_);(case side1=>exact cx_ HR0.out);(case side2=>exact HC0.out);rintro e w' ⟨rfl,⟨nd,rfl⟩⟩;refine ⟨_,rfl,?_⟩))
  go_ret
  exact ⟨si_,by repeat (first|exact Drawn0.refl _|apply Drawn0.step)⟩

mutual
def spec_l3Where.j0:Nat→List (S69)→Bool→Int→Int→Int→Int→ByteArray→Option (Int×Int×Bool)
 | 0,_,_,_,_,_,_,_=>none
 | k+1,x0,x37,x223000,x223001,x223002,x223003,x223004=>if x37=true then (some (0,0,false)) else ((spec_l2At.f k x0 x223002).bind fun t225=>(if t225 < 0 then (some (3,0,true)) else ((spec_l2Kids.f k x0 x223002).bind fun t226=>(spec_l3Where.l0 k x223002 0 t226 0 x223000 x223001 x223002 x223003 x223004))))
def spec_l3Where.l0:Nat→Int→Int→List Int→Int→Int→Int→Int→Int→ByteArray→Option (Int×Int×Bool)
 | 0,_,_,_,_,_,_,_,_,_=>none
 | k+1,x8,x9,x10,x11,x223000,x223001,x223002,x223003,x223004=>if x11 < (x10.length:Int) then (if 0≤x11 then (if (rd x10 x11)=x223003 then (if x223003=x223001 then (spec_l3Where.l0 k x8 x9 x10 (wrap64 (x11+1)) x223000 x223001 x223002 x223003 x223004) else (spec_l3Where.l0 k x8 x223003 x10 (wrap64 (x11+1)) x223000 x223001 x223002 x223003 x223004)) else (spec_l3Where.l0 k x8 x9 x10 (wrap64 (x11+1)) x223000 x223001 x223002 x223003 x223004)) else (none)) else (some (x8,x9,true))
end
def spec_l3Where.f (k:Nat) (l0:List (S69)) (a1_0:Int) (a1_1:Int) (a1_2:Int) (a1_3:Int) (a1_4:ByteArray):Option (Int×Int×Bool):=(spec_l2At.f k l0 a1_1).bind fun t223=>(if a1_0=2 then (spec_l3Where.j0 k l0 true a1_0 a1_1 a1_2 a1_3 a1_4) else (if ((decide (t223≥0)) != (a1_0==3))=true then (spec_l3Where.j0 k l0 true a1_0 a1_1 a1_2 a1_3 a1_4) else (if t223≥0 then ((spec_l2Under.f k l0 a1_2 a1_1).bind fun t224=>(spec_l3Where.j0 k l0 t224 a1_0 a1_1 a1_2 a1_3 a1_4)) else (spec_l3Where.j0 k l0 false a1_0 a1_1 a1_2 a1_3 a1_4))))
theorem spec_l3Where.mono_l:∀ k,(∀ y0 y1 y2 y3 y4 y5 y6,LeO (spec_l3Where.j0 k y0 y1 y2 y3 y4 y5 y6) (spec_l3Where.j0 (k+1) y0 y1 y2 y3 y4 y5 y6))∧(∀ y0 y1 y2 y3 y4 y5 y6 y7 y8,LeO (spec_l3Where.l0 k y0 y1 y2 y3 y4 y5 y6 y7 y8) (spec_l3Where.l0 (k+1) y0 y1 y2 y3 y4 y5 y6 y7 y8))
 | 0=>⟨fun _ _ _ _ _ _ _ r h=>by simp [spec_l3Where.j0] at h,fun _ _ _ _ _ _ _ _ _ r h=>by simp [spec_l3Where.l0] at h⟩
 | k+1=>by
  obtain ⟨ih0,ih1⟩:=spec_l3Where.mono_l k
  refine ⟨?_,?_⟩
  all_goals intros
  all_goals first|unfold spec_l3Where.j0|unfold spec_l3Where.l0
  all_goals repeat' first
  | (with_reducible exact ih0 _ _ _ _ _ _ _)
  | (with_reducible exact ih1 _ _ _ _ _ _ _ _ _)
  | (with_reducible exact spec_l2At.mono _ _ _)
  | (with_reducible exact spec_l2Kids.mono _ _ _)
  | (with_reducible exact spec_l2Under.mono _ _ _ _)
  | (with_reducible exact LeO.refl _)
  | (with_reducible exact LeO.none _)
  | (with_reducible refine LeO.ite ?_ ?_)
  | (with_reducible refine LeO.bind ?_ (fun _=>?_))
theorem spec_l3Where.mono:∀ a0 a1 a2 a3 a4 a5 k,LeO (spec_l3Where.f k a0 a1 a2 a3 a4 a5) (spec_l3Where.f (k+1) a0 a1 a2 a3 a4 a5):=by
 intro a0 a1 a2 a3 a4 a5 k
 obtain ⟨ih0,ih1⟩:=spec_l3Where.mono_l k
 unfold spec_l3Where.f
 repeat' first
   | (with_reducible exact ih0 _ _ _ _ _ _ _)
   | (with_reducible exact ih1 _ _ _ _ _ _ _ _ _)
   | (with_reducible exact spec_l2At.mono _ _ _)
   | (with_reducible exact spec_l2Kids.mono _ _ _)
   | (with_reducible exact spec_l2Under.mono _ _ _ _)
   | (with_reducible exact LeO.refl _)
   | (with_reducible exact LeO.none _)
   | (with_reducible refine LeO.ite ?_ ?_)
   | (with_reducible refine LeO.bind ?_ (fun _=>?_))
theorem spec_l3Where.calls (k:Nat) (A0:Option Addr) (c0:Nat) (l0:List (S69)) (a1_0:Int) (a1_1:Int) (a1_2:Int) (a1_3:Int) (a1_4:ByteArray) (r1:Int) (r2:Int) (r3:Bool) (w:World) (hr0:Kd.C k69 w A0 l0.length l0) (hc0:l0.length≤c0) (h:spec_l3Where.f k l0 a1_0 a1_1 a1_2 a1_3 a1_4=some (r1,r2,r3)) :
  Calls Tryd.prog 146 #[.slice A0 l0.length c0,.agg #[.int .i64 a1_0,.int .i64 a1_1,.int .i64 a1_2,.int .i64 a1_3,.string a1_4]] w fun e w'=>e=.returned (.tuple #[.int .i64 r1,.int .i64 r2,.bool r3])∧Below w.heap.size w w':=by
 have hu42:=Tryd.underlying42
 have HR0:=a_ hr0
 have HC0:=a_ hc0
 clear hr0 hc0
 have HB:=a_ (Below.refl w.heap.size w)
 unfold spec_l3Where.f at h
 have H:=h
 clear h
 replace H:=bs_ H
 obtain ⟨t223,A30,H⟩:=H
 try dsimp only at H
 have A3:=a_ A30
 clear A30
 have HC4:=a_ H
 clear H
 go_enter Tryd.func146,Tryd.ntmps146
 go_upto_region 2 with (first|((with_reducible refine gD_ (N:=3) rfl ?_);refine bx_ 3 (#[.int .i64 a1_0,.int .i64 a1_1,.int .i64 a1_2,.int .i64 a1_3,.string a1_4]) 42 ?_;intro gb222 hg w5 hbox hb;have n0_:=a_ (bS_ (bel_) hb);have n1_:=a_ (hbox);have n2_:=a_ ((by rw [hg];exact (below_size (bel_)):w.heap.size≤gb222));have n3_:=a_ ((by rw [hg];exact (below_size (bel_)):w.heap.size≤gb222));clear HB;have HB:=n0_;have BK222:=n1_;have GW222:=n2_;have GE222:=n3_;clear n0_ n1_ n2_ n3_;clear hb hbox hg;obtain ⟨Z6_0,Z6_1,Z6_2,Z6_3,Z6_4,Y6_0,Y6_1,Y6_2,Y6_3,Y6_4⟩:=op5_ BK222.out)|(go_at_call 145;(with_reducible refine (spec_l2At.calls k _ _ l0 a1_1 t223 _ ?side1 ?side2 A3.out).mono ?_);(case side1=>exact cp_ HR0.out);(case side2=>exact HC0.out);rintro e w' ⟨rfl,⟨nd,rfl⟩⟩;(try first|exact ⟨rfl,_,World.drewN_drewN _ _ _⟩|exact ⟨rfl,_,Eq.trans (World.drewN_drewN _ _ _) (congrArg (World.drewN _) (Nat.add_assoc _ _ _))⟩)))
 (try simp only [Act.put,List.setIfInBounds_toArray,List.set_cons_zero,List.set_cons_succ])
 go_cut [37] from 7 to 16 (fun v37 wc=>∃ (kq:Nat) (x37_3:Bool),v37=.bool x37_3∧Aside0 (spec_l3Where.j0 kq l0 x37_3 a1_0 a1_1 a1_2 a1_3 a1_4=some (r1,r2,r3))∧Aside0 (kq≤k)∧Aside0 (wc.heap[gb222]?=some (.cells #[.int .i64 a1_0,.int .i64 a1_1,.int .i64 a1_2,.int .i64 a1_3,.string a1_4] 42 (0,0)))∧Aside0 (Below w.heap.size w wc))
 case first =>
  have H:=HC4.out
  clear HC4
  by_cases c7:a1_0=2
  ·rw [if_pos c7] at H
   have c7b0:(a1_0==2)=true:=beq_iff_eq.mpr c7
   have c7b1:(a1_0 != 2)=false:=be_ c7
   clear c7
   (first|rw [c7b0]|(simp only [i64_w,i32_w];rw [c7b0])|skip)
   have H':=a_ H
   clear H
   obtain ⟨Z8_0,Z8_1,Z8_2,Z8_3,Z8_4,Y8_0,Y8_1,Y8_2,Y8_3,Y8_4⟩:=op5_ BK222.out
   go_wp2
   repeat (go_quiet (fail);try go_wp2)
   go_meet
   case rel=>exact ⟨_,(true),(si_),H',⟨by first|omega|exact Nat.le_refl _⟩,⟨bp_ BK222.out⟩,⟨bel_⟩⟩
  ·rw [if_neg c7] at H
   have c7b0:(a1_0==2)=false:=bn_ c7
   have c7b1:(a1_0 != 2)=true:=bne_iff_ne.mpr c7
   (first|rw [c7b0]|(simp only [i64_w,i32_w];rw [c7b0])|skip)
   by_cases c9:((decide (t223≥0)) != (a1_0==3))=true
   ·rw [if_pos c9] at H
    have c9b0:((decide (t223≥0)) != (a1_0==3))=true:=c9
    (try (have c9b1:decide ((decide (t223≥0))=(a1_0==3))=false:=by simpa using c9))
    (try (have c9b2:((decide (t223≥0))==(a1_0==3))=false:=by simpa using c9))
    (try (have c9b3:¬ ((decide (t223≥0))=(a1_0==3)):=by simpa using c9))
    clear c9
    have H':=a_ H
    clear H
    obtain ⟨Z10_0,Z10_1,Z10_2,Z10_3,Z10_4,Y10_0,Y10_1,Y10_2,Y10_3,Y10_4⟩:=op5_ BK222.out
    go_wp2
    repeat (go_quiet (fail);try go_wp2)
    go_meet
    case rel=>exact ⟨_,(true),(si_),H',⟨by first|omega|exact Nat.le_refl _⟩,⟨bp_ BK222.out⟩,⟨bel_⟩⟩
   ·rw [if_neg c9] at H
    have c9b0:((decide (t223≥0)) != (a1_0==3))=false:=by simpa using c9
    (try (have c9b1:decide ((decide (t223≥0))=(a1_0==3))=true:=by simpa using c9))
    (try (have c9b2:((decide (t223≥0))==(a1_0==3))=true:=by simpa using c9))
    clear c9
    by_cases c11:t223≥0
    ·rw [if_pos c11] at H
     have k3_:(a1_0==3)=true:=by
      have h_:=c9b0
      rw [show decide (t223≥0)=true from dt_ c11] at h_
      generalize (a1_0==3)=z at h_
      cases z
      all_goals first|rfl|cases h_
     clear c9b0
     (try clear c9b1)
     (try clear c9b2)
     have c11b0:decide (0≤t223)=true:=dt_ c11
     clear c11
     replace H:=bs_ H
     obtain ⟨t224,A120,H⟩:=H
     try dsimp only at H
     have A12:=a_ A120
     clear A120
     have H':=a_ H
     clear H
     obtain ⟨Z13_0,Z13_1,Z13_2,Z13_3,Z13_4,Y13_0,Y13_1,Y13_2,Y13_3,Y13_4⟩:=op5_ BK222.out
     go_wp2_with (first|(go_at_call 155;(with_reducible refine (spec_l2Under.calls k _ _ l0 a1_2 a1_1 t224 _ ?side1 ?side2 A12.out).mono ?_);(case side1=>exact cp_ HR0.out);(case side2=>exact HC0.out);rintro e w' ⟨rfl,⟨nd,rfl⟩⟩;(try first|exact ⟨rfl,_,World.drewN_drewN _ _ _⟩|exact ⟨rfl,_,Eq.trans (World.drewN_drewN _ _ _) (congrArg (World.drewN _) (Nat.add_assoc _ _ _))⟩)))
     go_meet
     case rel=>exact ⟨_,(t224),(si_),H',⟨by first|omega|exact Nat.le_refl _⟩,⟨bp_ BK222.out⟩,⟨bel_⟩⟩
    ·rw [if_neg c11] at H
     have k3_:(a1_0==3)=false:=by
      have h_:=c9b0
      rw [show decide (t223≥0)=false from df_ c11] at h_
      generalize (a1_0==3)=z at h_
      cases z
      all_goals first|rfl|cases h_
     clear c9b0
     (try clear c9b1)
     (try clear c9b2)
     have c11b0:decide (0≤t223)=false:=df_ c11
     clear c11
     have H':=a_ H
     clear H
     obtain ⟨Z14_0,Z14_1,Z14_2,Z14_3,Z14_4,Y14_0,Y14_1,Y14_2,Y14_3,Y14_4⟩:=op5_ BK222.out
     go_wp2
     repeat (go_quiet (fail);try go_wp2)
     go_meet
     case rel=>exact ⟨_,(false),(si_),H',⟨by first|omega|exact Nat.le_refl _⟩,⟨bp_ BK222.out⟩,⟨bel_⟩⟩
 case rest =>
  clear HC4
  try clear c1
  try clear p2
  try clear c7
  try clear c7b0
  try clear c7b1
  try clear c9
  try clear c9b0
  try clear c9b1
  try clear c9b2
  try clear c11
  try clear c11b0
  try clear c14
  try clear Z10_0 Z10_1 Z10_2 Z10_3 Z10_4 Y10_0 Y10_1 Y10_2 Y10_3 Y10_4
  try clear Z13_0 Z13_1 Z13_2 Z13_3 Z13_4 Y13_0 Y13_1 Y13_2 Y13_3 Y13_4
  try clear Z14_0 Z14_1 Z14_2 Z14_3 Z14_4 Y14_0 Y14_1 Y14_2 Y14_3 Y14_4
  try clear Z6_0 Z6_1 Z6_2 Z6_3 Z6_4 Y6_0 Y6_1 Y6_2 Y6_3 Y6_4
  try clear Z8_0 Z8_1 Z8_2 Z8_3 Z8_4 Y8_0 Y8_1 Y8_2 Y8_3 Y8_4
  obtain ⟨kq,x37_3,rfl,HA,HJ3,BK222,HB⟩:=hcut
  cases kq with
  | zero=>exact absurd HA.out (by simp [spec_l3Where.j0])
  | succ kj3 =>
   have H:=HA.out
   clear HA
   simp only [spec_l3Where.j0] at H
   by_cases c15:x37_3=true
   ·subst c15
    have H1:(some (0,0,false))=some (r1,r2,r3):=by rw [if_pos rfl] at H;exact H
    clear H
    have H:=H1
    clear H1
    simp only [Option.some.injEq,Prod.mk.injEq] at H
    obtain ⟨rfl,rfl,rfl⟩:=H
    go_wp2
    repeat (go_quiet (fail);try go_wp2)
    go_ret3
    exact ⟨fi_,bel_⟩
   ·replace c15:=Bool.eq_false_iff.mpr c15
    subst c15
    have H1:((spec_l2At.f kj3 l0 a1_2).bind fun t225=>(if t225 < 0 then (some (3,0,true)) else ((spec_l2Kids.f kj3 l0 a1_2).bind fun t226=>(spec_l3Where.l0 kj3 a1_2 0 t226 0 a1_0 a1_1 a1_2 a1_3 a1_4))))=some (r1,r2,r3):=by rw [if_neg (show ¬ (false=true) by decide)] at H;exact H
    clear H
    have H:=H1
    clear H1
    replace H:=bs_ H
    obtain ⟨t225,A160,H⟩:=H
    try dsimp only at H
    have A16:=a_ A160
    clear A160
    by_cases c17:t225 < 0
    ·rw [if_pos c17] at H
     have c17b0:decide (t225 < 0)=true:=dt_ c17
     clear c17
     simp only [Option.some.injEq,Prod.mk.injEq] at H
     obtain ⟨rfl,rfl,rfl⟩:=H
     obtain ⟨Z18_0,Z18_1,Z18_2,Z18_3,Z18_4,Y18_0,Y18_1,Y18_2,Y18_3,Y18_4⟩:=op5_ (W:=wc) BK222.out
     go_wp2_with (first|(go_at_call 145;(with_reducible refine (spec_l2At.calls kj3 _ _ l0 a1_2 t225 _ ?side1 ?side2 A16.out).mono ?_);(case side1=>exact cp_ HR0.out);(case side2=>exact HC0.out);rintro e w' ⟨rfl,⟨nd,rfl⟩⟩;(try first|exact ⟨rfl,_,World.drewN_drewN _ _ _⟩|exact ⟨rfl,_,Eq.trans (World.drewN_drewN _ _ _) (congrArg (World.drewN _) (Nat.add_assoc _ _ _))⟩)))
     go_ret3
     exact ⟨fi_,bel_⟩
    ·rw [if_neg c17] at H
     have c17b0:decide (t225 < 0)=false:=df_ c17
     clear c17
     replace H:=bs_ H
     obtain ⟨t226,A190,H⟩:=H
     try dsimp only at H
     have A19:=a_ A190
     clear A190
     have H':=a_ H
     clear H
     obtain ⟨Z20_0,Z20_1,Z20_2,Z20_3,Z20_4,Y20_0,Y20_1,Y20_2,Y20_3,Y20_4⟩:=op5_ (W:=wc) BK222.out
     go_wp2_with (first|(go_at_call 145;(with_reducible refine (spec_l2At.calls kj3 _ _ l0 a1_2 t225 _ ?side1 ?side2 A16.out).mono ?_);(case side1=>exact cp_ HR0.out);(case side2=>exact HC0.out);rintro e w' ⟨rfl,⟨nd,rfl⟩⟩;(try first|exact ⟨rfl,_,World.drewN_drewN _ _ _⟩|exact ⟨rfl,_,Eq.trans (World.drewN_drewN _ _ _) (congrArg (World.drewN _) (Nat.add_assoc _ _ _))⟩))|(go_at_call 144;(with_reducible refine (spec_l2Kids.calls kj3 _ _ l0 a1_2 t226 _ ?side1 ?side2 A19.out).mono ?_);(case side1=>repeat (first|exact (Kd.C_below HR0.out (bel_))|(with_reducible refine Kd.C_alloc ?_ _)|(with_reducible refine Kd.C_drewN ?_ _)|(with_reducible refine Kd.C_drew ?_)));(case side2=>exact HC0.out);rintro e w21 ⟨v227,rfl,ho0,hb⟩;have HO228:=a_ (Kd.R_lower ho0 (below_size (bel_)));replace HB:=a_ (bS_ (bel_) hb);replace BK222:=a_ (bb_ BK222.out hb);(try clear hb ho0)))
     go_loopg [9,11] kj3 (fun kq v9 v11 w'=>∃ (x9_2:Int) (x11_2:Int),v9=.int .i64 x9_2∧v11=.int .i64 x11_2∧Aside0 (spec_l3Where.l0 kq a1_2 x9_2 t226 x11_2 a1_0 a1_1 a1_2 a1_3 a1_4=some (r1,r2,r3))∧Aside0 (kq≤kj3)∧Aside0 (Kd.R (Kd.int .i64) 3 w' w.heap.size (fun _=>True) v227 t226)∧Aside0 (w'.heap[gb222]?=some (.cells #[.int .i64 a1_0,.int .i64 a1_1,.int .i64 a1_2,.int .i64 a1_3,.string a1_4] 42 (0,0)))∧Aside0 (Below w.heap.size w w'))
     case atStart=>exact ⟨(0),(0),(si_),(si_),H',⟨Nat.le_refl _⟩,⟨by (with_reducible repeat (first|apply Kd.R_alloc|apply Kd.R_drewN|apply Kd.R_drew));exact HO228.out⟩,⟨bp_ BK222.out⟩,⟨bel_⟩⟩
     case round =>
      clear H'
      try clear c1
      try clear p2
      try clear c7
      try clear c7b0
      try clear c7b1
      try clear c9
      try clear c9b0
      try clear c9b1
      try clear c9b2
      try clear c11
      try clear c11b0
      try clear c14
      try clear c15
      try clear c17
      try clear c17b0
      try clear p2
      try clear Z10_0 Z10_1 Z10_2 Z10_3 Z10_4 Y10_0 Y10_1 Y10_2 Y10_3 Y10_4
      try clear Z13_0 Z13_1 Z13_2 Z13_3 Z13_4 Y13_0 Y13_1 Y13_2 Y13_3 Y13_4
      try clear Z14_0 Z14_1 Z14_2 Z14_3 Z14_4 Y14_0 Y14_1 Y14_2 Y14_3 Y14_4
      try clear Z18_0 Z18_1 Z18_2 Z18_3 Z18_4 Y18_0 Y18_1 Y18_2 Y18_3 Y18_4
      try clear Z20_0 Z20_1 Z20_2 Z20_3 Z20_4 Y20_0 Y20_1 Y20_2 Y20_3 Y20_4
      try clear Z6_0 Z6_1 Z6_2 Z6_3 Z6_4 Y6_0 Y6_1 Y6_2 Y6_3 Y6_4
      try clear Z8_0 Z8_1 Z8_2 Z8_3 Z8_4 Y8_0 Y8_1 Y8_2 Y8_3 Y8_4
      obtain ⟨x9_2,x11_2,rfl,rfl,HA,HK2,HO_10,BK222,HB⟩:=hrel
      cases gk with
      | zero=>exact absurd HA.out (by simp [spec_l3Where.l0])
      | succ k2 =>
       have H:=HA.out
       clear HA
       simp only [spec_l3Where.l0] at H
       by_cases c22:x11_2 < (t226.length:Int)
       ·rw [if_pos c22] at H
        have c22b0:decide (x11_2 < (t226.length:Int))=true:=dt_ c22
        clear c22
        by_cases c23:0≤x11_2
        ·rw [if_pos c23] at H
         have c23b0:decide (0≤x11_2)=true:=dt_ c23
         clear c23
         by_cases c24:(rd t226 x11_2)=a1_3
         ·rw [if_pos c24] at H
          have c24b0:((rd t226 x11_2)==a1_3)=true:=beq_iff_eq.mpr c24
          have c24b1:((rd t226 x11_2) != a1_3)=false:=be_ c24
          clear c24
          by_cases c25:a1_3=a1_1
          ·rw [if_pos c25] at H
           have c25b0:(a1_3==a1_1)=true:=beq_iff_eq.mpr c25
           have c25b1:(a1_3 != a1_1)=false:=be_ c25
           clear c25
           have H':=a_ H
           clear H
           obtain ⟨Ao26,co26,eo26⟩:=Kd.R_slice HO_10.out
           subst eo26
           have p229:0≤(x11_2:Int):=od_
           have q229:x11_2 < (t226.length:Int):=od_
           obtain ⟨ad229,e229,hx229_0⟩:=Kd.at_int (Kd.R_reads' HO_10.out).2.2 x11_2 p229 q229
           cases e229
           replace p229:=eq_true p229
           replace q229:=eq_true q229
           obtain ⟨Z27_0,Z27_1,Z27_2,Z27_3,Z27_4,Y27_0,Y27_1,Y27_2,Y27_3,Y27_4⟩:=op5_ (W:=wr) BK222.out
           go_wp2
           repeat (go_quiet (fail);try go_wp2)
           go_roundg k2
           case measure=>have:=HJ3.out;have:=HK2.out;omega
           case rel=>exact ⟨(x9_2),(wrap64 (x11_2+1)),(si_),(si_),H',⟨by have:=HJ3.out;have:=HK2.out;omega⟩,⟨by (with_reducible repeat (first|apply Kd.R_alloc|apply Kd.R_drewN|apply Kd.R_drew));exact HO_10.out⟩,⟨bp_ BK222.out⟩,⟨bel_⟩⟩
          ·rw [if_neg c25] at H
           have c25b0:(a1_3==a1_1)=false:=bn_ c25
           have c25b1:(a1_3 != a1_1)=true:=bne_iff_ne.mpr c25
           have H':=a_ H
           clear H
           obtain ⟨Ao28,co28,eo28⟩:=Kd.R_slice HO_10.out
           subst eo28
           have p229:0≤(x11_2:Int):=od_
           have q229:x11_2 < (t226.length:Int):=od_
           obtain ⟨ad229,e229,hx229_0⟩:=Kd.at_int (Kd.R_reads' HO_10.out).2.2 x11_2 p229 q229
           cases e229
           replace p229:=eq_true p229
           replace q229:=eq_true q229
           obtain ⟨Z29_0,Z29_1,Z29_2,Z29_3,Z29_4,Y29_0,Y29_1,Y29_2,Y29_3,Y29_4⟩:=op5_ (W:=wr) BK222.out
           go_wp2
           repeat (go_quiet (fail);try go_wp2)
           go_roundg k2
           case measure=>have:=HJ3.out;have:=HK2.out;omega
           case rel=>exact ⟨(a1_3),(wrap64 (x11_2+1)),(si_),(si_),H',⟨by have:=HJ3.out;have:=HK2.out;omega⟩,⟨by (with_reducible repeat (first|apply Kd.R_alloc|apply Kd.R_drewN|apply Kd.R_drew));exact HO_10.out⟩,⟨bp_ BK222.out⟩,⟨bel_⟩⟩
         ·rw [if_neg c24] at H
          have c24b0:((rd t226 x11_2)==a1_3)=false:=bn_ c24
          have c24b1:((rd t226 x11_2) != a1_3)=true:=bne_iff_ne.mpr c24
          have H':=a_ H
          clear H
          obtain ⟨Ao30,co30,eo30⟩:=Kd.R_slice HO_10.out
          subst eo30
          have p229:0≤(x11_2:Int):=od_
          have q229:x11_2 < (t226.length:Int):=od_
          obtain ⟨ad229,e229,hx229_0⟩:=Kd.at_int (Kd.R_reads' HO_10.out).2.2 x11_2 p229 q229
          cases e229
          replace p229:=eq_true p229
          replace q229:=eq_true q229
          obtain ⟨Z31_0,Z31_1,Z31_2,Z31_3,Z31_4,Y31_0,Y31_1,Y31_2,Y31_3,Y31_4⟩:=op5_ (W:=wr) BK222.out
          go_wp2
          repeat (go_quiet (fail);try go_wp2)
          go_roundg k2
          case measure=>have:=HJ3.out;have:=HK2.out;omega
          case rel=>exact ⟨(x9_2),(wrap64 (x11_2+1)),(si_),(si_),H',⟨by have:=HJ3.out;have:=HK2.out;omega⟩,⟨by (with_reducible repeat (first|apply Kd.R_alloc|apply Kd.R_drewN|apply Kd.R_drew));exact HO_10.out⟩,⟨bp_ BK222.out⟩,⟨bel_⟩⟩
        ·rw [if_neg c23] at H
         exact absurd H (by simp)
       ·rw [if_neg c22] at H
        have c22b0:decide (x11_2 < (t226.length:Int))=false:=df_ c22
        clear c22
        simp only [Option.some.injEq,Prod.mk.injEq] at H
        obtain ⟨rfl,rfl,rfl⟩:=H
        obtain ⟨Ao32,co32,eo32⟩:=Kd.R_slice HO_10.out
        subst eo32
        go_wp2
        repeat (go_quiet (fail);try go_wp2)
        go_ret3
        exact ⟨fi_,bel_⟩

mutual
def spec_l3Put.j0:Nat→List (S69)→List (S69)→Int→Int→Option ((List (S69)))
 | 0,_,_,_,_=>none
 | k+1,x0,x1,x10,x11=>(some (([]:List (S69)):List (S69))).bind fun y235=>(if 0≤x11 then (if x11≤(x0.length:Int) then ((some (x0.take (x11:Int).toNat:List (S69))).bind fun y238=>(if y235.length+y238.length < 4398046511104 then (spec_l3Put.l0 k x0 x1 x10 x11 (y235++y238) 0) else (none))) else (none)) else (none))
def spec_l3Put.l0:Nat→List (S69)→List (S69)→Int→Int→List (S69)→Int→Option ((List (S69)))
 | 0,_,_,_,_,_,_=>none
 | k+1,x0,x1,x10,x11,x12,x13=>if x13 < (x1.length:Int) then (if 0≤x13 then (if x12.length < 4398046511104 then (spec_l3Put.l0 k x0 x1 x10 x11 (x12++[(⟨(rd_T69 x1 x13).f0,wrap64 (((rd_T69 x1 x13).f1)+x10),(rd_T69 x1 x13).f2⟩:S69)]) (wrap64 (x13+1))) else (none)) else (none)) else (if 0≤x11 then (if x11≤(x0.length:Int) then ((some (x0.drop (x11:Int).toNat:List (S69))).bind fun y250=>(if x12.length+y250.length < 4398046511104 then (some (x12++y250)) else (none))) else (none)) else (none))
end
def spec_l3Put.f (k:Nat) (l0:List (S69)) (l1:List (S69)) (a2:Int) (a3:Int):Option ((List (S69))):=(spec_l2At.f k l0 a2).bind fun t230=>(if 0≤t230 then (if t230 < (l0.length:Int) then (if 0 < (l1.length:Int) then (if a3 > 0 then ((spec_l2At.f k l0 a3).bind fun t233=>((spec_l2End.f k l0 t233).bind fun t234=>(spec_l3Put.j0 k l0 l1 (wrap64 ((wrap64 (((rd_T69 l0 t230).f1)+1)) - ((rd_T69 l1 0).f1))) t234))) else (spec_l3Put.j0 k l0 l1 (wrap64 ((wrap64 (((rd_T69 l0 t230).f1)+1)) - ((rd_T69 l1 0).f1))) (wrap64 (t230+1)))) else (none)) else (none)) else (none))
theorem spec_l3Put.mono_l:∀ k,(∀ y0 y1 y2 y3,LeO (spec_l3Put.j0 k y0 y1 y2 y3) (spec_l3Put.j0 (k+1) y0 y1 y2 y3))∧(∀ y0 y1 y2 y3 y4 y5,LeO (spec_l3Put.l0 k y0 y1 y2 y3 y4 y5) (spec_l3Put.l0 (k+1) y0 y1 y2 y3 y4 y5))
 | 0=>⟨fun _ _ _ _ r h=>by simp [spec_l3Put.j0] at h,fun _ _ _ _ _ _ r h=>by simp [spec_l3Put.l0] at h⟩
 | k+1=>by
  obtain ⟨ih0,ih1⟩:=spec_l3Put.mono_l k
  refine ⟨?_,?_⟩
  all_goals intros
  all_goals first|unfold spec_l3Put.j0|unfold spec_l3Put.l0
  all_goals repeat' first
  | (with_reducible exact ih0 _ _ _ _)
  | (with_reducible exact ih1 _ _ _ _ _ _)
  | (with_reducible exact spec_l2At.mono _ _ _)
  | (with_reducible exact spec_l2End.mono _ _ _)
  | (with_reducible exact LeO.refl _)
  | (with_reducible exact LeO.none _)
  | (with_reducible refine LeO.ite ?_ ?_)
  | (with_reducible refine LeO.bind ?_ (fun _=>?_))
theorem spec_l3Put.mono:∀ a0 a1 a2 a3 k,LeO (spec_l3Put.f k a0 a1 a2 a3) (spec_l3Put.f (k+1) a0 a1 a2 a3):=by
 intro a0 a1 a2 a3 k
 obtain ⟨ih0,ih1⟩:=spec_l3Put.mono_l k
 unfold spec_l3Put.f
 repeat' first
   | (with_reducible exact ih0 _ _ _ _)
   | (with_reducible exact ih1 _ _ _ _ _ _)
   | (with_reducible exact spec_l2At.mono _ _ _)
   | (with_reducible exact spec_l2End.mono _ _ _)
   | (with_reducible exact LeO.refl _)
   | (with_reducible exact LeO.none _)
   | (with_reducible refine LeO.ite ?_ ?_)
   | (with_reducible refine LeO.bind ?_ (fun _=>?_))
theorem spec_l3Put.calls (k:Nat) (A0:Option Addr) (c0:Nat) (l0:List (S69)) (A1:Option Addr) (c1:Nat) (l1:List (S69)) (a2:Int) (a3:Int) (r:List (S69)) (w:World) (hr0:Kd.C k69 w A0 l0.length l0) (hc0:l0.length≤c0) (hr1:Kd.C k69 w A1 l1.length l1) (hc1:l1.length≤c1) (h:spec_l3Put.f k l0 l1 a2 a3=some r) :
  Calls Tryd.prog 147 #[.slice A0 l0.length c0,.slice A1 l1.length c1,.int .i64 a2,.int .i64 a3] w fun e w'=>∃ v0_:Value,e=.returned (v0_)∧Kd.R k69 69 w' w.heap.size (fun _=>True) v0_ r∧Below w.heap.size w w':=by
 have hu69:=Tryd.underlying69
 have HR0:=a_ hr0
 have HC0:=a_ hc0
 clear hr0 hc0
 have HR1:=a_ hr1
 have HC1:=a_ hc1
 clear hr1 hc1
 have HB:=a_ (Below.refl w.heap.size w)
 unfold spec_l3Put.f at h
 have H:=h
 clear h
 replace H:=bs_ H
 obtain ⟨t230,A50,H⟩:=H
 try dsimp only at H
 have A5:=a_ A50
 clear A50
 by_cases c6:0≤t230
 ·rw [if_pos c6] at H
  have c6b0:decide (0≤t230)=true:=dt_ c6
  clear c6
  by_cases c7:t230 < (l0.length:Int)
  ·rw [if_pos c7] at H
   have c7b0:decide (t230 < (l0.length:Int))=true:=dt_ c7
   clear c7
   by_cases c8:0 < (l1.length:Int)
   ·rw [if_pos c8] at H
    have c8b0:decide (0 < (l1.length:Int))=true:=dt_ c8
    have c8b1:decide (0 < l1.length)=true:=dt_ (by omega)
    clear c8
    have HC9:=a_ H
    clear H
    go_enter Tryd.func147,Tryd.ntmps147
    go_upto_if 32 with (first|(go_at_call 145;(with_reducible refine (spec_l2At.calls k _ _ l0 a2 t230 _ ?side1 ?side2 A5.out).mono ?_);(case side1=>exact cx_ HR0.out);(case side2=>exact HC0.out);rintro e w' ⟨rfl,⟨nd,rfl⟩⟩;(try first|exact ⟨rfl,_,World.drewN_drewN _ _ _⟩|exact ⟨rfl,_,Eq.trans (World.drewN_drewN _ _ _) (congrArg (World.drewN _) (Nat.add_assoc _ _ _))⟩);have p231:0≤(t230:Int):=od_;have q231:t230 < (l0.length:Int):=od_;obtain ⟨ad231,e231,hx231_0,hx231_1,hx231_2⟩:=at_T69 HR0.out t230 p231 q231;cases e231;replace p231:=eq_true p231;replace q231:=eq_true q231;have p232:0≤(0:Int):=(by omega);have q232:0 < (l1.length:Int):=od_;obtain ⟨ad232,e232,hx232_0,hx232_1,hx232_2⟩:=at_T69 HR1.out 0 p232 q232;cases e232;have qi232:(0 < l1.length)=True:=eq_true (by omega);(try rw [show ((0:Int)).toNat=0 from rfl] at hx232_0);(try rw [show 0 * 3=0 from rfl] at hx232_0);(try rw [Addr.add_zero'] at hx232_0);(try rw [show ((0:Int)).toNat=0 from rfl] at hx232_1);(try rw [show 0 * 3=0 from rfl] at hx232_1);(try rw [Addr.add_zero'] at hx232_1);(try rw [show ((0:Int)).toNat=0 from rfl] at hx232_2);(try rw [show 0 * 3=0 from rfl] at hx232_2);(try rw [Addr.add_zero'] at hx232_2);replace p232:=eq_true p232;replace q232:=eq_true q232))
    repeat (go_quiet (first|(go_at_call 145;(with_reducible refine (spec_l2At.calls k _ _ l0 a2 t230 _ ?side1 ?side2 A5.out).mono ?_);(case side1=>exact cx_ HR0.out);(case side2=>exact HC0.out);rintro e w' ⟨rfl,⟨nd,rfl⟩⟩;(try first|exact ⟨rfl,_,World.drewN_drewN _ _ _⟩|exact ⟨rfl,_,Eq.trans (World.drewN_drewN _ _ _) (congrArg (World.drewN _) (Nat.add_assoc _ _ _))⟩);have p231:0≤(t230:Int):=od_;have q231:t230 < (l0.length:Int):=od_;obtain ⟨ad231,e231,hx231_0,hx231_1,hx231_2⟩:=at_T69 HR0.out t230 p231 q231;cases e231;replace p231:=eq_true p231;replace q231:=eq_true q231;have p232:0≤(0:Int):=(by omega);have q232:0 < (l1.length:Int):=od_;obtain ⟨ad232,e232,hx232_0,hx232_1,hx232_2⟩:=at_T69 HR1.out 0 p232 q232;cases e232;have qi232:(0 < l1.length)=True:=eq_true (by omega);(try rw [show ((0:Int)).toNat=0 from rfl] at hx232_0);(try rw [show 0 * 3=0 from rfl] at hx232_0);(try rw [Addr.add_zero'] at hx232_0);(try rw [show ((0:Int)).toNat=0 from rfl] at hx232_1);(try rw [show 0 * 3=0 from rfl] at hx232_1);(try rw [Addr.add_zero'] at hx232_1);(try rw [show ((0:Int)).toNat=0 from rfl] at hx232_2);(try rw [show 0 * 3=0 from rfl] at hx232_2);(try rw [Addr.add_zero'] at hx232_2);replace p232:=eq_true p232;replace q232:=eq_true q232));go_upto_if 32 with (first|(go_at_call 145;(with_reducible refine (spec_l2At.calls k _ _ l0 a2 t230 _ ?side1 ?side2 A5.out).mono ?_);(case side1=>exact cx_ HR0.out);(case side2=>exact HC0.out);rintro e w' ⟨rfl,⟨nd,rfl⟩⟩;(try first|exact ⟨rfl,_,World.drewN_drewN _ _ _⟩|exact ⟨rfl,_,Eq.trans (World.drewN_drewN _ _ _) (congrArg (World.drewN _) (Nat.add_assoc _ _ _))⟩);have p231:0≤(t230:Int):=od_;have q231:t230 < (l0.length:Int):=od_;obtain ⟨ad231,e231,hx231_0,hx231_1,hx231_2⟩:=at_T69 HR0.out t230 p231 q231;cases e231;replace p231:=eq_true p231;replace q231:=eq_true q231;have p232:0≤(0:Int):=(by omega);have q232:0 < (l1.length:Int):=od_;obtain ⟨ad232,e232,hx232_0,hx232_1,hx232_2⟩:=at_T69 HR1.out 0 p232 q232;cases e232;have qi232:(0 < l1.length)=True:=eq_true (by omega);(try rw [show ((0:Int)).toNat=0 from rfl] at hx232_0);(try rw [show 0 * 3=0 from rfl] at hx232_0);(try rw [Addr.add_zero'] at hx232_0);(try rw [show ((0:Int)).toNat=0 from rfl] at hx232_1);(try rw [show 0 * 3=0 from rfl] at hx232_1);(try rw [Addr.add_zero'] at hx232_1);(try rw [show ((0:Int)).toNat=0 from rfl] at hx232_2);(try rw [show 0 * 3=0 from rfl] at hx232_2);(try rw [Addr.add_zero'] at hx232_2);replace p232:=eq_true p232;replace q232:=eq_true q232)))
    (try simp only [Act.put,List.setIfInBounds_toArray,List.set_cons_zero,List.set_cons_succ])
    go_cut [11] (fun v11 wc=>∃ (kq:Nat) (x11_8:Int),v11=.int .i64 x11_8∧Aside0 (spec_l3Put.j0 kq l0 l1 (wrap64 ((wrap64 (((rd_T69 l0 t230).f1)+1)) - ((rd_T69 l1 0).f1))) x11_8=some r)∧Aside0 (kq≤k)∧Aside0 (Below w.heap.size w wc))
    case first =>
     have H:=HC9.out
     clear HC9
     by_cases c10:a3 > 0
     ·rw [if_pos c10] at H
      have c10b0:decide (0 < a3)=true:=dt_ c10
      clear c10
      (first|rw [c10b0]|(simp only [i64_w,i32_w];rw [c10b0])|skip)
      replace H:=bs_ H
      obtain ⟨t233,A110,H⟩:=H
      try dsimp only at H
      have A11:=a_ A110
      clear A110
      replace H:=bs_ H
      obtain ⟨t234,A120,H⟩:=H
      try dsimp only at H
      have A12:=a_ A120
      clear A120
      have H':=a_ H
      clear H
      go_wp2_with (first|(go_at_call 145;(with_reducible refine (spec_l2At.calls k _ _ l0 a3 t233 _ ?side1 ?side2 A11.out).mono ?_);(case side1=>exact cp_ HR0.out);(case side2=>exact HC0.out);rintro e w' ⟨rfl,⟨nd,rfl⟩⟩;(try first|exact ⟨rfl,_,World.drewN_drewN _ _ _⟩|exact ⟨rfl,_,Eq.trans (World.drewN_drewN _ _ _) (congrArg (World.drewN _) (Nat.add_assoc _ _ _))⟩))|(go_at_call 148;(with_reducible refine (spec_l2End.calls k _ _ l0 t233 t234 _ ?side1 ?side2 A12.out).mono ?_);(case side1=>repeat (first|exact (Kd.C_below HR0.out (bel_))|(with_reducible refine Kd.C_alloc ?_ _)|(with_reducible refine Kd.C_drewN ?_ _)|(with_reducible refine Kd.C_drew ?_)));(case side2=>exact HC0.out);rintro e w' ⟨rfl,⟨nd,rfl⟩⟩;(try first|exact ⟨rfl,_,World.drewN_drewN _ _ _⟩|exact ⟨rfl,_,Eq.trans (World.drewN_drewN _ _ _) (congrArg (World.drewN _) (Nat.add_assoc _ _ _))⟩)))
      go_meet
      case rel=>exact ⟨_,(t234),(si_),H',⟨by first|omega|exact Nat.le_refl _⟩,⟨bel_⟩⟩
     ·rw [if_neg c10] at H
      have c10b0:decide (0 < a3)=false:=df_ c10
      clear c10
      (first|rw [c10b0]|(simp only [i64_w,i32_w];rw [c10b0])|skip)
      have H':=a_ H
      clear H
      go_wp2
      repeat (go_quiet (fail);try go_wp2)
      go_meet
      case rel=>exact ⟨_,(wrap64 (t230+1)),(si_),H',⟨by first|omega|exact Nat.le_refl _⟩,⟨bel_⟩⟩
    case rest =>
     clear HC9
     try clear c1
     try clear p2
     try clear q2
     try clear hx2
     try clear qi2
     try clear c6
     try clear c6b0
     try clear p6
     try clear c7
     try clear c7b0
     try clear c8
     try clear c8b0
     try clear c8b1
     try clear c10
     try clear c10b0
     try clear hx231_0
     try clear hx231_1
     try clear hx231_2
     try clear hx232_0
     try clear hx232_1
     try clear hx232_2
     try clear p231
     try clear p232
     try clear q231
     try clear q232
     obtain ⟨kq,x11_8,rfl,HA,HJ8,HB⟩:=hcut
     cases kq with
     | zero=>exact absurd HA.out (by simp [spec_l3Put.j0])
     | succ kj8 =>
      have H:=HA.out
      clear HA
      simp only [spec_l3Put.j0] at H
      obtain ⟨y235,hy235⟩:∃ y_:List (S69),y_=(([]:List (S69))):=⟨_,rfl⟩
      replace H:(if 0≤x11_8 then (if x11_8≤(l0.length:Int) then ((some (l0.take (x11_8:Int).toNat:List (S69))).bind fun y238=>(if y235.length+y238.length < 4398046511104 then (spec_l3Put.l0 kj8 l0 l1 (wrap64 ((wrap64 (((rd_T69 l0 t230).f1)+1)) - ((rd_T69 l1 0).f1))) x11_8 (y235++y238) 0) else (none))) else (none)) else (none))=some r:=by first|(rw [hy235];with_reducible exact H)|(have H2_:=(Option.bind_some _ _).symm.trans H;rw [hy235];with_reducible exact H2_)|(have H2_:=(Option.bind_some _ _).symm.trans H;with_reducible exact H2_)|with_reducible exact H|(rw [hy235];exact H)|exact H
      have Ny235:=a_ hy235
      clear hy235
      by_cases c13:0≤x11_8
      ·rw [if_pos c13] at H
       have c13b0:=eq_true c13
       have c13b1:decide (0≤x11_8)=true:=dt_ c13
       clear c13
       by_cases c14:x11_8≤(l0.length:Int)
       ·rw [if_pos c14] at H
        have c14b0:=eq_true c14
        have c14b1:decide (x11_8≤(l0.length:Int))=true:=dt_ c14
        clear c14
        obtain ⟨y238,hy238⟩:∃ y_:List (S69),y_=(l0.take (x11_8:Int).toNat):=⟨_,rfl⟩
        replace H:(if y235.length+y238.length < 4398046511104 then (spec_l3Put.l0 kj8 l0 l1 (wrap64 ((wrap64 (((rd_T69 l0 t230).f1)+1)) - ((rd_T69 l1 0).f1))) x11_8 (y235++y238) 0) else (none))=some r:=by first|(rw [hy238];with_reducible exact H)|(have H2_:=(Option.bind_some _ _).symm.trans H;rw [hy238];with_reducible exact H2_)|(have H2_:=(Option.bind_some _ _).symm.trans H;with_reducible exact H2_)|with_reducible exact H|(rw [hy238];exact H)|exact H
        have Ny238:=a_ hy238
        clear hy238
        by_cases c15:y235.length+y238.length < 4398046511104
        ·rw [if_pos c15] at H
         have LMc15:=a_ c15
         clear c15
         obtain ⟨y242,hy242⟩:∃ y_:List (S69),y_=(y235++y238):=⟨_,rfl⟩
         replace H:(spec_l3Put.l0 kj8 l0 l1 (wrap64 ((wrap64 (((rd_T69 l0 t230).f1)+1)) - ((rd_T69 l1 0).f1))) x11_8 y242 0)=some r:=by first|(rw [hy242];with_reducible exact H)|(have H2_:=(Option.bind_some _ _).symm.trans H;rw [hy242];with_reducible exact H2_)|(have H2_:=(Option.bind_some _ _).symm.trans H;with_reducible exact H2_)|with_reducible exact H|(rw [hy242];exact H)|exact H
         have Ny242:=a_ hy242
         clear hy242
         have H':=a_ H
         clear H
         go_wp2_with (first|((with_reducible refine gD_ (N:=38) rfl ?_);refine Kd.R_lit k69 _ 69 ?hg (N:=38) ?hd (xs:=([]:List (S69))) (inner:=[]) (ok:=fun _=>True) (okp:=fun _=>True) ?hr ?hp (fun _ hk=>hk) trivial (Below.refl _ _) (Nat.le_refl _) (by simp) ?_;(case hd=>rfl);(case hg=>rfl);(case hr=>first|(go_simp;done)|(go_simp;rfl));(case hp=>exact (Reps.none _ _));intro v236 w16 ho17 hb hg_ hnew_;clear hg_ hnew_;(first|rw [←Ny235.out] at ho17|(simp only [Int.reduceToNat] at ho17;rw [←Ny235.out] at ho17));have HO237:=a_ (Kd.R_lower ho17 (below_size (bel_)));replace HB:=a_ (bS_ (bel_) hb);clear hb ho17;have q18:(x11_8:Int)≤((l0.length:Int):Int):=od_;obtain ⟨i018,hi018,_,hsz18,_⟩:=info_parts info69;have hroom18:l0.length≤c0:=HC0.out;have hC18:Kd.C k69 _ (some ad231) l0.length l0:=HR0.out;have hcut18:=cut_to (P:=Tryd.prog) 62 69 .i64 Tryd.underlying62 hi018 (some ad231) l0.length c0 x11_8 (od_) q18 hroom18;have hr18:=Kd.C_take (m:=(x11_8:Int).toNat) hC18 (by omega);have hy18:y238.length=(x11_8:Int).toNat:=(by rw [Ny238.out,List.length_take];omega);rw [←Ny238.out] at hr18;rw [←hy18] at hcut18;have HR241:=a_ hr18;have HC241:=a_ (show y238.length≤c0 from by omega);clear hr18 hC18 hroom18 hi018 hsz18;have KY18:=a_ hy18;clear hy18;replace q18:=eq_true q18)|((with_reducible refine gate_builtin (b:=.append) (xs:=#[.tmp 38,.tmp 41]) rfl ?_);at_builtin;refine Kd.R_append_rows k69 (w0:=w) w.heap.size rfl (.tmp 38) (.tmp 41) 62 69 (.agg #[(.int .i64 0),(.int .i64 0),(.string ⟨#[]⟩)]) 32 rfl Tryd.underlying62 info69 rfl (by decide) (by omega) v236 y235 y238 _ _ _ (fun _=>True) (fun _=>False) rfl rfl ?aO ?aR (fun _ _ h=>h) (fun _ h=>h.elim) ?aF ?aB ?aS ?aL ?_;(case aR=>exact cx_ (Kd.C_below HR241.out HB.out));(case aB=>exact (bel_));(case aF=>exact (fun _ _=>trivial));(case aO=>exact (rp_ HO237.out));(case aS=>exact (below_size (bel_)));(case aL=>have:=LMc15.out;omega);intro v243 w19 ho hb hg hat;rw [←Ny242.out] at ho;replace HB:=a_ (hb);have HO244:=a_ (ho);clear HO237;clear ho hb hg hat))
         go_loopg [12,13] kj8 (fun kq v12 v13 w'=>∃ (x12_2:List (S69)) (x13_2:Int),v13=.int .i64 x13_2∧Aside0 (spec_l3Put.l0 kq l0 l1 (wrap64 ((wrap64 (((rd_T69 l0 t230).f1)+1)) - ((rd_T69 l1 0).f1))) x11_8 x12_2 x13_2=some r)∧Aside0 (kq≤kj8)∧Aside0 (Kd.R k69 69 w' w.heap.size (fun _=>True) v12 x12_2)∧Aside0 (Below w.heap.size w w'))
         case atStart=>exact ⟨(y242),(0),(si_),H',⟨Nat.le_refl _⟩,⟨by (with_reducible repeat (first|apply Kd.R_alloc|apply Kd.R_drewN|apply Kd.R_drew));exact HO244.out⟩,⟨bel_⟩⟩
         case round =>
          clear H'
          try clear c1
          try clear q1
          try clear p2
          try clear q2
          try clear hx2
          try clear qi2
          try clear c6
          try clear c6b0
          try clear p6
          try clear c7
          try clear c7b0
          try clear c8
          try clear c8b0
          try clear c8b1
          try clear c10
          try clear c10b0
          try clear c13
          try clear c13b0
          try clear c13b1
          try clear c14
          try clear c14b0
          try clear c14b1
          try clear c15
          try clear q18
          try clear hx231_0
          try clear hx231_1
          try clear hx231_2
          try clear hx232_0
          try clear hx232_1
          try clear hx232_2
          try clear p2
          try clear p231
          try clear p232
          try clear p6
          try clear q18
          try clear q2
          try clear q231
          try clear q232
          obtain ⟨x12_2,x13_2,rfl,HA,HK2,HO_12,HB⟩:=hrel
          cases gk with
          | zero=>exact absurd HA.out (by simp [spec_l3Put.l0])
          | succ k2 =>
           have H:=HA.out
           clear HA
           simp only [spec_l3Put.l0] at H
           by_cases c20:x13_2 < (l1.length:Int)
           ·rw [if_pos c20] at H
            have c20b0:decide (x13_2 < (l1.length:Int))=true:=dt_ c20
            clear c20
            by_cases c21:0≤x13_2
            ·rw [if_pos c21] at H
             have c21b0:decide (0≤x13_2)=true:=dt_ c21
             clear c21
             by_cases c22:x12_2.length < 4398046511104
             ·rw [if_pos c22] at H
              have LMc22:=a_ c22
              clear c22
              obtain ⟨y247,hy247⟩:∃ y_:List (S69),y_=(x12_2++[(⟨(rd_T69 l1 x13_2).f0,wrap64 (((rd_T69 l1 x13_2).f1)+(wrap64 ((wrap64 (((rd_T69 l0 t230).f1)+1)) - ((rd_T69 l1 0).f1)))),(rd_T69 l1 x13_2).f2⟩:S69)]):=⟨_,rfl⟩
              replace H:(spec_l3Put.l0 k2 l0 l1 (wrap64 ((wrap64 (((rd_T69 l0 t230).f1)+1)) - ((rd_T69 l1 0).f1))) x11_8 y247 (wrap64 (x13_2+1)))=some r:=by first|(rw [hy247];with_reducible exact H)|(have H2_:=(Option.bind_some _ _).symm.trans H;rw [hy247];with_reducible exact H2_)|(have H2_:=(Option.bind_some _ _).symm.trans H;with_reducible exact H2_)|with_reducible exact H|(rw [hy247];exact H)|exact H
              have Ny247:=a_ hy247
              clear hy247
              have H':=a_ H
              clear H
              have p245:0≤(x13_2:Int):=od_
              have q245:x13_2 < (l1.length:Int):=od_
              obtain ⟨ad245,e245,hx245_0,hx245_1,hx245_2⟩:=at_T69 HR1.out x13_2 p245 q245
              obtain rfl:ad232=ad245:=(by injection e245)
              replace hx245_0:=(cb_ HB.out hx245_0 :)
              replace hx245_1:=(cb_ HB.out hx245_1 :)
              replace hx245_2:=(cb_ HB.out hx245_2 :)
              replace p245:=eq_true p245
              replace q245:=eq_true q245
              go_wp2_with (first|((with_reducible refine gD_ (N:=14) rfl ?_);refine bx_ 14 (#[.int .i64 0,.int .i64 0,.string (⟨#[]⟩:ByteArray)]) 69 ?_;intro gb246 hg w23 hbox hb;have n0_:=a_ (Kd.R_below (Kd.R_elderB (rp_ HO_12.out) gb246 (Nat.le_of_eq hg.symm)) hb);have n1_:=a_ (bS_ (bel_) hb);have n2_:=a_ (hbox);have n3_:=a_ ((by rw [hg];exact (below_size (bel_)):w.heap.size≤gb246));have n4_:=a_ ((by rw [hg];exact (below_size (bel_)):w.heap.size≤gb246));clear HO_12;clear HB;have HO_12:=n0_;have HB:=n1_;have BK246:=n2_;have GW246:=n3_;have GE246:=n4_;clear n0_ n1_ n2_ n3_ n4_;clear hb hbox hg;obtain ⟨Z24_0,Z24_1,Z24_2,Y24_0,Y24_1,Y24_2⟩:=op3_ BK246.out;have hq_:((((w23.setCell ⟨gb246,0,none⟩ (.int .i64 ((rd_T69 l1 x13_2).f0))).setCell ⟨gb246,1,none⟩ (.int .i64 ((rd_T69 l1 x13_2).f1))).setCell ⟨gb246,2,none⟩ (.string ((rd_T69 l1 x13_2).f2))).setCell ⟨gb246,1,none⟩ (.int .i64 (wrap64 (((rd_T69 l1 x13_2).f1)+(wrap64 ((wrap64 (((rd_T69 l0 t230).f1)+1)) - ((rd_T69 l1 0).f1))))))).heap[gb246]?=some (.cells #[.int .i64 ((rd_T69 l1 x13_2).f0),.int .i64 (wrap64 (((rd_T69 l1 x13_2).f1)+(wrap64 ((wrap64 (((rd_T69 l0 t230).f1)+1)) - ((rd_T69 l1 0).f1))))),.string ((rd_T69 l1 x13_2).f2)] 69 (0,0)):=(blk_set (blk_set (blk_set (blk_set BK246.out 0 _) 1 _) 2 _) 1 _).trans rfl;have hq0_:((((w23.setCell ⟨gb246,0,none⟩ (.int .i64 ((rd_T69 l1 x13_2).f0))).setCell ⟨gb246,1,none⟩ (.int .i64 ((rd_T69 l1 x13_2).f1))).setCell ⟨gb246,2,none⟩ (.string ((rd_T69 l1 x13_2).f2))).setCell ⟨gb246,1,none⟩ (.int .i64 (wrap64 (((rd_T69 l1 x13_2).f1)+(wrap64 ((wrap64 (((rd_T69 l0 t230).f1)+1)) - ((rd_T69 l1 0).f1))))))).cell? ⟨gb246,0,none⟩=some (.int .i64 ((rd_T69 l1 x13_2).f0)):=(bC_ hq_ 0).trans rfl;have hq1_:((((w23.setCell ⟨gb246,0,none⟩ (.int .i64 ((rd_T69 l1 x13_2).f0))).setCell ⟨gb246,1,none⟩ (.int .i64 ((rd_T69 l1 x13_2).f1))).setCell ⟨gb246,2,none⟩ (.string ((rd_T69 l1 x13_2).f2))).setCell ⟨gb246,1,none⟩ (.int .i64 (wrap64 (((rd_T69 l1 x13_2).f1)+(wrap64 ((wrap64 (((rd_T69 l0 t230).f1)+1)) - ((rd_T69 l1 0).f1))))))).cell? ⟨gb246,1,none⟩=some (.int .i64 (wrap64 (((rd_T69 l1 x13_2).f1)+(wrap64 ((wrap64 (((rd_T69 l0 t230).f1)+1)) - ((rd_T69 l1 0).f1)))))):=(bC_ hq_ 1).trans rfl;have hq2_:((((w23.setCell ⟨gb246,0,none⟩ (.int .i64 ((rd_T69 l1 x13_2).f0))).setCell ⟨gb246,1,none⟩ (.int .i64 ((rd_T69 l1 x13_2).f1))).setCell ⟨gb246,2,none⟩ (.string ((rd_T69 l1 x13_2).f2))).setCell ⟨gb246,1,none⟩ (.int .i64 (wrap64 (((rd_T69 l1 x13_2).f1)+(wrap64 ((wrap64 (((rd_T69 l0 t230).f1)+1)) - ((rd_T69 l1 0).f1))))))).cell? ⟨gb246,2,none⟩=some (.string ((rd_T69 l1 x13_2).f2)):=(bC_ hq_ 2).trans rfl;clear hq_)|((with_reducible refine gate_builtin (b:=.append) (xs:=#[.tmp 58,.tmp 60]) rfl ?_);at_builtin;refine Kd.R_append k69 (w0:=w) w.heap.size rfl (.tmp 58) (.tmp 60) 62 69 (.agg #[(.int .i64 0),(.int .i64 0),(.string ⟨#[]⟩)]) 32 rfl Tryd.underlying62 info69 rfl (by decide) (by omega) u12 x12_2 (⟨(rd_T69 l1 x13_2).f0,wrap64 (((rd_T69 l1 x13_2).f1)+(wrap64 ((wrap64 (((rd_T69 l0 t230).f1)+1)) - ((rd_T69 l1 0).f1)))),(rd_T69 l1 x13_2).f2⟩:S69) [.int .i64 ((rd_T69 l1 x13_2).f0),.int .i64 (wrap64 (((rd_T69 l1 x13_2).f1)+(wrap64 ((wrap64 (((rd_T69 l0 t230).f1)+1)) - ((rd_T69 l1 0).f1))))),.string ((rd_T69 l1 x13_2).f2)] (fun k_=>k_≠gb246) (fun _=>False) rfl (by first|(go_simp;done)|(go_simp;rfl)) ?aP (fun _ hk=>hk.elim) ?aF ?aO ?aB ?aS ?aL ?_;(case aP=>exact k69_mkM _ _ _ (⟨(rd_T69 l1 x13_2).f0,wrap64 (((rd_T69 l1 x13_2).f1)+(wrap64 ((wrap64 (((rd_T69 l0 t230).f1)+1)) - ((rd_T69 l1 0).f1)))),(rd_T69 l1 x13_2).f2⟩:S69));(case aB=>exact (bel_));(case aF=>exact (fun k_ hk=>Kd.freshB (g:=gb246) (o:=.cells #[.int .i64 ((rd_T69 l1 x13_2).f0),.int .i64 (wrap64 (((rd_T69 l1 x13_2).f1)+(wrap64 ((wrap64 (((rd_T69 l0 t230).f1)+1)) - ((rd_T69 l1 0).f1))))),.string ((rd_T69 l1 x13_2).f2)] 69 (0,0)) (by (with_reducible repeat (first|refine bN_ ?_ _|refine bD_ ?_|refine bA_ ?_ _));refine blk_put (cs:=#[.int .i64 ((rd_T69 l1 x13_2).f0),.int .i64 ((rd_T69 l1 x13_2).f1),.string ((rd_T69 l1 x13_2).f2)]) ?_ 1 _ rfl;(with_reducible repeat (first|refine bN_ ?_ _|refine bD_ ?_|refine bA_ ?_ _));refine blk_put (cs:=#[.int .i64 ((rd_T69 l1 x13_2).f0),.int .i64 ((rd_T69 l1 x13_2).f1),.string (⟨#[]⟩:ByteArray)]) ?_ 2 _ rfl;(with_reducible repeat (first|refine bN_ ?_ _|refine bD_ ?_|refine bA_ ?_ _));refine blk_put (cs:=#[.int .i64 ((rd_T69 l1 x13_2).f0),.int .i64 0,.string (⟨#[]⟩:ByteArray)]) ?_ 1 _ rfl;(with_reducible repeat (first|refine bN_ ?_ _|refine bD_ ?_|refine bA_ ?_ _));refine blk_put (cs:=#[.int .i64 0,.int .i64 0,.string (⟨#[]⟩:ByteArray)]) ?_ 0 _ rfl;(with_reducible repeat (first|refine bN_ ?_ _|refine bD_ ?_|refine bA_ ?_ _));exact BK246.out) k_ hk));(case aO=>exact (by (with_reducible repeat (first|apply Kd.R_alloc|apply Kd.R_drewN|apply Kd.R_drew));exact Kd.R_mono (Kd.R_far (p:=⟨gb246,1,none⟩) (rf3_ (g:=gb246) (Kd.R_mono HO_12.out (fun k_ hk=>(⟨hk,hk.2⟩:_∧k_≠gb246))) (fun _ hk=>hk.2) (.int .i64 ((rd_T69 l1 x13_2).f0)) (.int .i64 ((rd_T69 l1 x13_2).f1)) (.string ((rd_T69 l1 x13_2).f2))) (fun _ hk=>hk.2) (.int .i64 (wrap64 (((rd_T69 l1 x13_2).f1)+(wrap64 ((wrap64 (((rd_T69 l0 t230).f1)+1)) - ((rd_T69 l1 0).f1))))))) (fun _ hk=>hk.1.2)));(case aS=>exact (below_size (bel_)));(case aL=>have:=LMc22.out;omega);intro v248 w25 ho hb hg hat;rw [←Ny247.out] at ho;have n0_:=a_ (blk_grown (g:=gb246) (o:=.cells #[.int .i64 ((rd_T69 l1 x13_2).f0),.int .i64 (wrap64 (((rd_T69 l1 x13_2).f1)+(wrap64 ((wrap64 (((rd_T69 l0 t230).f1)+1)) - ((rd_T69 l1 0).f1))))),.string ((rd_T69 l1 x13_2).f2)] 69 (0,0)) (by (with_reducible repeat (first|refine bN_ ?_ _|refine bD_ ?_|refine bA_ ?_ _));refine blk_put (cs:=#[.int .i64 ((rd_T69 l1 x13_2).f0),.int .i64 ((rd_T69 l1 x13_2).f1),.string ((rd_T69 l1 x13_2).f2)]) ?_ 1 _ rfl;(with_reducible repeat (first|refine bN_ ?_ _|refine bD_ ?_|refine bA_ ?_ _));refine blk_put (cs:=#[.int .i64 ((rd_T69 l1 x13_2).f0),.int .i64 ((rd_T69 l1 x13_2).f1),.string (⟨#[]⟩:ByteArray)]) ?_ 2 _ rfl;(with_reducible repeat (first|refine bN_ ?_ _|refine bD_ ?_|refine bA_ ?_ _));refine blk_put (cs:=#[.int .i64 ((rd_T69 l1 x13_2).f0),.int .i64 0,.string (⟨#[]⟩:ByteArray)]) ?_ 1 _ rfl;(with_reducible repeat (first|refine bN_ ?_ _|refine bD_ ?_|refine bA_ ?_ _));refine blk_put (cs:=#[.int .i64 0,.int .i64 0,.string (⟨#[]⟩:ByteArray)]) ?_ 0 _ rfl;(with_reducible repeat (first|refine bN_ ?_ _|refine bD_ ?_|refine bA_ ?_ _));exact BK246.out) hg (Kd.R_away HO_12.out (fun _ hk=>hk.2)));have n1_:=a_ (hb);have n2_:=a_ (ho);clear BK246;clear HB;clear HO_12;have BK246:=n0_;have HB:=n1_;have HO249:=n2_;clear n0_ n1_ n2_;clear ho hb hg hat))
              go_roundg k2
              case measure=>have:=HJ8.out;have:=HK2.out;omega
              case rel=>exact ⟨(y247),(wrap64 (x13_2+1)),(si_),H',⟨by have:=HJ8.out;have:=HK2.out;omega⟩,⟨by (with_reducible repeat (first|apply Kd.R_alloc|apply Kd.R_drewN|apply Kd.R_drew));exact Kd.R_mono HO249.out (fun _ hk=>trivial)⟩,⟨bel_⟩⟩
             ·rw [if_neg c22] at H
              exact absurd H (by simp)
            ·rw [if_neg c21] at H
             exact absurd H (by simp)
           ·rw [if_neg c20] at H
            have c20b0:decide (x13_2 < (l1.length:Int))=false:=df_ c20
            clear c20
            by_cases c26:0≤x11_8
            ·rw [if_pos c26] at H
             have c26b0:=eq_true c26
             have c26b1:decide (0≤x11_8)=true:=dt_ c26
             clear c26
             by_cases c27:x11_8≤(l0.length:Int)
             ·rw [if_pos c27] at H
              have c27b0:=eq_true c27
              have c27b1:decide (x11_8≤(l0.length:Int))=true:=dt_ c27
              clear c27
              obtain ⟨y250,hy250⟩:∃ y_:List (S69),y_=(l0.drop (x11_8:Int).toNat):=⟨_,rfl⟩
              replace H:(if x12_2.length+y250.length < 4398046511104 then (some (x12_2++y250)) else (none))=some r:=by first|(rw [hy250];with_reducible exact H)|(have H2_:=(Option.bind_some _ _).symm.trans H;rw [hy250];with_reducible exact H2_)|(have H2_:=(Option.bind_some _ _).symm.trans H;with_reducible exact H2_)|with_reducible exact H|(rw [hy250];exact H)|exact H
              have Ny250:=a_ hy250
              clear hy250
              by_cases c28:x12_2.length+y250.length < 4398046511104
              ·rw [if_pos c28] at H
               have LMc28:=a_ c28
               clear c28
               obtain ⟨y254,hy254⟩:∃ y_:List (S69),y_=(x12_2++y250):=⟨_,rfl⟩
               replace H:(some y254)=some r:=by first|(rw [hy254];with_reducible exact H)|(have H2_:=(Option.bind_some _ _).symm.trans H;rw [hy254];with_reducible exact H2_)|(have H2_:=(Option.bind_some _ _).symm.trans H;with_reducible exact H2_)|with_reducible exact H|(rw [hy254];exact H)|exact H
               have Ny254:=a_ hy254
               clear hy254
               obtain rfl:=sj_ H
               have q29:(x11_8:Int)≤((l0.length:Int):Int):=od_
               obtain ⟨i029,hi029,_,hsz29,_⟩:=info_parts info69
               have hroom29:l0.length≤c0:=HC0.out
               have hC29:Kd.C k69 _ (some ad231) l0.length l0:=HR0.out
               have q029:(0:Int)≤(x11_8:Int):=od_
               have hcut29:=cut_from (P:=Tryd.prog) 62 69 .i64 Tryd.underlying62 hi029 3 hsz29 (some ad231) l0.length c0 x11_8 q029 q29
               have hr29:=Kd.C_drop (m:=(x11_8:Int).toNat) (c:=c0) hC29 (by omega) hroom29
               obtain ⟨A29,hA29⟩:∃ A1,A1=(if c0=(x11_8:Int).toNat then (some ad231) else ((some ad231):Option Addr).map (·.add ((x11_8:Int).toNat * 3))):=⟨_,rfl⟩
               obtain ⟨c29,hc29⟩:∃ c1,c1=c0 - (x11_8:Int).toNat:=⟨_,rfl⟩
               have hy29:y250.length=l0.length - (x11_8:Int).toNat:=(by rw [Ny250.out,List.length_drop] <;> omega)
               rw [show (l0).drop (x11_8:Int).toNat=y250 from Ny250.out.symm] at hr29
               replace hr29:Kd.C k69 _ A29 y250.length y250:=(by rw [hA29];exact hr29)
               rw [←hy29,←hA29,←hc29] at hcut29
               have HR253:=a_ hr29
               have HC253:=a_ (show y250.length≤c29 from by rw [hy29,hc29];exact Nat.sub_le_sub_right hroom29 _)
               clear hr29 hC29 hroom29 hi029 hsz29 hc29
               have KY29:=a_ hy29
               have KA29:=a_ hA29
               clear hy29 hA29
               replace q29:=eq_true q29
               go_wp2_with (first|((with_reducible refine gate_builtin (b:=.append) (xs:=#[.tmp 62,.tmp 65]) rfl ?_);at_builtin;refine Kd.R_append_rows k69 (w0:=w) w.heap.size rfl (.tmp 62) (.tmp 65) 62 69 (.agg #[(.int .i64 0),(.int .i64 0),(.string ⟨#[]⟩)]) 32 rfl Tryd.underlying62 info69 rfl (by decide) (by omega) u12 x12_2 y250 _ _ _ (fun _=>True) (fun _=>False) rfl rfl ?aO ?aR (fun _ _ h=>h) (fun _ h=>h.elim) ?aF ?aB ?aS ?aL ?_;(case aR=>exact cx_ (Kd.C_below HR253.out HB.out));(case aB=>exact (bel_));(case aF=>exact (fun _ _=>trivial));(case aO=>exact (rp_ HO_12.out));(case aS=>exact (below_size (bel_)));(case aL=>have:=LMc28.out;omega);intro v255 w30 ho hb hg hat;rw [←Ny254.out] at ho;replace HB:=a_ (hb);have HO256:=a_ (ho);clear HO_12;clear ho hb hg hat))
               go_ret
               exact ⟨_,fi_,by (with_reducible repeat (first|apply Kd.R_alloc|apply Kd.R_drewN|apply Kd.R_drew));exact HO256.out,bel_⟩
              ·rw [if_neg c28] at H
               exact absurd H (by simp)
             ·rw [if_neg c27] at H
              exact absurd H (by simp)
            ·rw [if_neg c26] at H
             exact absurd H (by simp)
        ·rw [if_neg c15] at H
         exact absurd H (by simp)
       ·rw [if_neg c14] at H
        exact absurd H (by simp)
      ·rw [if_neg c13] at H
       exact absurd H (by simp)
   ·rw [if_neg c8] at H
    exact absurd H (by simp)
  ·rw [if_neg c7] at H
   exact absurd H (by simp)
 ·rw [if_neg c6] at H
  exact absurd H (by simp)

def spec_l3Do.f (k:Nat) (l0:List (S69)) (a1_0:Int) (a1_1:Int) (a1_2:Int) (a1_3:Int) (a1_4:ByteArray):Option ((List (S69))):=(spec_l2At.f k l0 a1_1).bind fun t258=>(if a1_0=2 then ((some (([]:List (S69)):List (S69))).bind fun y259=>(if y259.length+l0.length < 4398046511104 then ((some (y259++l0:List (S69))).bind fun y262=>(if t258≥0 then (if 0≤t258 then (if t258 < (y262.length:Int) then (some (y262.set (t258:Int).toNat (⟨(rd_T69 y262 t258).f0,(rd_T69 y262 t258).f1,a1_4⟩:S69))) else (none)) else (none)) else (some y262))) else (none))) else ((spec_l3Where.f k l0 a1_0 a1_1 a1_2 a1_3 a1_4).bind fun bt266=>(if bt266.2.2=true then (if a1_0=1 then ((spec_l3Put.f k l0 (([(⟨a1_1,0,a1_4⟩:S69)]:List (S69))) bt266.1 bt266.2.1).bind fun t278=>(some t278)) else ((spec_l2End.f k l0 t258).bind fun t281=>((some (([]:List (S69)):List (S69))).bind fun y282=>(if 0≤t258 then (if t258≤t281 then (if t281≤(l0.length:Int) then ((some ((l0.take (t281:Int).toNat).drop (t258:Int).toNat:List (S69))).bind fun y285=>(if y282.length+y285.length < 4398046511104 then ((some (([]:List (S69)):List (S69))).bind fun y292=>(if t258≤(l0.length:Int) then ((some (l0.take (t258:Int).toNat:List (S69))).bind fun y295=>(if y292.length+y295.length < 4398046511104 then ((some (y292++y295:List (S69))).bind fun y299=>(if 0≤t281 then ((some (l0.drop (t281:Int).toNat:List (S69))).bind fun y302=>(if y299.length+y302.length < 4398046511104 then ((spec_l3Put.f k (y299++y302) (y282++y285) bt266.1 bt266.2.1).bind fun t309=>(some t309)) else (none))) else (none))) else (none))) else (none))) else (none))) else (none)) else (none)) else (none))))) else ((some (([]:List (S69)):List (S69))).bind fun y269=>(if y269.length+l0.length < 4398046511104 then (some (y269++l0)) else (none))))))
theorem spec_l3Do.mono:∀ a0 a1 a2 a3 a4 a5 k,LeO (spec_l3Do.f k a0 a1 a2 a3 a4 a5) (spec_l3Do.f (k+1) a0 a1 a2 a3 a4 a5):=by
 intro a0 a1 a2 a3 a4 a5 k
 unfold spec_l3Do.f
 repeat' first
   | (with_reducible exact spec_l2At.mono _ _ _)
   | (with_reducible exact spec_l2End.mono _ _ _)
   | (with_reducible exact spec_l3Put.mono _ _ _ _ _)
   | (with_reducible exact spec_l3Where.mono _ _ _ _ _ _ _)
   | (with_reducible exact LeO.refl _)
   | (with_reducible exact LeO.none _)
   | (with_reducible refine LeO.ite ?_ ?_)
   | (with_reducible refine LeO.bind ?_ (fun _=>?_))
def spec_l3Do.T14:Bool×List (List Nat×List Nat):=(true,[([],[]),([],[]),([],[]),([1,2],[1,2]),([0,3],[0,3]),([],[]),([],[]),([5,6],[5,6]),([4,7,4],[4,7]),([8,8,0,1,2,3,4,5,6,7,8],[8])])
def spec_l3Do.B14:List Nat:=[0,0,0,6,15,0,0,96,255,511]
theorem spec_l3Do.tab14:rtab .any (opsOf Tryd.f125 14)=spec_l3Do.T14:=by kernel_rfl
theorem spec_l3Do.bits14:waitsOk spec_l3Do.T14.2 spec_l3Do.B14=true:=by kernel_rfl
end Go.Proofs.YtdpklbomhdpimaaDoor.P
