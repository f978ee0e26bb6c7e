/- Joined by a program (wip/shake.py): the declarations that 'YtdpklbomhdpimaaDoorCardFnTreeMore' reaches. -/
import Derived.Test.YtdpklbomhdpimaaDoorZLg6
set_option linter.unusedVariables false
set_option linter.unusedSimpArgs false
set_option linter.unusedSectionVars false
set_option maxHeartbeats 8000000
set_option maxRecDepth 100000
namespace Go.Proofs.YtdpklbomhdpimaaDoor.P
open Go.RowKit Go.Proofs.YtdpklbomhdpimaaDoorW.PrintWords Go.Proofs.YtdpklbomhdpimaaDoorW.PrintLast
theorem spec_DrawLogAdd.calls (k:Nat) (A0:Option Addr) (c0:Nat) (l0:List Int) (r1:List (S44)) (r2:Int) (r3:Int) (r4:Int) (r5:Int) (r6:Int) (r7:Int) (r8:ByteArray) (w:World) (hr0:Kd.C (Kd.int .u8) w A0 l0.length l0) (hc0:l0.length≤c0) (h:spec_DrawLogAdd.f k l0=some (r1,r2,r3,r4,r5,r6,r7,r8)) :
  Calls Tryd.prog 36 #[.slice A0 l0.length c0] w fun e w'=>∃ v0_:Value,e=.returned (.tuple #[v0_,.agg #[.int .i64 r2,.int .i64 r3,.int .i64 r4,.int .i64 r5,.int .i64 r6,.int .i64 r7,.string r8]])∧Kd.R k44 44 w' w.heap.size (fun _=>True) v0_ r1∧Below w.heap.size w w':=by
 have hu44:=Tryd.underlying44
 have HR0:=a_ hr0
 have HC0:=a_ hc0
 clear hr0 hc0
 have HB:=a_ (Below.refl w.heap.size w)
 unfold spec_DrawLogAdd.f at h
 have H:=h
 clear h
 replace H:=bs_ H
 obtain ⟨⟨t692,t693⟩,A20,H⟩:=H
 try dsimp only at H
 have A2:=a_ A20
 clear A20
 replace H:=bs_ H
 obtain ⟨⟨t695,t698⟩,A30,H⟩:=H
 try dsimp only at H
 have A3:=a_ A30
 clear A30
 have HC4:=a_ H
 clear H
 go_enter Tryd.func36,Tryd.ntmps36
 go_upto_region 3 with (first|((with_reducible refine gD_ (N:=3) rfl ?_);refine bx_ 3 (#[.int .i64 0,.int .i64 0,.int .i64 0,.int .i64 0,.int .i64 0,.int .i64 0,.string (⟨#[]⟩:ByteArray)]) 44 ?_;intro gb691 hg w5 hbox hb;have n0_:=a_ (bS_ (bel_) hb);have n1_:=a_ (hbox);have n2_:=a_ ((by rw [hg];exact (below_size (bel_)):w.heap.size≤gb691));have n3_:=a_ ((by rw [hg];exact (below_size (bel_)):w.heap.size≤gb691));clear HB;have HB:=n0_;have BK691:=n1_;have GW691:=n2_;have GE691:=n3_;clear n0_ n1_ n2_ n3_;clear hb hbox hg)|((with_reducible refine gC_ (f:=72) rfl ?_);refine gl_ 8 Tryd.func72 #[.slice A0 l0.length c0] ?_;(with_reducible refine (spec_l6Open.calls _ _ l0 t692 t693 w _ ?side1 ?side2 ?side3 A2.out).mono ?_);(case side1=>exact bel_);(case side2=>exact HR0.out);(case side3=>exact HC0.out);rintro e w6 ⟨g694,rfl,hi,hb,hb2⟩;refine ⟨_,rfl,?_⟩;replace HB:=a_ (hb);have HI694:=a_ (hi);have NB694_691:=a_ (IsS145.ne_blk hi (bb_ BK691.out hb2) (by decide));have NB691_694:=a_ (Ne.symm (IsS145.ne_blk hi (bb_ BK691.out hb2) (by decide)));replace BK691:=a_ (bb_ BK691.out hb2);(try clear hb hb2 hi))|((with_reducible refine gC_ (f:=88) rfl ?_);refine gl_ 10 Tryd.func88 #[.pointer (some ⟨g694,0,none⟩)] ?_;(with_reducible refine (spec_l72Log.calls k g694 t692 t693 t695 t698 w _ ?side1 ?side2 A3.out).mono ?_);(case side1=>exact is_HI694);(case side2=>exact bel_);rintro e w7 ⟨v696,rfl,ho0,hi,hb,hk⟩;refine ⟨_,rfl,?_⟩;have HO697:=a_ (Kd.R_lower (Kd.R_newB ho0 (g:=gb691) (o:=.cells #[.int .i64 0,.int .i64 0,.int .i64 0,.int .i64 0,.int .i64 0,.int .i64 0,.string (⟨#[]⟩:ByteArray)] 44 (0,0)) (bp_ BK691.out)) (below_size (bel_)));replace BK691:=a_ (kb_ hk BK691.out NB691_694.out);replace HB:=a_ (hb);replace HI694:=a_ (hi);(try clear hb hk hi ho0)))
 (try simp only [Act.put,List.setIfInBounds_toArray,List.set_cons_zero,List.set_cons_succ])
 go_cut [18] (fun v18 wc=>∃ (kq:Nat) (x18_3:Bool) (x695001_3:Int),v18=.bool x18_3∧Aside0 (spec_DrawLogAdd.j0 kq l0 t695 x18_3 t692 x695001_3=some (r1,r2,r3,r4,r5,r6,r7,r8))∧Aside0 (kq≤k)∧Aside0 (Kd.R k44 44 wc w.heap.size (fun k_=>k_≠gb691) v696 t695)∧Aside0 (wc.heap[gb691]?=some (.cells #[.int .i64 0,.int .i64 0,.int .i64 0,.int .i64 0,.int .i64 0,.int .i64 0,.string (⟨#[]⟩:ByteArray)] 44 (0,0)))∧Aside0 (IsS145 w wc g694 t692 x695001_3)∧Aside0 (Below w.heap.size w wc))
 case first =>
  have H:=HC4.out
  clear HC4
  by_cases c8:(t695.length:Int) > 0
  ·rw [if_pos c8] at H
   have c8b0:decide (0 < (t695.length:Int))=true:=dt_ c8
   have c8b1:decide (0 < t695.length)=true:=dt_ (by omega)
   clear c8
   (first|rw [c8b0]|(simp only [i64_w,i32_w];rw [c8b0])|skip)
   replace H:=bs_ H
   obtain ⟨⟨t699,t700⟩,A90,H⟩:=H
   try dsimp only at H
   have A9:=a_ A90
   clear A90
   have H':=a_ H
   clear H
   obtain ⟨Ao10,co10,eo10⟩:=Kd.R_slice HO697.out
   subst eo10
   go_wp2_with (first|(go_at_call 74;(with_reducible refine (spec_l6Rd_pick.calls k g694 t692 t698 4 t699 t700 w _ ?side1 ?side2 A9.out).mono ?_);(case side1=>exact is_HI694);(case side2=>exact bel_);rintro e w11 ⟨rfl,hi,hb,hk⟩;replace BK691:=a_ (kb_ hk BK691.out NB691_694.out);replace HO697:=a_ (Kd.R_mono (Kd.R_keep (IsS145.apart (show IsS145 w _ g694 t692 t698 from is_HI694) (rp_ HO697.out) (by decide)) hk (fun _ h=>h.2)) (fun _ h=>h.1));replace HB:=a_ (hb);replace HI694:=a_ (hi);(try clear hb hk hi)))
   go_meet
   case rel=>exact ⟨_,((t699==0)),(t700),(si_),H',⟨by first|omega|exact Nat.le_refl _⟩,⟨by (with_reducible repeat (first|apply Kd.R_alloc|apply Kd.R_drewN|apply Kd.R_drew));exact Kd.R_mono HO697.out (fun _ hk=>hk.2)⟩,⟨by (with_reducible repeat (first|refine bN_ ?_ _|refine bD_ ?_|refine bA_ ?_ _));exact BK691.out⟩,⟨is_HI694⟩,⟨bel_⟩⟩
  ·rw [if_neg c8] at H
   have c8b0:decide (0 < (t695.length:Int))=false:=df_ c8
   have c8b1:decide (0 < t695.length)=false:=df_ (by omega)
   clear c8
   (first|rw [c8b0]|(simp only [i64_w,i32_w];rw [c8b0])|skip)
   have H':=a_ H
   clear H
   obtain ⟨Ao12,co12,eo12⟩:=Kd.R_slice HO697.out
   subst eo12
   go_wp2
   go_meet
   case rel=>exact ⟨_,(false),(t698),(si_),H',⟨by first|omega|exact Nat.le_refl _⟩,⟨by (with_reducible repeat (first|apply Kd.R_alloc|apply Kd.R_drewN|apply Kd.R_drew));exact Kd.R_mono HO697.out (fun _ hk=>hk.2)⟩,⟨by (with_reducible repeat (first|refine bN_ ?_ _|refine bD_ ?_|refine bA_ ?_ _));exact BK691.out⟩,⟨is_HI694⟩,⟨bel_⟩⟩
 case rest =>
  clear HC4
  try clear p2
  try clear c3
  try clear c7
  try clear c8
  try clear c8b0
  try clear c8b1
  obtain ⟨kq,x18_3,x695001_3,rfl,HA,HJ3,HO_5,BK691,HI694,HB⟩:=hcut
  cases kq with
  | zero=>exact absurd HA.out (by simp [spec_DrawLogAdd.j0])
  | succ kj3 =>
   have H:=HA.out
   clear HA
   simp only [spec_DrawLogAdd.j0] at H
   by_cases c13:x18_3=true
   ·subst c13
    have H1:((spec_l6Rd_pick.f kj3 t692 x695001_3 (t695.length:Int)).bind fun bt701=>(if 0≤bt701.1 then (if bt701.1 < (t695.length:Int) then (some (t695,(rd_T44 t695 bt701.1).f0,(rd_T44 t695 bt701.1).f1,(rd_T44 t695 bt701.1).f2.f0,(rd_T44 t695 bt701.1).f2.f1,(rd_T44 t695 bt701.1).f2.f2,(rd_T44 t695 bt701.1).f2.f3,(rd_T44 t695 bt701.1).f2.f4)) else (none)) else (none)))=some (r1,r2,r3,r4,r5,r6,r7,r8):=by rw [if_pos rfl] at H;exact H
    clear H
    have H:=H1
    clear H1
    replace H:=bs_ H
    obtain ⟨⟨t701,t702⟩,A140,H⟩:=H
    try dsimp only at H
    have A14:=a_ A140
    clear A140
    by_cases c15:0≤t701
    ·rw [if_pos c15] at H
     have c15b0:decide (0≤t701)=true:=dt_ c15
     clear c15
     by_cases c16:t701 < (t695.length:Int)
     ·rw [if_pos c16] at H
      have c16b0:decide (t701 < (t695.length:Int))=true:=dt_ c16
      clear c16
      simp only [Option.some.injEq,Prod.mk.injEq] at H
      obtain ⟨rfl,rfl,rfl,rfl,rfl,rfl,rfl,rfl⟩:=H
      try go_wp2
      have n0_:=a_ (Kd.R_drew HO_5.out)
      have n1_:=a_ (bD_ BK691.out)
      have n2_:=a_ (IsS145.drew HI694.out)
      have n3_:=a_ (below_drew1 HB.out)
      clear HO_5
      clear BK691
      clear HI694
      clear HB
      have HO_5:=n0_
      have BK691:=n1_
      have HI694:=n2_
      have HB:=n3_
      clear n0_ n1_ n2_ n3_
      obtain ⟨Ao18,co18,eo18⟩:=Kd.R_slice HO_5.out
      (first|subst eo18|(injection eo18 with f1_ f2_ f3_;have f4_:=f1_.symm;have f5_:=f3_.symm;clear f1_ f2_ f3_;subst f4_;subst f5_))
      have p703:0≤(t701:Int):=od_
      have q703:t701 < (t695.length:Int):=od_
      obtain ⟨ad703,e703,hx703_0,hx703_1,hx703_2,hx703_3,hx703_4,hx703_5,hx703_6⟩:=at_T44 (Kd.R_reads' HO_5.out).2.2 t701 p703 q703
      cases e703
      replace p703:=eq_true p703
      replace q703:=eq_true q703
      refine start_ (n:=10) (S:=fun w'=>w'.cell? (ad703.add ((t701).toNat * 7))=some (.int .i64 ((rd_T44 t695 t701).f0))∧w'.cell? ⟨(ad703.add ((t701).toNat * 7)).block,(ad703.add ((t701).toNat * 7)).off+1,none⟩=some (.int .i64 ((rd_T44 t695 t701).f1))∧w'.cell? ⟨(ad703.add ((t701).toNat * 7)).block,(ad703.add ((t701).toNat * 7)).off+2,none⟩=some (.int .i64 ((rd_T44 t695 t701).f2.f0))∧w'.cell? ⟨(ad703.add ((t701).toNat * 7)).block,(ad703.add ((t701).toNat * 7)).off+3,none⟩=some (.int .i64 ((rd_T44 t695 t701).f2.f1))∧w'.cell? ⟨(ad703.add ((t701).toNat * 7)).block,(ad703.add ((t701).toNat * 7)).off+4,none⟩=some (.int .i64 ((rd_T44 t695 t701).f2.f2))∧w'.cell? ⟨(ad703.add ((t701).toNat * 7)).block,(ad703.add ((t701).toNat * 7)).off+5,none⟩=some (.int .i64 ((rd_T44 t695 t701).f2.f3))∧w'.cell? ⟨(ad703.add ((t701).toNat * 7)).block,(ad703.add ((t701).toNat * 7)).off+6,none⟩=some (.string ((rd_T44 t695 t701).f2.f4))) (ds:=[]) #[false,false,false,false,false,false,false,false,false,false] (by kernel_rfl) rfl rfl ⟨hx703_0,hx703_1,hx703_2,hx703_3,hx703_4,hx703_5,hx703_6⟩ (fun hHeld=>?_);refine with_tabW spec_DrawLogAdd.tab4 spec_DrawLogAdd.bits4 (fun HT_ HW_=>?_)
      generalize wc.drew=w17 at HO_5 BK691 HI694 HB hx703_0 hx703_1 hx703_2 hx703_3 hx703_4 hx703_5 hx703_6 hHeld ⊢
      refine pa_ 0 19 ?_
      refine pa_ 1 20 ?_
      refine pa_ 2 21 ?_
      refine pa_ 3 22 ?_
      refine pa_ 4 23 ?_
      refine on_ 5 24 (fun K hK=>?_)
      refine goes_ Tryd.func74 (by kernel_rfl) rfl #[.pointer (some ⟨g694,0,none⟩),.int .i64 (t695.length:Int)] (by rfl) rfl rfl ar_ ?_
      with_reducible refine (spec_l6Rd_pick.calls kj3 g694 t692 x695001_3 (t695.length:Int) t701 t702 w _ ?side1 ?side2 A14.out).mono ?_
      (case side1=>exact is_HI694)
      (case side2=>exact bel_)
      rintro e w19 ⟨rfl,hi,hb,hk⟩
      have HS0_:=keep_cell hk (hHeld.1) (by first|(rw [add_block];exact Kd.own_blk (IsS145.own_ne HI694.out HO_5.out (by decide)))|(show (Addr.add _ _).block≠_;rw [add_block];exact Kd.own_blk (IsS145.own_ne HI694.out HO_5.out (by decide)))|exact Kd.own_blk (IsS145.own_ne HI694.out HO_5.out (by decide)))
      have HS1_:=keep_cell hk (hHeld.2.1) (by first|(rw [add_block];exact Kd.own_blk (IsS145.own_ne HI694.out HO_5.out (by decide)))|(show (Addr.add _ _).block≠_;rw [add_block];exact Kd.own_blk (IsS145.own_ne HI694.out HO_5.out (by decide)))|exact Kd.own_blk (IsS145.own_ne HI694.out HO_5.out (by decide)))
      have HS2_:=keep_cell hk (hHeld.2.2.1) (by first|(rw [add_block];exact Kd.own_blk (IsS145.own_ne HI694.out HO_5.out (by decide)))|(show (Addr.add _ _).block≠_;rw [add_block];exact Kd.own_blk (IsS145.own_ne HI694.out HO_5.out (by decide)))|exact Kd.own_blk (IsS145.own_ne HI694.out HO_5.out (by decide)))
      have HS3_:=keep_cell hk (hHeld.2.2.2.1) (by first|(rw [add_block];exact Kd.own_blk (IsS145.own_ne HI694.out HO_5.out (by decide)))|(show (Addr.add _ _).block≠_;rw [add_block];exact Kd.own_blk (IsS145.own_ne HI694.out HO_5.out (by decide)))|exact Kd.own_blk (IsS145.own_ne HI694.out HO_5.out (by decide)))
      have HS4_:=keep_cell hk (hHeld.2.2.2.2.1) (by first|(rw [add_block];exact Kd.own_blk (IsS145.own_ne HI694.out HO_5.out (by decide)))|(show (Addr.add _ _).block≠_;rw [add_block];exact Kd.own_blk (IsS145.own_ne HI694.out HO_5.out (by decide)))|exact Kd.own_blk (IsS145.own_ne HI694.out HO_5.out (by decide)))
      have HS5_:=keep_cell hk (hHeld.2.2.2.2.2.1) (by first|(rw [add_block];exact Kd.own_blk (IsS145.own_ne HI694.out HO_5.out (by decide)))|(show (Addr.add _ _).block≠_;rw [add_block];exact Kd.own_blk (IsS145.own_ne HI694.out HO_5.out (by decide)))|exact Kd.own_blk (IsS145.own_ne HI694.out HO_5.out (by decide)))
      have HS6_:=keep_cell hk (hHeld.2.2.2.2.2.2) (by first|(rw [add_block];exact Kd.own_blk (IsS145.own_ne HI694.out HO_5.out (by decide)))|(show (Addr.add _ _).block≠_;rw [add_block];exact Kd.own_blk (IsS145.own_ne HI694.out HO_5.out (by decide)))|exact Kd.own_blk (IsS145.own_ne HI694.out HO_5.out (by decide)))
      refine ⟨_,rfl,?_⟩
      have n0_:=a_ (Kd.R_mono (Kd.R_keep (IsS145.apart (show IsS145 w _ g694 t692 x695001_3 from is_HI694) (rp_ HO_5.out) (by decide)) hk (fun _ h=>h.2)) (fun _ h=>h.1))
      have n1_:=a_ (kb_ hk BK691.out NB691_694.out)
      have n2_:=a_ (hb)
      have n3_:=a_ (hi)
      clear HO_5
      clear BK691
      clear HB
      clear HI694
      have HO_5:=n0_
      have BK691:=n1_
      have HB:=n2_
      have HI694:=n3_
      clear n0_ n1_ n2_ n3_
      (try clear hb)
      (try clear hb2)
      (try clear hk)
      (try clear hi)
      refine hK.out _ _ ⟨HS0_,HS1_,HS2_,HS3_,HS4_,HS5_,HS6_⟩ (fun hHeld=>?_)
      clear hK K
      refine no_ 24 ?_
      refine pa_ 6 25 ?_
      refine pa_ 8 2 ?_
      refine ta7_ 7 26 hHeld ?_
      refine one_ (i:=9) (N:=none) #[true,true,true,true,true,true,true,true,true,true] rfl rfl (one_of HT_.out (by kernel_rfl)) (by decide) (fun K hK=>?_)
      have hs20:w19.cell? ⟨gb691,0,none⟩=some (.int .i64 0):=(bC_ BK691.out 0).trans rfl
      have hfs20:=bF_ BK691.out 0
      have hs21:w19.cell? ⟨gb691,1,none⟩=some (.int .i64 0):=(bC_ BK691.out 1).trans rfl
      have hfs21:=bF_ BK691.out 1
      have hs22:w19.cell? ⟨gb691,2,none⟩=some (.int .i64 0):=(bC_ BK691.out 2).trans rfl
      have hfs22:=bF_ BK691.out 2
      have hs23:w19.cell? ⟨gb691,3,none⟩=some (.int .i64 0):=(bC_ BK691.out 3).trans rfl
      have hfs23:=bF_ BK691.out 3
      have hs24:w19.cell? ⟨gb691,4,none⟩=some (.int .i64 0):=(bC_ BK691.out 4).trans rfl
      have hfs24:=bF_ BK691.out 4
      have hs25:w19.cell? ⟨gb691,5,none⟩=some (.int .i64 0):=(bC_ BK691.out 5).trans rfl
      have hfs25:=bF_ BK691.out 5
      have hs26:w19.cell? ⟨gb691,6,none⟩=some (.string (⟨#[]⟩:ByteArray)):=(bC_ BK691.out 6).trans rfl
      have hfs26:=bF_ BK691.out 6
      refine skip_ (w1:=?_) (by rfl) rfl ?_ ?_
      rotate_left
      ·go_simp
       rfl
      refine hK.out _ _ ⟨((cF_ (p:=⟨gb691,_,none⟩) (by first|exact Kd.own_blk (Kd.R_away HO_5.out (fun _ hk=>hk))|(rw [add_block];exact Kd.own_blk (Kd.R_away HO_5.out (fun _ hk=>hk)))|(show (Addr.add _ _).block≠_;rw [add_block];exact Kd.own_blk (Kd.R_away HO_5.out (fun _ hk=>hk)))|(dsimp only;exact Kd.own_blk (Kd.R_away HO_5.out (fun _ hk=>hk)))) _).trans (((cF_ (p:=⟨gb691,_,none⟩) (by first|exact Kd.own_blk (Kd.R_away HO_5.out (fun _ hk=>hk))|(rw [add_block];exact Kd.own_blk (Kd.R_away HO_5.out (fun _ hk=>hk)))|(show (Addr.add _ _).block≠_;rw [add_block];exact Kd.own_blk (Kd.R_away HO_5.out (fun _ hk=>hk)))|(dsimp only;exact Kd.own_blk (Kd.R_away HO_5.out (fun _ hk=>hk)))) _).trans (((cF_ (p:=⟨gb691,_,none⟩) (by first|exact Kd.own_blk (Kd.R_away HO_5.out (fun _ hk=>hk))|(rw [add_block];exact Kd.own_blk (Kd.R_away HO_5.out (fun _ hk=>hk)))|(show (Addr.add _ _).block≠_;rw [add_block];exact Kd.own_blk (Kd.R_away HO_5.out (fun _ hk=>hk)))|(dsimp only;exact Kd.own_blk (Kd.R_away HO_5.out (fun _ hk=>hk)))) _).trans (((cF_ (p:=⟨gb691,_,none⟩) (by first|exact Kd.own_blk (Kd.R_away HO_5.out (fun _ hk=>hk))|(rw [add_block];exact Kd.own_blk (Kd.R_away HO_5.out (fun _ hk=>hk)))|(show (Addr.add _ _).block≠_;rw [add_block];exact Kd.own_blk (Kd.R_away HO_5.out (fun _ hk=>hk)))|(dsimp only;exact Kd.own_blk (Kd.R_away HO_5.out (fun _ hk=>hk)))) _).trans (((cF_ (p:=⟨gb691,_,none⟩) (by first|exact Kd.own_blk (Kd.R_away HO_5.out (fun _ hk=>hk))|(rw [add_block];exact Kd.own_blk (Kd.R_away HO_5.out (fun _ hk=>hk)))|(show (Addr.add _ _).block≠_;rw [add_block];exact Kd.own_blk (Kd.R_away HO_5.out (fun _ hk=>hk)))|(dsimp only;exact Kd.own_blk (Kd.R_away HO_5.out (fun _ hk=>hk)))) _).trans (((cF_ (p:=⟨gb691,_,none⟩) (by first|exact Kd.own_blk (Kd.R_away HO_5.out (fun _ hk=>hk))|(rw [add_block];exact Kd.own_blk (Kd.R_away HO_5.out (fun _ hk=>hk)))|(show (Addr.add _ _).block≠_;rw [add_block];exact Kd.own_blk (Kd.R_away HO_5.out (fun _ hk=>hk)))|(dsimp only;exact Kd.own_blk (Kd.R_away HO_5.out (fun _ hk=>hk)))) _).trans (((cF_ (p:=⟨gb691,_,none⟩) (by first|exact Kd.own_blk (Kd.R_away HO_5.out (fun _ hk=>hk))|(rw [add_block];exact Kd.own_blk (Kd.R_away HO_5.out (fun _ hk=>hk)))|(show (Addr.add _ _).block≠_;rw [add_block];exact Kd.own_blk (Kd.R_away HO_5.out (fun _ hk=>hk)))|(dsimp only;exact Kd.own_blk (Kd.R_away HO_5.out (fun _ hk=>hk)))) _).trans (hHeld.1)))))))))))))),((cF_ (p:=⟨gb691,_,none⟩) (by first|exact Kd.own_blk (Kd.R_away HO_5.out (fun _ hk=>hk))|(rw [add_block];exact Kd.own_blk (Kd.R_away HO_5.out (fun _ hk=>hk)))|(show (Addr.add _ _).block≠_;rw [add_block];exact Kd.own_blk (Kd.R_away HO_5.out (fun _ hk=>hk)))|(dsimp only;exact Kd.own_blk (Kd.R_away HO_5.out (fun _ hk=>hk)))) _).trans (((cF_ (p:=⟨gb691,_,none⟩) (by first|exact Kd.own_blk (Kd.R_away HO_5.out (fun _ hk=>hk))|(rw [add_block];exact Kd.own_blk (Kd.R_away HO_5.out (fun _ hk=>hk)))|(show (Addr.add _ _).block≠_;rw [add_block];exact Kd.own_blk (Kd.R_away HO_5.out (fun _ hk=>hk)))|(dsimp only;exact Kd.own_blk (Kd.R_away HO_5.out (fun _ hk=>hk)))) _).trans (((cF_ (p:=⟨gb691,_,none⟩) (by first|exact Kd.own_blk (Kd.R_away HO_5.out (fun _ hk=>hk))|(rw [add_block];exact Kd.own_blk (Kd.R_away HO_5.out (fun _ hk=>hk)))|(show (Addr.add _ _).block≠_;rw [add_block];exact Kd.own_blk (Kd.R_away HO_5.out (fun _ hk=>hk)))|(dsimp only;exact Kd.own_blk (Kd.R_away HO_5.out (fun _ hk=>hk)))) _).trans (((cF_ (p:=⟨gb691,_,none⟩) (by first|exact Kd.own_blk (Kd.R_away HO_5.out (fun _ hk=>hk))|(rw [add_block];exact Kd.own_blk (Kd.R_away HO_5.out (fun _ hk=>hk)))|(show (Addr.add _ _).block≠_;rw [add_block];exact Kd.own_blk (Kd.R_away HO_5.out (fun _ hk=>hk)))|(dsimp only;exact Kd.own_blk (Kd.R_away HO_5.out (fun _ hk=>hk)))) _).trans (((cF_ (p:=⟨gb691,_,none⟩) (by first|exact Kd.own_blk (Kd.R_away HO_5.out (fun _ hk=>hk))|(rw [add_block];exact Kd.own_blk (Kd.R_away HO_5.out (fun _ hk=>hk)))|(show (Addr.add _ _).block≠_;rw [add_block];exact Kd.own_blk (Kd.R_away HO_5.out (fun _ hk=>hk)))|(dsimp only;exact Kd.own_blk (Kd.R_away HO_5.out (fun _ hk=>hk)))) _).trans (((cF_ (p:=⟨gb691,_,none⟩) (by first|exact Kd.own_blk (Kd.R_away HO_5.out (fun _ hk=>hk))|(rw [add_block];exact Kd.own_blk (Kd.R_away HO_5.out (fun _ hk=>hk)))|(show (Addr.add _ _).block≠_;rw [add_block];exact Kd.own_blk (Kd.R_away HO_5.out (fun _ hk=>hk)))|(dsimp only;exact Kd.own_blk (Kd.R_away HO_5.out (fun _ hk=>hk)))) _).trans (((cF_ (p:=⟨gb691,_,none⟩) (by first|exact Kd.own_blk (Kd.R_away HO_5.out (fun _ hk=>hk))|(rw [add_block];exact Kd.own_blk (Kd.R_away HO_5.out (fun _ hk=>hk)))|(show (Addr.add _ _).block≠_;rw [add_block];exact Kd.own_blk (Kd.R_away HO_5.out (fun _ hk=>hk)))|(dsimp only;exact Kd.own_blk (Kd.R_away HO_5.out (fun _ hk=>hk)))) _).trans (hHeld.2.1)))))))))))))),((cF_ (p:=⟨gb691,_,none⟩) (by first|exact Kd.own_blk (Kd.R_away HO_5.out (fun _ hk=>hk))|(rw [add_block];exact Kd.own_blk (Kd.R_away HO_5.out (fun _ hk=>hk)))|(show (Addr.add _ _).block≠_;rw [add_block];exact Kd.own_blk (Kd.R_away HO_5.out (fun _ hk=>hk)))|(dsimp only;exact Kd.own_blk (Kd.R_away HO_5.out (fun _ hk=>hk)))) _).trans (((cF_ (p:=⟨gb691,_,none⟩) (by first|exact Kd.own_blk (Kd.R_away HO_5.out (fun _ hk=>hk))|(rw [add_block];exact Kd.own_blk (Kd.R_away HO_5.out (fun _ hk=>hk)))|(show (Addr.add _ _).block≠_;rw [add_block];exact Kd.own_blk (Kd.R_away HO_5.out (fun _ hk=>hk)))|(dsimp only;exact Kd.own_blk (Kd.R_away HO_5.out (fun _ hk=>hk)))) _).trans (((cF_ (p:=⟨gb691,_,none⟩) (by first|exact Kd.own_blk (Kd.R_away HO_5.out (fun _ hk=>hk))|(rw [add_block];exact Kd.own_blk (Kd.R_away HO_5.out (fun _ hk=>hk)))|(show (Addr.add _ _).block≠_;rw [add_block];exact Kd.own_blk (Kd.R_away HO_5.out (fun _ hk=>hk)))|(dsimp only;exact Kd.own_blk (Kd.R_away HO_5.out (fun _ hk=>hk)))) _).trans (((cF_ (p:=⟨gb691,_,none⟩) (by first|exact Kd.own_blk (Kd.R_away HO_5.out (fun _ hk=>hk))|(rw [add_block];exact Kd.own_blk (Kd.R_away HO_5.out (fun _ hk=>hk)))|(show (Addr.add _ _).block≠_;rw [add_block];exact Kd.own_blk (Kd.R_away HO_5.out (fun _ hk=>hk)))|(dsimp only;exact Kd.own_blk (Kd.R_away HO_5.out (fun _ hk=>hk)))) _).trans (((cF_ (p:=⟨gb691,_,none⟩) (by first|exact Kd.own_blk (Kd.R_away HO_5.out (fun _ hk=>hk))|(rw [add_block];exact Kd.own_blk (Kd.R_away HO_5.out (fun _ hk=>hk)))|(show (Addr.add _ _).block≠_;rw [add_block];exact Kd.own_blk (Kd.R_away HO_5.out (fun _ hk=>hk)))|(dsimp only;exact Kd.own_blk (Kd.R_away HO_5.out (fun _ hk=>hk)))) _).trans (((cF_ (p:=⟨gb691,_,none⟩) (by first|exact Kd.own_blk (Kd.R_away HO_5.out (fun _ hk=>hk))|(rw [add_block];exact Kd.own_blk (Kd.R_away HO_5.out (fun _ hk=>hk)))|(show (Addr.add _ _).block≠_;rw [add_block];exact Kd.own_blk (Kd.R_away HO_5.out (fun _ hk=>hk)))|(dsimp only;exact Kd.own_blk (Kd.R_away HO_5.out (fun _ hk=>hk)))) _).trans (((cF_ (p:=⟨gb691,_,none⟩) (by first|exact Kd.own_blk (Kd.R_away HO_5.out (fun _ hk=>hk))|(rw [add_block];exact Kd.own_blk (Kd.R_away HO_5.out (fun _ hk=>hk)))|(show (Addr.add _ _).block≠_;rw [add_block];exact Kd.own_blk (Kd.R_away HO_5.out (fun _ hk=>hk)))|(dsimp only;exact Kd.own_blk (Kd.R_away HO_5.out (fun _ hk=>hk)))) _).trans (hHeld.2.2.1)))))))))))))),((cF_ (p:=⟨gb691,_,none⟩) (by first|exact Kd.own_blk (Kd.R_away HO_5.out (fun _ hk=>hk))|(rw [add_block];exact Kd.own_blk (Kd.R_away HO_5.out (fun _ hk=>hk)))|(show (Addr.add _ _).block≠_;rw [add_block];exact Kd.own_blk (Kd.R_away HO_5.out (fun _ hk=>hk)))|(dsimp only;exact Kd.own_blk (Kd.R_away HO_5.out (fun _ hk=>hk)))) _).trans (((cF_ (p:=⟨gb691,_,none⟩) (by first|exact Kd.own_blk (Kd.R_away HO_5.out (fun _ hk=>hk))|(rw [add_block];exact Kd.own_blk (Kd.R_away HO_5.out (fun _ hk=>hk)))|(show (Addr.add _ _).block≠_;rw [add_block];exact Kd.own_blk (Kd.R_away HO_5.out (fun _ hk=>hk)))|(dsimp only;exact Kd.own_blk (Kd.R_away HO_5.out (fun _ hk=>hk)))) _).trans (((cF_ (p:=⟨gb691,_,none⟩) (by first|exact Kd.own_blk (Kd.R_away HO_5.out (fun _ hk=>hk))|(rw [add_block];exact Kd.own_blk (Kd.R_away HO_5.out (fun _ hk=>hk)))|(show (Addr.add _ _).block≠_;rw [add_block];exact Kd.own_blk (Kd.R_away HO_5.out (fun _ hk=>hk)))|(dsimp only;exact Kd.own_blk (Kd.R_away HO_5.out (fun _ hk=>hk)))) _).trans (((cF_ (p:=⟨gb691,_,none⟩) (by first|exact Kd.own_blk (Kd.R_away HO_5.out (fun _ hk=>hk))|(rw [add_block];exact Kd.own_blk (Kd.R_away HO_5.out (fun _ hk=>hk)))|(show (Addr.add _ _).block≠_;rw [add_block];exact Kd.own_blk (Kd.R_away HO_5.out (fun _ hk=>hk)))|(dsimp only;exact Kd.own_blk (Kd.R_away HO_5.out (fun _ hk=>hk)))) _).trans (((cF_ (p:=⟨gb691,_,none⟩) (by first|exact Kd.own_blk (Kd.R_away HO_5.out (fun _ hk=>hk))|(rw [add_block];exact Kd.own_blk (Kd.R_away HO_5.out (fun _ hk=>hk)))|(show (Addr.add _ _).block≠_;rw [add_block];exact Kd.own_blk (Kd.R_away HO_5.out (fun _ hk=>hk)))|(dsimp only;exact Kd.own_blk (Kd.R_away HO_5.out (fun _ hk=>hk)))) _).trans (((cF_ (p:=⟨gb691,_,none⟩) (by first|exact Kd.own_blk (Kd.R_away HO_5.out (fun _ hk=>hk))|(rw [add_block];exact Kd.own_blk (Kd.R_away HO_5.out (fun _ hk=>hk)))|(show (Addr.add _ _).block≠_;rw [add_block];exact Kd.own_blk (Kd.R_away HO_5.out (fun _ hk=>hk)))|(dsimp only;exact Kd.own_blk (Kd.R_away HO_5.out (fun _ hk=>hk)))) _).trans (((cF_ (p:=⟨gb691,_,none⟩) (by first|exact Kd.own_blk (Kd.R_away HO_5.out (fun _ hk=>hk))|(rw [add_block];exact Kd.own_blk (Kd.R_away HO_5.out (fun _ hk=>hk)))|(show (Addr.add _ _).block≠_;rw [add_block];exact Kd.own_blk (Kd.R_away HO_5.out (fun _ hk=>hk)))|(dsimp only;exact Kd.own_blk (Kd.R_away HO_5.out (fun _ hk=>hk)))) _).trans (hHeld.2.2.2.1)))))))))))))),((cF_ (p:=⟨gb691,_,none⟩) (by first|exact Kd.own_blk (Kd.R_away HO_5.out (fun _ hk=>hk))|(rw [add_block];exact Kd.own_blk (Kd.R_away HO_5.out (fun _ hk=>hk)))|(show (Addr.add _ _).block≠_;rw [add_block];exact Kd.own_blk (Kd.R_away HO_5.out (fun _ hk=>hk)))|(dsimp only;exact Kd.own_blk (Kd.R_away HO_5.out (fun _ hk=>hk)))) _).trans (((cF_ (p:=⟨gb691,_,none⟩) (by first|exact Kd.own_blk (Kd.R_away HO_5.out (fun _ hk=>hk))|(rw [add_block];exact Kd.own_blk (Kd.R_away HO_5.out (fun _ hk=>hk)))|(show (Addr.add _ _).block≠_;rw [add_block];exact Kd.own_blk (Kd.R_away HO_5.out (fun _ hk=>hk)))|(dsimp only;exact Kd.own_blk (Kd.R_away HO_5.out (fun _ hk=>hk)))) _).trans (((cF_ (p:=⟨gb691,_,none⟩) (by first|exact Kd.own_blk (Kd.R_away HO_5.out (fun _ hk=>hk))|(rw [add_block];exact Kd.own_blk (Kd.R_away HO_5.out (fun _ hk=>hk)))|(show (Addr.add _ _).block≠_;rw [add_block];exact Kd.own_blk (Kd.R_away HO_5.out (fun _ hk=>hk)))|(dsimp only;exact Kd.own_blk (Kd.R_away HO_5.out (fun _ hk=>hk)))) _).trans (((cF_ (p:=⟨gb691,_,none⟩) (by first|exact Kd.own_blk (Kd.R_away HO_5.out (fun _ hk=>hk))|(rw [add_block];exact Kd.own_blk (Kd.R_away HO_5.out (fun _ hk=>hk)))|(show (Addr.add _ _).block≠_;rw [add_block];exact Kd.own_blk (Kd.R_away HO_5.out (fun _ hk=>hk)))|(dsimp only;exact Kd.own_blk (Kd.R_away HO_5.out (fun _ hk=>hk)))) _).trans (((cF_ (p:=⟨gb691,_,none⟩) (by first|exact Kd.own_blk (Kd.R_away HO_5.out (fun _ hk=>hk))|(rw [add_block];exact Kd.own_blk (Kd.R_away HO_5.out (fun _ hk=>hk)))|(show (Addr.add _ _).block≠_;rw [add_block];exact Kd.own_blk (Kd.R_away HO_5.out (fun _ hk=>hk)))|(dsimp only;exact Kd.own_blk (Kd.R_away HO_5.out (fun _ hk=>hk)))) _).trans (((cF_ (p:=⟨gb691,_,none⟩) (by first|exact Kd.own_blk (Kd.R_away HO_5.out (fun _ hk=>hk))|(rw [add_block];exact Kd.own_blk (Kd.R_away HO_5.out (fun _ hk=>hk)))|(show (Addr.add _ _).block≠_;rw [add_block];exact Kd.own_blk (Kd.R_away HO_5.out (fun _ hk=>hk)))|(dsimp only;exact Kd.own_blk (Kd.R_away HO_5.out (fun _ hk=>hk)))) _).trans (((cF_ (p:=⟨gb691,_,none⟩) (by first|exact Kd.own_blk (Kd.R_away HO_5.out (fun _ hk=>hk))|(rw [add_block];exact Kd.own_blk (Kd.R_away HO_5.out (fun _ hk=>hk)))|(show (Addr.add _ _).block≠_;rw [add_block];exact Kd.own_blk (Kd.R_away HO_5.out (fun _ hk=>hk)))|(dsimp only;exact Kd.own_blk (Kd.R_away HO_5.out (fun _ hk=>hk)))) _).trans (hHeld.2.2.2.2.1)))))))))))))),((cF_ (p:=⟨gb691,_,none⟩) (by first|exact Kd.own_blk (Kd.R_away HO_5.out (fun _ hk=>hk))|(rw [add_block];exact Kd.own_blk (Kd.R_away HO_5.out (fun _ hk=>hk)))|(show (Addr.add _ _).block≠_;rw [add_block];exact Kd.own_blk (Kd.R_away HO_5.out (fun _ hk=>hk)))|(dsimp only;exact Kd.own_blk (Kd.R_away HO_5.out (fun _ hk=>hk)))) _).trans (((cF_ (p:=⟨gb691,_,none⟩) (by first|exact Kd.own_blk (Kd.R_away HO_5.out (fun _ hk=>hk))|(rw [add_block];exact Kd.own_blk (Kd.R_away HO_5.out (fun _ hk=>hk)))|(show (Addr.add _ _).block≠_;rw [add_block];exact Kd.own_blk (Kd.R_away HO_5.out (fun _ hk=>hk)))|(dsimp only;exact Kd.own_blk (Kd.R_away HO_5.out (fun _ hk=>hk)))) _).trans (((cF_ (p:=⟨gb691,_,none⟩) (by first|exact Kd.own_blk (Kd.R_away HO_5.out (fun _ hk=>hk))|(rw [add_block];exact Kd.own_blk (Kd.R_away HO_5.out (fun _ hk=>hk)))|(show (Addr.add _ _).block≠_;rw [add_block];exact Kd.own_blk (Kd.R_away HO_5.out (fun _ hk=>hk)))|(dsimp only;exact Kd.own_blk (Kd.R_away HO_5.out (fun _ hk=>hk)))) _).trans (((cF_ (p:=⟨gb691,_,none⟩) (by first|exact Kd.own_blk (Kd.R_away HO_5.out (fun _ hk=>hk))|(rw [add_block];exact Kd.own_blk (Kd.R_away HO_5.out (fun _ hk=>hk)))|(show (Addr.add _ _).block≠_;rw [add_block];exact Kd.own_blk (Kd.R_away HO_5.out (fun _ hk=>hk)))|(dsimp only;exact Kd.own_blk (Kd.R_away HO_5.out (fun _ hk=>hk)))) _).trans (((cF_ (p:=⟨gb691,_,none⟩) (by first|exact Kd.own_blk (Kd.R_away HO_5.out (fun _ hk=>hk))|(rw [add_block];exact Kd.own_blk (Kd.R_away HO_5.out (fun _ hk=>hk)))|(show (Addr.add _ _).block≠_;rw [add_block];exact Kd.own_blk (Kd.R_away HO_5.out (fun _ hk=>hk)))|(dsimp only;exact Kd.own_blk (Kd.R_away HO_5.out (fun _ hk=>hk)))) _).trans (((cF_ (p:=⟨gb691,_,none⟩) (by first|exact Kd.own_blk (Kd.R_away HO_5.out (fun _ hk=>hk))|(rw [add_block];exact Kd.own_blk (Kd.R_away HO_5.out (fun _ hk=>hk)))|(show (Addr.add _ _).block≠_;rw [add_block];exact Kd.own_blk (Kd.R_away HO_5.out (fun _ hk=>hk)))|(dsimp only;exact Kd.own_blk (Kd.R_away HO_5.out (fun _ hk=>hk)))) _).trans (((cF_ (p:=⟨gb691,_,none⟩) (by first|exact Kd.own_blk (Kd.R_away HO_5.out (fun _ hk=>hk))|(rw [add_block];exact Kd.own_blk (Kd.R_away HO_5.out (fun _ hk=>hk)))|(show (Addr.add _ _).block≠_;rw [add_block];exact Kd.own_blk (Kd.R_away HO_5.out (fun _ hk=>hk)))|(dsimp only;exact Kd.own_blk (Kd.R_away HO_5.out (fun _ hk=>hk)))) _).trans (hHeld.2.2.2.2.2.1)))))))))))))),((cF_ (p:=⟨gb691,_,none⟩) (by first|exact Kd.own_blk (Kd.R_away HO_5.out (fun _ hk=>hk))|(rw [add_block];exact Kd.own_blk (Kd.R_away HO_5.out (fun _ hk=>hk)))|(show (Addr.add _ _).block≠_;rw [add_block];exact Kd.own_blk (Kd.R_away HO_5.out (fun _ hk=>hk)))|(dsimp only;exact Kd.own_blk (Kd.R_away HO_5.out (fun _ hk=>hk)))) _).trans (((cF_ (p:=⟨gb691,_,none⟩) (by first|exact Kd.own_blk (Kd.R_away HO_5.out (fun _ hk=>hk))|(rw [add_block];exact Kd.own_blk (Kd.R_away HO_5.out (fun _ hk=>hk)))|(show (Addr.add _ _).block≠_;rw [add_block];exact Kd.own_blk (Kd.R_away HO_5.out (fun _ hk=>hk)))|(dsimp only;exact Kd.own_blk (Kd.R_away HO_5.out (fun _ hk=>hk)))) _).trans (((cF_ (p:=⟨gb691,_,none⟩) (by first|exact Kd.own_blk (Kd.R_away HO_5.out (fun _ hk=>hk))|(rw [add_block];exact Kd.own_blk (Kd.R_away HO_5.out (fun _ hk=>hk)))|(show (Addr.add _ _).block≠_;rw [add_block];exact Kd.own_blk (Kd.R_away HO_5.out (fun _ hk=>hk)))|(dsimp only;exact Kd.own_blk (Kd.R_away HO_5.out (fun _ hk=>hk)))) _).trans (((cF_ (p:=⟨gb691,_,none⟩) (by first|exact Kd.own_blk (Kd.R_away HO_5.out (fun _ hk=>hk))|(rw [add_block];exact Kd.own_blk (Kd.R_away HO_5.out (fun _ hk=>hk)))|(show (Addr.add _ _).block≠_;rw [add_block];exact Kd.own_blk (Kd.R_away HO_5.out (fun _ hk=>hk)))|(dsimp only;exact Kd.own_blk (Kd.R_away HO_5.out (fun _ hk=>hk)))) _).trans (((cF_ (p:=⟨gb691,_,none⟩) (by first|exact Kd.own_blk (Kd.R_away HO_5.out (fun _ hk=>hk))|(rw [add_block];exact Kd.own_blk (Kd.R_away HO_5.out (fun _ hk=>hk)))|(show (Addr.add _ _).block≠_;rw [add_block];exact Kd.own_blk (Kd.R_away HO_5.out (fun _ hk=>hk)))|(dsimp only;exact Kd.own_blk (Kd.R_away HO_5.out (fun _ hk=>hk)))) _).trans (((cF_ (p:=⟨gb691,_,none⟩) (by first|exact Kd.own_blk (Kd.R_away HO_5.out (fun _ hk=>hk))|(rw [add_block];exact Kd.own_blk (Kd.R_away HO_5.out (fun _ hk=>hk)))|(show (Addr.add _ _).block≠_;rw [add_block];exact Kd.own_blk (Kd.R_away HO_5.out (fun _ hk=>hk)))|(dsimp only;exact Kd.own_blk (Kd.R_away HO_5.out (fun _ hk=>hk)))) _).trans (((cF_ (p:=⟨gb691,_,none⟩) (by first|exact Kd.own_blk (Kd.R_away HO_5.out (fun _ hk=>hk))|(rw [add_block];exact Kd.own_blk (Kd.R_away HO_5.out (fun _ hk=>hk)))|(show (Addr.add _ _).block≠_;rw [add_block];exact Kd.own_blk (Kd.R_away HO_5.out (fun _ hk=>hk)))|(dsimp only;exact Kd.own_blk (Kd.R_away HO_5.out (fun _ hk=>hk)))) _).trans (hHeld.2.2.2.2.2.2))))))))))))))⟩ (fun hHeld=>?_)
      clear hK K
      refine done_ (done_of HT_.out (by kernel_rfl)) ?_
      try go_wp2
      refine bodyPost_ret (results_tc rfl _ _ gb691 44 #[.int .i64 ((rd_T44 t695 t701).f0),.int .i64 ((rd_T44 t695 t701).f1),.int .i64 ((rd_T44 t695 t701).f2.f0),.int .i64 ((rd_T44 t695 t701).f2.f1),.int .i64 ((rd_T44 t695 t701).f2.f2),.int .i64 ((rd_T44 t695 t701).f2.f3),.string ((rd_T44 t695 t701).f2.f4)] (0,0) _ rfl (by (with_reducible repeat (first|refine bN_ ?_ _|refine bD_ ?_|refine bA_ ?_ _));exact bk7_ (bp_ BK691.out)) Tryd.underlying44 rfl (by kernel_rfl)) rfl ?_
      exact ⟨_,fi_,by (with_reducible repeat (first|apply Kd.R_alloc|apply Kd.R_drewN|apply Kd.R_drew));exact Kd.R_mono (Kd.R_far (p:=⟨gb691,6,none⟩) (Kd.R_far (p:=⟨gb691,5,none⟩) (Kd.R_far (p:=⟨gb691,4,none⟩) (Kd.R_far (p:=⟨gb691,3,none⟩) (Kd.R_far (p:=⟨gb691,2,none⟩) (Kd.R_far (p:=⟨gb691,1,none⟩) (Kd.R_far (p:=⟨gb691,0,none⟩) (Kd.R_mono HO_5.out (fun k_ hk=>(⟨hk,hk⟩:_∧k_≠gb691))) (fun _ hk=>hk.2) (.int .i64 ((rd_T44 t695 t701).f0))) (fun _ hk=>hk.2) (.int .i64 ((rd_T44 t695 t701).f1))) (fun _ hk=>hk.2) (.int .i64 ((rd_T44 t695 t701).f2.f0))) (fun _ hk=>hk.2) (.int .i64 ((rd_T44 t695 t701).f2.f1))) (fun _ hk=>hk.2) (.int .i64 ((rd_T44 t695 t701).f2.f2))) (fun _ hk=>hk.2) (.int .i64 ((rd_T44 t695 t701).f2.f3))) (fun _ hk=>hk.2) (.string ((rd_T44 t695 t701).f2.f4))) (fun _ hk=>trivial),bel_⟩
     ·rw [if_neg c16] at H
      exact absurd H (by simp)
    ·rw [if_neg c15] at H
     exact absurd H (by simp)
   ·replace c13:=Bool.eq_false_iff.mpr c13
    subst c13
    have H1:((spec_DrawEntryOk.f kj3 l0).bind fun bt704=>((spec_l6Rd_pick.f kj3 t692 x695001_3 6).bind fun bt712=>(if bt712.1 > 0 then ((spec_l12Seq.f kj3 t695 bt704.1).bind fun t714=>(some (t695,bt704.1,wrap64 (t714+1),bt704.2.2.1,bt704.2.2.2.1,bt704.2.2.2.2.1,bt704.2.2.2.2.2.1,bt704.2.2.2.2.2.2))) else (some (t695,bt704.1,bt704.2.1,bt704.2.2.1,bt704.2.2.2.1,bt704.2.2.2.2.1,bt704.2.2.2.2.2.1,bt704.2.2.2.2.2.2)))))=some (r1,r2,r3,r4,r5,r6,r7,r8):=by rw [if_neg (show ¬ (false=true) by decide)] at H;exact H
    clear H
    have H:=H1
    clear H1
    replace H:=bs_ H
    obtain ⟨⟨t704,t705,t706,t707,t708,t709,t710⟩,A270,H⟩:=H
    try dsimp only at H
    have A27:=a_ A270
    clear A270
    replace H:=bs_ H
    obtain ⟨⟨t712,t713⟩,A280,H⟩:=H
    try dsimp only at H
    have A28:=a_ A280
    clear A280
    by_cases c29:t712 > 0
    ·rw [if_pos c29] at H
     have c29b0:decide (0 < t712)=true:=dt_ c29
     clear c29
     replace H:=bs_ H
     obtain ⟨t714,A300,H⟩:=H
     try dsimp only at H
     have A30:=a_ A300
     clear A300
     simp only [Option.some.injEq,Prod.mk.injEq] at H
     obtain ⟨rfl,rfl,rfl,rfl,rfl,rfl,rfl,rfl⟩:=H
     try go_wp2_with (first|((with_reducible refine gC_ (f:=89) rfl ?_);refine gl_ 28 Tryd.func89 #[.slice A0 l0.length c0] ?_;(with_reducible refine (spec_DrawEntryOk.calls kj3 _ _ l0 t704 t705 t706 t707 t708 t709 t710 _ ?side1 ?side2 A27.out).mono ?_);(case side1=>exact cp_ HR0.out);(case side2=>exact HC0.out);rintro e w31 ⟨rfl,hb⟩;refine ⟨_,rfl,?_⟩;replace HO_5:=a_ (Kd.R_below (rp_ HO_5.out) hb);replace HB:=a_ (bS_ (bel_) hb);replace BK691:=a_ (bb_ BK691.out hb);replace HI694:=a_ (IsS145.below (is_HI694) hb);(try clear hb))|((with_reducible refine gD_ (N:=6) rfl ?_);refine bx_ 6 (#[.int .i64 0,.int .i64 0,.int .i64 0,.int .i64 0,.int .i64 0,.int .i64 0,.string (⟨#[]⟩:ByteArray)]) 44 ?_;intro gb711 hg w32 hbox hb;have n0_:=a_ (Kd.R_below (Kd.R_elderB (rp_ HO_5.out) gb711 (Nat.le_of_eq hg.symm)) hb);have n1_:=a_ (bb_ BK691.out hb);have n2_:=a_ (IsS145.below (is_HI694) hb);have n3_:=a_ (bS_ (bel_) hb);have n4_:=a_ (hbox);have n5_:=a_ ((by rw [hg];exact (below_size (bel_)):w.heap.size≤gb711));have n6_:=a_ ((by rw [hg];exact (below_size (bel_)):w.heap.size≤gb711));have n7_:=a_ ((by rw [hg];exact Nat.ne_of_lt (blk_lt (g:=gb691) (o:=.cells #[.int .i64 0,.int .i64 0,.int .i64 0,.int .i64 0,.int .i64 0,.int .i64 0,.string (⟨#[]⟩:ByteArray)] 44 (0,0)) (bp_ BK691.out)):gb691≠gb711));have n8_:=a_ ((by rw [hg];exact Nat.ne_of_gt (blk_lt (g:=gb691) (o:=.cells #[.int .i64 0,.int .i64 0,.int .i64 0,.int .i64 0,.int .i64 0,.int .i64 0,.string (⟨#[]⟩:ByteArray)] 44 (0,0)) (bp_ BK691.out)):gb711≠gb691));have n9_:=a_ ((by rw [hg];exact Nat.ne_of_lt (IsS145.lt (show IsS145 w _ g694 t692 x695001_3 from is_HI694)):g694≠gb711));have n10_:=a_ ((by rw [hg];exact Nat.ne_of_gt (IsS145.lt (show IsS145 w _ g694 t692 x695001_3 from is_HI694)):gb711≠g694));clear HO_5;clear BK691;clear HI694;clear HB;have HO_5:=n0_;have BK691:=n1_;have HI694:=n2_;have HB:=n3_;have BK711:=n4_;have GW711:=n5_;have GE711:=n6_;have NB691_711:=n7_;have NB711_691:=n8_;have NB694_711:=n9_;have NB711_694:=n10_;clear n0_ n1_ n2_ n3_ n4_ n5_ n6_ n7_ n8_ n9_ n10_;clear hb hbox hg;have hnb33:=NB711_691.out;have hnc33:=NB691_711.out;have hnb34:=NB711_694.out;have hnc34:=NB694_711.out;obtain ⟨Z35_0,Z35_1,Z35_2,Z35_3,Z35_4,Z35_5,Z35_6,Y35_0,Y35_1,Y35_2,Y35_3,Y35_4,Y35_5,Y35_6⟩:=op7_ BK711.out)|((with_reducible refine gC_ (f:=74) rfl ?_);refine gl_ 30 Tryd.func74 #[.pointer (some ⟨g694,0,none⟩),.int .i64 6] ?_;(with_reducible refine (spec_l6Rd_pick.calls kj3 g694 t692 x695001_3 6 t712 t713 w _ ?side1 ?side2 A28.out).mono ?_);(case side1=>exact is_HI694);(case side2=>exact bel_);rintro e w36 ⟨rfl,hi,hb,hk⟩;refine ⟨_,rfl,?_⟩;have n0_:=a_ (Kd.R_mono (Kd.R_keep (IsS145.apart (show IsS145 w _ g694 t692 x695001_3 from is_HI694) (by (with_reducible repeat (first|apply Kd.R_alloc|apply Kd.R_drewN|apply Kd.R_drew));exact (Kd.R_mono (Kd.R_far (p:=⟨gb711,6,none⟩) (Kd.R_far (p:=⟨gb711,5,none⟩) (Kd.R_far (p:=⟨gb711,4,none⟩) (Kd.R_far (p:=⟨gb711,3,none⟩) (Kd.R_far (p:=⟨gb711,2,none⟩) (Kd.R_far (p:=⟨gb711,1,none⟩) (Kd.R_far (p:=⟨gb711,0,none⟩) (Kd.R_mono HO_5.out (fun k_ hk=>(⟨hk,hk.2⟩:_∧k_≠gb711))) (fun _ hk=>hk.2) (.int .i64 t704)) (fun _ hk=>hk.2) (.int .i64 t705)) (fun _ hk=>hk.2) (.int .i64 t706)) (fun _ hk=>hk.2) (.int .i64 t707)) (fun _ hk=>hk.2) (.int .i64 t708)) (fun _ hk=>hk.2) (.int .i64 t709)) (fun _ hk=>hk.2) (.string t710)) (fun _ h_=>h_.1))) (by decide)) hk (fun _ h=>h.2)) (fun _ h=>h.1));have n1_:=a_ (KeepBut.blk hk (g':=gb691) (o:=.cells #[.int .i64 0,.int .i64 0,.int .i64 0,.int .i64 0,.int .i64 0,.int .i64 0,.string (⟨#[]⟩:ByteArray)] 44 (0,0)) (by (with_reducible repeat (first|refine bN_ ?_ _|refine bD_ ?_|refine bA_ ?_ _));refine blk_far ?_ NB691_711.out _;(with_reducible repeat (first|refine bN_ ?_ _|refine bD_ ?_|refine bA_ ?_ _));refine blk_far ?_ NB691_711.out _;(with_reducible repeat (first|refine bN_ ?_ _|refine bD_ ?_|refine bA_ ?_ _));refine blk_far ?_ NB691_711.out _;(with_reducible repeat (first|refine bN_ ?_ _|refine bD_ ?_|refine bA_ ?_ _));refine blk_far ?_ NB691_711.out _;(with_reducible repeat (first|refine bN_ ?_ _|refine bD_ ?_|refine bA_ ?_ _));refine blk_far ?_ NB691_711.out _;(with_reducible repeat (first|refine bN_ ?_ _|refine bD_ ?_|refine bA_ ?_ _));refine blk_far ?_ NB691_711.out _;(with_reducible repeat (first|refine bN_ ?_ _|refine bD_ ?_|refine bA_ ?_ _));refine blk_far ?_ NB691_711.out _;(with_reducible repeat (first|refine bN_ ?_ _|refine bD_ ?_|refine bA_ ?_ _));exact BK691.out) NB691_694.out (by simp));have n2_:=a_ (KeepBut.blk hk (g':=gb711) (o:=.cells #[.int .i64 t704,.int .i64 t705,.int .i64 t706,.int .i64 t707,.int .i64 t708,.int .i64 t709,.string t710] 44 (0,0)) (by (with_reducible repeat (first|refine bN_ ?_ _|refine bD_ ?_|refine bA_ ?_ _));exact bk7_ (bp_ BK711.out)) NB711_694.out (by simp));have n3_:=a_ (hb);have n4_:=a_ (hi);clear HO_5;clear BK691;clear BK711;clear HB;clear HI694;have HO_5:=n0_;have BK691:=n1_;have BK711:=n2_;have HB:=n3_;have HI694:=n4_;clear n0_ n1_ n2_ n3_ n4_;(try clear hb hk hi);obtain ⟨Z37_0,Z37_1,Z37_2,Z37_3,Z37_4,Z37_5,Z37_6,Y37_0,Y37_1,Y37_2,Y37_3,Y37_4,Y37_5,Y37_6⟩:=op7_ BK711.out;obtain ⟨Ao38,co38,eo38⟩:=Kd.R_slice HO_5.out;subst eo38)|((with_reducible refine gC_ (f:=90) rfl ?_);refine gl_ 35 Tryd.func90 #[.slice Ao38 t695.length co38,.int .i64 t704] ?_;(with_reducible refine (spec_l12Seq.calls kj3 _ _ t695 t704 t714 _ ?side1 ?side2 A30.out).mono ?_);(case side1=>exact cx_ (Kd.R_reads' HO_5.out).2.2);(case side2=>exact (Kd.R_reads' HO_5.out).2.1);rintro e w' ⟨rfl,⟨nd,rfl⟩⟩;refine ⟨_,rfl,?_⟩;(try (rw [drewN_self w36];generalize hq_:World.drewN w36 _=w36;have n0_:Aside0 (Kd.R k44 44 w36 w.heap.size (fun k_=>k_≠gb691∧k_≠gb711) (.slice Ao38 t695.length co38) t695):=⟨by rw [←hq_];exact (rp_ HO_5.out)⟩;have n1_:Aside0 (w36.heap[gb691]?=some (.cells #[.int .i64 0,.int .i64 0,.int .i64 0,.int .i64 0,.int .i64 0,.int .i64 0,.string (⟨#[]⟩:ByteArray)] 44 (0,0))):=⟨by rw [←hq_];exact (bp_ BK691.out)⟩;have n2_:Aside0 (w36.heap[gb711]?=some (.cells #[.int .i64 t704,.int .i64 t705,.int .i64 t706,.int .i64 t707,.int .i64 t708,.int .i64 t709,.string t710] 44 (0,0))):=⟨by rw [←hq_];exact (bp_ BK711.out)⟩;have n3_:Aside0 (IsS145 w w36 g694 t692 t713):=⟨by rw [←hq_];exact (is_HI694)⟩;have n4_:Aside0 (Below w.heap.size w w36):=⟨by rw [←hq_];exact (bel_)⟩;clear HO_5 BK691 BK711 HI694 HB hq_;have HO_5:=n0_;have BK691:=n1_;have BK711:=n2_;have HI694:=n3_;have HB:=n4_;clear n0_ n1_ n2_ n3_ n4_;obtain ⟨Zy691_0,Zy691_1,Zy691_2,Zy691_3,Zy691_4,Zy691_5,Zy691_6,Yy691_0,Yy691_1,Yy691_2,Yy691_3,Yy691_4,Yy691_5,Yy691_6⟩:=op7_ BK691.out;obtain ⟨Zy711_0,Zy711_1,Zy711_2,Zy711_3,Zy711_4,Zy711_5,Zy711_6,Yy711_0,Yy711_1,Yy711_2,Yy711_3,Yy711_4,Yy711_5,Yy711_6⟩:=op7_ BK711.out))))
     have n0_:Aside0 (Kd.R k44 44 (w36.setCell ⟨gb711,1,none⟩ (.int .i64 (wrap64 (t714+1)))) w.heap.size (fun k_=>k_≠gb691∧k_≠gb711) (.slice Ao38 t695.length co38) t695):=⟨by (with_reducible repeat (first|apply Kd.R_alloc|apply Kd.R_drewN|apply Kd.R_drew));exact Kd.R_mono (Kd.R_far (p:=⟨gb711,1,none⟩) (Kd.R_mono HO_5.out (fun k_ hk=>(⟨hk,hk.2⟩:_∧k_≠gb711))) (fun _ hk=>hk.2) (.int .i64 (wrap64 (t714+1)))) (fun _ hk=>⟨hk.1.1,hk.1.2⟩)⟩
     have n1_:Aside0 ((w36.setCell ⟨gb711,1,none⟩ (.int .i64 (wrap64 (t714+1)))).heap[gb691]?=some (.cells #[.int .i64 0,.int .i64 0,.int .i64 0,.int .i64 0,.int .i64 0,.int .i64 0,.string (⟨#[]⟩:ByteArray)] 44 (0,0))):=⟨by (with_reducible repeat (first|refine bN_ ?_ _|refine bD_ ?_|refine bA_ ?_ _));refine blk_far ?_ NB691_711.out _;(with_reducible repeat (first|refine bN_ ?_ _|refine bD_ ?_|refine bA_ ?_ _));exact BK691.out⟩
     have n2_:Aside0 ((w36.setCell ⟨gb711,1,none⟩ (.int .i64 (wrap64 (t714+1)))).heap[gb711]?=some (.cells #[.int .i64 t704,.int .i64 (wrap64 (t714+1)),.int .i64 t706,.int .i64 t707,.int .i64 t708,.int .i64 t709,.string t710] 44 (0,0))):=⟨by (with_reducible repeat (first|refine bN_ ?_ _|refine bD_ ?_|refine bA_ ?_ _));refine blk_put (cs:=#[.int .i64 t704,.int .i64 t705,.int .i64 t706,.int .i64 t707,.int .i64 t708,.int .i64 t709,.string t710]) ?_ 1 _ rfl;(with_reducible repeat (first|refine bN_ ?_ _|refine bD_ ?_|refine bA_ ?_ _));exact BK711.out⟩
     have n3_:Aside0 (IsS145 w (w36.setCell ⟨gb711,1,none⟩ (.int .i64 (wrap64 (t714+1)))) g694 t692 t713):=⟨is_HI694⟩
     have n4_:Aside0 (Below w.heap.size w (w36.setCell ⟨gb711,1,none⟩ (.int .i64 (wrap64 (t714+1))))):=⟨bel_⟩
     (try clear HO_5)
     (try clear BK691)
     (try clear BK711)
     (try clear HI694)
     (try clear HB)
     generalize (w36.setCell ⟨gb711,1,none⟩ (.int .i64 (wrap64 (t714+1))))=w39 at n0_ n1_ n2_ n3_ n4_ ⊢
     have HO_5:=n0_
     have BK691:=n1_
     have BK711:=n2_
     have HI694:=n3_
     have HB:=n4_
     clear n0_ n1_ n2_ n3_ n4_
     have n0_:=a_ (Kd.R_drew HO_5.out)
     have n1_:=a_ (bD_ BK691.out)
     have n2_:=a_ (bD_ BK711.out)
     have n3_:=a_ (IsS145.drew HI694.out)
     have n4_:=a_ (below_drew1 HB.out)
     clear HO_5
     clear BK691
     clear BK711
     clear HI694
     clear HB
     have HO_5:=n0_
     have BK691:=n1_
     have BK711:=n2_
     have HI694:=n3_
     have HB:=n4_
     clear n0_ n1_ n2_ n3_ n4_
     refine start_ (n:=4) (S:=fun w'=>w'.cell? ⟨gb711,0,none⟩=some (.int .i64 t704)∧w'.cell? ⟨gb711,1,none⟩=some (.int .i64 (wrap64 (t714+1)))∧w'.cell? ⟨gb711,2,none⟩=some (.int .i64 t706)∧w'.cell? ⟨gb711,3,none⟩=some (.int .i64 t707)∧w'.cell? ⟨gb711,4,none⟩=some (.int .i64 t708)∧w'.cell? ⟨gb711,5,none⟩=some (.int .i64 t709)∧w'.cell? ⟨gb711,6,none⟩=some (.string t710)) (ds:=[]) #[false,false,false,false] (by kernel_rfl) rfl rfl ⟨(bC_ BK711.out 0).trans rfl,(bC_ BK711.out 1).trans rfl,(bC_ BK711.out 2).trans rfl,(bC_ BK711.out 3).trans rfl,(bC_ BK711.out 4).trans rfl,(bC_ BK711.out 5).trans rfl,(bC_ BK711.out 6).trans rfl⟩ (fun hHeld=>?_)
     generalize w39.drew=w40 at HO_5 BK691 BK711 HI694 HB hHeld ⊢
     refine pure_ (i:=0) (N:=some 38) (v:=?_) (a':=?_) #[true,false,false,false] rfl rfl (by kernel_rfl) (fun _ _ _ h=>h) (Or.inl ⟨by rfl,?_⟩) ?_ ?_
     rotate_left
     ·intro w'
      go_simp
      with_reducible rfl
     rotate_left
     ·simp only [Act.put,List.setIfInBounds_toArray,List.set_cons_zero,List.set_cons_succ,i64_w,i32_w]
      rfl
     refine pure_ (i:=2) (N:=some 2) (v:=?_) (a':=?_) #[true,false,true,false] rfl rfl (by kernel_rfl) (fun _ _ _ h=>h) (Or.inl ⟨by rfl,?_⟩) ?_ ?_
     rotate_left
     ·intro w'
      go_simp
      with_reducible rfl
     rotate_left
     ·simp only [Act.put,List.setIfInBounds_toArray,List.set_cons_zero,List.set_cons_succ,i64_w,i32_w]
      rfl
     refine take_ (i:=1) (N:=some 39) (v:=?_) (a':=?_) #[true,true,true,false] rfl rfl (by kernel_rfl) (fun _ _ _ h=>h) (Or.inl ⟨by rfl,?_⟩) hHeld ?_ ?_
     rotate_left
     ·rintro w' ⟨s0,s1,s2,s3,s4,s5,s6⟩
      go_simp
      with_reducible rfl
     rotate_left
     ·simp only [Act.put,List.setIfInBounds_toArray,List.set_cons_zero,List.set_cons_succ,i64_w,i32_w]
      rfl
     refine one_ (i:=3) (N:=none) #[true,true,true,true] rfl rfl (by kernel_rfl) (by decide) (fun K hK=>?_)
     have hs41:w40.cell? ⟨gb691,0,none⟩=some (.int .i64 0):=(bC_ BK691.out 0).trans rfl
     have hfs41:=bF_ BK691.out 0
     have hns41_1:=NB711_691.out
     have hms41_1:=NB691_711.out
     have hs42:w40.cell? ⟨gb691,1,none⟩=some (.int .i64 0):=(bC_ BK691.out 1).trans rfl
     have hfs42:=bF_ BK691.out 1
     have hns42_1:=NB711_691.out
     have hms42_1:=NB691_711.out
     have hs43:w40.cell? ⟨gb691,2,none⟩=some (.int .i64 0):=(bC_ BK691.out 2).trans rfl
     have hfs43:=bF_ BK691.out 2
     have hns43_1:=NB711_691.out
     have hms43_1:=NB691_711.out
     have hs44:w40.cell? ⟨gb691,3,none⟩=some (.int .i64 0):=(bC_ BK691.out 3).trans rfl
     have hfs44:=bF_ BK691.out 3
     have hns44_1:=NB711_691.out
     have hms44_1:=NB691_711.out
     have hs45:w40.cell? ⟨gb691,4,none⟩=some (.int .i64 0):=(bC_ BK691.out 4).trans rfl
     have hfs45:=bF_ BK691.out 4
     have hns45_1:=NB711_691.out
     have hms45_1:=NB691_711.out
     have hs46:w40.cell? ⟨gb691,5,none⟩=some (.int .i64 0):=(bC_ BK691.out 5).trans rfl
     have hfs46:=bF_ BK691.out 5
     have hns46_1:=NB711_691.out
     have hms46_1:=NB691_711.out
     have hs47:w40.cell? ⟨gb691,6,none⟩=some (.string (⟨#[]⟩:ByteArray)):=(bC_ BK691.out 6).trans rfl
     have hfs47:=bF_ BK691.out 6
     have hns47_1:=NB711_691.out
     have hms47_1:=NB691_711.out
     refine skip_ (w1:=?_) (by rfl) rfl ?_ ?_
     rotate_left
     ·go_simp
      rfl
     refine hK.out _ _ ⟨((cF_ (p:=⟨gb691,_,none⟩) NB711_691.out _).trans (((cF_ (p:=⟨gb691,_,none⟩) NB711_691.out _).trans (((cF_ (p:=⟨gb691,_,none⟩) NB711_691.out _).trans (((cF_ (p:=⟨gb691,_,none⟩) NB711_691.out _).trans (((cF_ (p:=⟨gb691,_,none⟩) NB711_691.out _).trans (((cF_ (p:=⟨gb691,_,none⟩) NB711_691.out _).trans (((cF_ (p:=⟨gb691,_,none⟩) NB711_691.out _).trans (hHeld.1)))))))))))))),((cF_ (p:=⟨gb691,_,none⟩) NB711_691.out _).trans (((cF_ (p:=⟨gb691,_,none⟩) NB711_691.out _).trans (((cF_ (p:=⟨gb691,_,none⟩) NB711_691.out _).trans (((cF_ (p:=⟨gb691,_,none⟩) NB711_691.out _).trans (((cF_ (p:=⟨gb691,_,none⟩) NB711_691.out _).trans (((cF_ (p:=⟨gb691,_,none⟩) NB711_691.out _).trans (((cF_ (p:=⟨gb691,_,none⟩) NB711_691.out _).trans (hHeld.2.1)))))))))))))),((cF_ (p:=⟨gb691,_,none⟩) NB711_691.out _).trans (((cF_ (p:=⟨gb691,_,none⟩) NB711_691.out _).trans (((cF_ (p:=⟨gb691,_,none⟩) NB711_691.out _).trans (((cF_ (p:=⟨gb691,_,none⟩) NB711_691.out _).trans (((cF_ (p:=⟨gb691,_,none⟩) NB711_691.out _).trans (((cF_ (p:=⟨gb691,_,none⟩) NB711_691.out _).trans (((cF_ (p:=⟨gb691,_,none⟩) NB711_691.out _).trans (hHeld.2.2.1)))))))))))))),((cF_ (p:=⟨gb691,_,none⟩) NB711_691.out _).trans (((cF_ (p:=⟨gb691,_,none⟩) NB711_691.out _).trans (((cF_ (p:=⟨gb691,_,none⟩) NB711_691.out _).trans (((cF_ (p:=⟨gb691,_,none⟩) NB711_691.out _).trans (((cF_ (p:=⟨gb691,_,none⟩) NB711_691.out _).trans (((cF_ (p:=⟨gb691,_,none⟩) NB711_691.out _).trans (((cF_ (p:=⟨gb691,_,none⟩) NB711_691.out _).trans (hHeld.2.2.2.1)))))))))))))),((cF_ (p:=⟨gb691,_,none⟩) NB711_691.out _).trans (((cF_ (p:=⟨gb691,_,none⟩) NB711_691.out _).trans (((cF_ (p:=⟨gb691,_,none⟩) NB711_691.out _).trans (((cF_ (p:=⟨gb691,_,none⟩) NB711_691.out _).trans (((cF_ (p:=⟨gb691,_,none⟩) NB711_691.out _).trans (((cF_ (p:=⟨gb691,_,none⟩) NB711_691.out _).trans (((cF_ (p:=⟨gb691,_,none⟩) NB711_691.out _).trans (hHeld.2.2.2.2.1)))))))))))))),((cF_ (p:=⟨gb691,_,none⟩) NB711_691.out _).trans (((cF_ (p:=⟨gb691,_,none⟩) NB711_691.out _).trans (((cF_ (p:=⟨gb691,_,none⟩) NB711_691.out _).trans (((cF_ (p:=⟨gb691,_,none⟩) NB711_691.out _).trans (((cF_ (p:=⟨gb691,_,none⟩) NB711_691.out _).trans (((cF_ (p:=⟨gb691,_,none⟩) NB711_691.out _).trans (((cF_ (p:=⟨gb691,_,none⟩) NB711_691.out _).trans (hHeld.2.2.2.2.2.1)))))))))))))),((cF_ (p:=⟨gb691,_,none⟩) NB711_691.out _).trans (((cF_ (p:=⟨gb691,_,none⟩) NB711_691.out _).trans (((cF_ (p:=⟨gb691,_,none⟩) NB711_691.out _).trans (((cF_ (p:=⟨gb691,_,none⟩) NB711_691.out _).trans (((cF_ (p:=⟨gb691,_,none⟩) NB711_691.out _).trans (((cF_ (p:=⟨gb691,_,none⟩) NB711_691.out _).trans (((cF_ (p:=⟨gb691,_,none⟩) NB711_691.out _).trans (hHeld.2.2.2.2.2.2))))))))))))))⟩ (fun hHeld=>?_)
     clear hK K
     refine done_ (by kernel_rfl) ?_
     try go_wp2
     refine bodyPost_ret (results_tc rfl _ _ gb691 44 #[.int .i64 t704,.int .i64 (wrap64 (t714+1)),.int .i64 t706,.int .i64 t707,.int .i64 t708,.int .i64 t709,.string t710] (0,0) _ rfl (by (with_reducible repeat (first|refine bN_ ?_ _|refine bD_ ?_|refine bA_ ?_ _));exact bk7_ (bp_ BK691.out)) Tryd.underlying44 rfl (by kernel_rfl)) rfl ?_
     exact ⟨_,fi_,by (with_reducible repeat (first|apply Kd.R_alloc|apply Kd.R_drewN|apply Kd.R_drew));exact Kd.R_mono (Kd.R_far (p:=⟨gb691,6,none⟩) (Kd.R_far (p:=⟨gb691,5,none⟩) (Kd.R_far (p:=⟨gb691,4,none⟩) (Kd.R_far (p:=⟨gb691,3,none⟩) (Kd.R_far (p:=⟨gb691,2,none⟩) (Kd.R_far (p:=⟨gb691,1,none⟩) (Kd.R_far (p:=⟨gb691,0,none⟩) (Kd.R_mono HO_5.out (fun k_ hk=>(⟨hk,hk.1⟩:_∧k_≠gb691))) (fun _ hk=>hk.2) (.int .i64 t704)) (fun _ hk=>hk.2) (.int .i64 (wrap64 (t714+1)))) (fun _ hk=>hk.2) (.int .i64 t706)) (fun _ hk=>hk.2) (.int .i64 t707)) (fun _ hk=>hk.2) (.int .i64 t708)) (fun _ hk=>hk.2) (.int .i64 t709)) (fun _ hk=>hk.2) (.string t710)) (fun _ hk=>trivial),bel_⟩
    ·rw [if_neg c29] at H
     have c29b0:decide (0 < t712)=false:=df_ c29
     clear c29
     simp only [Option.some.injEq,Prod.mk.injEq] at H
     obtain ⟨rfl,rfl,rfl,rfl,rfl,rfl,rfl,rfl⟩:=H
     try go_wp2_with (first|((with_reducible refine gC_ (f:=89) rfl ?_);refine gl_ 28 Tryd.func89 #[.slice A0 l0.length c0] ?_;(with_reducible refine (spec_DrawEntryOk.calls kj3 _ _ l0 t704 t705 t706 t707 t708 t709 t710 _ ?side1 ?side2 A27.out).mono ?_);(case side1=>exact cp_ HR0.out);(case side2=>exact HC0.out);rintro e w48 ⟨rfl,hb⟩;refine ⟨_,rfl,?_⟩;replace HO_5:=a_ (Kd.R_below (rp_ HO_5.out) hb);replace HB:=a_ (bS_ (bel_) hb);replace BK691:=a_ (bb_ BK691.out hb);replace HI694:=a_ (IsS145.below (is_HI694) hb);(try clear hb))|((with_reducible refine gD_ (N:=6) rfl ?_);refine bx_ 6 (#[.int .i64 0,.int .i64 0,.int .i64 0,.int .i64 0,.int .i64 0,.int .i64 0,.string (⟨#[]⟩:ByteArray)]) 44 ?_;intro gb711 hg w49 hbox hb;have n0_:=a_ (Kd.R_below (Kd.R_elderB (rp_ HO_5.out) gb711 (Nat.le_of_eq hg.symm)) hb);have n1_:=a_ (bb_ BK691.out hb);have n2_:=a_ (IsS145.below (is_HI694) hb);have n3_:=a_ (bS_ (bel_) hb);have n4_:=a_ (hbox);have n5_:=a_ ((by rw [hg];exact (below_size (bel_)):w.heap.size≤gb711));have n6_:=a_ ((by rw [hg];exact (below_size (bel_)):w.heap.size≤gb711));have n7_:=a_ ((by rw [hg];exact Nat.ne_of_lt (blk_lt (g:=gb691) (o:=.cells #[.int .i64 0,.int .i64 0,.int .i64 0,.int .i64 0,.int .i64 0,.int .i64 0,.string (⟨#[]⟩:ByteArray)] 44 (0,0)) (bp_ BK691.out)):gb691≠gb711));have n8_:=a_ ((by rw [hg];exact Nat.ne_of_gt (blk_lt (g:=gb691) (o:=.cells #[.int .i64 0,.int .i64 0,.int .i64 0,.int .i64 0,.int .i64 0,.int .i64 0,.string (⟨#[]⟩:ByteArray)] 44 (0,0)) (bp_ BK691.out)):gb711≠gb691));have n9_:=a_ ((by rw [hg];exact Nat.ne_of_lt (IsS145.lt (show IsS145 w _ g694 t692 x695001_3 from is_HI694)):g694≠gb711));have n10_:=a_ ((by rw [hg];exact Nat.ne_of_gt (IsS145.lt (show IsS145 w _ g694 t692 x695001_3 from is_HI694)):gb711≠g694));clear HO_5;clear BK691;clear HI694;clear HB;have HO_5:=n0_;have BK691:=n1_;have HI694:=n2_;have HB:=n3_;have BK711:=n4_;have GW711:=n5_;have GE711:=n6_;have NB691_711:=n7_;have NB711_691:=n8_;have NB694_711:=n9_;have NB711_694:=n10_;clear n0_ n1_ n2_ n3_ n4_ n5_ n6_ n7_ n8_ n9_ n10_;clear hb hbox hg;have hnb50:=NB711_691.out;have hnc50:=NB691_711.out;have hnb51:=NB711_694.out;have hnc51:=NB694_711.out;obtain ⟨Z52_0,Z52_1,Z52_2,Z52_3,Z52_4,Z52_5,Z52_6,Y52_0,Y52_1,Y52_2,Y52_3,Y52_4,Y52_5,Y52_6⟩:=op7_ BK711.out)|((with_reducible refine gC_ (f:=74) rfl ?_);refine gl_ 30 Tryd.func74 #[.pointer (some ⟨g694,0,none⟩),.int .i64 6] ?_;(with_reducible refine (spec_l6Rd_pick.calls kj3 g694 t692 x695001_3 6 t712 t713 w _ ?side1 ?side2 A28.out).mono ?_);(case side1=>exact is_HI694);(case side2=>exact bel_);rintro e w53 ⟨rfl,hi,hb,hk⟩;refine ⟨_,rfl,?_⟩;have n0_:=a_ (Kd.R_mono (Kd.R_keep (IsS145.apart (show IsS145 w _ g694 t692 x695001_3 from is_HI694) (by (with_reducible repeat (first|apply Kd.R_alloc|apply Kd.R_drewN|apply Kd.R_drew));exact (Kd.R_mono (Kd.R_far (p:=⟨gb711,6,none⟩) (Kd.R_far (p:=⟨gb711,5,none⟩) (Kd.R_far (p:=⟨gb711,4,none⟩) (Kd.R_far (p:=⟨gb711,3,none⟩) (Kd.R_far (p:=⟨gb711,2,none⟩) (Kd.R_far (p:=⟨gb711,1,none⟩) (Kd.R_far (p:=⟨gb711,0,none⟩) (Kd.R_mono HO_5.out (fun k_ hk=>(⟨hk,hk.2⟩:_∧k_≠gb711))) (fun _ hk=>hk.2) (.int .i64 t704)) (fun _ hk=>hk.2) (.int .i64 t705)) (fun _ hk=>hk.2) (.int .i64 t706)) (fun _ hk=>hk.2) (.int .i64 t707)) (fun _ hk=>hk.2) (.int .i64 t708)) (fun _ hk=>hk.2) (.int .i64 t709)) (fun _ hk=>hk.2) (.string t710)) (fun _ h_=>h_.1))) (by decide)) hk (fun _ h=>h.2)) (fun _ h=>h.1));have n1_:=a_ (KeepBut.blk hk (g':=gb691) (o:=.cells #[.int .i64 0,.int .i64 0,.int .i64 0,.int .i64 0,.int .i64 0,.int .i64 0,.string (⟨#[]⟩:ByteArray)] 44 (0,0)) (by (with_reducible repeat (first|refine bN_ ?_ _|refine bD_ ?_|refine bA_ ?_ _));refine blk_far ?_ NB691_711.out _;(with_reducible repeat (first|refine bN_ ?_ _|refine bD_ ?_|refine bA_ ?_ _));refine blk_far ?_ NB691_711.out _;(with_reducible repeat (first|refine bN_ ?_ _|refine bD_ ?_|refine bA_ ?_ _));refine blk_far ?_ NB691_711.out _;(with_reducible repeat (first|refine bN_ ?_ _|refine bD_ ?_|refine bA_ ?_ _));refine blk_far ?_ NB691_711.out _;(with_reducible repeat (first|refine bN_ ?_ _|refine bD_ ?_|refine bA_ ?_ _));refine blk_far ?_ NB691_711.out _;(with_reducible repeat (first|refine bN_ ?_ _|refine bD_ ?_|refine bA_ ?_ _));refine blk_far ?_ NB691_711.out _;(with_reducible repeat (first|refine bN_ ?_ _|refine bD_ ?_|refine bA_ ?_ _));refine blk_far ?_ NB691_711.out _;(with_reducible repeat (first|refine bN_ ?_ _|refine bD_ ?_|refine bA_ ?_ _));exact BK691.out) NB691_694.out (by simp));have n2_:=a_ (KeepBut.blk hk (g':=gb711) (o:=.cells #[.int .i64 t704,.int .i64 t705,.int .i64 t706,.int .i64 t707,.int .i64 t708,.int .i64 t709,.string t710] 44 (0,0)) (by (with_reducible repeat (first|refine bN_ ?_ _|refine bD_ ?_|refine bA_ ?_ _));exact bk7_ (bp_ BK711.out)) NB711_694.out (by simp));have n3_:=a_ (hb);have n4_:=a_ (hi);clear HO_5;clear BK691;clear BK711;clear HB;clear HI694;have HO_5:=n0_;have BK691:=n1_;have BK711:=n2_;have HB:=n3_;have HI694:=n4_;clear n0_ n1_ n2_ n3_ n4_;(try clear hb hk hi)))
     have n0_:=a_ (Kd.R_drew HO_5.out)
     have n1_:=a_ (bD_ BK691.out)
     have n2_:=a_ (bD_ BK711.out)
     have n3_:=a_ (IsS145.drew HI694.out)
     have n4_:=a_ (below_drew1 HB.out)
     clear HO_5
     clear BK691
     clear BK711
     clear HI694
     clear HB
     have HO_5:=n0_
     have BK691:=n1_
     have BK711:=n2_
     have HI694:=n3_
     have HB:=n4_
     clear n0_ n1_ n2_ n3_ n4_
     refine start_ (n:=4) (S:=fun w'=>w'.cell? ⟨gb711,0,none⟩=some (.int .i64 t704)∧w'.cell? ⟨gb711,1,none⟩=some (.int .i64 t705)∧w'.cell? ⟨gb711,2,none⟩=some (.int .i64 t706)∧w'.cell? ⟨gb711,3,none⟩=some (.int .i64 t707)∧w'.cell? ⟨gb711,4,none⟩=some (.int .i64 t708)∧w'.cell? ⟨gb711,5,none⟩=some (.int .i64 t709)∧w'.cell? ⟨gb711,6,none⟩=some (.string t710)) (ds:=[]) #[false,false,false,false] (by kernel_rfl) rfl rfl ⟨(bC_ BK711.out 0).trans rfl,(bC_ BK711.out 1).trans rfl,(bC_ BK711.out 2).trans rfl,(bC_ BK711.out 3).trans rfl,(bC_ BK711.out 4).trans rfl,(bC_ BK711.out 5).trans rfl,(bC_ BK711.out 6).trans rfl⟩ (fun hHeld=>?_)
     generalize w53.drew=w54 at HO_5 BK691 BK711 HI694 HB hHeld ⊢
     refine pure_ (i:=0) (N:=some 38) (v:=?_) (a':=?_) #[true,false,false,false] rfl rfl (by kernel_rfl) (fun _ _ _ h=>h) (Or.inl ⟨by rfl,?_⟩) ?_ ?_
     rotate_left
     ·intro w'
      go_simp
      with_reducible rfl
     rotate_left
     ·simp only [Act.put,List.setIfInBounds_toArray,List.set_cons_zero,List.set_cons_succ,i64_w,i32_w]
      rfl
     refine pure_ (i:=2) (N:=some 2) (v:=?_) (a':=?_) #[true,false,true,false] rfl rfl (by kernel_rfl) (fun _ _ _ h=>h) (Or.inl ⟨by rfl,?_⟩) ?_ ?_
     rotate_left
     ·intro w'
      go_simp
      with_reducible rfl
     rotate_left
     ·simp only [Act.put,List.setIfInBounds_toArray,List.set_cons_zero,List.set_cons_succ,i64_w,i32_w]
      rfl
     refine take_ (i:=1) (N:=some 39) (v:=?_) (a':=?_) #[true,true,true,false] rfl rfl (by kernel_rfl) (fun _ _ _ h=>h) (Or.inl ⟨by rfl,?_⟩) hHeld ?_ ?_
     rotate_left
     ·rintro w' ⟨s0,s1,s2,s3,s4,s5,s6⟩
      go_simp
      with_reducible rfl
     rotate_left
     ·simp only [Act.put,List.setIfInBounds_toArray,List.set_cons_zero,List.set_cons_succ,i64_w,i32_w]
      rfl
     refine one_ (i:=3) (N:=none) #[true,true,true,true] rfl rfl (by kernel_rfl) (by decide) (fun K hK=>?_)
     have hs55:w54.cell? ⟨gb691,0,none⟩=some (.int .i64 0):=(bC_ BK691.out 0).trans rfl
     have hfs55:=bF_ BK691.out 0
     have hns55_1:=NB711_691.out
     have hms55_1:=NB691_711.out
     have hs56:w54.cell? ⟨gb691,1,none⟩=some (.int .i64 0):=(bC_ BK691.out 1).trans rfl
     have hfs56:=bF_ BK691.out 1
     have hns56_1:=NB711_691.out
     have hms56_1:=NB691_711.out
     have hs57:w54.cell? ⟨gb691,2,none⟩=some (.int .i64 0):=(bC_ BK691.out 2).trans rfl
     have hfs57:=bF_ BK691.out 2
     have hns57_1:=NB711_691.out
     have hms57_1:=NB691_711.out
     have hs58:w54.cell? ⟨gb691,3,none⟩=some (.int .i64 0):=(bC_ BK691.out 3).trans rfl
     have hfs58:=bF_ BK691.out 3
     have hns58_1:=NB711_691.out
     have hms58_1:=NB691_711.out
     have hs59:w54.cell? ⟨gb691,4,none⟩=some (.int .i64 0):=(bC_ BK691.out 4).trans rfl
     have hfs59:=bF_ BK691.out 4
     have hns59_1:=NB711_691.out
     have hms59_1:=NB691_711.out
     have hs60:w54.cell? ⟨gb691,5,none⟩=some (.int .i64 0):=(bC_ BK691.out 5).trans rfl
     have hfs60:=bF_ BK691.out 5
     have hns60_1:=NB711_691.out
     have hms60_1:=NB691_711.out
     have hs61:w54.cell? ⟨gb691,6,none⟩=some (.string (⟨#[]⟩:ByteArray)):=(bC_ BK691.out 6).trans rfl
     have hfs61:=bF_ BK691.out 6
     have hns61_1:=NB711_691.out
     have hms61_1:=NB691_711.out
     refine skip_ (w1:=?_) (by rfl) rfl ?_ ?_
     rotate_left
     ·go_simp
      rfl
     refine hK.out _ _ ⟨((cF_ (p:=⟨gb691,_,none⟩) NB711_691.out _).trans (((cF_ (p:=⟨gb691,_,none⟩) NB711_691.out _).trans (((cF_ (p:=⟨gb691,_,none⟩) NB711_691.out _).trans (((cF_ (p:=⟨gb691,_,none⟩) NB711_691.out _).trans (((cF_ (p:=⟨gb691,_,none⟩) NB711_691.out _).trans (((cF_ (p:=⟨gb691,_,none⟩) NB711_691.out _).trans (((cF_ (p:=⟨gb691,_,none⟩) NB711_691.out _).trans (hHeld.1)))))))))))))),((cF_ (p:=⟨gb691,_,none⟩) NB711_691.out _).trans (((cF_ (p:=⟨gb691,_,none⟩) NB711_691.out _).trans (((cF_ (p:=⟨gb691,_,none⟩) NB711_691.out _).trans (((cF_ (p:=⟨gb691,_,none⟩) NB711_691.out _).trans (((cF_ (p:=⟨gb691,_,none⟩) NB711_691.out _).trans (((cF_ (p:=⟨gb691,_,none⟩) NB711_691.out _).trans (((cF_ (p:=⟨gb691,_,none⟩) NB711_691.out _).trans (hHeld.2.1)))))))))))))),((cF_ (p:=⟨gb691,_,none⟩) NB711_691.out _).trans (((cF_ (p:=⟨gb691,_,none⟩) NB711_691.out _).trans (((cF_ (p:=⟨gb691,_,none⟩) NB711_691.out _).trans (((cF_ (p:=⟨gb691,_,none⟩) NB711_691.out _).trans (((cF_ (p:=⟨gb691,_,none⟩) NB711_691.out _).trans (((cF_ (p:=⟨gb691,_,none⟩) NB711_691.out _).trans (((cF_ (p:=⟨gb691,_,none⟩) NB711_691.out _).trans (hHeld.2.2.1)))))))))))))),((cF_ (p:=⟨gb691,_,none⟩) NB711_691.out _).trans (((cF_ (p:=⟨gb691,_,none⟩) NB711_691.out _).trans (((cF_ (p:=⟨gb691,_,none⟩) NB711_691.out _).trans (((cF_ (p:=⟨gb691,_,none⟩) NB711_691.out _).trans (((cF_ (p:=⟨gb691,_,none⟩) NB711_691.out _).trans (((cF_ (p:=⟨gb691,_,none⟩) NB711_691.out _).trans (((cF_ (p:=⟨gb691,_,none⟩) NB711_691.out _).trans (hHeld.2.2.2.1)))))))))))))),((cF_ (p:=⟨gb691,_,none⟩) NB711_691.out _).trans (((cF_ (p:=⟨gb691,_,none⟩) NB711_691.out _).trans (((cF_ (p:=⟨gb691,_,none⟩) NB711_691.out _).trans (((cF_ (p:=⟨gb691,_,none⟩) NB711_691.out _).trans (((cF_ (p:=⟨gb691,_,none⟩) NB711_691.out _).trans (((cF_ (p:=⟨gb691,_,none⟩) NB711_691.out _).trans (((cF_ (p:=⟨gb691,_,none⟩) NB711_691.out _).trans (hHeld.2.2.2.2.1)))))))))))))),((cF_ (p:=⟨gb691,_,none⟩) NB711_691.out _).trans (((cF_ (p:=⟨gb691,_,none⟩) NB711_691.out _).trans (((cF_ (p:=⟨gb691,_,none⟩) NB711_691.out _).trans (((cF_ (p:=⟨gb691,_,none⟩) NB711_691.out _).trans (((cF_ (p:=⟨gb691,_,none⟩) NB711_691.out _).trans (((cF_ (p:=⟨gb691,_,none⟩) NB711_691.out _).trans (((cF_ (p:=⟨gb691,_,none⟩) NB711_691.out _).trans (hHeld.2.2.2.2.2.1)))))))))))))),((cF_ (p:=⟨gb691,_,none⟩) NB711_691.out _).trans (((cF_ (p:=⟨gb691,_,none⟩) NB711_691.out _).trans (((cF_ (p:=⟨gb691,_,none⟩) NB711_691.out _).trans (((cF_ (p:=⟨gb691,_,none⟩) NB711_691.out _).trans (((cF_ (p:=⟨gb691,_,none⟩) NB711_691.out _).trans (((cF_ (p:=⟨gb691,_,none⟩) NB711_691.out _).trans (((cF_ (p:=⟨gb691,_,none⟩) NB711_691.out _).trans (hHeld.2.2.2.2.2.2))))))))))))))⟩ (fun hHeld=>?_)
     clear hK K
     refine done_ (by kernel_rfl) ?_
     try go_wp2
     refine bodyPost_ret (results_tc rfl _ _ gb691 44 #[.int .i64 t704,.int .i64 t705,.int .i64 t706,.int .i64 t707,.int .i64 t708,.int .i64 t709,.string t710] (0,0) _ rfl (by (with_reducible repeat (first|refine bN_ ?_ _|refine bD_ ?_|refine bA_ ?_ _));exact bk7_ (bp_ BK691.out)) Tryd.underlying44 rfl (by kernel_rfl)) rfl ?_
     exact ⟨_,fi_,by (with_reducible repeat (first|apply Kd.R_alloc|apply Kd.R_drewN|apply Kd.R_drew));exact Kd.R_mono (Kd.R_far (p:=⟨gb691,6,none⟩) (Kd.R_far (p:=⟨gb691,5,none⟩) (Kd.R_far (p:=⟨gb691,4,none⟩) (Kd.R_far (p:=⟨gb691,3,none⟩) (Kd.R_far (p:=⟨gb691,2,none⟩) (Kd.R_far (p:=⟨gb691,1,none⟩) (Kd.R_far (p:=⟨gb691,0,none⟩) (Kd.R_mono HO_5.out (fun k_ hk=>(⟨hk,hk.1⟩:_∧k_≠gb691))) (fun _ hk=>hk.2) (.int .i64 t704)) (fun _ hk=>hk.2) (.int .i64 t705)) (fun _ hk=>hk.2) (.int .i64 t706)) (fun _ hk=>hk.2) (.int .i64 t707)) (fun _ hk=>hk.2) (.int .i64 t708)) (fun _ hk=>hk.2) (.int .i64 t709)) (fun _ hk=>hk.2) (.string t710)) (fun _ hk=>trivial),bel_⟩

attribute [local go_sem high] eqA44
def laws_lpLog.l0:Nat→List (S44)→List (S44)→Int→Option (Bool)
 | 0,_,_,_=>none
 | k+1,x0,x1,x5=>if x5 < (x0.length:Int) then (if 0≤x5 then (if x5 < (x1.length:Int) then (if (!(((rd_T44 x0 x5).f0)==((rd_T44 x1 x5).f0)) || (!(((rd_T44 x0 x5).f1)==((rd_T44 x1 x5).f1)) || ((!(((rd_T44 x0 x5).f2.f0)==((rd_T44 x1 x5).f2.f0)) || (!(((rd_T44 x0 x5).f2.f1)==((rd_T44 x1 x5).f2.f1)) || (!(((rd_T44 x0 x5).f2.f2)==((rd_T44 x1 x5).f2.f2)) || (!(((rd_T44 x0 x5).f2.f3)==((rd_T44 x1 x5).f2.f3)) || (!((((rd_T44 x0 x5).f2.f4).toList)==(((rd_T44 x1 x5).f2.f4).toList))))))))))=true then (some false) else (laws_lpLog.l0 k x0 x1 (wrap64 (x5+1)))) else (none)) else (none)) else (some true)
def laws_lpLog.f (k:Nat) (l0:List (S44)) (l1:List (S44)):Option (Bool):=if (l0.length:Int)=(l1.length:Int) then (laws_lpLog.l0 k l0 l1 0) else (some false)
theorem laws_lpLog.mono_l:∀ k,(∀ y0 y1 y2,LeO (laws_lpLog.l0 k y0 y1 y2) (laws_lpLog.l0 (k+1) y0 y1 y2))
 | 0=>fun _ _ _ r h=>by simp [laws_lpLog.l0] at h
 | k+1=>by
  have ih0:=laws_lpLog.mono_l k
  ·intro y0 y1 y2
   unfold laws_lpLog.l0
   repeat' first
   | (with_reducible exact ih0 _ _ _)
   | (with_reducible exact LeO.refl _)
   | (with_reducible exact LeO.none _)
   | (with_reducible refine LeO.ite ?_ ?_)
   | (with_reducible refine LeO.bind ?_ (fun _=>?_))
theorem laws_lpLog.mono:∀ a0 a1 k,LeO (laws_lpLog.f k a0 a1) (laws_lpLog.f (k+1) a0 a1):=by
 intro a0 a1 k
 have ih0:=laws_lpLog.mono_l k
 unfold laws_lpLog.f
 repeat' first
   | (with_reducible exact ih0 _ _ _)
   | (with_reducible exact LeO.refl _)
   | (with_reducible exact LeO.none _)
   | (with_reducible refine LeO.ite ?_ ?_)
   | (with_reducible refine LeO.bind ?_ (fun _=>?_))
theorem laws_lpLog.calls (k:Nat) (A0:Option Addr) (c0:Nat) (l0:List (S44)) (A1:Option Addr) (c1:Nat) (l1:List (S44)) (r:Bool) (w:World) (hr0:Kd.C k44 w A0 l0.length l0) (hc0:l0.length≤c0) (hr1:Kd.C k44 w A1 l1.length l1) (hc1:l1.length≤c1) (h:laws_lpLog.f k l0 l1=some r) :
  Calls Tryd.prog 32 #[.slice A0 l0.length c0,.slice A1 l1.length c1] w fun e w'=>e=.returned (.bool r)∧Drawn0 w w':=by
 have hu44:=Tryd.underlying44
 have HR0:=a_ hr0
 have HC0:=a_ hc0
 clear hr0 hc0
 have HR1:=a_ hr1
 have HC1:=a_ hc1
 clear hr1 hc1
 unfold laws_lpLog.f at h
 have H:=h
 clear h
 by_cases c3:(l0.length:Int)=(l1.length:Int)
 ·rw [if_pos c3] at H
  have c3b0:((l0.length:Int)==(l1.length:Int))=true:=beq_iff_eq.mpr c3
  have c3b1:((l0.length:Int) != (l1.length:Int))=false:=be_ c3
  have c3b2:(l0.length==l1.length)=true:=by first|simpa using c3|(simp at c3 ⊢;omega)
  clear c3
  have H':=a_ H
  clear H
  go_enter Tryd.func32,Tryd.ntmps32
  go_wp2
  repeat (go_quiet (fail);try go_wp2)
  go_loopg [5] k (fun kq v5 w'=>∃ (x5_1:Int),v5=.int .i64 x5_1∧Aside0 (laws_lpLog.l0 kq l0 l1 x5_1=some r)∧Aside0 (kq≤k)∧Drawn0 w w')
  case atStart=>exact ⟨(0),(si_),H',⟨Nat.le_refl _⟩,by repeat (first|exact Drawn0.refl _|apply Drawn0.step)⟩
  case round =>
   clear H'
   try clear c1
   try clear p2
   try clear c3
   try clear c3b0
   try clear c3b1
   try clear c3b2
   obtain ⟨x5_1,rfl,HA,HK1,⟨m1,rfl⟩⟩:=hrel
   cases gk with
   | zero=>exact absurd HA.out (by simp [laws_lpLog.l0])
   | succ k1 =>
    have H:=HA.out
    clear HA
    simp only [laws_lpLog.l0] at H
    by_cases c4:x5_1 < (l0.length:Int)
    ·rw [if_pos c4] at H
     have c4b0:decide (x5_1 < (l0.length:Int))=true:=dt_ c4
     clear c4
     by_cases c5:0≤x5_1
     ·rw [if_pos c5] at H
      have c5b0:decide (0≤x5_1)=true:=dt_ c5
      clear c5
      by_cases c6:x5_1 < (l1.length:Int)
      ·rw [if_pos c6] at H
       have c6b0:decide (x5_1 < (l1.length:Int))=true:=dt_ c6
       clear c6
       by_cases c7:(!(((rd_T44 l0 x5_1).f0)==((rd_T44 l1 x5_1).f0)) || (!(((rd_T44 l0 x5_1).f1)==((rd_T44 l1 x5_1).f1)) || ((!(((rd_T44 l0 x5_1).f2.f0)==((rd_T44 l1 x5_1).f2.f0)) || (!(((rd_T44 l0 x5_1).f2.f1)==((rd_T44 l1 x5_1).f2.f1)) || (!(((rd_T44 l0 x5_1).f2.f2)==((rd_T44 l1 x5_1).f2.f2)) || (!(((rd_T44 l0 x5_1).f2.f3)==((rd_T44 l1 x5_1).f2.f3)) || (!((((rd_T44 l0 x5_1).f2.f4).toList)==(((rd_T44 l1 x5_1).f2.f4).toList))))))))))=true
       ·rw [if_pos c7] at H
        have c7b0:(!(((rd_T44 l0 x5_1).f0)==((rd_T44 l1 x5_1).f0)) || (!(((rd_T44 l0 x5_1).f1)==((rd_T44 l1 x5_1).f1)) || ((!(((rd_T44 l0 x5_1).f2.f0)==((rd_T44 l1 x5_1).f2.f0)) || (!(((rd_T44 l0 x5_1).f2.f1)==((rd_T44 l1 x5_1).f2.f1)) || (!(((rd_T44 l0 x5_1).f2.f2)==((rd_T44 l1 x5_1).f2.f2)) || (!(((rd_T44 l0 x5_1).f2.f3)==((rd_T44 l1 x5_1).f2.f3)) || (!((((rd_T44 l0 x5_1).f2.f4).toList)==(((rd_T44 l1 x5_1).f2.f4).toList))))))))))=true:=c7
        clear c7
        obtain rfl:=sj_ H
        have p742:0≤(x5_1:Int):=od_
        have q742:x5_1 < (l0.length:Int):=od_
        obtain ⟨ad742,e742,hx742_0,hx742_1,hx742_2,hx742_3,hx742_4,hx742_5,hx742_6⟩:=at_T44 HR0.out x5_1 p742 q742
        cases e742
        replace p742:=eq_true p742
        replace q742:=eq_true q742
        have p743:0≤(x5_1:Int):=od_
        have q743:x5_1 < (l1.length:Int):=od_
        obtain ⟨ad743,e743,hx743_0,hx743_1,hx743_2,hx743_3,hx743_4,hx743_5,hx743_6⟩:=at_T44 HR1.out x5_1 p743 q743
        cases e743
        replace p743:=eq_true p743
        replace q743:=eq_true q743
        go_wp2
        repeat (go_quiet (fail);try go_wp2)
        go_ret
        exact ⟨si_,by repeat (first|exact Drawn0.refl _|apply Drawn0.step)⟩
       ·rw [if_neg c7] at H
        have c7b0:(!(((rd_T44 l0 x5_1).f0)==((rd_T44 l1 x5_1).f0)) || (!(((rd_T44 l0 x5_1).f1)==((rd_T44 l1 x5_1).f1)) || ((!(((rd_T44 l0 x5_1).f2.f0)==((rd_T44 l1 x5_1).f2.f0)) || (!(((rd_T44 l0 x5_1).f2.f1)==((rd_T44 l1 x5_1).f2.f1)) || (!(((rd_T44 l0 x5_1).f2.f2)==((rd_T44 l1 x5_1).f2.f2)) || (!(((rd_T44 l0 x5_1).f2.f3)==((rd_T44 l1 x5_1).f2.f3)) || (!((((rd_T44 l0 x5_1).f2.f4).toList)==(((rd_T44 l1 x5_1).f2.f4).toList))))))))))=false:=by simpa using c7
        clear c7
        have H':=a_ H
        clear H
        have p742:0≤(x5_1:Int):=od_
        have q742:x5_1 < (l0.length:Int):=od_
        obtain ⟨ad742,e742,hx742_0,hx742_1,hx742_2,hx742_3,hx742_4,hx742_5,hx742_6⟩:=at_T44 HR0.out x5_1 p742 q742
        cases e742
        replace p742:=eq_true p742
        replace q742:=eq_true q742
        have p743:0≤(x5_1:Int):=od_
        have q743:x5_1 < (l1.length:Int):=od_
        obtain ⟨ad743,e743,hx743_0,hx743_1,hx743_2,hx743_3,hx743_4,hx743_5,hx743_6⟩:=at_T44 HR1.out x5_1 p743 q743
        cases e743
        replace p743:=eq_true p743
        replace q743:=eq_true q743
        go_wp2
        repeat (go_quiet (fail);try go_wp2)
        go_roundg k1
        case measure=>have:=HK1.out;omega
        case rel=>exact ⟨(wrap64 (x5_1+1)),(si_),H',⟨by have:=HK1.out;omega⟩,by repeat (first|exact Drawn0.refl _|apply Drawn0.step)⟩
      ·rw [if_neg c6] at H
       exact absurd H (by simp)
     ·rw [if_neg c5] at H
      exact absurd H (by simp)
    ·rw [if_neg c4] at H
     have c4b0:decide (x5_1 < (l0.length:Int))=false:=df_ c4
     clear c4
     obtain rfl:=sj_ H
     go_wp2
     repeat (go_quiet (fail);try go_wp2)
     go_ret
     exact ⟨si_,by repeat (first|exact Drawn0.refl _|apply Drawn0.step)⟩
 ·rw [if_neg c3] at H
  have c3b0:((l0.length:Int)==(l1.length:Int))=false:=bn_ c3
  have c3b1:((l0.length:Int) != (l1.length:Int))=true:=bne_iff_ne.mpr c3
  have c3b2:(l0.length==l1.length)=false:=by first|simpa using c3|(simp at c3 ⊢;omega)
  obtain rfl:=sj_ H
  go_enter Tryd.func32,Tryd.ntmps32
  go_wp2
  repeat (go_quiet (fail);try go_wp2)
  go_ret
  exact ⟨si_,by repeat (first|exact Drawn0.refl _|apply Drawn0.step)⟩

end Go.Proofs.YtdpklbomhdpimaaDoor.P
namespace Go.Proofs.YtdpklbomhdpimaaDoor.P
open Go.RowKit Go.Proofs.YtdpklbomhdpimaaDoorW.PrintWords Go.Proofs.YtdpklbomhdpimaaDoorW.PrintLast Go.Proofs.YtdpklbomhdpimaaDoorW.PrintMore
def impl_Entry_85.f (l0:List S44):Option (List S44):=if l0.length < 2199023255552 then some l0 else none
theorem impl_Entry_85.calls (A0:Option Addr) (c0:Nat) (l0:List S44) (r:List S44) (w:World) (hr0:Kd.C k44 w A0 l0.length l0) (hc0:l0.length≤c0)
  (h:impl_Entry_85.f l0=some r) :
  Calls Tryd.prog 85 #[.slice A0 l0.length c0] w fun e w'=>∃ v0_:Value,e=.returned (v0_)∧Kd.R k44 44 w' w.heap.size (fun _=>True) v0_ r∧Below w.heap.size w w':=by
 unfold impl_Entry_85.f at h
 by_cases hlim:l0.length < 2199023255552
 ·rw [if_pos hlim] at h
  obtain rfl:=sj_ h
  clear h
  cases A0 with
  | none =>
   have hl:l0=[]:=by
    rcases Nat.eq_zero_or_pos l0.length with h0|h0
    ·exact List.length_eq_zero_iff.1 h0
    ·obtain ⟨ad,e,_⟩:=hr0.2.2 h0
     cases e
   subst hl
   simp only [List.length_nil]
   have hne:=fun (W:World)=>Lib.run_eql_slice_nil (P:=Tryd.prog) W 23 44 none 0 c0 0 0 Tryd.underlying23
   simp only [Option.isNone_none] at hne
   clear hr0 hlim hc0
   go_enter Tryd.func85,Tryd.ntmps85
   go_wp2
   go_ret
   exact ⟨_,rfl,Kd.R_nil _ _ _ _ _,Below.refl _ _⟩
  | some a =>
   have hne:=fun (W:World)=>Lib.run_eql_slice_nil (P:=Tryd.prog) W 23 44 (some a) l0.length c0 0 0 Tryd.underlying23
   simp only [Option.isNone_some] at hne
   have HR0:=a_ hr0
   have LM:=a_ hlim
   clear hr0 hlim
   have HB:=a_ (Below.refl w.heap.size w)
   go_enter Tryd.func85,Tryd.ntmps85
   go_wp2_with (first
    | ((with_reducible refine gD_ (N:=5) rfl ?_);refine Kd.R_lit k44 _ 44 ?hg (N:=5) ?hd (xs:=([]:List S44)) (inner:=[]) (ok:=fun _=>True) (okp:=fun _=>True) ?hr ?hp (fun _ hk=>hk) trivial (Below.refl _ _) (Nat.le_refl _) (by simp) ?_;(case hd=>rfl);(case hg=>rfl);(case hr=>first|(go_simp;done)|(go_simp;rfl));(case hp=>exact (Reps.none _ _));intro v200 w5 ho6 hb hg_ hnew_;clear hg_ hnew_;have HO:=a_ ho6;replace HB:=a_ (bS_ HB.out hb);clear hb ho6)
    | ((with_reducible refine gate_builtin (b:=.append) (xs:=#[.tmp 5,.tmp 6]) rfl ?_);at_builtin;refine Kd.R_append_rows k44 (w0:=w) w.heap.size rfl (.tmp 5) (.tmp 6) 23 44 (.agg #[(.int .i64 0),(.int .i64 0),(.int .i64 0),(.int .i64 0),(.int .i64 0),(.int .i64 0),(.string ⟨#[]⟩)]) 64 rfl Tryd.underlying23 info44 rfl (by decide) (by omega) _ ([]:List S44) l0 _ _ _ (fun _=>True) (fun _=>False) rfl rfl ?aO ?aR (fun _ _ h=>h) (fun _ h=>h.elim) ?aF ?aB ?aS ?aL ?_;(case aR=>exact Kd.C_below HR0.out HB.out);(case aB=>exact HB.out);(case aF=>exact (fun _ _=>trivial));(case aO=>exact HO.out);(case aS=>exact below_size HB.out);(case aL=>have:=LM.out;simp;omega);intro v203 w9 ho hb hg hat;clear HB HO;have HB:=a_ hb;have HO:=a_ ho;clear ho hb hg hat;obtain ⟨Ao10,co10,eo10⟩:=Kd.R_slice HO.out;subst eo10))
   go_ret
   exact ⟨_,rfl,HO.out,HB.out⟩
 ·rw [if_neg hlim] at h
  cases h
end Go.Proofs.YtdpklbomhdpimaaDoor.P
namespace Go.Proofs.YtdpklbomhdpimaaDoor.P
open Go.RowKit Go.Maps Go.Proofs.YtdpklbomhdpimaaDoorW.PrintWords Go.Proofs.YtdpklbomhdpimaaDoorW.PrintLast Go.Proofs.YtdpklbomhdpimaaDoorW.PrintMore
theorem logOk_who {k:Nat}:∀ (rest pre:List S44),impl_LogOk.go k pre rest=some true→∀ e∈rest,1≤e.f0∧e.f0≤3
 | [],_,_,e,he=>by cases he
 | x::rest,pre,h,e,he=>by
  unfold impl_LogOk.go at h
  obtain ⟨t,ht,h⟩:=Option.bind_eq_some_iff.1 h
  cases t with
  | false=>simp at h
  | true =>
   rw [if_pos rfl] at h
   by_cases hq:cntE pre x.f0+1=x.f1
   ·rw [if_pos hq] at h
    rcases List.mem_cons.1 he with rfl|he
    ·exact entry_who ht
    ·exact logOk_who rest _ h e he
   ·rw [if_neg hq] at h
    cases h
theorem logOk_true {k:Nat} {l:List S44} (h:impl_LogOk.f k l=some true):l.length≤40∧∀ e∈l,1≤e.f0∧e.f0≤3:=by
 unfold impl_LogOk.f at h
 by_cases h40:(l.length:Int) > 40
 ·rw [if_pos h40] at h
  cases h
 ·rw [if_neg h40] at h
  exact ⟨by omega,logOk_who l [] h⟩
def impl_LogSeq.f (k:Nat) (l0:List S44) (a1:Int):Option Int :=
 (impl_LogOk.f k l0).bind fun t=>if t=true then (if 0≤a1∧a1≤4 then some (cntE l0 a1) else none) else some (-1)
theorem impl_LogSeq.mono (l0:List S44) (a1:Int) (k:Nat):LeO (impl_LogSeq.f k l0 a1) (impl_LogSeq.f (k+1) l0 a1):=by
 unfold impl_LogSeq.f
 exact LeO.bind (impl_LogOk.mono _ _) (fun _=>LeO.refl _)
def SeqRel (l0:List S44) (b:Nat) (w:World) (i:Value) (wr:World):Prop :=
 ∃ j:Int,0≤j∧j≤l0.length∧i=.int .i64 j∧CntMap wr b (cntE (l0.take j.toNat)) j.toNat∧Below w.heap.size w wr∧w.heap.size≤b
theorem impl_LogSeq.calls (k:Nat) (A0:Option Addr) (c0:Nat) (l0:List S44) (a1:Int) (r:Int) (w:World) (hr0:Kd.C k44 w A0 l0.length l0) (hc0:l0.length≤c0) (h:impl_LogSeq.f k l0 a1=some r) (hG:Glob w) :
  Calls Tryd.prog 33 #[.slice A0 l0.length c0,.int .i64 a1] w fun e w'=>e=.returned (.int .i64 r)∧Below w.heap.size w w':=by
 have HR0:=a_ hr0
 have HG:=a_ hG
 have HC0:=a_ hc0
 clear hr0 hG hc0
 unfold impl_LogSeq.f at h
 obtain ⟨t,ht,h⟩:=Option.bind_eq_some_iff.1 h
 have HT:=a_ ht
 clear ht
 have hmm:=@run_makeMap Tryd.prog
 cases t with
 | false =>
  simp only [Bool.false_eq_true,if_false,Option.some.injEq] at h
  subst h
  clear hmm
  go_enter Tryd.func33,Tryd.ntmps33
  go_wp2_with (go_at_call 42;refine (impl_LogOk.calls k _ _ _ false _ HR0.out HC0.out HT.out HG.out).mono ?_;rintro e w2 ⟨rfl,hb⟩;have HB2:=a_ hb;clear hb)
  go_ret
  exact ⟨rfl,HB2.out⟩
 | true =>
  rw [if_pos rfl] at h
  obtain ⟨h40,hwho⟩:=logOk_true HT.out
  have HWHO:=a_ hwho
  have H40:=a_ h40
  clear hwho h40
  by_cases ha:0≤a1∧a1≤4
  ·rw [if_pos ha] at h
   obtain rfl:=sj_ h
   clear h
   have HA:=a_ ha
   clear ha
   go_enter Tryd.func33,Tryd.ntmps33
   go_wp2_with (go_at_call 42;refine (impl_LogOk.calls k _ _ _ true _ HR0.out HC0.out HT.out HG.out).mono ?_;rintro e w2 ⟨rfl,hb⟩;have HB2:=a_ hb;clear hb)
   have hM0:CntMap (w2.alloc (.map #[] 0)) w2.heap.size (cntE []) 0:=⟨.map [],World.ownsMap_made _ _ _ _,fun x=>rfl⟩
   have HM0:=a_ hM0
   clear hM0
   have HBB:=a_ (show Below w.heap.size w (w2.alloc (.map #[] 0)) from wA_ HB2.out _)
   have HSZ:=a_ HB2.out.size
   generalize w2.heap.size=b at HM0 HSZ ⊢
   go_loopw [14] (fun i wr=>SeqRel l0 b w i wr) (fun i _=>l0.length - (intOf i).toNat)
   case atStart=>exact ⟨0,Int.le_refl _,by omega,rfl,HM0.out,HBB.out,HSZ.out⟩
   case round =>
    obtain ⟨j,hj0,hj,rfl,hM,hB,_⟩:=hrel
    have HM:=a_ hM
    have HB:=a_ hB
    clear hM hB HM0 HBB
    by_cases hlt:j < l0.length
    ·have hd1:decide (j < (l0.length:Int))=true:=dt_ hlt
     obtain ⟨ad,e,hx0,hx1,hx2,hx3,hx4,hx5,hx6⟩:=at_T44 HR0.out j hj0 hlt
     cases e
     replace hx0:=(cb_ HB.out hx0 :)
     replace hx1:=(cb_ HB.out hx1 :)
     replace hx2:=(cb_ HB.out hx2 :)
     replace hx3:=(cb_ HB.out hx3 :)
     replace hx4:=(cb_ HB.out hx4 :)
     replace hx5:=(cb_ HB.out hx5 :)
     replace hx6:=(cb_ HB.out hx6 :)
     have hu:=Tryd.underlying44
     have hxe:rd_T44 l0 j=l0[j.toNat]'(by omega):=by
      unfold rd_T44
      rw [List.getD_eq_getElem?_getD,List.getElem?_eq_getElem (by omega)]
      rfl
     have htk:=List.take_succ_eq_append_getElem (l:=l0) (i:=j.toNat) (by omega)
     have hmem:=HWHO.out _ (List.getElem_mem (l:=l0) (n:=j.toNat) (by omega))
     rw [←hxe] at htk hmem
     clear hxe
     generalize rd_T44 l0 j=x at hx0 hx1 hx2 hx3 hx4 hx5 hx6 htk hmem
     rw [show j.toNat+1=(j+1).toNat by omega] at htk
     have hjb:j≤40:=by have:=H40.out;omega
     have p1:=eq_true hj0
     have q1:=eq_true hlt
     have hcn:=cntE_le (l0.take j.toNat) x.f0
     have hcl:(l0.take j.toNat).length≤40:=by rw [List.length_take];omega
     have hsn:=cntE_snoc (l0.take j.toNat) x
     rw [←htk] at hsn
     have HSN:=a_ hsn
     have HJN:=a_ (show j.toNat≤1000∧0≤j∧j < l0.length from ⟨by omega,hj0,hlt⟩)
     have HM1:=a_ (HM.out.alloc (.cells #[.int .i64 x.f0,.int .i64 x.f1,.int .i64 x.f2.f0,.int .i64 x.f2.f1,.int .i64 x.f2.f2,.int .i64 x.f2.f3,.string x.f2.f4] 44))
     have HB1:=a_ (wA_ HB.out (.cells #[.int .i64 x.f0,.int .i64 x.f1,.int .i64 x.f2.f0,.int .i64 x.f2.f1,.int .i64 x.f2.f2,.int .i64 x.f2.f3,.string x.f2.f4] 44))
     have HX:=a_ (show 0≤x.f0∧x.f0≤4 from ⟨by omega,by omega⟩)
     have HC:=a_ (show 0≤cntE (l0.take j.toNat) x.f0∧cntE (l0.take j.toNat) x.f0≤1000 from ⟨hcn.1,by have:=hcn.2;omega⟩)
     clear hj0 hlt hcn hcl htk hsn HM HB hmem
     go_wp2_with (go_at_call 87;refine (add_any _ _ _ _ _ HX.out HC.out HJN.out.1 HM1.out).mono ?_;rintro e w3 ⟨rfl,hM3,hg3⟩;have HM3:=a_ hM3;have HB3:=a_ (HB1.out.grown hg3 HB1.out.size (fun j hj=>by cases hj;exact HSZ.out));clear hM3 hg3)
     all_goals have hjj:=HJN.out
     all_goals have hww:wrap64 (j+1)=j+1:=by unfold wrap64;omega
     all_goals refine ⟨⟨j+1,by omega,by omega,by rw [hww],?_,HB3.out,HSZ.out⟩,?_⟩
     all_goals first
      | (rw [hww];show l0.length - (j+1).toNat < l0.length - j.toNat;omega)
      | (rw [HSN.out,show (j+1).toNat=j.toNat+1 by omega];exact HM3.out)
    ·have hd1:decide (j < (l0.length:Int))=false:=df_ hlt
     have hM:=HM.out
     rw [List.take_of_length_le (by omega)] at hM
     clear HM hlt
     obtain ⟨D,hown,hat⟩:=hM
     have hkey:keyOf Tryd.prog 3 (.int .i64 a1)=some (.int .i64 a1):=keyOf_int_mk Tryd.underlying3 (wf_small a1 (by have:=HA.out;omega))
     have HAT:=a_ (hat a1)
     clear hat
     go_wp2_with (at_lookup;refine wpList_lookup_own_int _ rfl (.tmp 23) (.tmp 24) 114 rfl 3 3 .i64 keyI Tryd.underlying114 Tryd.underlying3 (zeroI _) b j.toNat D rfl hown _ _ rfl hkey ?_;intro z hz hwz;have ez:z=cntE l0 a1:=(by have:=HAT.out.symm.trans hz;injection this with this;injection this with _ this;exact this.symm);subst ez;clear hz hwz)
     go_ret
     exact ⟨rfl,HB.out⟩
  ·rw [if_neg ha] at h
   cases h
end Go.Proofs.YtdpklbomhdpimaaDoor.P
namespace Go.Proofs.YtdpklbomhdpimaaDoor.P
open Go.RowKit Go.Proofs.YtdpklbomhdpimaaDoorW.PrintWords Go.Proofs.YtdpklbomhdpimaaDoorW.PrintLast
attribute [local go_sem high] eqA44
def impl_Entry_123.l0:Nat→List (S44)→Int→Int→Int→Int→Int→Int→Int→Int→ByteArray→Option (Int)
 | 0,_,_,_,_,_,_,_,_,_,_=>none
 | k+1,x0,x7,x8,x748000,x748001,x748002,x748003,x748004,x748005,x748006=>if x8 < x7 then (if 0≤x8 then (if x8 < (x0.length:Int) then (if (x748000==((rd_T44 x0 x8).f0)&&(x748001==((rd_T44 x0 x8).f1)&&((x748002==((rd_T44 x0 x8).f2.f0)&&(x748003==((rd_T44 x0 x8).f2.f1)&&(x748004==((rd_T44 x0 x8).f2.f2)&&(x748005==((rd_T44 x0 x8).f2.f3)&&(x748006.toList==(((rd_T44 x0 x8).f2.f4).toList)))))))))=true then (some x8) else (impl_Entry_123.l0 k x0 x7 (wrap64 (x8+1)) x748000 x748001 x748002 x748003 x748004 x748005 x748006)) else (none)) else (none)) else (some (-1))
def impl_Entry_123.f (k:Nat) (l0:List (S44)) (a1_0:Int) (a1_1:Int) (a1_2:Int) (a1_3:Int) (a1_4:Int) (a1_5:Int) (a1_6:ByteArray):Option (Int):=impl_Entry_123.l0 k l0 (l0.length:Int) 0 a1_0 a1_1 a1_2 a1_3 a1_4 a1_5 a1_6
theorem impl_Entry_123.mono_l:∀ k,(∀ y0 y1 y2 y3 y4 y5 y6 y7 y8 y9,LeO (impl_Entry_123.l0 k y0 y1 y2 y3 y4 y5 y6 y7 y8 y9) (impl_Entry_123.l0 (k+1) y0 y1 y2 y3 y4 y5 y6 y7 y8 y9))
 | 0=>fun _ _ _ _ _ _ _ _ _ _ r h=>by simp [impl_Entry_123.l0] at h
 | k+1=>by
  have ih0:=impl_Entry_123.mono_l k
  ·intro y0 y1 y2 y3 y4 y5 y6 y7 y8 y9
   unfold impl_Entry_123.l0
   repeat' first
   | (with_reducible exact ih0 _ _ _ _ _ _ _ _ _ _)
   | (with_reducible exact LeO.refl _)
   | (with_reducible exact LeO.none _)
   | (with_reducible refine LeO.ite ?_ ?_)
   | (with_reducible refine LeO.bind ?_ (fun _=>?_))
theorem impl_Entry_123.mono:∀ a0 a1 a2 a3 a4 a5 a6 a7 k,LeO (impl_Entry_123.f k a0 a1 a2 a3 a4 a5 a6 a7) (impl_Entry_123.f (k+1) a0 a1 a2 a3 a4 a5 a6 a7):=by
 intro a0 a1 a2 a3 a4 a5 a6 a7 k
 have ih0:=impl_Entry_123.mono_l k
 unfold impl_Entry_123.f
 repeat' first
   | (with_reducible exact ih0 _ _ _ _ _ _ _ _ _ _)
   | (with_reducible exact LeO.refl _)
   | (with_reducible exact LeO.none _)
   | (with_reducible refine LeO.ite ?_ ?_)
   | (with_reducible refine LeO.bind ?_ (fun _=>?_))
theorem impl_Entry_123.calls (k:Nat) (A0:Option Addr) (c0:Nat) (l0:List (S44)) (a1_0:Int) (a1_1:Int) (a1_2:Int) (a1_3:Int) (a1_4:Int) (a1_5:Int) (a1_6:ByteArray) (r:Int) (w:World) (hr0:Kd.C k44 w A0 l0.length l0) (hc0:l0.length≤c0) (h:impl_Entry_123.f k l0 a1_0 a1_1 a1_2 a1_3 a1_4 a1_5 a1_6=some r) :
  Calls Tryd.prog 123 #[.slice A0 l0.length c0,.agg #[.int .i64 a1_0,.int .i64 a1_1,.int .i64 a1_2,.int .i64 a1_3,.int .i64 a1_4,.int .i64 a1_5,.string a1_6]] w fun e w'=>e=.returned (.int .i64 r)∧Below w.heap.size w w':=by
 have hu44:=Tryd.underlying44
 have HR0:=a_ hr0
 have HC0:=a_ hc0
 clear hr0 hc0
 have HB:=a_ (Below.refl w.heap.size w)
 unfold impl_Entry_123.f at h
 have H:=h
 clear h
 have H':=a_ H
 clear H
 go_enter Tryd.func123,Tryd.ntmps123
 go_wp2_with (first|((with_reducible refine gD_ (N:=3) rfl ?_);refine bx_ 3 (#[.int .i64 a1_0,.int .i64 a1_1,.int .i64 a1_2,.int .i64 a1_3,.int .i64 a1_4,.int .i64 a1_5,.string a1_6]) 44 ?_;intro gb747 hg w3 hbox hb;have n0_:=a_ (bS_ (bel_) hb);have n1_:=a_ (hbox);have n2_:=a_ ((by rw [hg];exact (below_size (bel_)):w.heap.size≤gb747));have n3_:=a_ ((by rw [hg];exact (below_size (bel_)):w.heap.size≤gb747));clear HB;have HB:=n0_;have BK747:=n1_;have GW747:=n2_;have GE747:=n3_;clear n0_ n1_ n2_ n3_;clear hb hbox hg))
 repeat (go_quiet (first|((with_reducible refine gD_ (N:=3) rfl ?_);refine bx_ 3 (#[.int .i64 a1_0,.int .i64 a1_1,.int .i64 a1_2,.int .i64 a1_3,.int .i64 a1_4,.int .i64 a1_5,.string a1_6]) 44 ?_;intro gb747 hg w3 hbox hb;have n0_:=a_ (bS_ (bel_) hb);have n1_:=a_ (hbox);have n2_:=a_ ((by rw [hg];exact (below_size (bel_)):w.heap.size≤gb747));have n3_:=a_ ((by rw [hg];exact (below_size (bel_)):w.heap.size≤gb747));clear HB;have HB:=n0_;have BK747:=n1_;have GW747:=n2_;have GE747:=n3_;clear n0_ n1_ n2_ n3_;clear hb hbox hg));try go_wp2_with (first|((with_reducible refine gD_ (N:=3) rfl ?_);refine bx_ 3 (#[.int .i64 a1_0,.int .i64 a1_1,.int .i64 a1_2,.int .i64 a1_3,.int .i64 a1_4,.int .i64 a1_5,.string a1_6]) 44 ?_;intro gb747 hg w3 hbox hb;have n0_:=a_ (bS_ (bel_) hb);have n1_:=a_ (hbox);have n2_:=a_ ((by rw [hg];exact (below_size (bel_)):w.heap.size≤gb747));have n3_:=a_ ((by rw [hg];exact (below_size (bel_)):w.heap.size≤gb747));clear HB;have HB:=n0_;have BK747:=n1_;have GW747:=n2_;have GE747:=n3_;clear n0_ n1_ n2_ n3_;clear hb hbox hg)))
 go_loopg [8] k (fun kq v8 w'=>∃ (x8_1:Int),v8=.int .i64 x8_1∧Aside0 (impl_Entry_123.l0 kq l0 (l0.length:Int) x8_1 a1_0 a1_1 a1_2 a1_3 a1_4 a1_5 a1_6=some r)∧Aside0 (kq≤k)∧Aside0 (w'.heap[gb747]?=some (.cells #[.int .i64 a1_0,.int .i64 a1_1,.int .i64 a1_2,.int .i64 a1_3,.int .i64 a1_4,.int .i64 a1_5,.string a1_6] 44 (0,0)))∧Aside0 (Below w.heap.size w w'))
 case atStart=>exact ⟨(0),(si_),H',⟨Nat.le_refl _⟩,⟨by (with_reducible repeat (first|refine bN_ ?_ _|refine bD_ ?_|refine bA_ ?_ _));exact BK747.out⟩,⟨bel_⟩⟩
 case round =>
  clear H'
  try clear c1
  try clear p2
  obtain ⟨x8_1,rfl,HA,HK1,BK747,HB⟩:=hrel
  cases gk with
  | zero=>exact absurd HA.out (by simp [impl_Entry_123.l0])
  | succ k1 =>
   have H:=HA.out
   clear HA
   simp only [impl_Entry_123.l0] at H
   by_cases c4:x8_1 < (l0.length:Int)
   ·rw [if_pos c4] at H
    have c4b0:decide (x8_1 < (l0.length:Int))=true:=dt_ c4
    clear c4
    by_cases c5:0≤x8_1
    ·rw [if_pos c5] at H
     have c5b0:decide (0≤x8_1)=true:=dt_ c5
     clear c5
     by_cases c6:x8_1 < (l0.length:Int)
     ·rw [if_pos c6] at H
      have c6b0:decide (x8_1 < (l0.length:Int))=true:=dt_ c6
      clear c6
      by_cases c7:(a1_0==((rd_T44 l0 x8_1).f0)&&(a1_1==((rd_T44 l0 x8_1).f1)&&((a1_2==((rd_T44 l0 x8_1).f2.f0)&&(a1_3==((rd_T44 l0 x8_1).f2.f1)&&(a1_4==((rd_T44 l0 x8_1).f2.f2)&&(a1_5==((rd_T44 l0 x8_1).f2.f3)&&(a1_6.toList==(((rd_T44 l0 x8_1).f2.f4).toList)))))))))=true
      ·rw [if_pos c7] at H
       have c7b0:(a1_0==((rd_T44 l0 x8_1).f0)&&(a1_1==((rd_T44 l0 x8_1).f1)&&((a1_2==((rd_T44 l0 x8_1).f2.f0)&&(a1_3==((rd_T44 l0 x8_1).f2.f1)&&(a1_4==((rd_T44 l0 x8_1).f2.f2)&&(a1_5==((rd_T44 l0 x8_1).f2.f3)&&(a1_6.toList==(((rd_T44 l0 x8_1).f2.f4).toList)))))))))=true:=c7
       (try (have c7b1:decide (a1_0=((rd_T44 l0 x8_1).f0)&&(a1_1==((rd_T44 l0 x8_1).f1)&&((a1_2==((rd_T44 l0 x8_1).f2.f0)&&(a1_3==((rd_T44 l0 x8_1).f2.f1)&&(a1_4==((rd_T44 l0 x8_1).f2.f2)&&(a1_5==((rd_T44 l0 x8_1).f2.f3)&&(a1_6.toList==(((rd_T44 l0 x8_1).f2.f4).toList)))))))))=true:=by simpa using c7))
       (try (have c7b2:(a1_0==((rd_T44 l0 x8_1).f0)&&(a1_1==((rd_T44 l0 x8_1).f1)&&((a1_2==((rd_T44 l0 x8_1).f2.f0)&&(a1_3==((rd_T44 l0 x8_1).f2.f1)&&(a1_4==((rd_T44 l0 x8_1).f2.f2)&&(a1_5==((rd_T44 l0 x8_1).f2.f3)&&(a1_6.toList==(((rd_T44 l0 x8_1).f2.f4).toList)))))))))=true:=by simpa using c7))
       clear c7
       obtain rfl:=sj_ H
       obtain ⟨Z8_0,Z8_1,Z8_2,Z8_3,Z8_4,Z8_5,Z8_6,Y8_0,Y8_1,Y8_2,Y8_3,Y8_4,Y8_5,Y8_6⟩:=op7_ BK747.out
       have p748:0≤(x8_1:Int):=od_
       have q748:x8_1 < (l0.length:Int):=od_
       obtain ⟨ad748,e748,hx748_0,hx748_1,hx748_2,hx748_3,hx748_4,hx748_5,hx748_6⟩:=at_T44 HR0.out x8_1 p748 q748
       cases e748
       replace hx748_0:=(cb_ HB.out hx748_0 :)
       replace hx748_1:=(cb_ HB.out hx748_1 :)
       replace hx748_2:=(cb_ HB.out hx748_2 :)
       replace hx748_3:=(cb_ HB.out hx748_3 :)
       replace hx748_4:=(cb_ HB.out hx748_4 :)
       replace hx748_5:=(cb_ HB.out hx748_5 :)
       replace hx748_6:=(cb_ HB.out hx748_6 :)
       replace p748:=eq_true p748
       replace q748:=eq_true q748
       go_wp2
       repeat (go_quiet (fail);try go_wp2)
       go_ret
       exact ⟨fi_,bel_⟩
      ·rw [if_neg c7] at H
       have c7b0:(a1_0==((rd_T44 l0 x8_1).f0)&&(a1_1==((rd_T44 l0 x8_1).f1)&&((a1_2==((rd_T44 l0 x8_1).f2.f0)&&(a1_3==((rd_T44 l0 x8_1).f2.f1)&&(a1_4==((rd_T44 l0 x8_1).f2.f2)&&(a1_5==((rd_T44 l0 x8_1).f2.f3)&&(a1_6.toList==(((rd_T44 l0 x8_1).f2.f4).toList)))))))))=false:=by simpa using c7
       (try (have c7b1:decide (a1_0=((rd_T44 l0 x8_1).f0)&&(a1_1==((rd_T44 l0 x8_1).f1)&&((a1_2==((rd_T44 l0 x8_1).f2.f0)&&(a1_3==((rd_T44 l0 x8_1).f2.f1)&&(a1_4==((rd_T44 l0 x8_1).f2.f2)&&(a1_5==((rd_T44 l0 x8_1).f2.f3)&&(a1_6.toList==(((rd_T44 l0 x8_1).f2.f4).toList)))))))))=false:=by simpa using c7))
       (try (have c7b2:(a1_0==((rd_T44 l0 x8_1).f0)&&(a1_1==((rd_T44 l0 x8_1).f1)&&((a1_2==((rd_T44 l0 x8_1).f2.f0)&&(a1_3==((rd_T44 l0 x8_1).f2.f1)&&(a1_4==((rd_T44 l0 x8_1).f2.f2)&&(a1_5==((rd_T44 l0 x8_1).f2.f3)&&(a1_6.toList==(((rd_T44 l0 x8_1).f2.f4).toList)))))))))=false:=by simpa using c7))
       (try (have c7b3:¬ (a1_0=((rd_T44 l0 x8_1).f0)&&(a1_1==((rd_T44 l0 x8_1).f1)&&((a1_2==((rd_T44 l0 x8_1).f2.f0)&&(a1_3==((rd_T44 l0 x8_1).f2.f1)&&(a1_4==((rd_T44 l0 x8_1).f2.f2)&&(a1_5==((rd_T44 l0 x8_1).f2.f3)&&(a1_6.toList==(((rd_T44 l0 x8_1).f2.f4).toList))))))))):=by simpa using c7))
       clear c7
       have H':=a_ H
       clear H
       obtain ⟨Z9_0,Z9_1,Z9_2,Z9_3,Z9_4,Z9_5,Z9_6,Y9_0,Y9_1,Y9_2,Y9_3,Y9_4,Y9_5,Y9_6⟩:=op7_ BK747.out
       have p748:0≤(x8_1:Int):=od_
       have q748:x8_1 < (l0.length:Int):=od_
       obtain ⟨ad748,e748,hx748_0,hx748_1,hx748_2,hx748_3,hx748_4,hx748_5,hx748_6⟩:=at_T44 HR0.out x8_1 p748 q748
       cases e748
       replace hx748_0:=(cb_ HB.out hx748_0 :)
       replace hx748_1:=(cb_ HB.out hx748_1 :)
       replace hx748_2:=(cb_ HB.out hx748_2 :)
       replace hx748_3:=(cb_ HB.out hx748_3 :)
       replace hx748_4:=(cb_ HB.out hx748_4 :)
       replace hx748_5:=(cb_ HB.out hx748_5 :)
       replace hx748_6:=(cb_ HB.out hx748_6 :)
       replace p748:=eq_true p748
       replace q748:=eq_true q748
       go_wp2
       repeat (go_quiet (fail);try go_wp2)
       go_roundg k1
       case measure=>have:=HK1.out;omega
       case rel=>exact ⟨(wrap64 (x8_1+1)),(si_),H',⟨by have:=HK1.out;omega⟩,⟨by (with_reducible repeat (first|refine bN_ ?_ _|refine bD_ ?_|refine bA_ ?_ _));exact BK747.out⟩,⟨bel_⟩⟩
     ·rw [if_neg c6] at H
      exact absurd H (by simp)
    ·rw [if_neg c5] at H
     exact absurd H (by simp)
   ·rw [if_neg c4] at H
    have c4b0:decide (x8_1 < (l0.length:Int))=false:=df_ c4
    clear c4
    obtain rfl:=sj_ H
    go_wp2
    repeat (go_quiet (fail);try go_wp2)
    go_ret
    exact ⟨fi_,bel_⟩

def impl_Entry_86.f (k:Nat) (l0:List (S44)) (a1_0:Int) (a1_1:Int) (a1_2:Int) (a1_3:Int) (a1_4:Int) (a1_5:Int) (a1_6:ByteArray):Option (Bool):=(impl_Entry_123.f k l0 a1_0 a1_1 a1_2 a1_3 a1_4 a1_5 a1_6).bind fun t750=>(some (decide (t750≥0)))
theorem impl_Entry_86.mono:∀ a0 a1 a2 a3 a4 a5 a6 a7 k,LeO (impl_Entry_86.f k a0 a1 a2 a3 a4 a5 a6 a7) (impl_Entry_86.f (k+1) a0 a1 a2 a3 a4 a5 a6 a7):=by
 intro a0 a1 a2 a3 a4 a5 a6 a7 k
 unfold impl_Entry_86.f
 repeat' first
   | (with_reducible exact impl_Entry_123.mono _ _ _ _ _ _ _ _ _)
   | (with_reducible exact LeO.refl _)
   | (with_reducible exact LeO.none _)
   | (with_reducible refine LeO.ite ?_ ?_)
   | (with_reducible refine LeO.bind ?_ (fun _=>?_))
theorem impl_Entry_86.calls (k:Nat) (A0:Option Addr) (c0:Nat) (l0:List (S44)) (a1_0:Int) (a1_1:Int) (a1_2:Int) (a1_3:Int) (a1_4:Int) (a1_5:Int) (a1_6:ByteArray) (r:Bool) (w:World) (hr0:Kd.C k44 w A0 l0.length l0) (hc0:l0.length≤c0) (h:impl_Entry_86.f k l0 a1_0 a1_1 a1_2 a1_3 a1_4 a1_5 a1_6=some r) :
  Calls Tryd.prog 86 #[.slice A0 l0.length c0,.agg #[.int .i64 a1_0,.int .i64 a1_1,.int .i64 a1_2,.int .i64 a1_3,.int .i64 a1_4,.int .i64 a1_5,.string a1_6]] w fun e w'=>e=.returned (.bool r)∧Below w.heap.size w w':=by
 have hu44:=Tryd.underlying44
 have HR0:=a_ hr0
 have HC0:=a_ hc0
 clear hr0 hc0
 have HB:=a_ (Below.refl w.heap.size w)
 unfold impl_Entry_86.f at h
 have H:=h
 clear h
 replace H:=bs_ H
 obtain ⟨t750,A30,H⟩:=H
 try dsimp only at H
 have A3:=a_ A30
 clear A30
 obtain rfl:=sj_ H
 go_enter Tryd.func86,Tryd.ntmps86
 go_wp2_with (first|((with_reducible refine gD_ (N:=3) rfl ?_);refine bx_ 3 (#[.int .i64 a1_0,.int .i64 a1_1,.int .i64 a1_2,.int .i64 a1_3,.int .i64 a1_4,.int .i64 a1_5,.string a1_6]) 44 ?_;intro gb749 hg w4 hbox hb;have n0_:=a_ (bS_ (bel_) hb);have n1_:=a_ (hbox);have n2_:=a_ ((by rw [hg];exact (below_size (bel_)):w.heap.size≤gb749));have n3_:=a_ ((by rw [hg];exact (below_size (bel_)):w.heap.size≤gb749));clear HB;have HB:=n0_;have BK749:=n1_;have GW749:=n2_;have GE749:=n3_;clear n0_ n1_ n2_ n3_;clear hb hbox hg;obtain ⟨Z5_0,Z5_1,Z5_2,Z5_3,Z5_4,Z5_5,Z5_6,Y5_0,Y5_1,Y5_2,Y5_3,Y5_4,Y5_5,Y5_6⟩:=op7_ BK749.out)|((with_reducible refine gC_ (f:=123) rfl ?_);refine gl_ 7 Tryd.func123 #[.slice A0 l0.length c0,.agg #[.int .i64 a1_0,.int .i64 a1_1,.int .i64 a1_2,.int .i64 a1_3,.int .i64 a1_4,.int .i64 a1_5,.string a1_6]] ?_;(with_reducible refine (impl_Entry_123.calls k _ _ l0 a1_0 a1_1 a1_2 a1_3 a1_4 a1_5 a1_6 t750 _ ?side1 ?side2 A3.out).mono ?_);(case side1=>exact cp_ HR0.out);(case side2=>exact HC0.out);rintro e w6 ⟨rfl,hb⟩;refine ⟨_,rfl,?_⟩;replace HB:=a_ (bS_ (bel_) hb);replace BK749:=a_ (bb_ BK749.out hb);(try clear hb)))
 go_ret
 exact ⟨fi_,bel_⟩

def impl_LogAdd.j0:Nat→List (S44)→Bool→Int→Int→Int→Int→Int→Int→ByteArray→Option ((List (S44))×Int)
 | 0,_,_,_,_,_,_,_,_,_=>none
 | k+1,x0,x14,x752000,x752001,x752002,x752003,x752004,x752005,x752006=>if x14=true then (some (([]:List (S44)),(-1))) else ((impl_Entry_85.f x0).bind fun t754=>((impl_Entry_86.f k x0 x752000 x752001 x752002 x752003 x752004 x752005 x752006).bind fun t757=>(if t757=true then (some (t754,0)) else ((impl_LogSeq.f k x0 x752000).bind fun t758=>(if x752001=(wrap64 (t758+1)) then (if (x0.length:Int)≥40 then (some (t754,(-1))) else (if t754.length < 2199023255552 then (some ((t754++[(⟨x752000,x752001,(⟨x752002,x752003,x752004,x752005,x752006⟩:S42)⟩:S44)]),1)) else (none))) else (some (t754,(-1))))))))
def impl_LogAdd.f (k:Nat) (l0:List (S44)) (a1_0:Int) (a1_1:Int) (a1_2:Int) (a1_3:Int) (a1_4:Int) (a1_5:Int) (a1_6:ByteArray):Option ((List (S44))×Int):=(impl_LogOk.f k l0).bind fun t752=>(if t752=true then ((impl_EntryOk.f k a1_0 a1_1 a1_2 a1_3 a1_4 a1_5 a1_6).bind fun t753=>(impl_LogAdd.j0 k l0 (!t753) a1_0 a1_1 a1_2 a1_3 a1_4 a1_5 a1_6)) else (impl_LogAdd.j0 k l0 true a1_0 a1_1 a1_2 a1_3 a1_4 a1_5 a1_6))
theorem impl_LogAdd.mono_l:∀ k,(∀ y0 y1 y2 y3 y4 y5 y6 y7 y8,LeO (impl_LogAdd.j0 k y0 y1 y2 y3 y4 y5 y6 y7 y8) (impl_LogAdd.j0 (k+1) y0 y1 y2 y3 y4 y5 y6 y7 y8))
 | 0=>fun _ _ _ _ _ _ _ _ _ r h=>by simp [impl_LogAdd.j0] at h
 | k+1=>by
  have ih0:=impl_LogAdd.mono_l k
  ·intro y0 y1 y2 y3 y4 y5 y6 y7 y8
   unfold impl_LogAdd.j0
   repeat' first
   | (with_reducible exact ih0 _ _ _ _ _ _ _ _ _)
   | (with_reducible exact impl_EntryOk.mono _ _ _ _ _ _ _ _)
   | (with_reducible exact impl_Entry_86.mono _ _ _ _ _ _ _ _ _)
   | (with_reducible exact impl_LogOk.mono _ _)
   | (with_reducible exact impl_LogSeq.mono _ _ _)
   | (with_reducible exact LeO.refl _)
   | (with_reducible exact LeO.none _)
   | (with_reducible refine LeO.ite ?_ ?_)
   | (with_reducible refine LeO.bind ?_ (fun _=>?_))
theorem impl_LogAdd.mono:∀ a0 a1 a2 a3 a4 a5 a6 a7 k,LeO (impl_LogAdd.f k a0 a1 a2 a3 a4 a5 a6 a7) (impl_LogAdd.f (k+1) a0 a1 a2 a3 a4 a5 a6 a7):=by
 intro a0 a1 a2 a3 a4 a5 a6 a7 k
 have ih0:=impl_LogAdd.mono_l k
 unfold impl_LogAdd.f
 repeat' first
   | (with_reducible exact ih0 _ _ _ _ _ _ _ _ _)
   | (with_reducible exact impl_EntryOk.mono _ _ _ _ _ _ _ _)
   | (with_reducible exact impl_Entry_86.mono _ _ _ _ _ _ _ _ _)
   | (with_reducible exact impl_LogOk.mono _ _)
   | (with_reducible exact impl_LogSeq.mono _ _ _)
   | (with_reducible exact LeO.refl _)
   | (with_reducible exact LeO.none _)
   | (with_reducible refine LeO.ite ?_ ?_)
   | (with_reducible refine LeO.bind ?_ (fun _=>?_))
def impl_LogAdd.T6:Bool×List (List Nat×List Nat):=(true,[([],[]),([0],[0]),([],[]),([],[]),([3],[3]),([2,4],[2,4]),([5],[5]),([1,6],[1,6]),([7,5],[7]),([8],[8]),([9,8],[8,9]),([10,8],[8,10]),([8,11],[8,11])])
def impl_LogAdd.B6:List Nat:=[0,1,0,0,8,28,60,127,255,511,1023,2047,4095]
theorem impl_LogAdd.tab6:rtab .any (opsOf Tryd.f31 6)=impl_LogAdd.T6:=by kernel_rfl
theorem impl_LogAdd.bits6:waitsOk impl_LogAdd.T6.2 impl_LogAdd.B6=true:=by kernel_rfl
theorem impl_LogAdd.calls (k:Nat) (A0:Option Addr) (c0:Nat) (l0:List (S44)) (a1_0:Int) (a1_1:Int) (a1_2:Int) (a1_3:Int) (a1_4:Int) (a1_5:Int) (a1_6:ByteArray) (r1:List (S44)) (r2:Int) (w:World) (hr0:Kd.C k44 w A0 l0.length l0) (hc0:l0.length≤c0) (h:impl_LogAdd.f k l0 a1_0 a1_1 a1_2 a1_3 a1_4 a1_5 a1_6=some (r1,r2)) (hG:Glob w) :
  Calls Tryd.prog 31 #[.slice A0 l0.length c0,.agg #[.int .i64 a1_0,.int .i64 a1_1,.int .i64 a1_2,.int .i64 a1_3,.int .i64 a1_4,.int .i64 a1_5,.string a1_6]] w fun e w'=>∃ v0_:Value,e=.returned (.tuple #[v0_,.int .i64 r2])∧Kd.R k44 44 w' w.heap.size (fun _=>True) v0_ r1∧Below w.heap.size w w':=by
 have hu44:=Tryd.underlying44
 have HR0:=a_ hr0
 have HC0:=a_ hc0
 clear hr0 hc0
 have HB:=a_ (Below.refl w.heap.size w)
 have HG:=a_ hG
 clear hG
 unfold impl_LogAdd.f at h
 have H:=h
 clear h
 have HC3:=a_ H
 clear H
 go_enter Tryd.func31,Tryd.ntmps31
 go_upto_region 1 with (first|((with_reducible refine gD_ (N:=3) rfl ?_);refine bx_ 3 (#[.int .i64 a1_0,.int .i64 a1_1,.int .i64 a1_2,.int .i64 a1_3,.int .i64 a1_4,.int .i64 a1_5,.string a1_6]) 44 ?_;intro gb751 hg w4 hbox hb;have n0_:=a_ (bS_ (bel_) hb);have n1_:=a_ (hbox);have n2_:=a_ ((by rw [hg];exact (below_size (bel_)):w.heap.size≤gb751));have n3_:=a_ ((by rw [hg];exact (below_size (bel_)):w.heap.size≤gb751));clear HB;have HB:=n0_;have BK751:=n1_;have GW751:=n2_;have GE751:=n3_;clear n0_ n1_ n2_ n3_;clear hb hbox hg))
 (try simp only [Act.put,List.setIfInBounds_toArray,List.set_cons_zero,List.set_cons_succ])
 go_cut [14] (fun v14 wc=>∃ (kq:Nat) (x14_2:Bool),v14=.bool x14_2∧Aside0 (impl_LogAdd.j0 kq l0 x14_2 a1_0 a1_1 a1_2 a1_3 a1_4 a1_5 a1_6=some (r1,r2))∧Aside0 (kq≤k)∧Aside0 (wc.heap[gb751]?=some (.cells #[.int .i64 a1_0,.int .i64 a1_1,.int .i64 a1_2,.int .i64 a1_3,.int .i64 a1_4,.int .i64 a1_5,.string a1_6] 44 (0,0)))∧Aside0 (Below w.heap.size w wc))
 case first =>
  have H:=HC3.out
  clear HC3
  replace H:=bs_ H
  obtain ⟨t752,A50,H⟩:=H
  try dsimp only at H
  have A5:=a_ A50
  clear A50
  by_cases c6:t752=true
  ·subst c6
   have H1:((impl_EntryOk.f k a1_0 a1_1 a1_2 a1_3 a1_4 a1_5 a1_6).bind fun t753=>(impl_LogAdd.j0 k l0 (!t753) a1_0 a1_1 a1_2 a1_3 a1_4 a1_5 a1_6))=some (r1,r2):=by rw [if_pos rfl] at H;exact H
   clear H
   have H:=H1
   clear H1
   replace H:=bs_ H
   obtain ⟨t753,A70,H⟩:=H
   try dsimp only at H
   have A7:=a_ A70
   clear A70
   have H':=a_ H
   clear H
   go_wp2_with (first|((with_reducible refine gC_ (f:=42) rfl ?_);refine gl_ 8 Tryd.func42 #[.slice A0 l0.length c0] ?_;(with_reducible refine (impl_LogOk.calls k _ _ l0 true _ ?side1 ?side2 A5.out ?side3).mono ?_);(case side1=>exact cp_ HR0.out);(case side2=>exact HC0.out);(case side3=>exact Glob.below HG.out (bel_));rintro e w8 ⟨rfl,hb⟩;refine ⟨_,rfl,?_⟩;replace HB:=a_ (bS_ (bel_) hb);replace BK751:=a_ (bb_ BK751.out hb);(try clear hb);obtain ⟨Z9_0,Z9_1,Z9_2,Z9_3,Z9_4,Z9_5,Z9_6,Y9_0,Y9_1,Y9_2,Y9_3,Y9_4,Y9_5,Y9_6⟩:=op7_ BK751.out)|(go_at_call 78;(with_reducible refine (impl_EntryOk.calls k a1_0 a1_1 a1_2 a1_3 a1_4 a1_5 a1_6 t753 _ A7.out ?side1).mono ?_);(case side1=>exact Glob.below HG.out (bel_));rintro e w10 ⟨rfl,hb⟩;replace HB:=a_ (bS_ (bel_) hb);replace BK751:=a_ (bb_ BK751.out hb);(try clear hb)))
   go_meet
   case rel=>exact ⟨_,(!t753),(si_),H',⟨by first|omega|exact Nat.le_refl _⟩,⟨by (with_reducible repeat (first|refine bN_ ?_ _|refine bD_ ?_|refine bA_ ?_ _));exact BK751.out⟩,⟨bel_⟩⟩
  ·replace c6:=Bool.eq_false_iff.mpr c6
   subst c6
   have H1:(impl_LogAdd.j0 k l0 true a1_0 a1_1 a1_2 a1_3 a1_4 a1_5 a1_6)=some (r1,r2):=by rw [if_neg (show ¬ (false=true) by decide)] at H;exact H
   clear H
   have H:=H1
   clear H1
   have H':=a_ H
   clear H
   go_wp2_with (first|((with_reducible refine gC_ (f:=42) rfl ?_);refine gl_ 8 Tryd.func42 #[.slice A0 l0.length c0] ?_;(with_reducible refine (impl_LogOk.calls k _ _ l0 false _ ?side1 ?side2 A5.out ?side3).mono ?_);(case side1=>exact cp_ HR0.out);(case side2=>exact HC0.out);(case side3=>exact Glob.below HG.out (bel_));rintro e w11 ⟨rfl,hb⟩;refine ⟨_,rfl,?_⟩;replace HB:=a_ (bS_ (bel_) hb);replace BK751:=a_ (bb_ BK751.out hb);(try clear hb)))
   go_meet
   case rel=>exact ⟨_,(true),(si_),H',⟨by first|omega|exact Nat.le_refl _⟩,⟨by (with_reducible repeat (first|refine bN_ ?_ _|refine bD_ ?_|refine bA_ ?_ _));exact BK751.out⟩,⟨bel_⟩⟩
 case rest =>
  clear HC3
  try clear p2
  try clear c3
  try clear c4
  try clear c6
  try clear Z9_0 Z9_1 Z9_2 Z9_3 Z9_4 Z9_5 Z9_6 Y9_0 Y9_1 Y9_2 Y9_3 Y9_4 Y9_5 Y9_6
  obtain ⟨kq,x14_2,rfl,HA,HJ2,BK751,HB⟩:=hcut
  cases kq with
  | zero=>exact absurd HA.out (by simp [impl_LogAdd.j0])
  | succ kj2 =>
   have H:=HA.out
   clear HA
   simp only [impl_LogAdd.j0] at H
   by_cases c12:x14_2=true
   ·subst c12
    have H1:(some (([]:List (S44)),(-1)))=some (r1,r2):=by rw [if_pos rfl] at H;exact H
    clear H
    have H:=H1
    clear H1
    simp only [Option.some.injEq,Prod.mk.injEq] at H
    obtain ⟨rfl,rfl⟩:=H
    go_wp2
    go_ret2
    exact ⟨_,fi_,by first|exact Kd.R_nil _ _ _ _ _|exact Kd.N_nil _ _ _ _ _|exact Kd.V_nil _ _ _ _ _|exact Kd.Q_nil _ _ _ _ _|exact Kd.S_nil _ _ _ _ _,bel_⟩
   ·replace c12:=Bool.eq_false_iff.mpr c12
    subst c12
    have H1:((impl_Entry_85.f l0).bind fun t754=>((impl_Entry_86.f kj2 l0 a1_0 a1_1 a1_2 a1_3 a1_4 a1_5 a1_6).bind fun t757=>(if t757=true then (some (t754,0)) else ((impl_LogSeq.f kj2 l0 a1_0).bind fun t758=>(if a1_1=(wrap64 (t758+1)) then (if (l0.length:Int)≥40 then (some (t754,(-1))) else (if t754.length < 2199023255552 then (some ((t754++[(⟨a1_0,a1_1,(⟨a1_2,a1_3,a1_4,a1_5,a1_6⟩:S42)⟩:S44)]),1)) else (none))) else (some (t754,(-1))))))))=some (r1,r2):=by rw [if_neg (show ¬ (false=true) by decide)] at H;exact H
    clear H
    have H:=H1
    clear H1
    replace H:=bs_ H
    obtain ⟨t754,A130,H⟩:=H
    try dsimp only at H
    have A13:=a_ A130
    clear A130
    replace H:=bs_ H
    obtain ⟨t757,A140,H⟩:=H
    try dsimp only at H
    have A14:=a_ A140
    clear A140
    by_cases c15:t757=true
    ·subst c15
     have H1:(some (t754,0))=some (r1,r2):=by rw [if_pos rfl] at H;exact H
     clear H
     have H:=H1
     clear H1
     simp only [Option.some.injEq,Prod.mk.injEq] at H
     obtain ⟨rfl,rfl⟩:=H
     go_wp2_with (first|((with_reducible refine gC_ (f:=85) rfl ?_);refine gl_ 16 Tryd.func85 #[.slice A0 l0.length c0] ?_;(with_reducible refine (impl_Entry_85.calls _ _ l0 t754 _ ?side1 ?side2 A13.out).mono ?_);(case side1=>exact cp_ HR0.out);(case side2=>exact HC0.out);rintro e w16 ⟨v755,rfl,ho0,hb⟩;refine ⟨_,rfl,?_⟩;have HO756:=a_ (Kd.R_lower (Kd.R_newB ho0 (g:=gb751) (o:=.cells #[.int .i64 a1_0,.int .i64 a1_1,.int .i64 a1_2,.int .i64 a1_3,.int .i64 a1_4,.int .i64 a1_5,.string a1_6] 44 (0,0)) (bp_ BK751.out)) (below_size (bel_)));replace HB:=a_ (bS_ (bel_) hb);replace BK751:=a_ (bb_ BK751.out hb);(try clear hb ho0);obtain ⟨Z17_0,Z17_1,Z17_2,Z17_3,Z17_4,Z17_5,Z17_6,Y17_0,Y17_1,Y17_2,Y17_3,Y17_4,Y17_5,Y17_6⟩:=op7_ BK751.out)|((with_reducible refine gC_ (f:=86) rfl ?_);refine gl_ 19 Tryd.func86 #[.slice A0 l0.length c0,.agg #[.int .i64 a1_0,.int .i64 a1_1,.int .i64 a1_2,.int .i64 a1_3,.int .i64 a1_4,.int .i64 a1_5,.string a1_6]] ?_;(with_reducible refine (impl_Entry_86.calls kj2 _ _ l0 a1_0 a1_1 a1_2 a1_3 a1_4 a1_5 a1_6 true _ ?side1 ?side2 A14.out).mono ?_);(case side1=>exact cp_ HR0.out);(case side2=>exact HC0.out);rintro e w18 ⟨rfl,hb⟩;refine ⟨_,rfl,?_⟩;replace HO756:=a_ (Kd.R_below (rp_ HO756.out) hb);replace HB:=a_ (bS_ (bel_) hb);replace BK751:=a_ (bb_ BK751.out hb);(try clear hb)))
     go_ret2
     exact ⟨_,fi_,by (with_reducible repeat (first|apply Kd.R_alloc|apply Kd.R_drewN|apply Kd.R_drew));exact Kd.R_mono HO756.out (fun _ hk=>trivial),bel_⟩
    ·replace c15:=Bool.eq_false_iff.mpr c15
     subst c15
     have H1:((impl_LogSeq.f kj2 l0 a1_0).bind fun t758=>(if a1_1=(wrap64 (t758+1)) then (if (l0.length:Int)≥40 then (some (t754,(-1))) else (if t754.length < 2199023255552 then (some ((t754++[(⟨a1_0,a1_1,(⟨a1_2,a1_3,a1_4,a1_5,a1_6⟩:S42)⟩:S44)]),1)) else (none))) else (some (t754,(-1)))))=some (r1,r2):=by rw [if_neg (show ¬ (false=true) by decide)] at H;exact H
     clear H
     have H:=H1
     clear H1
     replace H:=bs_ H
     obtain ⟨t758,A190,H⟩:=H
     try dsimp only at H
     have A19:=a_ A190
     clear A190
     by_cases c20:a1_1=(wrap64 (t758+1))
     ·rw [if_pos c20] at H
      have c20b0:(a1_1==(wrap64 (t758+1)))=true:=beq_iff_eq.mpr c20
      have c20b1:(a1_1 != (wrap64 (t758+1)))=false:=be_ c20
      clear c20
      by_cases c21:(l0.length:Int)≥40
      ·rw [if_pos c21] at H
       have c21b0:decide (40≤(l0.length:Int))=true:=dt_ c21
       have c21b1:decide (40≤l0.length)=true:=dt_ (by omega)
       clear c21
       simp only [Option.some.injEq,Prod.mk.injEq] at H
       obtain ⟨rfl,rfl⟩:=H
       try go_wp2_with (first|((with_reducible refine gC_ (f:=85) rfl ?_);refine gl_ 16 Tryd.func85 #[.slice A0 l0.length c0] ?_;(with_reducible refine (impl_Entry_85.calls _ _ l0 t754 _ ?side1 ?side2 A13.out).mono ?_);(case side1=>exact cp_ HR0.out);(case side2=>exact HC0.out);rintro e w22 ⟨v755,rfl,ho0,hb⟩;refine ⟨_,rfl,?_⟩;have HO756:=a_ (Kd.R_lower (Kd.R_newB ho0 (g:=gb751) (o:=.cells #[.int .i64 a1_0,.int .i64 a1_1,.int .i64 a1_2,.int .i64 a1_3,.int .i64 a1_4,.int .i64 a1_5,.string a1_6] 44 (0,0)) (bp_ BK751.out)) (below_size (bel_)));replace HB:=a_ (bS_ (bel_) hb);replace BK751:=a_ (bb_ BK751.out hb);(try clear hb ho0);obtain ⟨Z23_0,Z23_1,Z23_2,Z23_3,Z23_4,Z23_5,Z23_6,Y23_0,Y23_1,Y23_2,Y23_3,Y23_4,Y23_5,Y23_6⟩:=op7_ BK751.out)|((with_reducible refine gC_ (f:=86) rfl ?_);refine gl_ 19 Tryd.func86 #[.slice A0 l0.length c0,.agg #[.int .i64 a1_0,.int .i64 a1_1,.int .i64 a1_2,.int .i64 a1_3,.int .i64 a1_4,.int .i64 a1_5,.string a1_6]] ?_;(with_reducible refine (impl_Entry_86.calls kj2 _ _ l0 a1_0 a1_1 a1_2 a1_3 a1_4 a1_5 a1_6 false _ ?side1 ?side2 A14.out).mono ?_);(case side1=>exact cp_ HR0.out);(case side2=>exact HC0.out);rintro e w24 ⟨rfl,hb⟩;refine ⟨_,rfl,?_⟩;replace HO756:=a_ (Kd.R_below (rp_ HO756.out) hb);replace HB:=a_ (bS_ (bel_) hb);replace BK751:=a_ (bb_ BK751.out hb);(try clear hb)))
       have n0_:=a_ (Kd.R_drew HO756.out)
       have n1_:=a_ (bD_ BK751.out)
       have n2_:=a_ (below_drew1 HB.out)
       clear HO756
       clear BK751
       clear HB
       have HO756:=n0_
       have BK751:=n1_
       have HB:=n2_
       clear n0_ n1_ n2_
       refine start_ (n:=13) (S:=fun w'=>w'.cell? ⟨gb751,0,none⟩=some (.int .i64 a1_0)∧w'.cell? ⟨gb751,1,none⟩=some (.int .i64 a1_1)∧w'.cell? ⟨gb751,2,none⟩=some (.int .i64 a1_2)∧w'.cell? ⟨gb751,3,none⟩=some (.int .i64 a1_3)∧w'.cell? ⟨gb751,4,none⟩=some (.int .i64 a1_4)∧w'.cell? ⟨gb751,5,none⟩=some (.int .i64 a1_5)∧w'.cell? ⟨gb751,6,none⟩=some (.string a1_6)) (ds:=[]) #[false,false,false,false,false,false,false,false,false,false,false,false,false] (by kernel_rfl) rfl rfl ⟨(bC_ BK751.out 0).trans rfl,(bC_ BK751.out 1).trans rfl,(bC_ BK751.out 2).trans rfl,(bC_ BK751.out 3).trans rfl,(bC_ BK751.out 4).trans rfl,(bC_ BK751.out 5).trans rfl,(bC_ BK751.out 6).trans rfl⟩ (fun hHeld=>?_);refine with_tabW impl_LogAdd.tab6 impl_LogAdd.bits6 (fun HT_ HW_=>?_)
       generalize w24.drew=w25 at HO756 BK751 HB hHeld ⊢
       refine pa_ 0 21 ?_
       refine pa_ 2 23 ?_
       refine pa_ 3 24 ?_
       refine ta7_ 1 22 hHeld ?_
       refine ta7_ 4 25 hHeld ?_
       refine on_ 5 26 (fun K hK=>?_)
       refine goes_ Tryd.func33 (by kernel_rfl) rfl #[.slice A0 l0.length c0,.int .i64 a1_0] (by rfl) rfl rfl ar_ ?_
       with_reducible refine (impl_LogSeq.calls kj2 _ _ l0 a1_0 t758 _ ?side1 ?side2 A19.out ?side3).mono ?_
       (case side1=>exact cp_ HR0.out)
       (case side2=>exact HC0.out)
       (case side3=>exact Glob.below HG.out (bel_))
       rintro e w26 ⟨rfl,hb⟩
       refine ⟨_,rfl,?_⟩
       have n0_:=a_ (Kd.R_below (rp_ HO756.out) hb)
       have n1_:=a_ (bb_ BK751.out hb)
       have n2_:=a_ (bS_ (bel_) hb)
       clear HO756
       clear BK751
       clear HB
       have HO756:=n0_
       have BK751:=n1_
       have HB:=n2_
       clear n0_ n1_ n2_
       (try clear hb)
       (try clear hb2)
       (try clear hk)
       (try clear hi)
       refine hK.out _ _ ⟨(bC_ BK751.out 0).trans rfl,(bC_ BK751.out 1).trans rfl,(bC_ BK751.out 2).trans rfl,(bC_ BK751.out 3).trans rfl,(bC_ BK751.out 4).trans rfl,(bC_ BK751.out 5).trans rfl,(bC_ BK751.out 6).trans rfl⟩ (fun hHeld=>?_)
       clear hK K
       refine no_ 26 ?_
       refine pa_ 6 27 ?_
       refine pa_ 7 28 ?_
       refine pa_ 8 29 ?_
       refine pa_ 9 30 ?_
       refine pa_ 10 31 ?_
       refine pa_ 11 32 ?_
       refine pa_ 12 33 ?_
       refine done_ (done_of HT_.out (by kernel_rfl)) ?_
       try go_wp2
       go_ret2
       exact ⟨_,fi_,by (with_reducible repeat (first|apply Kd.R_alloc|apply Kd.R_drewN|apply Kd.R_drew));exact Kd.R_mono HO756.out (fun _ hk=>trivial),bel_⟩
      ·rw [if_neg c21] at H
       have c21b0:decide (40≤(l0.length:Int))=false:=df_ c21
       have c21b1:decide (40≤l0.length)=false:=df_ (by omega)
       clear c21
       by_cases c27:t754.length < 2199023255552
       ·rw [if_pos c27] at H
        have LMc27:=a_ c27
        clear c27
        obtain ⟨y759,hy759⟩:∃ y_:List (S44),y_=(t754++[(⟨a1_0,a1_1,(⟨a1_2,a1_3,a1_4,a1_5,a1_6⟩:S42)⟩:S44)]):=⟨_,rfl⟩
        replace H:(some (y759,1))=some (r1,r2):=by first|(rw [hy759];with_reducible exact H)|(have H2_:=(Option.bind_some _ _).symm.trans H;rw [hy759];with_reducible exact H2_)|(have H2_:=(Option.bind_some _ _).symm.trans H;with_reducible exact H2_)|with_reducible exact H|(rw [hy759];exact H)|exact H
        have Ny759:=a_ hy759
        clear hy759
        simp only [Option.some.injEq,Prod.mk.injEq] at H
        obtain ⟨rfl,rfl⟩:=H
        try go_wp2_with (first|((with_reducible refine gC_ (f:=85) rfl ?_);refine gl_ 16 Tryd.func85 #[.slice A0 l0.length c0] ?_;(with_reducible refine (impl_Entry_85.calls _ _ l0 t754 _ ?side1 ?side2 A13.out).mono ?_);(case side1=>exact cp_ HR0.out);(case side2=>exact HC0.out);rintro e w28 ⟨v755,rfl,ho0,hb⟩;refine ⟨_,rfl,?_⟩;have HO756:=a_ (Kd.R_lower (Kd.R_newB ho0 (g:=gb751) (o:=.cells #[.int .i64 a1_0,.int .i64 a1_1,.int .i64 a1_2,.int .i64 a1_3,.int .i64 a1_4,.int .i64 a1_5,.string a1_6] 44 (0,0)) (bp_ BK751.out)) (below_size (bel_)));replace HB:=a_ (bS_ (bel_) hb);replace BK751:=a_ (bb_ BK751.out hb);(try clear hb ho0);obtain ⟨Z29_0,Z29_1,Z29_2,Z29_3,Z29_4,Z29_5,Z29_6,Y29_0,Y29_1,Y29_2,Y29_3,Y29_4,Y29_5,Y29_6⟩:=op7_ BK751.out)|((with_reducible refine gC_ (f:=86) rfl ?_);refine gl_ 19 Tryd.func86 #[.slice A0 l0.length c0,.agg #[.int .i64 a1_0,.int .i64 a1_1,.int .i64 a1_2,.int .i64 a1_3,.int .i64 a1_4,.int .i64 a1_5,.string a1_6]] ?_;(with_reducible refine (impl_Entry_86.calls kj2 _ _ l0 a1_0 a1_1 a1_2 a1_3 a1_4 a1_5 a1_6 false _ ?side1 ?side2 A14.out).mono ?_);(case side1=>exact cp_ HR0.out);(case side2=>exact HC0.out);rintro e w30 ⟨rfl,hb⟩;refine ⟨_,rfl,?_⟩;replace HO756:=a_ (Kd.R_below (rp_ HO756.out) hb);replace HB:=a_ (bS_ (bel_) hb);replace BK751:=a_ (bb_ BK751.out hb);(try clear hb)))
        have n0_:=a_ (Kd.R_drew HO756.out)
        have n1_:=a_ (bD_ BK751.out)
        have n2_:=a_ (below_drew1 HB.out)
        clear HO756
        clear BK751
        clear HB
        have HO756:=n0_
        have BK751:=n1_
        have HB:=n2_
        clear n0_ n1_ n2_
        refine start_ (n:=13) (S:=fun w'=>w'.cell? ⟨gb751,0,none⟩=some (.int .i64 a1_0)∧w'.cell? ⟨gb751,1,none⟩=some (.int .i64 a1_1)∧w'.cell? ⟨gb751,2,none⟩=some (.int .i64 a1_2)∧w'.cell? ⟨gb751,3,none⟩=some (.int .i64 a1_3)∧w'.cell? ⟨gb751,4,none⟩=some (.int .i64 a1_4)∧w'.cell? ⟨gb751,5,none⟩=some (.int .i64 a1_5)∧w'.cell? ⟨gb751,6,none⟩=some (.string a1_6)) (ds:=[]) #[false,false,false,false,false,false,false,false,false,false,false,false,false] (by kernel_rfl) rfl rfl ⟨(bC_ BK751.out 0).trans rfl,(bC_ BK751.out 1).trans rfl,(bC_ BK751.out 2).trans rfl,(bC_ BK751.out 3).trans rfl,(bC_ BK751.out 4).trans rfl,(bC_ BK751.out 5).trans rfl,(bC_ BK751.out 6).trans rfl⟩ (fun hHeld=>?_);refine with_tabW impl_LogAdd.tab6 impl_LogAdd.bits6 (fun HT_ HW_=>?_)
        generalize w30.drew=w31 at HO756 BK751 HB hHeld ⊢
        refine pa_ 0 21 ?_
        refine pa_ 2 23 ?_
        refine pa_ 3 24 ?_
        refine ta7_ 1 22 hHeld ?_
        refine ta7_ 4 25 hHeld ?_
        refine on_ 5 26 (fun K hK=>?_)
        refine goes_ Tryd.func33 (by kernel_rfl) rfl #[.slice A0 l0.length c0,.int .i64 a1_0] (by rfl) rfl rfl ar_ ?_
        with_reducible refine (impl_LogSeq.calls kj2 _ _ l0 a1_0 t758 _ ?side1 ?side2 A19.out ?side3).mono ?_
        (case side1=>exact cp_ HR0.out)
        (case side2=>exact HC0.out)
        (case side3=>exact Glob.below HG.out (bel_))
        rintro e w32 ⟨rfl,hb⟩
        refine ⟨_,rfl,?_⟩
        have n0_:=a_ (Kd.R_below (rp_ HO756.out) hb)
        have n1_:=a_ (bb_ BK751.out hb)
        have n2_:=a_ (bS_ (bel_) hb)
        clear HO756
        clear BK751
        clear HB
        have HO756:=n0_
        have BK751:=n1_
        have HB:=n2_
        clear n0_ n1_ n2_
        (try clear hb)
        (try clear hb2)
        (try clear hk)
        (try clear hi)
        refine hK.out _ _ ⟨(bC_ BK751.out 0).trans rfl,(bC_ BK751.out 1).trans rfl,(bC_ BK751.out 2).trans rfl,(bC_ BK751.out 3).trans rfl,(bC_ BK751.out 4).trans rfl,(bC_ BK751.out 5).trans rfl,(bC_ BK751.out 6).trans rfl⟩ (fun hHeld=>?_)
        clear hK K
        refine no_ 26 ?_
        refine pa_ 6 27 ?_
        refine pa_ 7 28 ?_
        refine pa_ 8 29 ?_
        refine pa_ 9 30 ?_
        refine pa_ 10 31 ?_
        refine pa_ 11 32 ?_
        refine pa_ 12 33 ?_
        refine done_ (done_of HT_.out (by kernel_rfl)) ?_
        obtain ⟨Z33_0,Z33_1,Z33_2,Z33_3,Z33_4,Z33_5,Z33_6,Y33_0,Y33_1,Y33_2,Y33_3,Y33_4,Y33_5,Y33_6⟩:=op7_ BK751.out
        try go_wp2_with (first|((with_reducible refine gate_builtin (b:=.append) (xs:=#[.tmp 35,.tmp 37]) rfl ?_);at_builtin;refine Kd.R_append k44 (w0:=w) w.heap.size rfl (.tmp 35) (.tmp 37) 23 44 (.agg #[(.int .i64 0),(.int .i64 0),(.int .i64 0),(.int .i64 0),(.int .i64 0),(.int .i64 0),(.string ⟨#[]⟩)]) 64 rfl Tryd.underlying23 info44 rfl (by decide) (by omega) v755 t754 (⟨a1_0,a1_1,(⟨a1_2,a1_3,a1_4,a1_5,a1_6⟩:S42)⟩:S44) [.int .i64 a1_0,.int .i64 a1_1,.int .i64 a1_2,.int .i64 a1_3,.int .i64 a1_4,.int .i64 a1_5,.string a1_6] (fun k_=>k_≠gb751) (fun _=>False) rfl rfl ?aP (fun _ hk=>hk.elim) ?aF ?aO ?aB ?aS ?aL ?_;(case aP=>exact k44_mkM _ _ _ (⟨a1_0,a1_1,(⟨a1_2,a1_3,a1_4,a1_5,a1_6⟩:S42)⟩:S44));(case aB=>exact (bel_));(case aF=>exact (fun k_ hk=>Kd.freshB (g:=gb751) (o:=.cells #[.int .i64 a1_0,.int .i64 a1_1,.int .i64 a1_2,.int .i64 a1_3,.int .i64 a1_4,.int .i64 a1_5,.string a1_6] 44 (0,0)) (bp_ BK751.out) k_ hk));(case aO=>exact (by (with_reducible repeat (first|apply Kd.R_alloc|apply Kd.R_drewN|apply Kd.R_drew));exact Kd.R_mono HO756.out (fun _ hk=>hk.2)));(case aS=>exact (below_size (bel_)));(case aL=>have:=LMc27.out;omega);intro v760 w34 ho hb hg hat;rw [←Ny759.out] at ho;replace BK751:=a_ (blk_grown (g:=gb751) (o:=.cells #[.int .i64 a1_0,.int .i64 a1_1,.int .i64 a1_2,.int .i64 a1_3,.int .i64 a1_4,.int .i64 a1_5,.string a1_6] 44 (0,0)) (bp_ BK751.out) hg (Kd.R_away HO756.out (fun _ hk=>hk.2)));replace HB:=a_ (hb);have HO761:=a_ (ho);clear HO756;clear ho hb hg hat))
        go_ret2
        exact ⟨_,fi_,by (with_reducible repeat (first|apply Kd.R_alloc|apply Kd.R_drewN|apply Kd.R_drew));exact Kd.R_mono HO761.out (fun _ hk=>trivial),bel_⟩
       ·rw [if_neg c27] at H
        exact absurd H (by simp)
     ·rw [if_neg c20] at H
      have c20b0:(a1_1==(wrap64 (t758+1)))=false:=bn_ c20
      have c20b1:(a1_1 != (wrap64 (t758+1)))=true:=bne_iff_ne.mpr c20
      simp only [Option.some.injEq,Prod.mk.injEq] at H
      obtain ⟨rfl,rfl⟩:=H
      try go_wp2_with (first|((with_reducible refine gC_ (f:=85) rfl ?_);refine gl_ 16 Tryd.func85 #[.slice A0 l0.length c0] ?_;(with_reducible refine (impl_Entry_85.calls _ _ l0 t754 _ ?side1 ?side2 A13.out).mono ?_);(case side1=>exact cp_ HR0.out);(case side2=>exact HC0.out);rintro e w35 ⟨v755,rfl,ho0,hb⟩;refine ⟨_,rfl,?_⟩;have HO756:=a_ (Kd.R_lower (Kd.R_newB ho0 (g:=gb751) (o:=.cells #[.int .i64 a1_0,.int .i64 a1_1,.int .i64 a1_2,.int .i64 a1_3,.int .i64 a1_4,.int .i64 a1_5,.string a1_6] 44 (0,0)) (bp_ BK751.out)) (below_size (bel_)));replace HB:=a_ (bS_ (bel_) hb);replace BK751:=a_ (bb_ BK751.out hb);(try clear hb ho0);obtain ⟨Z36_0,Z36_1,Z36_2,Z36_3,Z36_4,Z36_5,Z36_6,Y36_0,Y36_1,Y36_2,Y36_3,Y36_4,Y36_5,Y36_6⟩:=op7_ BK751.out)|((with_reducible refine gC_ (f:=86) rfl ?_);refine gl_ 19 Tryd.func86 #[.slice A0 l0.length c0,.agg #[.int .i64 a1_0,.int .i64 a1_1,.int .i64 a1_2,.int .i64 a1_3,.int .i64 a1_4,.int .i64 a1_5,.string a1_6]] ?_;(with_reducible refine (impl_Entry_86.calls kj2 _ _ l0 a1_0 a1_1 a1_2 a1_3 a1_4 a1_5 a1_6 false _ ?side1 ?side2 A14.out).mono ?_);(case side1=>exact cp_ HR0.out);(case side2=>exact HC0.out);rintro e w37 ⟨rfl,hb⟩;refine ⟨_,rfl,?_⟩;replace HO756:=a_ (Kd.R_below (rp_ HO756.out) hb);replace HB:=a_ (bS_ (bel_) hb);replace BK751:=a_ (bb_ BK751.out hb);(try clear hb)))
      have n0_:=a_ (Kd.R_drew HO756.out)
      have n1_:=a_ (bD_ BK751.out)
      have n2_:=a_ (below_drew1 HB.out)
      clear HO756
      clear BK751
      clear HB
      have HO756:=n0_
      have BK751:=n1_
      have HB:=n2_
      clear n0_ n1_ n2_
      refine start_ (n:=13) (S:=fun w'=>w'.cell? ⟨gb751,0,none⟩=some (.int .i64 a1_0)∧w'.cell? ⟨gb751,1,none⟩=some (.int .i64 a1_1)∧w'.cell? ⟨gb751,2,none⟩=some (.int .i64 a1_2)∧w'.cell? ⟨gb751,3,none⟩=some (.int .i64 a1_3)∧w'.cell? ⟨gb751,4,none⟩=some (.int .i64 a1_4)∧w'.cell? ⟨gb751,5,none⟩=some (.int .i64 a1_5)∧w'.cell? ⟨gb751,6,none⟩=some (.string a1_6)) (ds:=[]) #[false,false,false,false,false,false,false,false,false,false,false,false,false] (by kernel_rfl) rfl rfl ⟨(bC_ BK751.out 0).trans rfl,(bC_ BK751.out 1).trans rfl,(bC_ BK751.out 2).trans rfl,(bC_ BK751.out 3).trans rfl,(bC_ BK751.out 4).trans rfl,(bC_ BK751.out 5).trans rfl,(bC_ BK751.out 6).trans rfl⟩ (fun hHeld=>?_);refine with_tabW impl_LogAdd.tab6 impl_LogAdd.bits6 (fun HT_ HW_=>?_)
      generalize w37.drew=w38 at HO756 BK751 HB hHeld ⊢
      refine pa_ 0 21 ?_
      refine pa_ 2 23 ?_
      refine pa_ 3 24 ?_
      refine ta7_ 1 22 hHeld ?_
      refine ta7_ 4 25 hHeld ?_
      refine on_ 5 26 (fun K hK=>?_)
      refine goes_ Tryd.func33 (by kernel_rfl) rfl #[.slice A0 l0.length c0,.int .i64 a1_0] (by rfl) rfl rfl ar_ ?_
      with_reducible refine (impl_LogSeq.calls kj2 _ _ l0 a1_0 t758 _ ?side1 ?side2 A19.out ?side3).mono ?_
      (case side1=>exact cp_ HR0.out)
      (case side2=>exact HC0.out)
      (case side3=>exact Glob.below HG.out (bel_))
      rintro e w39 ⟨rfl,hb⟩
      refine ⟨_,rfl,?_⟩
      have n0_:=a_ (Kd.R_below (rp_ HO756.out) hb)
      have n1_:=a_ (bb_ BK751.out hb)
      have n2_:=a_ (bS_ (bel_) hb)
      clear HO756
      clear BK751
      clear HB
      have HO756:=n0_
      have BK751:=n1_
      have HB:=n2_
      clear n0_ n1_ n2_
      (try clear hb)
      (try clear hb2)
      (try clear hk)
      (try clear hi)
      refine hK.out _ _ ⟨(bC_ BK751.out 0).trans rfl,(bC_ BK751.out 1).trans rfl,(bC_ BK751.out 2).trans rfl,(bC_ BK751.out 3).trans rfl,(bC_ BK751.out 4).trans rfl,(bC_ BK751.out 5).trans rfl,(bC_ BK751.out 6).trans rfl⟩ (fun hHeld=>?_)
      clear hK K
      refine no_ 26 ?_
      refine pa_ 6 27 ?_
      refine pa_ 7 28 ?_
      refine pa_ 8 29 ?_
      refine po_ 9 30 ?_
      refine po_ 10 31 ?_
      refine po_ 11 32 ?_
      refine pa_ 12 33 ?_
      refine done_ (done_of HT_.out (by kernel_rfl)) ?_
      try go_wp2
      go_ret2
      exact ⟨_,fi_,by (with_reducible repeat (first|apply Kd.R_alloc|apply Kd.R_drewN|apply Kd.R_drew));exact Kd.R_mono HO756.out (fun _ hk=>trivial),bel_⟩

def impl_TreeNew.f  : Option ((List (S69))):=some (([(⟨1,0,(⟨#[]⟩:ByteArray)⟩:S69),(⟨2,0,(⟨#[]⟩:ByteArray)⟩:S69),(⟨3,0,(⟨#[]⟩:ByteArray)⟩:S69)]:List (S69)))
theorem impl_TreeNew.calls  (r:List (S69)) (w:World) (h:impl_TreeNew.f  = some r) :
  Calls Tryd.prog 48 #[] w fun e w'=>∃ v0_:Value,e=.returned (v0_)∧Kd.R k69 69 w' w.heap.size (fun _=>True) v0_ r∧Below w.heap.size w w':=by
 have hu69:=Tryd.underlying69
 have HB:=a_ (Below.refl w.heap.size w)
 unfold impl_TreeNew.f at h
 have H:=h
 clear h
 obtain ⟨y940,hy940⟩:∃ y_:List (S69),y_=(([(⟨1,0,(⟨#[]⟩:ByteArray)⟩:S69),(⟨2,0,(⟨#[]⟩:ByteArray)⟩:S69),(⟨3,0,(⟨#[]⟩:ByteArray)⟩:S69)]:List (S69))):=⟨_,rfl⟩
 replace H:(some y940)=some r:=by first|(rw [hy940];with_reducible exact H)|(have H2_:=(Option.bind_some _ _).symm.trans H;rw [hy940];with_reducible exact H2_)|(have H2_:=(Option.bind_some _ _).symm.trans H;with_reducible exact H2_)|with_reducible exact H|(rw [hy940];exact H)|exact H
 have Ny940:=a_ hy940
 clear hy940
 obtain rfl:=sj_ H
 go_enter Tryd.func48,Tryd.ntmps48
 go_wp2_with (first|((with_reducible refine gD_ (N:=4) rfl ?_);refine Kd.R_lit k69 _ 69 ?hg (N:=4) ?hd (xs:=([(⟨1,0,(⟨#[]⟩:ByteArray)⟩:S69),(⟨2,0,(⟨#[]⟩:ByteArray)⟩:S69),(⟨3,0,(⟨#[]⟩:ByteArray)⟩:S69)]:List (S69))) (inner:=[.int .i64 1,.int .i64 0,.string (⟨#[]⟩:ByteArray),.int .i64 2,.int .i64 0,.string (⟨#[]⟩:ByteArray),.int .i64 3,.int .i64 0,.string (⟨#[]⟩:ByteArray)]) (ok:=fun _=>True) (okp:=fun _=>True) ?hr ?hp (fun _ hk=>hk) trivial (Below.refl _ _) (Nat.le_refl _) (by simp) ?_;(case hd=>rfl);(case hg=>rfl);(case hr=>first|(go_simp;done)|(go_simp;rfl));(case hp=>exact (Reps.c3 (show Kd.M k69 _ _ _ (⟨1,0,(⟨#[]⟩:ByteArray)⟩:S69) [.int .i64 1,.int .i64 0,.string (⟨#[]⟩:ByteArray)] from (k69_mkM _ _ _ (⟨1,0,(⟨#[]⟩:ByteArray)⟩:S69) )) (Reps.c3 (show Kd.M k69 _ _ _ (⟨2,0,(⟨#[]⟩:ByteArray)⟩:S69) [.int .i64 2,.int .i64 0,.string (⟨#[]⟩:ByteArray)] from (k69_mkM _ _ _ (⟨2,0,(⟨#[]⟩:ByteArray)⟩:S69) )) (Reps.c3 (show Kd.M k69 _ _ _ (⟨3,0,(⟨#[]⟩:ByteArray)⟩:S69) [.int .i64 3,.int .i64 0,.string (⟨#[]⟩:ByteArray)] from (k69_mkM _ _ _ (⟨3,0,(⟨#[]⟩:ByteArray)⟩:S69) )) (Reps.none _ _)))));intro v941 w1 ho2 hb hg_ hnew_;clear hg_ hnew_;(first|rw [←Ny940.out] at ho2|(simp only [Int.reduceToNat] at ho2;rw [←Ny940.out] at ho2));have HO942:=a_ (Kd.R_lower ho2 (below_size (bel_)));replace HB:=a_ (bS_ (bel_) hb);clear hb ho2))
 go_ret
 exact ⟨_,fi_,by (with_reducible repeat (first|apply Kd.R_alloc|apply Kd.R_drewN|apply Kd.R_drew));exact HO942.out,bel_⟩

def impl_LogTree.l0:Nat→List (S69)→List (S44)→Int→Int→Option ((List (S69)))
 | 0,_,_,_,_=>none
 | k+1,x3,x10,x11,x12=>if x12 < x11 then (if 0≤x12 then (if x12 < (x10.length:Int) then ((impl_OpDo.f k x3 ((rd_T44 x10 x12).f2.f0) ((rd_T44 x10 x12).f2.f1) ((rd_T44 x10 x12).f2.f2) ((rd_T44 x10 x12).f2.f3) ((rd_T44 x10 x12).f2.f4)).bind fun t949=>(impl_LogTree.l0 k t949 x10 x11 (wrap64 (x12+1)))) else (none)) else (none)) else (some x3)
def impl_LogTree.f (k:Nat) (l0:List (S44)):Option ((List (S69))):=(impl_LogOk.f k l0).bind fun t943=>(if t943=true then ((impl_TreeNew.f).bind fun t944=>(impl_LogTree.l0 k t944 l0 (l0.length:Int) 0)) else (some ([]:List (S69))))
theorem impl_LogTree.mono_l:∀ k,(∀ y0 y1 y2 y3,LeO (impl_LogTree.l0 k y0 y1 y2 y3) (impl_LogTree.l0 (k+1) y0 y1 y2 y3))
 | 0=>fun _ _ _ _ r h=>by simp [impl_LogTree.l0] at h
 | k+1=>by
  have ih0:=impl_LogTree.mono_l k
  ·intro y0 y1 y2 y3
   unfold impl_LogTree.l0
   repeat' first
   | (with_reducible exact ih0 _ _ _ _)
   | (with_reducible exact impl_LogOk.mono _ _)
   | (with_reducible exact impl_OpDo.mono _ _ _ _ _ _ _)
   | (with_reducible exact LeO.refl _)
   | (with_reducible exact LeO.none _)
   | (with_reducible refine LeO.ite ?_ ?_)
   | (with_reducible refine LeO.bind ?_ (fun _=>?_))
theorem impl_LogTree.mono:∀ a0 k,LeO (impl_LogTree.f k a0) (impl_LogTree.f (k+1) a0):=by
 intro a0 k
 have ih0:=impl_LogTree.mono_l k
 unfold impl_LogTree.f
 repeat' first
   | (with_reducible exact ih0 _ _ _ _)
   | (with_reducible exact impl_LogOk.mono _ _)
   | (with_reducible exact impl_OpDo.mono _ _ _ _ _ _ _)
   | (with_reducible exact LeO.refl _)
   | (with_reducible exact LeO.none _)
   | (with_reducible refine LeO.ite ?_ ?_)
   | (with_reducible refine LeO.bind ?_ (fun _=>?_))
theorem impl_LogTree.calls (k:Nat) (A0:Option Addr) (c0:Nat) (l0:List (S44)) (r:List (S69)) (w:World) (hr0:Kd.C k44 w A0 l0.length l0) (hc0:l0.length≤c0) (h:impl_LogTree.f k l0=some r) (hG:Glob w) :
  Calls Tryd.prog 39 #[.slice A0 l0.length c0] w fun e w'=>∃ v0_:Value,e=.returned (v0_)∧Kd.R k69 69 w' w.heap.size (fun _=>True) v0_ r∧Below w.heap.size w w':=by
 have hu44:=Tryd.underlying44
 have hu42:=Tryd.underlying42
 have HR0:=a_ hr0
 have HC0:=a_ hc0
 clear hr0 hc0
 have HB:=a_ (Below.refl w.heap.size w)
 have HG:=a_ hG
 clear hG
 unfold impl_LogTree.f at h
 have H:=h
 clear h
 replace H:=bs_ H
 obtain ⟨t943,A20,H⟩:=H
 try dsimp only at H
 have A2:=a_ A20
 clear A20
 by_cases c3:t943=true
 ·subst c3
  have H1:((impl_TreeNew.f).bind fun t944=>(impl_LogTree.l0 k t944 l0 (l0.length:Int) 0))=some r:=by rw [if_pos rfl] at H;exact H
  clear H
  have H:=H1
  clear H1
  replace H:=bs_ H
  obtain ⟨t944,A40,H⟩:=H
  try dsimp only at H
  have A4:=a_ A40
  clear A40
  have H':=a_ H
  clear H
  go_enter Tryd.func39,Tryd.ntmps39
  go_wp2_with (first|((with_reducible refine gC_ (f:=42) rfl ?_);refine gl_ 7 Tryd.func42 #[.slice A0 l0.length c0] ?_;(with_reducible refine (impl_LogOk.calls k _ _ l0 true _ ?side1 ?side2 A2.out ?side3).mono ?_);(case side1=>exact cx_ HR0.out);(case side2=>exact HC0.out);(case side3=>exact Glob.below HG.out (bel_));rintro e w5 ⟨rfl,hb⟩;refine ⟨_,rfl,?_⟩;replace HB:=a_ (bS_ (bel_) hb);(try clear hb))|((with_reducible refine gC_ (f:=48) rfl ?_);refine gl_ 9 Tryd.func48 #[] ?_;(with_reducible refine (impl_TreeNew.calls  t944 _ A4.out).mono ?_);rintro e w6 ⟨v945,rfl,ho0,hb⟩;refine ⟨_,rfl,?_⟩;have HO946:=a_ (Kd.R_lower ho0 (below_size (bel_)));replace HB:=a_ (bS_ (bel_) hb);(try clear hb ho0)))
  go_loopg [3,12] k (fun kq v3 v12 w'=>∃ (x3_1:List (S69)) (x12_1:Int),v12=.int .i64 x12_1∧Aside0 (impl_LogTree.l0 kq x3_1 l0 (l0.length:Int) x12_1=some r)∧Aside0 (kq≤k)∧Aside0 (Kd.R k69 69 w' w.heap.size (fun _=>True) v3 x3_1)∧Aside0 (Below w.heap.size w w'))
  case atStart=>exact ⟨(t944),(0),(si_),H',⟨Nat.le_refl _⟩,⟨by (with_reducible repeat (first|apply Kd.R_alloc|apply Kd.R_drewN|apply Kd.R_drew));exact HO946.out⟩,⟨bel_⟩⟩
  case round =>
   clear H'
   try clear p2
   try clear c3
   try clear c4
   obtain ⟨x3_1,x12_1,rfl,HA,HK1,HO_3,HB⟩:=hrel
   cases gk with
   | zero=>exact absurd HA.out (by simp [impl_LogTree.l0])
   | succ k1 =>
    have H:=HA.out
    clear HA
    simp only [impl_LogTree.l0] at H
    by_cases c7:x12_1 < (l0.length:Int)
    ·rw [if_pos c7] at H
     have c7b0:decide (x12_1 < (l0.length:Int))=true:=dt_ c7
     clear c7
     by_cases c8:0≤x12_1
     ·rw [if_pos c8] at H
      have c8b0:decide (0≤x12_1)=true:=dt_ c8
      clear c8
      by_cases c9:x12_1 < (l0.length:Int)
      ·rw [if_pos c9] at H
       have c9b0:decide (x12_1 < (l0.length:Int))=true:=dt_ c9
       clear c9
       replace H:=bs_ H
       obtain ⟨t949,A100,H⟩:=H
       try dsimp only at H
       have A10:=a_ A100
       clear A100
       have H':=a_ H
       clear H
       have p947:0≤(x12_1:Int):=od_
       have q947:x12_1 < (l0.length:Int):=od_
       obtain ⟨ad947,e947,hx947_0,hx947_1,hx947_2,hx947_3,hx947_4,hx947_5,hx947_6⟩:=at_T44 HR0.out x12_1 p947 q947
       cases e947
       replace hx947_0:=(cb_ HB.out hx947_0 :)
       replace hx947_1:=(cb_ HB.out hx947_1 :)
       replace hx947_2:=(cb_ HB.out hx947_2 :)
       replace hx947_3:=(cb_ HB.out hx947_3 :)
       replace hx947_4:=(cb_ HB.out hx947_4 :)
       replace hx947_5:=(cb_ HB.out hx947_5 :)
       replace hx947_6:=(cb_ HB.out hx947_6 :)
       replace p947:=eq_true p947
       replace q947:=eq_true q947
       go_wp2_with (first|((with_reducible refine gD_ (N:=5) rfl ?_);refine bx_ 5 (#[.int .i64 0,.int .i64 0,.int .i64 0,.int .i64 0,.int .i64 0,.int .i64 0,.string (⟨#[]⟩:ByteArray)]) 44 ?_;intro gb948 hg w11 hbox hb;have n0_:=a_ (Kd.R_below (rp_ HO_3.out) hb);have n1_:=a_ (bS_ (bel_) hb);have n2_:=a_ (hbox);have n3_:=a_ ((by rw [hg];exact (below_size (bel_)):w.heap.size≤gb948));have n4_:=a_ ((by rw [hg];exact (below_size (bel_)):w.heap.size≤gb948));clear HO_3;clear HB;have HO_3:=n0_;have HB:=n1_;have BK948:=n2_;have GW948:=n3_;have GE948:=n4_;clear n0_ n1_ n2_ n3_ n4_;clear hb hbox hg;obtain ⟨Z12_0,Z12_1,Z12_2,Z12_3,Z12_4,Z12_5,Z12_6,Y12_0,Y12_1,Y12_2,Y12_3,Y12_4,Y12_5,Y12_6⟩:=op7_ BK948.out;obtain ⟨Ao13,co13,eo13⟩:=Kd.R_slice HO_3.out;subst eo13)|((with_reducible refine gC_ (f:=40) rfl ?_);refine gl_ 19 Tryd.func40 #[.slice Ao13 x3_1.length co13,.agg #[.int .i64 ((rd_T44 l0 x12_1).f2.f0),.int .i64 ((rd_T44 l0 x12_1).f2.f1),.int .i64 ((rd_T44 l0 x12_1).f2.f2),.int .i64 ((rd_T44 l0 x12_1).f2.f3),.string ((rd_T44 l0 x12_1).f2.f4)]] ?_;(with_reducible refine (impl_OpDo.calls k1 _ _ x3_1 ((rd_T44 l0 x12_1).f2.f0) ((rd_T44 l0 x12_1).f2.f1) ((rd_T44 l0 x12_1).f2.f2) ((rd_T44 l0 x12_1).f2.f3) ((rd_T44 l0 x12_1).f2.f4) t949 _ ?side1 ?side2 A10.out ?side3).mono ?_);(case side1=>refine (Kd.R_reads' (e:=69) (base:=w.heap.size) (ok:=fun k_=>True) (n:=x3_1.length) (c:=co13) ?_).2.2;exact (by (with_reducible repeat (first|apply Kd.R_alloc|apply Kd.R_drewN|apply Kd.R_drew));exact (Kd.R_mono (Kd.R_far (p:=⟨gb948,6,none⟩) (Kd.R_far (p:=⟨gb948,5,none⟩) (Kd.R_far (p:=⟨gb948,4,none⟩) (Kd.R_far (p:=⟨gb948,3,none⟩) (Kd.R_far (p:=⟨gb948,2,none⟩) (Kd.R_far (p:=⟨gb948,1,none⟩) (Kd.R_far (p:=⟨gb948,0,none⟩) (Kd.R_types HO_3.out BK948.out (by decide)) (fun _ hk=>hk.2) (.int .i64 ((rd_T44 l0 x12_1).f0))) (fun _ hk=>hk.2) (.int .i64 ((rd_T44 l0 x12_1).f1))) (fun _ hk=>hk.2) (.int .i64 ((rd_T44 l0 x12_1).f2.f0))) (fun _ hk=>hk.2) (.int .i64 ((rd_T44 l0 x12_1).f2.f1))) (fun _ hk=>hk.2) (.int .i64 ((rd_T44 l0 x12_1).f2.f2))) (fun _ hk=>hk.2) (.int .i64 ((rd_T44 l0 x12_1).f2.f3))) (fun _ hk=>hk.2) (.string ((rd_T44 l0 x12_1).f2.f4))) (fun _ h_=>h_.1))));(case side2=>exact (Kd.R_reads' HO_3.out).2.1);(case side3=>exact Glob.below HG.out (bel_));rintro e w14 ⟨v950,rfl,ho0,hb⟩;refine ⟨_,rfl,?_⟩;have n0_:=a_ (Kd.R_elder' (by (with_reducible repeat (first|apply Kd.R_alloc|apply Kd.R_drewN|apply Kd.R_drew));exact (Kd.R_mono (Kd.R_far (p:=⟨gb948,6,none⟩) (Kd.R_far (p:=⟨gb948,5,none⟩) (Kd.R_far (p:=⟨gb948,4,none⟩) (Kd.R_far (p:=⟨gb948,3,none⟩) (Kd.R_far (p:=⟨gb948,2,none⟩) (Kd.R_far (p:=⟨gb948,1,none⟩) (Kd.R_far (p:=⟨gb948,0,none⟩) (Kd.R_types HO_3.out BK948.out (by decide)) (fun _ hk=>hk.2) (.int .i64 ((rd_T44 l0 x12_1).f0))) (fun _ hk=>hk.2) (.int .i64 ((rd_T44 l0 x12_1).f1))) (fun _ hk=>hk.2) (.int .i64 ((rd_T44 l0 x12_1).f2.f0))) (fun _ hk=>hk.2) (.int .i64 ((rd_T44 l0 x12_1).f2.f1))) (fun _ hk=>hk.2) (.int .i64 ((rd_T44 l0 x12_1).f2.f2))) (fun _ hk=>hk.2) (.int .i64 ((rd_T44 l0 x12_1).f2.f3))) (fun _ hk=>hk.2) (.string ((rd_T44 l0 x12_1).f2.f4))) (fun _ h_=>h_.1))) (Kd.R_base ho0) hb);have n1_:=a_ (Kd.R_lower (Kd.R_new' ho0 (Kd.R_lt (by (with_reducible repeat (first|apply Kd.R_alloc|apply Kd.R_drewN|apply Kd.R_drew));exact (Kd.R_mono (Kd.R_far (p:=⟨gb948,6,none⟩) (Kd.R_far (p:=⟨gb948,5,none⟩) (Kd.R_far (p:=⟨gb948,4,none⟩) (Kd.R_far (p:=⟨gb948,3,none⟩) (Kd.R_far (p:=⟨gb948,2,none⟩) (Kd.R_far (p:=⟨gb948,1,none⟩) (Kd.R_far (p:=⟨gb948,0,none⟩) (Kd.R_types HO_3.out BK948.out (by decide)) (fun _ hk=>hk.2) (.int .i64 ((rd_T44 l0 x12_1).f0))) (fun _ hk=>hk.2) (.int .i64 ((rd_T44 l0 x12_1).f1))) (fun _ hk=>hk.2) (.int .i64 ((rd_T44 l0 x12_1).f2.f0))) (fun _ hk=>hk.2) (.int .i64 ((rd_T44 l0 x12_1).f2.f1))) (fun _ hk=>hk.2) (.int .i64 ((rd_T44 l0 x12_1).f2.f2))) (fun _ hk=>hk.2) (.int .i64 ((rd_T44 l0 x12_1).f2.f3))) (fun _ hk=>hk.2) (.string ((rd_T44 l0 x12_1).f2.f4))) (fun _ h_=>h_.1))))) (below_size (bel_)));have n2_:=a_ (blk_below (g:=gb948) (o:=.cells #[.int .i64 ((rd_T44 l0 x12_1).f0),.int .i64 ((rd_T44 l0 x12_1).f1),.int .i64 ((rd_T44 l0 x12_1).f2.f0),.int .i64 ((rd_T44 l0 x12_1).f2.f1),.int .i64 ((rd_T44 l0 x12_1).f2.f2),.int .i64 ((rd_T44 l0 x12_1).f2.f3),.string ((rd_T44 l0 x12_1).f2.f4)] 44 (0,0)) (by (with_reducible repeat (first|refine bN_ ?_ _|refine bD_ ?_|refine bA_ ?_ _));exact bk7_ (bp_ BK948.out)) hb);have n3_:=a_ (bS_ (bel_) hb);clear HO_3;clear BK948;clear HB;have HO_3:=n0_;have HO951:=n1_;have BK948:=n2_;have HB:=n3_;clear n0_ n1_ n2_ n3_;(try clear hb ho0)))
       go_roundg k1
       case measure=>have:=HK1.out;omega
       case rel=>exact ⟨(t949),(wrap64 (x12_1+1)),(si_),H',⟨by have:=HK1.out;omega⟩,⟨by (with_reducible repeat (first|apply Kd.R_alloc|apply Kd.R_drewN|apply Kd.R_drew));exact Kd.R_mono HO951.out (fun _ hk=>trivial)⟩,⟨bel_⟩⟩
      ·rw [if_neg c9] at H
       exact absurd H (by simp)
     ·rw [if_neg c8] at H
      exact absurd H (by simp)
    ·rw [if_neg c7] at H
     have c7b0:decide (x12_1 < (l0.length:Int))=false:=df_ c7
     clear c7
     obtain rfl:=sj_ H
     go_wp2
     go_ret
     exact ⟨_,fi_,by (with_reducible repeat (first|apply Kd.R_alloc|apply Kd.R_drewN|apply Kd.R_drew));exact HO_3.out,bel_⟩
 ·replace c3:=Bool.eq_false_iff.mpr c3
  subst c3
  have H1:(some ([]:List (S69)))=some r:=by rw [if_neg (show ¬ (false=true) by decide)] at H;exact H
  clear H
  have H:=H1
  clear H1
  obtain rfl:=sj_ H
  go_enter Tryd.func39,Tryd.ntmps39
  go_wp2_with (first|((with_reducible refine gC_ (f:=42) rfl ?_);refine gl_ 7 Tryd.func42 #[.slice A0 l0.length c0] ?_;(with_reducible refine (impl_LogOk.calls k _ _ l0 false _ ?side1 ?side2 A2.out ?side3).mono ?_);(case side1=>exact cx_ HR0.out);(case side2=>exact HC0.out);(case side3=>exact Glob.below HG.out (bel_));rintro e w15 ⟨rfl,hb⟩;refine ⟨_,rfl,?_⟩;replace HB:=a_ (bS_ (bel_) hb);(try clear hb)))
  go_ret
  exact ⟨_,fi_,by first|exact Kd.R_nil _ _ _ _ _|exact Kd.N_nil _ _ _ _ _|exact Kd.V_nil _ _ _ _ _|exact Kd.Q_nil _ _ _ _ _|exact Kd.S_nil _ _ _ _ _,bel_⟩


def laws_FnTreeMore.j0:Nat→List (S44)→List (S44)→Int→List (S44)→Int→Bool→Int→Int→Int→Int→Int→Int→ByteArray→Option (Bool)
 | 0,_,_,_,_,_,_,_,_,_,_,_,_,_=>none
 | k+1,x3,x5,x6,x7,x8,x41,x661000,x661001,x661002,x661003,x661004,x661005,x661006=>if x41=true then (if x8=x6 then ((laws_lpLog.f k x7 x5).bind fun t670=>(some t670)) else (none)) else ((impl_LogTree.f k x7).bind fun t671=>((impl_LogTree.f k x3).bind fun t674=>((impl_OpDo.f k t674 x661002 x661003 x661004 x661005 x661006).bind fun t677=>((laws_lpRows.f k t671 t677).bind fun t680=>(some t680)))))
def laws_FnTreeMore.f (k:Nat) (l0:List Int):Option (Bool):=if (l0.length:Int) > 1048576 then (some true) else ((spec_DrawLogAdd.f k l0).bind fun bt650=>((spec_LogAdd.f k bt650.1 bt650.2.1 bt650.2.2.1 bt650.2.2.2.1 bt650.2.2.2.2.1 bt650.2.2.2.2.2.1 bt650.2.2.2.2.2.2.1 bt650.2.2.2.2.2.2.2).bind fun bt661=>((impl_LogAdd.f k bt650.1 bt650.2.1 bt650.2.2.1 bt650.2.2.2.1 bt650.2.2.2.2.1 bt650.2.2.2.2.2.1 bt650.2.2.2.2.2.2.1 bt650.2.2.2.2.2.2.2).bind fun bt665=>(if bt665.2=bt661.2 then ((laws_lpLog.f k bt665.1 bt661.1).bind fun t669=>(if t669=true then (laws_FnTreeMore.j0 k bt650.1 bt661.1 bt661.2 bt665.1 bt665.2 (bt665.2 != 1) bt650.2.1 bt650.2.2.1 bt650.2.2.2.1 bt650.2.2.2.2.1 bt650.2.2.2.2.2.1 bt650.2.2.2.2.2.2.1 bt650.2.2.2.2.2.2.2) else (none))) else (laws_FnTreeMore.j0 k bt650.1 bt661.1 bt661.2 bt665.1 bt665.2 true bt650.2.1 bt650.2.2.1 bt650.2.2.2.1 bt650.2.2.2.2.1 bt650.2.2.2.2.2.1 bt650.2.2.2.2.2.2.1 bt650.2.2.2.2.2.2.2)))))
theorem laws_FnTreeMore.mono_l:∀ k,(∀ y0 y1 y2 y3 y4 y5 y6 y7 y8 y9 y10 y11 y12,LeO (laws_FnTreeMore.j0 k y0 y1 y2 y3 y4 y5 y6 y7 y8 y9 y10 y11 y12) (laws_FnTreeMore.j0 (k+1) y0 y1 y2 y3 y4 y5 y6 y7 y8 y9 y10 y11 y12))
 | 0=>fun _ _ _ _ _ _ _ _ _ _ _ _ _ r h=>by simp [laws_FnTreeMore.j0] at h
 | k+1=>by
  have ih0:=laws_FnTreeMore.mono_l k
  ·intro y0 y1 y2 y3 y4 y5 y6 y7 y8 y9 y10 y11 y12
   unfold laws_FnTreeMore.j0
   repeat' first
   | (with_reducible exact ih0 _ _ _ _ _ _ _ _ _ _ _ _ _)
   | (with_reducible exact impl_LogAdd.mono _ _ _ _ _ _ _ _ _)
   | (with_reducible exact impl_LogTree.mono _ _)
   | (with_reducible exact impl_OpDo.mono _ _ _ _ _ _ _)
   | (with_reducible exact laws_lpLog.mono _ _ _)
   | (with_reducible exact laws_lpRows.mono _ _ _)
   | (with_reducible exact spec_DrawLogAdd.mono _ _)
   | (with_reducible exact spec_LogAdd.mono _ _ _ _ _ _ _ _ _)
   | (with_reducible exact LeO.refl _)
   | (with_reducible exact LeO.none _)
   | (with_reducible refine LeO.ite ?_ ?_)
   | (with_reducible refine LeO.bind ?_ (fun _=>?_))
theorem laws_FnTreeMore.mono:∀ a0 k,LeO (laws_FnTreeMore.f k a0) (laws_FnTreeMore.f (k+1) a0):=by
 intro a0 k
 have ih0:=laws_FnTreeMore.mono_l k
 unfold laws_FnTreeMore.f
 repeat' first
   | (with_reducible exact ih0 _ _ _ _ _ _ _ _ _ _ _ _ _)
   | (with_reducible exact impl_LogAdd.mono _ _ _ _ _ _ _ _ _)
   | (with_reducible exact impl_LogTree.mono _ _)
   | (with_reducible exact impl_OpDo.mono _ _ _ _ _ _ _)
   | (with_reducible exact laws_lpLog.mono _ _ _)
   | (with_reducible exact laws_lpRows.mono _ _ _)
   | (with_reducible exact spec_DrawLogAdd.mono _ _)
   | (with_reducible exact spec_LogAdd.mono _ _ _ _ _ _ _ _ _)
   | (with_reducible exact LeO.refl _)
   | (with_reducible exact LeO.none _)
   | (with_reducible refine LeO.ite ?_ ?_)
   | (with_reducible refine LeO.bind ?_ (fun _=>?_))
def laws_FnTreeMore.T8:Bool×List (List Nat×List Nat):=(true,[([],[]),([0],[0]),([],[]),([2,1],[2]),([],[]),([4],[4]),([3,5,3],[3,5]),([1,6,6],[1,6]),([7,7,0,1,2,3,4,5,6,7],[7])])
def laws_FnTreeMore.B8:List Nat:=[0,1,0,7,0,16,63,127,255]
theorem laws_FnTreeMore.tab8:rtab .any (opsOf Tryd.f8 8)=laws_FnTreeMore.T8:=by kernel_rfl
theorem laws_FnTreeMore.bits8:waitsOk laws_FnTreeMore.T8.2 laws_FnTreeMore.B8=true:=by kernel_rfl
end Go.Proofs.YtdpklbomhdpimaaDoor.P
