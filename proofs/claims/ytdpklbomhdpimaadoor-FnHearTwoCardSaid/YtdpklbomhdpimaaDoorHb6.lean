/- Joined by a program (wip/shake.py): the declarations that 'YtdpklbomhdpimaaDoorCardFnHearAgain' reaches. -/
import Derived.Test.YtdpklbomhdpimaaDoorHb5
set_option linter.unusedVariables false
set_option linter.unusedSimpArgs false
set_option linter.unusedSectionVars false
set_option maxHeartbeats 8000000
set_option maxRecDepth 100000
namespace Go.Proofs.YtdpklbomhdpimaaDoor.P
open Go.RowKit Go.Proofs.YtdpklbomhdpimaaDoorW.PrintWords Go.Proofs.YtdpklbomhdpimaaDoorW.PrintLast
theorem spec_DrawLogAdd.calls (k:Nat) (A0:Option Addr) (c0:Nat) (l0:List Int) (r1:List (S44)) (r2:Int) (r3:Int) (r4:Int) (r5:Int) (r6:Int) (r7:Int) (r8:ByteArray) (w:World) (hr0:Kd.C (Kd.int .u8) w A0 l0.length l0) (hc0:l0.length≤c0) (h:spec_DrawLogAdd.f k l0=some (r1,r2,r3,r4,r5,r6,r7,r8)) :
  Calls Tryd.prog 36 #[.slice A0 l0.length c0] w fun e w'=>∃ v0_:Value,e=.returned (.tuple #[v0_,.agg #[.int .i64 r2,.int .i64 r3,.int .i64 r4,.int .i64 r5,.int .i64 r6,.int .i64 r7,.string r8]])∧Kd.R k44 44 w' w.heap.size (fun _=>True) v0_ r1∧Below w.heap.size w w':=by
 have hu44:=Tryd.underlying44
 have HR0:=a_ hr0
 have HC0:=a_ hc0
 clear hr0 hc0
 have HB:=a_ (Below.refl w.heap.size w)
 unfold spec_DrawLogAdd.f at h
 have H:=h
 clear h
 replace H:=bs_ H
 obtain ⟨⟨t692,t693⟩,A20,H⟩:=H
 try dsimp only at H
 have A2:=a_ A20
 clear A20
 replace H:=bs_ H
 obtain ⟨⟨t695,t698⟩,A30,H⟩:=H
 try dsimp only at H
 have A3:=a_ A30
 clear A30
 have HC4:=a_ H
 clear H
 go_enter Tryd.func36,Tryd.ntmps36
 go_upto_region 3 with (first|((with_reducible refine gD_ (N:=3) rfl ?_);refine bx_ 3 (#[.int .i64 0,.int .i64 0,.int .i64 0,.int .i64 0,.int .i64 0,.int .i64 0,.string (⟨#[]⟩:ByteArray)]) 44 ?_;intro gb691 hg w5 hbox hb;have n0_:=a_ (bS_ (bel_) hb);have n1_:=a_ (hbox);have n2_:=a_ ((by rw [hg];exact (below_size (bel_)):w.heap.size≤gb691));have n3_:=a_ ((by rw [hg];exact (below_size (bel_)):w.heap.size≤gb691));clear HB;have HB:=n0_;have BK691:=n1_;have GW691:=n2_;have GE691:=n3_;clear n0_ n1_ n2_ n3_;clear hb hbox hg)|((with_reducible refine gC_ (f:=72) rfl ?_);refine gl_ 8 Tryd.func72 #[.slice A0 l0.length c0] ?_;(with_reducible refine (spec_l6Open.calls _ _ l0 t692 t693 w _ ?side1 ?side2 ?side3 A2.out).mono ?_);(case side1=>exact bel_);(case side2=>exact HR0.out);(case side3=>exact HC0.out);rintro e w6 ⟨g694,rfl,hi,hb,hb2⟩;refine ⟨_,rfl,?_⟩;replace HB:=a_ (hb);have HI694:=a_ (hi);have NB694_691:=a_ (IsS145.ne_blk hi (bb_ BK691.out hb2) (by decide));have NB691_694:=a_ (Ne.symm (IsS145.ne_blk hi (bb_ BK691.out hb2) (by decide)));replace BK691:=a_ (bb_ BK691.out hb2);(try clear hb hb2 hi))|((with_reducible refine gC_ (f:=88) rfl ?_);refine gl_ 10 Tryd.func88 #[.pointer (some ⟨g694,0,none⟩)] ?_;(with_reducible refine (spec_l72Log.calls k g694 t692 t693 t695 t698 w _ ?side1 ?side2 A3.out).mono ?_);(case side1=>exact is_HI694);(case side2=>exact bel_);rintro e w7 ⟨v696,rfl,ho0,hi,hb,hk⟩;refine ⟨_,rfl,?_⟩;have HO697:=a_ (Kd.R_lower (Kd.R_newB ho0 (g:=gb691) (o:=.cells #[.int .i64 0,.int .i64 0,.int .i64 0,.int .i64 0,.int .i64 0,.int .i64 0,.string (⟨#[]⟩:ByteArray)] 44 (0,0)) (bp_ BK691.out)) (below_size (bel_)));replace BK691:=a_ (kb_ hk BK691.out NB691_694.out);replace HB:=a_ (hb);replace HI694:=a_ (hi);(try clear hb hk hi ho0)))
 (try simp only [Act.put,List.setIfInBounds_toArray,List.set_cons_zero,List.set_cons_succ])
 go_cut [18] (fun v18 wc=>∃ (kq:Nat) (x18_3:Bool) (x695001_3:Int),v18=.bool x18_3∧Aside0 (spec_DrawLogAdd.j0 kq l0 t695 x18_3 t692 x695001_3=some (r1,r2,r3,r4,r5,r6,r7,r8))∧Aside0 (kq≤k)∧Aside0 (Kd.R k44 44 wc w.heap.size (fun k_=>k_≠gb691) v696 t695)∧Aside0 (wc.heap[gb691]?=some (.cells #[.int .i64 0,.int .i64 0,.int .i64 0,.int .i64 0,.int .i64 0,.int .i64 0,.string (⟨#[]⟩:ByteArray)] 44 (0,0)))∧Aside0 (IsS145 w wc g694 t692 x695001_3)∧Aside0 (Below w.heap.size w wc))
 case first =>
  have H:=HC4.out
  clear HC4
  by_cases c8:(t695.length:Int) > 0
  ·rw [if_pos c8] at H
   have c8b0:decide (0 < (t695.length:Int))=true:=dt_ c8
   have c8b1:decide (0 < t695.length)=true:=dt_ (by omega)
   clear c8
   (first|rw [c8b0]|(simp only [i64_w,i32_w];rw [c8b0])|skip)
   replace H:=bs_ H
   obtain ⟨⟨t699,t700⟩,A90,H⟩:=H
   try dsimp only at H
   have A9:=a_ A90
   clear A90
   have H':=a_ H
   clear H
   obtain ⟨Ao10,co10,eo10⟩:=Kd.R_slice HO697.out
   subst eo10
   go_wp2_with (first|(go_at_call 74;(with_reducible refine (spec_l6Rd_pick.calls k g694 t692 t698 4 t699 t700 w _ ?side1 ?side2 A9.out).mono ?_);(case side1=>exact is_HI694);(case side2=>exact bel_);rintro e w11 ⟨rfl,hi,hb,hk⟩;replace BK691:=a_ (kb_ hk BK691.out NB691_694.out);replace HO697:=a_ (Kd.R_mono (Kd.R_keep (IsS145.apart (show IsS145 w _ g694 t692 t698 from is_HI694) (rp_ HO697.out) (by decide)) hk (fun _ h=>h.2)) (fun _ h=>h.1));replace HB:=a_ (hb);replace HI694:=a_ (hi);(try clear hb hk hi)))
   go_meet
   case rel=>exact ⟨_,((t699==0)),(t700),(si_),H',⟨by first|omega|exact Nat.le_refl _⟩,⟨by (with_reducible repeat (first|apply Kd.R_alloc|apply Kd.R_drewN|apply Kd.R_drew));exact Kd.R_mono HO697.out (fun _ hk=>hk.2)⟩,⟨bp_ BK691.out⟩,⟨is_HI694⟩,⟨bel_⟩⟩
  ·rw [if_neg c8] at H
   have c8b0:decide (0 < (t695.length:Int))=false:=df_ c8
   have c8b1:decide (0 < t695.length)=false:=df_ (by omega)
   clear c8
   (first|rw [c8b0]|(simp only [i64_w,i32_w];rw [c8b0])|skip)
   have H':=a_ H
   clear H
   obtain ⟨Ao12,co12,eo12⟩:=Kd.R_slice HO697.out
   subst eo12
   go_wp2
   go_meet
   case rel=>exact ⟨_,(false),(t698),(si_),H',⟨by first|omega|exact Nat.le_refl _⟩,⟨by (with_reducible repeat (first|apply Kd.R_alloc|apply Kd.R_drewN|apply Kd.R_drew));exact Kd.R_mono HO697.out (fun _ hk=>hk.2)⟩,⟨bp_ BK691.out⟩,⟨is_HI694⟩,⟨bel_⟩⟩
 case rest =>
  clear HC4
  try clear p2
  try clear c3
  try clear c7
  try clear c8
  try clear c8b0
  try clear c8b1
  obtain ⟨kq,x18_3,x695001_3,rfl,HA,HJ3,HO_5,BK691,HI694,HB⟩:=hcut
  cases kq with
  | zero=>exact absurd HA.out (by simp [spec_DrawLogAdd.j0])
  | succ kj3 =>
   have H:=HA.out
   clear HA
   simp only [spec_DrawLogAdd.j0] at H
   by_cases c13:x18_3=true
   ·subst c13
    have H1:((spec_l6Rd_pick.f kj3 t692 x695001_3 (t695.length:Int)).bind fun bt701=>(if 0≤bt701.1 then (if bt701.1 < (t695.length:Int) then (some (t695,(rd_T44 t695 bt701.1).f0,(rd_T44 t695 bt701.1).f1,(rd_T44 t695 bt701.1).f2.f0,(rd_T44 t695 bt701.1).f2.f1,(rd_T44 t695 bt701.1).f2.f2,(rd_T44 t695 bt701.1).f2.f3,(rd_T44 t695 bt701.1).f2.f4)) else (none)) else (none)))=some (r1,r2,r3,r4,r5,r6,r7,r8):=by rw [if_pos rfl] at H;exact H
    clear H
    have H:=H1
    clear H1
    replace H:=bs_ H
    obtain ⟨⟨t701,t702⟩,A140,H⟩:=H
    try dsimp only at H
    have A14:=a_ A140
    clear A140
    by_cases c15:0≤t701
    ·rw [if_pos c15] at H
     have c15b0:decide (0≤t701)=true:=dt_ c15
     clear c15
     by_cases c16:t701 < (t695.length:Int)
     ·rw [if_pos c16] at H
      have c16b0:decide (t701 < (t695.length:Int))=true:=dt_ c16
      clear c16
      simp only [Option.some.injEq,Prod.mk.injEq] at H
      obtain ⟨rfl,rfl,rfl,rfl,rfl,rfl,rfl,rfl⟩:=H
      try go_wp2
      have n0_:=a_ (Kd.R_drew HO_5.out)
      have n1_:=a_ (bD_ BK691.out)
      have n2_:=a_ (IsS145.drew HI694.out)
      have n3_:=a_ (below_drew1 HB.out)
      clear HO_5
      clear BK691
      clear HI694
      clear HB
      have HO_5:=n0_
      have BK691:=n1_
      have HI694:=n2_
      have HB:=n3_
      clear n0_ n1_ n2_ n3_
      obtain ⟨Ao18,co18,eo18⟩:=Kd.R_slice HO_5.out
      (first|subst eo18|(injection eo18 with f1_ f2_ f3_;have f4_:=f1_.symm;have f5_:=f3_.symm;clear f1_ f2_ f3_;subst f4_;subst f5_))
      have p703:0≤(t701:Int):=od_
      have q703:t701 < (t695.length:Int):=od_
      obtain ⟨ad703,e703,hx703_0,hx703_1,hx703_2,hx703_3,hx703_4,hx703_5,hx703_6⟩:=at_T44 (Kd.R_reads' HO_5.out).2.2 t701 p703 q703
      cases e703
      replace p703:=eq_true p703
      replace q703:=eq_true q703
      refine start_ (n:=10) (S:=fun w'=>w'.cell? (ad703.add ((t701).toNat * 7))=some (.int .i64 ((rd_T44 t695 t701).f0))∧w'.cell? ⟨(ad703.add ((t701).toNat * 7)).block,(ad703.add ((t701).toNat * 7)).off+1,none⟩=some (.int .i64 ((rd_T44 t695 t701).f1))∧w'.cell? ⟨(ad703.add ((t701).toNat * 7)).block,(ad703.add ((t701).toNat * 7)).off+2,none⟩=some (.int .i64 ((rd_T44 t695 t701).f2.f0))∧w'.cell? ⟨(ad703.add ((t701).toNat * 7)).block,(ad703.add ((t701).toNat * 7)).off+3,none⟩=some (.int .i64 ((rd_T44 t695 t701).f2.f1))∧w'.cell? ⟨(ad703.add ((t701).toNat * 7)).block,(ad703.add ((t701).toNat * 7)).off+4,none⟩=some (.int .i64 ((rd_T44 t695 t701).f2.f2))∧w'.cell? ⟨(ad703.add ((t701).toNat * 7)).block,(ad703.add ((t701).toNat * 7)).off+5,none⟩=some (.int .i64 ((rd_T44 t695 t701).f2.f3))∧w'.cell? ⟨(ad703.add ((t701).toNat * 7)).block,(ad703.add ((t701).toNat * 7)).off+6,none⟩=some (.string ((rd_T44 t695 t701).f2.f4))) (ds:=[]) #[false,false,false,false,false,false,false,false,false,false] (by kernel_rfl) rfl rfl ⟨hx703_0,hx703_1,hx703_2,hx703_3,hx703_4,hx703_5,hx703_6⟩ (fun hHeld=>?_);refine with_tabW spec_DrawLogAdd.tab4 spec_DrawLogAdd.bits4 (fun HT_ HW_=>?_)
      generalize wc.drew=w17 at HO_5 BK691 HI694 HB hx703_0 hx703_1 hx703_2 hx703_3 hx703_4 hx703_5 hx703_6 hHeld ⊢
      refine pa_ 0 19 ?_
      refine pa_ 1 20 ?_
      refine pa_ 2 21 ?_
      refine pa_ 3 22 ?_
      refine pa_ 4 23 ?_
      refine on_ 5 24 (fun K hK=>?_)
      refine goes_ Tryd.func74 (by kernel_rfl) rfl #[.pointer (some ⟨g694,0,none⟩),.int .i64 (t695.length:Int)] (by rfl) rfl rfl ar_ ?_
      with_reducible refine (spec_l6Rd_pick.calls kj3 g694 t692 x695001_3 (t695.length:Int) t701 t702 w _ ?side1 ?side2 A14.out).mono ?_
      (case side1=>exact is_HI694)
      (case side2=>exact bel_)
      rintro e w19 ⟨rfl,hi,hb,hk⟩
      have HS0_:=keep_cell hk (hHeld.1) (by first|(rw [add_block];exact Kd.own_blk (IsS145.own_ne HI694.out HO_5.out (by decide)))|(show (Addr.add _ _).block≠_;rw [add_block];exact Kd.own_blk (IsS145.own_ne HI694.out HO_5.out (by decide)))|exact Kd.own_blk (IsS145.own_ne HI694.out HO_5.out (by decide)))
      have HS1_:=keep_cell hk (hHeld.2.1) (by first|(rw [add_block];exact Kd.own_blk (IsS145.own_ne HI694.out HO_5.out (by decide)))|(show (Addr.add _ _).block≠_;rw [add_block];exact Kd.own_blk (IsS145.own_ne HI694.out HO_5.out (by decide)))|exact Kd.own_blk (IsS145.own_ne HI694.out HO_5.out (by decide)))
      have HS2_:=keep_cell hk (hHeld.2.2.1) (by first|(rw [add_block];exact Kd.own_blk (IsS145.own_ne HI694.out HO_5.out (by decide)))|(show (Addr.add _ _).block≠_;rw [add_block];exact Kd.own_blk (IsS145.own_ne HI694.out HO_5.out (by decide)))|exact Kd.own_blk (IsS145.own_ne HI694.out HO_5.out (by decide)))
      have HS3_:=keep_cell hk (hHeld.2.2.2.1) (by first|(rw [add_block];exact Kd.own_blk (IsS145.own_ne HI694.out HO_5.out (by decide)))|(show (Addr.add _ _).block≠_;rw [add_block];exact Kd.own_blk (IsS145.own_ne HI694.out HO_5.out (by decide)))|exact Kd.own_blk (IsS145.own_ne HI694.out HO_5.out (by decide)))
      have HS4_:=keep_cell hk (hHeld.2.2.2.2.1) (by first|(rw [add_block];exact Kd.own_blk (IsS145.own_ne HI694.out HO_5.out (by decide)))|(show (Addr.add _ _).block≠_;rw [add_block];exact Kd.own_blk (IsS145.own_ne HI694.out HO_5.out (by decide)))|exact Kd.own_blk (IsS145.own_ne HI694.out HO_5.out (by decide)))
      have HS5_:=keep_cell hk (hHeld.2.2.2.2.2.1) (by first|(rw [add_block];exact Kd.own_blk (IsS145.own_ne HI694.out HO_5.out (by decide)))|(show (Addr.add _ _).block≠_;rw [add_block];exact Kd.own_blk (IsS145.own_ne HI694.out HO_5.out (by decide)))|exact Kd.own_blk (IsS145.own_ne HI694.out HO_5.out (by decide)))
      have HS6_:=keep_cell hk (hHeld.2.2.2.2.2.2) (by first|(rw [add_block];exact Kd.own_blk (IsS145.own_ne HI694.out HO_5.out (by decide)))|(show (Addr.add _ _).block≠_;rw [add_block];exact Kd.own_blk (IsS145.own_ne HI694.out HO_5.out (by decide)))|exact Kd.own_blk (IsS145.own_ne HI694.out HO_5.out (by decide)))
      refine ⟨_,rfl,?_⟩
      have n0_:=a_ (Kd.R_mono (Kd.R_keep (IsS145.apart (show IsS145 w _ g694 t692 x695001_3 from is_HI694) (rp_ HO_5.out) (by decide)) hk (fun _ h=>h.2)) (fun _ h=>h.1))
      have n1_:=a_ (kb_ hk BK691.out NB691_694.out)
      have n2_:=a_ (hb)
      have n3_:=a_ (hi)
      clear HO_5
      clear BK691
      clear HB
      clear HI694
      have HO_5:=n0_
      have BK691:=n1_
      have HB:=n2_
      have HI694:=n3_
      clear n0_ n1_ n2_ n3_
      (try clear hb)
      (try clear hb2)
      (try clear hk)
      (try clear hi)
      refine hK.out _ _ ⟨HS0_,HS1_,HS2_,HS3_,HS4_,HS5_,HS6_⟩ (fun hHeld=>?_)
      clear hK K
      refine no_ 24 ?_
      refine pa_ 6 25 ?_
      refine pa_ 8 2 ?_
      refine ta7_ 7 26 hHeld ?_
      refine one_ (i:=9) (N:=none) #[true,true,true,true,true,true,true,true,true,true] rfl rfl (one_of HT_.out (by kernel_rfl)) (by decide) (fun K hK=>?_)
      have hs20:w19.cell? ⟨gb691,0,none⟩=some (.int .i64 0):=(bC_ BK691.out 0).trans rfl
      have hfs20:=bF_ BK691.out 0
      have hs21:w19.cell? ⟨gb691,1,none⟩=some (.int .i64 0):=(bC_ BK691.out 1).trans rfl
      have hfs21:=bF_ BK691.out 1
      have hs22:w19.cell? ⟨gb691,2,none⟩=some (.int .i64 0):=(bC_ BK691.out 2).trans rfl
      have hfs22:=bF_ BK691.out 2
      have hs23:w19.cell? ⟨gb691,3,none⟩=some (.int .i64 0):=(bC_ BK691.out 3).trans rfl
      have hfs23:=bF_ BK691.out 3
      have hs24:w19.cell? ⟨gb691,4,none⟩=some (.int .i64 0):=(bC_ BK691.out 4).trans rfl
      have hfs24:=bF_ BK691.out 4
      have hs25:w19.cell? ⟨gb691,5,none⟩=some (.int .i64 0):=(bC_ BK691.out 5).trans rfl
      have hfs25:=bF_ BK691.out 5
      have hs26:w19.cell? ⟨gb691,6,none⟩=some (.string (⟨#[]⟩:ByteArray)):=(bC_ BK691.out 6).trans rfl
      have hfs26:=bF_ BK691.out 6
      refine skip_ (w1:=?_) (by rfl) rfl ?_ ?_
      rotate_left
      ·go_simp
       rfl
      refine hK.out _ _ ⟨((cF_ (p:=⟨gb691,_,none⟩) (by first|exact Kd.own_blk (Kd.R_away HO_5.out (fun _ hk=>hk))|(rw [add_block];exact Kd.own_blk (Kd.R_away HO_5.out (fun _ hk=>hk)))|(show (Addr.add _ _).block≠_;rw [add_block];exact Kd.own_blk (Kd.R_away HO_5.out (fun _ hk=>hk)))|(dsimp only;exact Kd.own_blk (Kd.R_away HO_5.out (fun _ hk=>hk)))) _).trans (((cF_ (p:=⟨gb691,_,none⟩) (by first|exact Kd.own_blk (Kd.R_away HO_5.out (fun _ hk=>hk))|(rw [add_block];exact Kd.own_blk (Kd.R_away HO_5.out (fun _ hk=>hk)))|(show (Addr.add _ _).block≠_;rw [add_block];exact Kd.own_blk (Kd.R_away HO_5.out (fun _ hk=>hk)))|(dsimp only;exact Kd.own_blk (Kd.R_away HO_5.out (fun _ hk=>hk)))) _).trans (((cF_ (p:=⟨gb691,_,none⟩) (by first|exact Kd.own_blk (Kd.R_away HO_5.out (fun _ hk=>hk))|(rw [add_block];exact Kd.own_blk (Kd.R_away HO_5.out (fun _ hk=>hk)))|(show (Addr.add _ _).block≠_;rw [add_block];exact Kd.own_blk (Kd.R_away HO_5.out (fun _ hk=>hk)))|(dsimp only;exact Kd.own_blk (Kd.R_away HO_5.out (fun _ hk=>hk)))) _).trans (((cF_ (p:=⟨gb691,_,none⟩) (by first|exact Kd.own_blk (Kd.R_away HO_5.out (fun _ hk=>hk))|(rw [add_block];exact Kd.own_blk (Kd.R_away HO_5.out (fun _ hk=>hk)))|(show (Addr.add _ _).block≠_;rw [add_block];exact Kd.own_blk (Kd.R_away HO_5.out (fun _ hk=>hk)))|(dsimp only;exact Kd.own_blk (Kd.R_away HO_5.out (fun _ hk=>hk)))) _).trans (((cF_ (p:=⟨gb691,_,none⟩) (by first|exact Kd.own_blk (Kd.R_away HO_5.out (fun _ hk=>hk))|(rw [add_block];exact Kd.own_blk (Kd.R_away HO_5.out (fun _ hk=>hk)))|(show (Addr.add _ _).block≠_;rw [add_block];exact Kd.own_blk (Kd.R_away HO_5.out (fun _ hk=>hk)))|(dsimp only;exact Kd.own_blk (Kd.R_away HO_5.out (fun _ hk=>hk)))) _).trans (((cF_ (p:=⟨gb691,_,none⟩) (by first|exact Kd.own_blk (Kd.R_away HO_5.out (fun _ hk=>hk))|(rw [add_block];exact Kd.own_blk (Kd.R_away HO_5.out (fun _ hk=>hk)))|(show (Addr.add _ _).block≠_;rw [add_block];exact Kd.own_blk (Kd.R_away HO_5.out (fun _ hk=>hk)))|(dsimp only;exact Kd.own_blk (Kd.R_away HO_5.out (fun _ hk=>hk)))) _).trans (((cF_ (p:=⟨gb691,_,none⟩) (by first|exact Kd.own_blk (Kd.R_away HO_5.out (fun _ hk=>hk))|(rw [add_block];exact Kd.own_blk (Kd.R_away HO_5.out (fun _ hk=>hk)))|(show (Addr.add _ _).block≠_;rw [add_block];exact Kd.own_blk (Kd.R_away HO_5.out (fun _ hk=>hk)))|(dsimp only;exact Kd.own_blk (Kd.R_away HO_5.out (fun _ hk=>hk)))) _).trans (hHeld.1)))))))))))))),((cF_ (p:=⟨gb691,_,none⟩) (by first|exact Kd.own_blk (Kd.R_away HO_5.out (fun _ hk=>hk))|(rw [add_block];exact Kd.own_blk (Kd.R_away HO_5.out (fun _ hk=>hk)))|(show (Addr.add _ _).block≠_;rw [add_block];exact Kd.own_blk (Kd.R_away HO_5.out (fun _ hk=>hk)))|(dsimp only;exact Kd.own_blk (Kd.R_away HO_5.out (fun _ hk=>hk)))) _).trans (((cF_ (p:=⟨gb691,_,none⟩) (by first|exact Kd.own_blk (Kd.R_away HO_5.out (fun _ hk=>hk))|(rw [add_block];exact Kd.own_blk (Kd.R_away HO_5.out (fun _ hk=>hk)))|(show (Addr.add _ _).block≠_;rw [add_block];exact Kd.own_blk (Kd.R_away HO_5.out (fun _ hk=>hk)))|(dsimp only;exact Kd.own_blk (Kd.R_away HO_5.out (fun _ hk=>hk)))) _).trans (((cF_ (p:=⟨gb691,_,none⟩) (by first|exact Kd.own_blk (Kd.R_away HO_5.out (fun _ hk=>hk))|(rw [add_block];exact Kd.own_blk (Kd.R_away HO_5.out (fun _ hk=>hk)))|(show (Addr.add _ _).block≠_;rw [add_block];exact Kd.own_blk (Kd.R_away HO_5.out (fun _ hk=>hk)))|(dsimp only;exact Kd.own_blk (Kd.R_away HO_5.out (fun _ hk=>hk)))) _).trans (((cF_ (p:=⟨gb691,_,none⟩) (by first|exact Kd.own_blk (Kd.R_away HO_5.out (fun _ hk=>hk))|(rw [add_block];exact Kd.own_blk (Kd.R_away HO_5.out (fun _ hk=>hk)))|(show (Addr.add _ _).block≠_;rw [add_block];exact Kd.own_blk (Kd.R_away HO_5.out (fun _ hk=>hk)))|(dsimp only;exact Kd.own_blk (Kd.R_away HO_5.out (fun _ hk=>hk)))) _).trans (((cF_ (p:=⟨gb691,_,none⟩) (by first|exact Kd.own_blk (Kd.R_away HO_5.out (fun _ hk=>hk))|(rw [add_block];exact Kd.own_blk (Kd.R_away HO_5.out (fun _ hk=>hk)))|(show (Addr.add _ _).block≠_;rw [add_block];exact Kd.own_blk (Kd.R_away HO_5.out (fun _ hk=>hk)))|(dsimp only;exact Kd.own_blk (Kd.R_away HO_5.out (fun _ hk=>hk)))) _).trans (((cF_ (p:=⟨gb691,_,none⟩) (by first|exact Kd.own_blk (Kd.R_away HO_5.out (fun _ hk=>hk))|(rw [add_block];exact Kd.own_blk (Kd.R_away HO_5.out (fun _ hk=>hk)))|(show (Addr.add _ _).block≠_;rw [add_block];exact Kd.own_blk (Kd.R_away HO_5.out (fun _ hk=>hk)))|(dsimp only;exact Kd.own_blk (Kd.R_away HO_5.out (fun _ hk=>hk)))) _).trans (((cF_ (p:=⟨gb691,_,none⟩) (by first|exact Kd.own_blk (Kd.R_away HO_5.out (fun _ hk=>hk))|(rw [add_block];exact Kd.own_blk (Kd.R_away HO_5.out (fun _ hk=>hk)))|(show (Addr.add _ _).block≠_;rw [add_block];exact Kd.own_blk (Kd.R_away HO_5.out (fun _ hk=>hk)))|(dsimp only;exact Kd.own_blk (Kd.R_away HO_5.out (fun _ hk=>hk)))) _).trans (hHeld.2.1)))))))))))))),((cF_ (p:=⟨gb691,_,none⟩) (by first|exact Kd.own_blk (Kd.R_away HO_5.out (fun _ hk=>hk))|(rw [add_block];exact Kd.own_blk (Kd.R_away HO_5.out (fun _ hk=>hk)))|(show (Addr.add _ _).block≠_;rw [add_block];exact Kd.own_blk (Kd.R_away HO_5.out (fun _ hk=>hk)))|(dsimp only;exact Kd.own_blk (Kd.R_away HO_5.out (fun _ hk=>hk)))) _).trans (((cF_ (p:=⟨gb691,_,none⟩) (by first|exact Kd.own_blk (Kd.R_away HO_5.out (fun _ hk=>hk))|(rw [add_block];exact Kd.own_blk (Kd.R_away HO_5.out (fun _ hk=>hk)))|(show (Addr.add _ _).block≠_;rw [add_block];exact Kd.own_blk (Kd.R_away HO_5.out (fun _ hk=>hk)))|(dsimp only;exact Kd.own_blk (Kd.R_away HO_5.out (fun _ hk=>hk)))) _).trans (((cF_ (p:=⟨gb691,_,none⟩) (by first|exact Kd.own_blk (Kd.R_away HO_5.out (fun _ hk=>hk))|(rw [add_block];exact Kd.own_blk (Kd.R_away HO_5.out (fun _ hk=>hk)))|(show (Addr.add _ _).block≠_;rw [add_block];exact Kd.own_blk (Kd.R_away HO_5.out (fun _ hk=>hk)))|(dsimp only;exact Kd.own_blk (Kd.R_away HO_5.out (fun _ hk=>hk)))) _).trans (((cF_ (p:=⟨gb691,_,none⟩) (by first|exact Kd.own_blk (Kd.R_away HO_5.out (fun _ hk=>hk))|(rw [add_block];exact Kd.own_blk (Kd.R_away HO_5.out (fun _ hk=>hk)))|(show (Addr.add _ _).block≠_;rw [add_block];exact Kd.own_blk (Kd.R_away HO_5.out (fun _ hk=>hk)))|(dsimp only;exact Kd.own_blk (Kd.R_away HO_5.out (fun _ hk=>hk)))) _).trans (((cF_ (p:=⟨gb691,_,none⟩) (by first|exact Kd.own_blk (Kd.R_away HO_5.out (fun _ hk=>hk))|(rw [add_block];exact Kd.own_blk (Kd.R_away HO_5.out (fun _ hk=>hk)))|(show (Addr.add _ _).block≠_;rw [add_block];exact Kd.own_blk (Kd.R_away HO_5.out (fun _ hk=>hk)))|(dsimp only;exact Kd.own_blk (Kd.R_away HO_5.out (fun _ hk=>hk)))) _).trans (((cF_ (p:=⟨gb691,_,none⟩) (by first|exact Kd.own_blk (Kd.R_away HO_5.out (fun _ hk=>hk))|(rw [add_block];exact Kd.own_blk (Kd.R_away HO_5.out (fun _ hk=>hk)))|(show (Addr.add _ _).block≠_;rw [add_block];exact Kd.own_blk (Kd.R_away HO_5.out (fun _ hk=>hk)))|(dsimp only;exact Kd.own_blk (Kd.R_away HO_5.out (fun _ hk=>hk)))) _).trans (((cF_ (p:=⟨gb691,_,none⟩) (by first|exact Kd.own_blk (Kd.R_away HO_5.out (fun _ hk=>hk))|(rw [add_block];exact Kd.own_blk (Kd.R_away HO_5.out (fun _ hk=>hk)))|(show (Addr.add _ _).block≠_;rw [add_block];exact Kd.own_blk (Kd.R_away HO_5.out (fun _ hk=>hk)))|(dsimp only;exact Kd.own_blk (Kd.R_away HO_5.out (fun _ hk=>hk)))) _).trans (hHeld.2.2.1)))))))))))))),((cF_ (p:=⟨gb691,_,none⟩) (by first|exact Kd.own_blk (Kd.R_away HO_5.out (fun _ hk=>hk))|(rw [add_block];exact Kd.own_blk (Kd.R_away HO_5.out (fun _ hk=>hk)))|(show (Addr.add _ _).block≠_;rw [add_block];exact Kd.own_blk (Kd.R_away HO_5.out (fun _ hk=>hk)))|(dsimp only;exact Kd.own_blk (Kd.R_away HO_5.out (fun _ hk=>hk)))) _).trans (((cF_ (p:=⟨gb691,_,none⟩) (by first|exact Kd.own_blk (Kd.R_away HO_5.out (fun _ hk=>hk))|(rw [add_block];exact Kd.own_blk (Kd.R_away HO_5.out (fun _ hk=>hk)))|(show (Addr.add _ _).block≠_;rw [add_block];exact Kd.own_blk (Kd.R_away HO_5.out (fun _ hk=>hk)))|(dsimp only;exact Kd.own_blk (Kd.R_away HO_5.out (fun _ hk=>hk)))) _).trans (((cF_ (p:=⟨gb691,_,none⟩) (by first|exact Kd.own_blk (Kd.R_away HO_5.out (fun _ hk=>hk))|(rw [add_block];exact Kd.own_blk (Kd.R_away HO_5.out (fun _ hk=>hk)))|(show (Addr.add _ _).block≠_;rw [add_block];exact Kd.own_blk (Kd.R_away HO_5.out (fun _ hk=>hk)))|(dsimp only;exact Kd.own_blk (Kd.R_away HO_5.out (fun _ hk=>hk)))) _).trans (((cF_ (p:=⟨gb691,_,none⟩) (by first|exact Kd.own_blk (Kd.R_away HO_5.out (fun _ hk=>hk))|(rw [add_block];exact Kd.own_blk (Kd.R_away HO_5.out (fun _ hk=>hk)))|(show (Addr.add _ _).block≠_;rw [add_block];exact Kd.own_blk (Kd.R_away HO_5.out (fun _ hk=>hk)))|(dsimp only;exact Kd.own_blk (Kd.R_away HO_5.out (fun _ hk=>hk)))) _).trans (((cF_ (p:=⟨gb691,_,none⟩) (by first|exact Kd.own_blk (Kd.R_away HO_5.out (fun _ hk=>hk))|(rw [add_block];exact Kd.own_blk (Kd.R_away HO_5.out (fun _ hk=>hk)))|(show (Addr.add _ _).block≠_;rw [add_block];exact Kd.own_blk (Kd.R_away HO_5.out (fun _ hk=>hk)))|(dsimp only;exact Kd.own_blk (Kd.R_away HO_5.out (fun _ hk=>hk)))) _).trans (((cF_ (p:=⟨gb691,_,none⟩) (by first|exact Kd.own_blk (Kd.R_away HO_5.out (fun _ hk=>hk))|(rw [add_block];exact Kd.own_blk (Kd.R_away HO_5.out (fun _ hk=>hk)))|(show (Addr.add _ _).block≠_;rw [add_block];exact Kd.own_blk (Kd.R_away HO_5.out (fun _ hk=>hk)))|(dsimp only;exact Kd.own_blk (Kd.R_away HO_5.out (fun _ hk=>hk)))) _).trans (((cF_ (p:=⟨gb691,_,none⟩) (by first|exact Kd.own_blk (Kd.R_away HO_5.out (fun _ hk=>hk))|(rw [add_block];exact Kd.own_blk (Kd.R_away HO_5.out (fun _ hk=>hk)))|(show (Addr.add _ _).block≠_;rw [add_block];exact Kd.own_blk (Kd.R_away HO_5.out (fun _ hk=>hk)))|(dsimp only;exact Kd.own_blk (Kd.R_away HO_5.out (fun _ hk=>hk)))) _).trans (hHeld.2.2.2.1)))))))))))))),((cF_ (p:=⟨gb691,_,none⟩) (by first|exact Kd.own_blk (Kd.R_away HO_5.out (fun _ hk=>hk))|(rw [add_block];exact Kd.own_blk (Kd.R_away HO_5.out (fun _ hk=>hk)))|(show (Addr.add _ _).block≠_;rw [add_block];exact Kd.own_blk (Kd.R_away HO_5.out (fun _ hk=>hk)))|(dsimp only;exact Kd.own_blk (Kd.R_away HO_5.out (fun _ hk=>hk)))) _).trans (((cF_ (p:=⟨gb691,_,none⟩) (by first|exact Kd.own_blk (Kd.R_away HO_5.out (fun _ hk=>hk))|(rw [add_block];exact Kd.own_blk (Kd.R_away HO_5.out (fun _ hk=>hk)))|(show (Addr.add _ _).block≠_;rw [add_block];exact Kd.own_blk (Kd.R_away HO_5.out (fun _ hk=>hk)))|(dsimp only;exact Kd.own_blk (Kd.R_away HO_5.out (fun _ hk=>hk)))) _).trans (((cF_ (p:=⟨gb691,_,none⟩) (by first|exact Kd.own_blk (Kd.R_away HO_5.out (fun _ hk=>hk))|(rw [add_block];exact Kd.own_blk (Kd.R_away HO_5.out (fun _ hk=>hk)))|(show (Addr.add _ _).block≠_;rw [add_block];exact Kd.own_blk (Kd.R_away HO_5.out (fun _ hk=>hk)))|(dsimp only;exact Kd.own_blk (Kd.R_away HO_5.out (fun _ hk=>hk)))) _).trans (((cF_ (p:=⟨gb691,_,none⟩) (by first|exact Kd.own_blk (Kd.R_away HO_5.out (fun _ hk=>hk))|(rw [add_block];exact Kd.own_blk (Kd.R_away HO_5.out (fun _ hk=>hk)))|(show (Addr.add _ _).block≠_;rw [add_block];exact Kd.own_blk (Kd.R_away HO_5.out (fun _ hk=>hk)))|(dsimp only;exact Kd.own_blk (Kd.R_away HO_5.out (fun _ hk=>hk)))) _).trans (((cF_ (p:=⟨gb691,_,none⟩) (by first|exact Kd.own_blk (Kd.R_away HO_5.out (fun _ hk=>hk))|(rw [add_block];exact Kd.own_blk (Kd.R_away HO_5.out (fun _ hk=>hk)))|(show (Addr.add _ _).block≠_;rw [add_block];exact Kd.own_blk (Kd.R_away HO_5.out (fun _ hk=>hk)))|(dsimp only;exact Kd.own_blk (Kd.R_away HO_5.out (fun _ hk=>hk)))) _).trans (((cF_ (p:=⟨gb691,_,none⟩) (by first|exact Kd.own_blk (Kd.R_away HO_5.out (fun _ hk=>hk))|(rw [add_block];exact Kd.own_blk (Kd.R_away HO_5.out (fun _ hk=>hk)))|(show (Addr.add _ _).block≠_;rw [add_block];exact Kd.own_blk (Kd.R_away HO_5.out (fun _ hk=>hk)))|(dsimp only;exact Kd.own_blk (Kd.R_away HO_5.out (fun _ hk=>hk)))) _).trans (((cF_ (p:=⟨gb691,_,none⟩) (by first|exact Kd.own_blk (Kd.R_away HO_5.out (fun _ hk=>hk))|(rw [add_block];exact Kd.own_blk (Kd.R_away HO_5.out (fun _ hk=>hk)))|(show (Addr.add _ _).block≠_;rw [add_block];exact Kd.own_blk (Kd.R_away HO_5.out (fun _ hk=>hk)))|(dsimp only;exact Kd.own_blk (Kd.R_away HO_5.out (fun _ hk=>hk)))) _).trans (hHeld.2.2.2.2.1)))))))))))))),((cF_ (p:=⟨gb691,_,none⟩) (by first|exact Kd.own_blk (Kd.R_away HO_5.out (fun _ hk=>hk))|(rw [add_block];exact Kd.own_blk (Kd.R_away HO_5.out (fun _ hk=>hk)))|(show (Addr.add _ _).block≠_;rw [add_block];exact Kd.own_blk (Kd.R_away HO_5.out (fun _ hk=>hk)))|(dsimp only;exact Kd.own_blk (Kd.R_away HO_5.out (fun _ hk=>hk)))) _).trans (((cF_ (p:=⟨gb691,_,none⟩) (by first|exact Kd.own_blk (Kd.R_away HO_5.out (fun _ hk=>hk))|(rw [add_block];exact Kd.own_blk (Kd.R_away HO_5.out (fun _ hk=>hk)))|(show (Addr.add _ _).block≠_;rw [add_block];exact Kd.own_blk (Kd.R_away HO_5.out (fun _ hk=>hk)))|(dsimp only;exact Kd.own_blk (Kd.R_away HO_5.out (fun _ hk=>hk)))) _).trans (((cF_ (p:=⟨gb691,_,none⟩) (by first|exact Kd.own_blk (Kd.R_away HO_5.out (fun _ hk=>hk))|(rw [add_block];exact Kd.own_blk (Kd.R_away HO_5.out (fun _ hk=>hk)))|(show (Addr.add _ _).block≠_;rw [add_block];exact Kd.own_blk (Kd.R_away HO_5.out (fun _ hk=>hk)))|(dsimp only;exact Kd.own_blk (Kd.R_away HO_5.out (fun _ hk=>hk)))) _).trans (((cF_ (p:=⟨gb691,_,none⟩) (by first|exact Kd.own_blk (Kd.R_away HO_5.out (fun _ hk=>hk))|(rw [add_block];exact Kd.own_blk (Kd.R_away HO_5.out (fun _ hk=>hk)))|(show (Addr.add _ _).block≠_;rw [add_block];exact Kd.own_blk (Kd.R_away HO_5.out (fun _ hk=>hk)))|(dsimp only;exact Kd.own_blk (Kd.R_away HO_5.out (fun _ hk=>hk)))) _).trans (((cF_ (p:=⟨gb691,_,none⟩) (by first|exact Kd.own_blk (Kd.R_away HO_5.out (fun _ hk=>hk))|(rw [add_block];exact Kd.own_blk (Kd.R_away HO_5.out (fun _ hk=>hk)))|(show (Addr.add _ _).block≠_;rw [add_block];exact Kd.own_blk (Kd.R_away HO_5.out (fun _ hk=>hk)))|(dsimp only;exact Kd.own_blk (Kd.R_away HO_5.out (fun _ hk=>hk)))) _).trans (((cF_ (p:=⟨gb691,_,none⟩) (by first|exact Kd.own_blk (Kd.R_away HO_5.out (fun _ hk=>hk))|(rw [add_block];exact Kd.own_blk (Kd.R_away HO_5.out (fun _ hk=>hk)))|(show (Addr.add _ _).block≠_;rw [add_block];exact Kd.own_blk (Kd.R_away HO_5.out (fun _ hk=>hk)))|(dsimp only;exact Kd.own_blk (Kd.R_away HO_5.out (fun _ hk=>hk)))) _).trans (((cF_ (p:=⟨gb691,_,none⟩) (by first|exact Kd.own_blk (Kd.R_away HO_5.out (fun _ hk=>hk))|(rw [add_block];exact Kd.own_blk (Kd.R_away HO_5.out (fun _ hk=>hk)))|(show (Addr.add _ _).block≠_;rw [add_block];exact Kd.own_blk (Kd.R_away HO_5.out (fun _ hk=>hk)))|(dsimp only;exact Kd.own_blk (Kd.R_away HO_5.out (fun _ hk=>hk)))) _).trans (hHeld.2.2.2.2.2.1)))))))))))))),((cF_ (p:=⟨gb691,_,none⟩) (by first|exact Kd.own_blk (Kd.R_away HO_5.out (fun _ hk=>hk))|(rw [add_block];exact Kd.own_blk (Kd.R_away HO_5.out (fun _ hk=>hk)))|(show (Addr.add _ _).block≠_;rw [add_block];exact Kd.own_blk (Kd.R_away HO_5.out (fun _ hk=>hk)))|(dsimp only;exact Kd.own_blk (Kd.R_away HO_5.out (fun _ hk=>hk)))) _).trans (((cF_ (p:=⟨gb691,_,none⟩) (by first|exact Kd.own_blk (Kd.R_away HO_5.out (fun _ hk=>hk))|(rw [add_block];exact Kd.own_blk (Kd.R_away HO_5.out (fun _ hk=>hk)))|(show (Addr.add _ _).block≠_;rw [add_block];exact Kd.own_blk (Kd.R_away HO_5.out (fun _ hk=>hk)))|(dsimp only;exact Kd.own_blk (Kd.R_away HO_5.out (fun _ hk=>hk)))) _).trans (((cF_ (p:=⟨gb691,_,none⟩) (by first|exact Kd.own_blk (Kd.R_away HO_5.out (fun _ hk=>hk))|(rw [add_block];exact Kd.own_blk (Kd.R_away HO_5.out (fun _ hk=>hk)))|(show (Addr.add _ _).block≠_;rw [add_block];exact Kd.own_blk (Kd.R_away HO_5.out (fun _ hk=>hk)))|(dsimp only;exact Kd.own_blk (Kd.R_away HO_5.out (fun _ hk=>hk)))) _).trans (((cF_ (p:=⟨gb691,_,none⟩) (by first|exact Kd.own_blk (Kd.R_away HO_5.out (fun _ hk=>hk))|(rw [add_block];exact Kd.own_blk (Kd.R_away HO_5.out (fun _ hk=>hk)))|(show (Addr.add _ _).block≠_;rw [add_block];exact Kd.own_blk (Kd.R_away HO_5.out (fun _ hk=>hk)))|(dsimp only;exact Kd.own_blk (Kd.R_away HO_5.out (fun _ hk=>hk)))) _).trans (((cF_ (p:=⟨gb691,_,none⟩) (by first|exact Kd.own_blk (Kd.R_away HO_5.out (fun _ hk=>hk))|(rw [add_block];exact Kd.own_blk (Kd.R_away HO_5.out (fun _ hk=>hk)))|(show (Addr.add _ _).block≠_;rw [add_block];exact Kd.own_blk (Kd.R_away HO_5.out (fun _ hk=>hk)))|(dsimp only;exact Kd.own_blk (Kd.R_away HO_5.out (fun _ hk=>hk)))) _).trans (((cF_ (p:=⟨gb691,_,none⟩) (by first|exact Kd.own_blk (Kd.R_away HO_5.out (fun _ hk=>hk))|(rw [add_block];exact Kd.own_blk (Kd.R_away HO_5.out (fun _ hk=>hk)))|(show (Addr.add _ _).block≠_;rw [add_block];exact Kd.own_blk (Kd.R_away HO_5.out (fun _ hk=>hk)))|(dsimp only;exact Kd.own_blk (Kd.R_away HO_5.out (fun _ hk=>hk)))) _).trans (((cF_ (p:=⟨gb691,_,none⟩) (by first|exact Kd.own_blk (Kd.R_away HO_5.out (fun _ hk=>hk))|(rw [add_block];exact Kd.own_blk (Kd.R_away HO_5.out (fun _ hk=>hk)))|(show (Addr.add _ _).block≠_;rw [add_block];exact Kd.own_blk (Kd.R_away HO_5.out (fun _ hk=>hk)))|(dsimp only;exact Kd.own_blk (Kd.R_away HO_5.out (fun _ hk=>hk)))) _).trans (hHeld.2.2.2.2.2.2))))))))))))))⟩ (fun hHeld=>?_)
      clear hK K
      refine done_ (done_of HT_.out (by kernel_rfl)) ?_
      try go_wp2
      refine bodyPost_ret (results_tc rfl _ _ gb691 44 #[.int .i64 ((rd_T44 t695 t701).f0),.int .i64 ((rd_T44 t695 t701).f1),.int .i64 ((rd_T44 t695 t701).f2.f0),.int .i64 ((rd_T44 t695 t701).f2.f1),.int .i64 ((rd_T44 t695 t701).f2.f2),.int .i64 ((rd_T44 t695 t701).f2.f3),.string ((rd_T44 t695 t701).f2.f4)] (0,0) _ rfl (k7p_ BK691.out) Tryd.underlying44 rfl (by kernel_rfl)) rfl ?_
      exact ⟨_,fi_,by (with_reducible repeat (first|apply Kd.R_alloc|apply Kd.R_drewN|apply Kd.R_drew));exact Kd.R_mono (rf7_ (g:=gb691) (Kd.R_mono HO_5.out (fun k_ hk=>(⟨hk,hk⟩:_∧k_≠gb691))) (fun _ hk=>hk.2) (.int .i64 ((rd_T44 t695 t701).f0)) (.int .i64 ((rd_T44 t695 t701).f1)) (.int .i64 ((rd_T44 t695 t701).f2.f0)) (.int .i64 ((rd_T44 t695 t701).f2.f1)) (.int .i64 ((rd_T44 t695 t701).f2.f2)) (.int .i64 ((rd_T44 t695 t701).f2.f3)) (.string ((rd_T44 t695 t701).f2.f4))) (fun _ hk=>trivial),bel_⟩
     ·rw [if_neg c16] at H
      exact absurd H (by simp)
    ·rw [if_neg c15] at H
     exact absurd H (by simp)
   ·replace c13:=Bool.eq_false_iff.mpr c13
    subst c13
    have H1:((spec_DrawEntryOk.f kj3 l0).bind fun bt704=>((spec_l6Rd_pick.f kj3 t692 x695001_3 6).bind fun bt712=>(if bt712.1 > 0 then ((spec_l12Seq.f kj3 t695 bt704.1).bind fun t714=>(some (t695,bt704.1,wrap64 (t714+1),bt704.2.2.1,bt704.2.2.2.1,bt704.2.2.2.2.1,bt704.2.2.2.2.2.1,bt704.2.2.2.2.2.2))) else (some (t695,bt704.1,bt704.2.1,bt704.2.2.1,bt704.2.2.2.1,bt704.2.2.2.2.1,bt704.2.2.2.2.2.1,bt704.2.2.2.2.2.2)))))=some (r1,r2,r3,r4,r5,r6,r7,r8):=by rw [if_neg (show ¬ (false=true) by decide)] at H;exact H
    clear H
    have H:=H1
    clear H1
    replace H:=bs_ H
    obtain ⟨⟨t704,t705,t706,t707,t708,t709,t710⟩,A270,H⟩:=H
    try dsimp only at H
    have A27:=a_ A270
    clear A270
    replace H:=bs_ H
    obtain ⟨⟨t712,t713⟩,A280,H⟩:=H
    try dsimp only at H
    have A28:=a_ A280
    clear A280
    by_cases c29:t712 > 0
    ·rw [if_pos c29] at H
     have c29b0:decide (0 < t712)=true:=dt_ c29
     clear c29
     replace H:=bs_ H
     obtain ⟨t714,A300,H⟩:=H
     try dsimp only at H
     have A30:=a_ A300
     clear A300
     simp only [Option.some.injEq,Prod.mk.injEq] at H
     obtain ⟨rfl,rfl,rfl,rfl,rfl,rfl,rfl,rfl⟩:=H
     try go_wp2_with (first|((with_reducible refine gC_ (f:=89) rfl ?_);refine gl_ 28 Tryd.func89 #[.slice A0 l0.length c0] ?_;(with_reducible refine (spec_DrawEntryOk.calls kj3 _ _ l0 t704 t705 t706 t707 t708 t709 t710 _ ?side1 ?side2 A27.out).mono ?_);(case side1=>exact cp_ HR0.out);(case side2=>exact HC0.out);rintro e w31 ⟨rfl,hb⟩;refine ⟨_,rfl,?_⟩;replace HO_5:=a_ (Kd.R_below (rp_ HO_5.out) hb);replace HB:=a_ (bS_ (bel_) hb);replace BK691:=a_ (bb_ BK691.out hb);replace HI694:=a_ (IsS145.below (is_HI694) hb);(try clear hb))|((with_reducible refine gD_ (N:=6) rfl ?_);refine bx_ 6 (#[.int .i64 0,.int .i64 0,.int .i64 0,.int .i64 0,.int .i64 0,.int .i64 0,.string (⟨#[]⟩:ByteArray)]) 44 ?_;intro gb711 hg w32 hbox hb;have n0_:=a_ (Kd.R_below (Kd.R_elderB (rp_ HO_5.out) gb711 (Nat.le_of_eq hg.symm)) hb);have n1_:=a_ (bb_ BK691.out hb);have n2_:=a_ (IsS145.below (is_HI694) hb);have n3_:=a_ (bS_ (bel_) hb);have n4_:=a_ (hbox);have n5_:=a_ ((by rw [hg];exact (below_size (bel_)):w.heap.size≤gb711));have n6_:=a_ ((by rw [hg];exact (below_size (bel_)):w.heap.size≤gb711));have n7_:=a_ ((by rw [hg];exact Nat.ne_of_lt (blk_lt (g:=gb691) (o:=.cells #[.int .i64 0,.int .i64 0,.int .i64 0,.int .i64 0,.int .i64 0,.int .i64 0,.string (⟨#[]⟩:ByteArray)] 44 (0,0)) (bp_ BK691.out)):gb691≠gb711));have n8_:=a_ ((by rw [hg];exact Nat.ne_of_gt (blk_lt (g:=gb691) (o:=.cells #[.int .i64 0,.int .i64 0,.int .i64 0,.int .i64 0,.int .i64 0,.int .i64 0,.string (⟨#[]⟩:ByteArray)] 44 (0,0)) (bp_ BK691.out)):gb711≠gb691));have n9_:=a_ ((by rw [hg];exact Nat.ne_of_lt (IsS145.lt (show IsS145 w _ g694 t692 x695001_3 from is_HI694)):g694≠gb711));have n10_:=a_ ((by rw [hg];exact Nat.ne_of_gt (IsS145.lt (show IsS145 w _ g694 t692 x695001_3 from is_HI694)):gb711≠g694));clear HO_5;clear BK691;clear HI694;clear HB;have HO_5:=n0_;have BK691:=n1_;have HI694:=n2_;have HB:=n3_;have BK711:=n4_;have GW711:=n5_;have GE711:=n6_;have NB691_711:=n7_;have NB711_691:=n8_;have NB694_711:=n9_;have NB711_694:=n10_;clear n0_ n1_ n2_ n3_ n4_ n5_ n6_ n7_ n8_ n9_ n10_;clear hb hbox hg;have hnb33:=NB711_691.out;have hnc33:=NB691_711.out;have hnb34:=NB711_694.out;have hnc34:=NB694_711.out;obtain ⟨Z35_0,Z35_1,Z35_2,Z35_3,Z35_4,Z35_5,Z35_6,Y35_0,Y35_1,Y35_2,Y35_3,Y35_4,Y35_5,Y35_6⟩:=op7_ BK711.out)|((with_reducible refine gC_ (f:=74) rfl ?_);refine gl_ 30 Tryd.func74 #[.pointer (some ⟨g694,0,none⟩),.int .i64 6] ?_;(with_reducible refine (spec_l6Rd_pick.calls kj3 g694 t692 x695001_3 6 t712 t713 w _ ?side1 ?side2 A28.out).mono ?_);(case side1=>exact is_HI694);(case side2=>exact bel_);rintro e w36 ⟨rfl,hi,hb,hk⟩;refine ⟨_,rfl,?_⟩;have n0_:=a_ (Kd.R_mono (Kd.R_keep (IsS145.apart (show IsS145 w _ g694 t692 x695001_3 from is_HI694) (by (with_reducible repeat (first|apply Kd.R_alloc|apply Kd.R_drewN|apply Kd.R_drew));exact (Kd.R_mono (rf7_ (g:=gb711) (Kd.R_mono HO_5.out (fun k_ hk=>(⟨hk,hk.2⟩:_∧k_≠gb711))) (fun _ hk=>hk.2) (.int .i64 t704) (.int .i64 t705) (.int .i64 t706) (.int .i64 t707) (.int .i64 t708) (.int .i64 t709) (.string t710)) (fun _ h_=>h_.1))) (by decide)) hk (fun _ h=>h.2)) (fun _ h=>h.1));have n1_:=a_ (KeepBut.blk hk (g':=gb691) (o:=.cells #[.int .i64 0,.int .i64 0,.int .i64 0,.int .i64 0,.int .i64 0,.int .i64 0,.string (⟨#[]⟩:ByteArray)] 44 (0,0)) (fp1_ NB691_711.out BK691.out) NB691_694.out (by simp));have n2_:=a_ (KeepBut.blk hk (g':=gb711) (o:=.cells #[.int .i64 t704,.int .i64 t705,.int .i64 t706,.int .i64 t707,.int .i64 t708,.int .i64 t709,.string t710] 44 (0,0)) (k7p_ BK711.out) NB711_694.out (by simp));have n3_:=a_ (hb);have n4_:=a_ (hi);clear HO_5;clear BK691;clear BK711;clear HB;clear HI694;have HO_5:=n0_;have BK691:=n1_;have BK711:=n2_;have HB:=n3_;have HI694:=n4_;clear n0_ n1_ n2_ n3_ n4_;(try clear hb hk hi);obtain ⟨Z37_0,Z37_1,Z37_2,Z37_3,Z37_4,Z37_5,Z37_6,Y37_0,Y37_1,Y37_2,Y37_3,Y37_4,Y37_5,Y37_6⟩:=op7_ BK711.out;obtain ⟨Ao38,co38,eo38⟩:=Kd.R_slice HO_5.out;subst eo38)|((with_reducible refine gC_ (f:=90) rfl ?_);refine gl_ 35 Tryd.func90 #[.slice Ao38 t695.length co38,.int .i64 t704] ?_;(with_reducible refine (spec_l12Seq.calls kj3 _ _ t695 t704 t714 _ ?side1 ?side2 A30.out).mono ?_);(case side1=>exact cx_ (Kd.R_reads' HO_5.out).2.2);(case side2=>exact (Kd.R_reads' HO_5.out).2.1);rintro e w' ⟨rfl,⟨nd,rfl⟩⟩;refine ⟨_,rfl,?_⟩;(try (rw [drewN_self w36];generalize hq_:World.drewN w36 _=w36;have n0_:Aside0 (Kd.R k44 44 w36 w.heap.size (fun k_=>k_≠gb691∧k_≠gb711) (.slice Ao38 t695.length co38) t695):=⟨by rw [←hq_];exact (rp_ HO_5.out)⟩;have n1_:Aside0 (w36.heap[gb691]?=some (.cells #[.int .i64 0,.int .i64 0,.int .i64 0,.int .i64 0,.int .i64 0,.int .i64 0,.string (⟨#[]⟩:ByteArray)] 44 (0,0))):=⟨by rw [←hq_];exact (bp_ BK691.out)⟩;have n2_:Aside0 (w36.heap[gb711]?=some (.cells #[.int .i64 t704,.int .i64 t705,.int .i64 t706,.int .i64 t707,.int .i64 t708,.int .i64 t709,.string t710] 44 (0,0))):=⟨by rw [←hq_];exact (bp_ BK711.out)⟩;have n3_:Aside0 (IsS145 w w36 g694 t692 t713):=⟨by rw [←hq_];exact (is_HI694)⟩;have n4_:Aside0 (Below w.heap.size w w36):=⟨by rw [←hq_];exact (bel_)⟩;clear HO_5 BK691 BK711 HI694 HB hq_;have HO_5:=n0_;have BK691:=n1_;have BK711:=n2_;have HI694:=n3_;have HB:=n4_;clear n0_ n1_ n2_ n3_ n4_;obtain ⟨Zy691_0,Zy691_1,Zy691_2,Zy691_3,Zy691_4,Zy691_5,Zy691_6,Yy691_0,Yy691_1,Yy691_2,Yy691_3,Yy691_4,Yy691_5,Yy691_6⟩:=op7_ BK691.out;obtain ⟨Zy711_0,Zy711_1,Zy711_2,Zy711_3,Zy711_4,Zy711_5,Zy711_6,Yy711_0,Yy711_1,Yy711_2,Yy711_3,Yy711_4,Yy711_5,Yy711_6⟩:=op7_ BK711.out))))
     have n0_:Aside0 (Kd.R k44 44 (w36.setCell ⟨gb711,1,none⟩ (.int .i64 (wrap64 (t714+1)))) w.heap.size (fun k_=>k_≠gb691∧k_≠gb711) (.slice Ao38 t695.length co38) t695):=⟨by (with_reducible repeat (first|apply Kd.R_alloc|apply Kd.R_drewN|apply Kd.R_drew));exact Kd.R_mono (Kd.R_far (p:=⟨gb711,1,none⟩) (Kd.R_mono HO_5.out (fun k_ hk=>(⟨hk,hk.2⟩:_∧k_≠gb711))) (fun _ hk=>hk.2) (.int .i64 (wrap64 (t714+1)))) (fun _ hk=>⟨hk.1.1,hk.1.2⟩)⟩
     have n1_:Aside0 ((w36.setCell ⟨gb711,1,none⟩ (.int .i64 (wrap64 (t714+1)))).heap[gb691]?=some (.cells #[.int .i64 0,.int .i64 0,.int .i64 0,.int .i64 0,.int .i64 0,.int .i64 0,.string (⟨#[]⟩:ByteArray)] 44 (0,0))):=⟨fp1_ NB691_711.out BK691.out⟩
     have n2_:Aside0 ((w36.setCell ⟨gb711,1,none⟩ (.int .i64 (wrap64 (t714+1)))).heap[gb711]?=some (.cells #[.int .i64 t704,.int .i64 (wrap64 (t714+1)),.int .i64 t706,.int .i64 t707,.int .i64 t708,.int .i64 t709,.string t710] 44 (0,0))):=⟨by (with_reducible repeat (first|refine bN_ ?_ _|refine bD_ ?_|refine bA_ ?_ _));refine blk_put (cs:=#[.int .i64 t704,.int .i64 t705,.int .i64 t706,.int .i64 t707,.int .i64 t708,.int .i64 t709,.string t710]) ?_ 1 _ rfl;(with_reducible repeat (first|refine bN_ ?_ _|refine bD_ ?_|refine bA_ ?_ _));exact BK711.out⟩
     have n3_:Aside0 (IsS145 w (w36.setCell ⟨gb711,1,none⟩ (.int .i64 (wrap64 (t714+1)))) g694 t692 t713):=⟨is_HI694⟩
     have n4_:Aside0 (Below w.heap.size w (w36.setCell ⟨gb711,1,none⟩ (.int .i64 (wrap64 (t714+1))))):=⟨bel_⟩
     (try clear HO_5)
     (try clear BK691)
     (try clear BK711)
     (try clear HI694)
     (try clear HB)
     generalize (w36.setCell ⟨gb711,1,none⟩ (.int .i64 (wrap64 (t714+1))))=w39 at n0_ n1_ n2_ n3_ n4_ ⊢
     have HO_5:=n0_
     have BK691:=n1_
     have BK711:=n2_
     have HI694:=n3_
     have HB:=n4_
     clear n0_ n1_ n2_ n3_ n4_
     have n0_:=a_ (Kd.R_drew HO_5.out)
     have n1_:=a_ (bD_ BK691.out)
     have n2_:=a_ (bD_ BK711.out)
     have n3_:=a_ (IsS145.drew HI694.out)
     have n4_:=a_ (below_drew1 HB.out)
     clear HO_5
     clear BK691
     clear BK711
     clear HI694
     clear HB
     have HO_5:=n0_
     have BK691:=n1_
     have BK711:=n2_
     have HI694:=n3_
     have HB:=n4_
     clear n0_ n1_ n2_ n3_ n4_
     refine start_ (n:=4) (S:=fun w'=>w'.cell? ⟨gb711,0,none⟩=some (.int .i64 t704)∧w'.cell? ⟨gb711,1,none⟩=some (.int .i64 (wrap64 (t714+1)))∧w'.cell? ⟨gb711,2,none⟩=some (.int .i64 t706)∧w'.cell? ⟨gb711,3,none⟩=some (.int .i64 t707)∧w'.cell? ⟨gb711,4,none⟩=some (.int .i64 t708)∧w'.cell? ⟨gb711,5,none⟩=some (.int .i64 t709)∧w'.cell? ⟨gb711,6,none⟩=some (.string t710)) (ds:=[]) #[false,false,false,false] (by kernel_rfl) rfl rfl ⟨(bC_ BK711.out 0).trans rfl,(bC_ BK711.out 1).trans rfl,(bC_ BK711.out 2).trans rfl,(bC_ BK711.out 3).trans rfl,(bC_ BK711.out 4).trans rfl,(bC_ BK711.out 5).trans rfl,(bC_ BK711.out 6).trans rfl⟩ (fun hHeld=>?_)
     generalize w39.drew=w40 at HO_5 BK691 BK711 HI694 HB hHeld ⊢
     refine pure_ (i:=0) (N:=some 38) (v:=?_) (a':=?_) #[true,false,false,false] rfl rfl (by kernel_rfl) (fun _ _ _ h=>h) (Or.inl ⟨by rfl,?_⟩) ?_ ?_
     rotate_left
     ·intro w'
      go_simp
      with_reducible rfl
     rotate_left
     ·simp only [Act.put,List.setIfInBounds_toArray,List.set_cons_zero,List.set_cons_succ,i64_w,i32_w]
      rfl
     refine pure_ (i:=2) (N:=some 2) (v:=?_) (a':=?_) #[true,false,true,false] rfl rfl (by kernel_rfl) (fun _ _ _ h=>h) (Or.inl ⟨by rfl,?_⟩) ?_ ?_
     rotate_left
     ·intro w'
      go_simp
      with_reducible rfl
     rotate_left
     ·simp only [Act.put,List.setIfInBounds_toArray,List.set_cons_zero,List.set_cons_succ,i64_w,i32_w]
      rfl
     refine take_ (i:=1) (N:=some 39) (v:=?_) (a':=?_) #[true,true,true,false] rfl rfl (by kernel_rfl) (fun _ _ _ h=>h) (Or.inl ⟨by rfl,?_⟩) hHeld ?_ ?_
     rotate_left
     ·rintro w' ⟨s0,s1,s2,s3,s4,s5,s6⟩
      go_simp
      with_reducible rfl
     rotate_left
     ·simp only [Act.put,List.setIfInBounds_toArray,List.set_cons_zero,List.set_cons_succ,i64_w,i32_w]
      rfl
     refine one_ (i:=3) (N:=none) #[true,true,true,true] rfl rfl (by kernel_rfl) (by decide) (fun K hK=>?_)
     have hs41:w40.cell? ⟨gb691,0,none⟩=some (.int .i64 0):=(bC_ BK691.out 0).trans rfl
     have hfs41:=bF_ BK691.out 0
     have hns41_1:=NB711_691.out
     have hms41_1:=NB691_711.out
     have hs42:w40.cell? ⟨gb691,1,none⟩=some (.int .i64 0):=(bC_ BK691.out 1).trans rfl
     have hfs42:=bF_ BK691.out 1
     have hns42_1:=NB711_691.out
     have hms42_1:=NB691_711.out
     have hs43:w40.cell? ⟨gb691,2,none⟩=some (.int .i64 0):=(bC_ BK691.out 2).trans rfl
     have hfs43:=bF_ BK691.out 2
     have hns43_1:=NB711_691.out
     have hms43_1:=NB691_711.out
     have hs44:w40.cell? ⟨gb691,3,none⟩=some (.int .i64 0):=(bC_ BK691.out 3).trans rfl
     have hfs44:=bF_ BK691.out 3
     have hns44_1:=NB711_691.out
     have hms44_1:=NB691_711.out
     have hs45:w40.cell? ⟨gb691,4,none⟩=some (.int .i64 0):=(bC_ BK691.out 4).trans rfl
     have hfs45:=bF_ BK691.out 4
     have hns45_1:=NB711_691.out
     have hms45_1:=NB691_711.out
     have hs46:w40.cell? ⟨gb691,5,none⟩=some (.int .i64 0):=(bC_ BK691.out 5).trans rfl
     have hfs46:=bF_ BK691.out 5
     have hns46_1:=NB711_691.out
     have hms46_1:=NB691_711.out
     have hs47:w40.cell? ⟨gb691,6,none⟩=some (.string (⟨#[]⟩:ByteArray)):=(bC_ BK691.out 6).trans rfl
     have hfs47:=bF_ BK691.out 6
     have hns47_1:=NB711_691.out
     have hms47_1:=NB691_711.out
     refine skip_ (w1:=?_) (by rfl) rfl ?_ ?_
     rotate_left
     ·go_simp
      rfl
     refine hK.out _ _ ⟨(cf7_ (g:=gb691) NB711_691.out (hHeld.1)),(cf7_ (g:=gb691) NB711_691.out (hHeld.2.1)),(cf7_ (g:=gb691) NB711_691.out (hHeld.2.2.1)),(cf7_ (g:=gb691) NB711_691.out (hHeld.2.2.2.1)),(cf7_ (g:=gb691) NB711_691.out (hHeld.2.2.2.2.1)),(cf7_ (g:=gb691) NB711_691.out (hHeld.2.2.2.2.2.1)),(cf7_ (g:=gb691) NB711_691.out (hHeld.2.2.2.2.2.2))⟩ (fun hHeld=>?_)
     clear hK K
     refine done_ (by kernel_rfl) ?_
     try go_wp2
     refine bodyPost_ret (results_tc rfl _ _ gb691 44 #[.int .i64 t704,.int .i64 (wrap64 (t714+1)),.int .i64 t706,.int .i64 t707,.int .i64 t708,.int .i64 t709,.string t710] (0,0) _ rfl (k7p_ BK691.out) Tryd.underlying44 rfl (by kernel_rfl)) rfl ?_
     exact ⟨_,fi_,by (with_reducible repeat (first|apply Kd.R_alloc|apply Kd.R_drewN|apply Kd.R_drew));exact Kd.R_mono (rf7_ (g:=gb691) (Kd.R_mono HO_5.out (fun k_ hk=>(⟨hk,hk.1⟩:_∧k_≠gb691))) (fun _ hk=>hk.2) (.int .i64 t704) (.int .i64 (wrap64 (t714+1))) (.int .i64 t706) (.int .i64 t707) (.int .i64 t708) (.int .i64 t709) (.string t710)) (fun _ hk=>trivial),bel_⟩
    ·rw [if_neg c29] at H
     have c29b0:decide (0 < t712)=false:=df_ c29
     clear c29
     simp only [Option.some.injEq,Prod.mk.injEq] at H
     obtain ⟨rfl,rfl,rfl,rfl,rfl,rfl,rfl,rfl⟩:=H
     try go_wp2_with (first|((with_reducible refine gC_ (f:=89) rfl ?_);refine gl_ 28 Tryd.func89 #[.slice A0 l0.length c0] ?_;(with_reducible refine (spec_DrawEntryOk.calls kj3 _ _ l0 t704 t705 t706 t707 t708 t709 t710 _ ?side1 ?side2 A27.out).mono ?_);(case side1=>exact cp_ HR0.out);(case side2=>exact HC0.out);rintro e w48 ⟨rfl,hb⟩;refine ⟨_,rfl,?_⟩;replace HO_5:=a_ (Kd.R_below (rp_ HO_5.out) hb);replace HB:=a_ (bS_ (bel_) hb);replace BK691:=a_ (bb_ BK691.out hb);replace HI694:=a_ (IsS145.below (is_HI694) hb);(try clear hb))|((with_reducible refine gD_ (N:=6) rfl ?_);refine bx_ 6 (#[.int .i64 0,.int .i64 0,.int .i64 0,.int .i64 0,.int .i64 0,.int .i64 0,.string (⟨#[]⟩:ByteArray)]) 44 ?_;intro gb711 hg w49 hbox hb;have n0_:=a_ (Kd.R_below (Kd.R_elderB (rp_ HO_5.out) gb711 (Nat.le_of_eq hg.symm)) hb);have n1_:=a_ (bb_ BK691.out hb);have n2_:=a_ (IsS145.below (is_HI694) hb);have n3_:=a_ (bS_ (bel_) hb);have n4_:=a_ (hbox);have n5_:=a_ ((by rw [hg];exact (below_size (bel_)):w.heap.size≤gb711));have n6_:=a_ ((by rw [hg];exact (below_size (bel_)):w.heap.size≤gb711));have n7_:=a_ ((by rw [hg];exact Nat.ne_of_lt (blk_lt (g:=gb691) (o:=.cells #[.int .i64 0,.int .i64 0,.int .i64 0,.int .i64 0,.int .i64 0,.int .i64 0,.string (⟨#[]⟩:ByteArray)] 44 (0,0)) (bp_ BK691.out)):gb691≠gb711));have n8_:=a_ ((by rw [hg];exact Nat.ne_of_gt (blk_lt (g:=gb691) (o:=.cells #[.int .i64 0,.int .i64 0,.int .i64 0,.int .i64 0,.int .i64 0,.int .i64 0,.string (⟨#[]⟩:ByteArray)] 44 (0,0)) (bp_ BK691.out)):gb711≠gb691));have n9_:=a_ ((by rw [hg];exact Nat.ne_of_lt (IsS145.lt (show IsS145 w _ g694 t692 x695001_3 from is_HI694)):g694≠gb711));have n10_:=a_ ((by rw [hg];exact Nat.ne_of_gt (IsS145.lt (show IsS145 w _ g694 t692 x695001_3 from is_HI694)):gb711≠g694));clear HO_5;clear BK691;clear HI694;clear HB;have HO_5:=n0_;have BK691:=n1_;have HI694:=n2_;have HB:=n3_;have BK711:=n4_;have GW711:=n5_;have GE711:=n6_;have NB691_711:=n7_;have NB711_691:=n8_;have NB694_711:=n9_;have NB711_694:=n10_;clear n0_ n1_ n2_ n3_ n4_ n5_ n6_ n7_ n8_ n9_ n10_;clear hb hbox hg;have hnb50:=NB711_691.out;have hnc50:=NB691_711.out;have hnb51:=NB711_694.out;have hnc51:=NB694_711.out;obtain ⟨Z52_0,Z52_1,Z52_2,Z52_3,Z52_4,Z52_5,Z52_6,Y52_0,Y52_1,Y52_2,Y52_3,Y52_4,Y52_5,Y52_6⟩:=op7_ BK711.out)|((with_reducible refine gC_ (f:=74) rfl ?_);refine gl_ 30 Tryd.func74 #[.pointer (some ⟨g694,0,none⟩),.int .i64 6] ?_;(with_reducible refine (spec_l6Rd_pick.calls kj3 g694 t692 x695001_3 6 t712 t713 w _ ?side1 ?side2 A28.out).mono ?_);(case side1=>exact is_HI694);(case side2=>exact bel_);rintro e w53 ⟨rfl,hi,hb,hk⟩;refine ⟨_,rfl,?_⟩;have n0_:=a_ (Kd.R_mono (Kd.R_keep (IsS145.apart (show IsS145 w _ g694 t692 x695001_3 from is_HI694) (by (with_reducible repeat (first|apply Kd.R_alloc|apply Kd.R_drewN|apply Kd.R_drew));exact (Kd.R_mono (rf7_ (g:=gb711) (Kd.R_mono HO_5.out (fun k_ hk=>(⟨hk,hk.2⟩:_∧k_≠gb711))) (fun _ hk=>hk.2) (.int .i64 t704) (.int .i64 t705) (.int .i64 t706) (.int .i64 t707) (.int .i64 t708) (.int .i64 t709) (.string t710)) (fun _ h_=>h_.1))) (by decide)) hk (fun _ h=>h.2)) (fun _ h=>h.1));have n1_:=a_ (KeepBut.blk hk (g':=gb691) (o:=.cells #[.int .i64 0,.int .i64 0,.int .i64 0,.int .i64 0,.int .i64 0,.int .i64 0,.string (⟨#[]⟩:ByteArray)] 44 (0,0)) (fp1_ NB691_711.out BK691.out) NB691_694.out (by simp));have n2_:=a_ (KeepBut.blk hk (g':=gb711) (o:=.cells #[.int .i64 t704,.int .i64 t705,.int .i64 t706,.int .i64 t707,.int .i64 t708,.int .i64 t709,.string t710] 44 (0,0)) (k7p_ BK711.out) NB711_694.out (by simp));have n3_:=a_ (hb);have n4_:=a_ (hi);clear HO_5;clear BK691;clear BK711;clear HB;clear HI694;have HO_5:=n0_;have BK691:=n1_;have BK711:=n2_;have HB:=n3_;have HI694:=n4_;clear n0_ n1_ n2_ n3_ n4_;(try clear hb hk hi)))
     have n0_:=a_ (Kd.R_drew HO_5.out)
     have n1_:=a_ (bD_ BK691.out)
     have n2_:=a_ (bD_ BK711.out)
     have n3_:=a_ (IsS145.drew HI694.out)
     have n4_:=a_ (below_drew1 HB.out)
     clear HO_5
     clear BK691
     clear BK711
     clear HI694
     clear HB
     have HO_5:=n0_
     have BK691:=n1_
     have BK711:=n2_
     have HI694:=n3_
     have HB:=n4_
     clear n0_ n1_ n2_ n3_ n4_
     refine start_ (n:=4) (S:=fun w'=>w'.cell? ⟨gb711,0,none⟩=some (.int .i64 t704)∧w'.cell? ⟨gb711,1,none⟩=some (.int .i64 t705)∧w'.cell? ⟨gb711,2,none⟩=some (.int .i64 t706)∧w'.cell? ⟨gb711,3,none⟩=some (.int .i64 t707)∧w'.cell? ⟨gb711,4,none⟩=some (.int .i64 t708)∧w'.cell? ⟨gb711,5,none⟩=some (.int .i64 t709)∧w'.cell? ⟨gb711,6,none⟩=some (.string t710)) (ds:=[]) #[false,false,false,false] (by kernel_rfl) rfl rfl ⟨(bC_ BK711.out 0).trans rfl,(bC_ BK711.out 1).trans rfl,(bC_ BK711.out 2).trans rfl,(bC_ BK711.out 3).trans rfl,(bC_ BK711.out 4).trans rfl,(bC_ BK711.out 5).trans rfl,(bC_ BK711.out 6).trans rfl⟩ (fun hHeld=>?_)
     generalize w53.drew=w54 at HO_5 BK691 BK711 HI694 HB hHeld ⊢
     refine pure_ (i:=0) (N:=some 38) (v:=?_) (a':=?_) #[true,false,false,false] rfl rfl (by kernel_rfl) (fun _ _ _ h=>h) (Or.inl ⟨by rfl,?_⟩) ?_ ?_
     rotate_left
     ·intro w'
      go_simp
      with_reducible rfl
     rotate_left
     ·simp only [Act.put,List.setIfInBounds_toArray,List.set_cons_zero,List.set_cons_succ,i64_w,i32_w]
      rfl
     refine pure_ (i:=2) (N:=some 2) (v:=?_) (a':=?_) #[true,false,true,false] rfl rfl (by kernel_rfl) (fun _ _ _ h=>h) (Or.inl ⟨by rfl,?_⟩) ?_ ?_
     rotate_left
     ·intro w'
      go_simp
      with_reducible rfl
     rotate_left
     ·simp only [Act.put,List.setIfInBounds_toArray,List.set_cons_zero,List.set_cons_succ,i64_w,i32_w]
      rfl
     refine take_ (i:=1) (N:=some 39) (v:=?_) (a':=?_) #[true,true,true,false] rfl rfl (by kernel_rfl) (fun _ _ _ h=>h) (Or.inl ⟨by rfl,?_⟩) hHeld ?_ ?_
     rotate_left
     ·rintro w' ⟨s0,s1,s2,s3,s4,s5,s6⟩
      go_simp
      with_reducible rfl
     rotate_left
     ·simp only [Act.put,List.setIfInBounds_toArray,List.set_cons_zero,List.set_cons_succ,i64_w,i32_w]
      rfl
     refine one_ (i:=3) (N:=none) #[true,true,true,true] rfl rfl (by kernel_rfl) (by decide) (fun K hK=>?_)
     have hs55:w54.cell? ⟨gb691,0,none⟩=some (.int .i64 0):=(bC_ BK691.out 0).trans rfl
     have hfs55:=bF_ BK691.out 0
     have hns55_1:=NB711_691.out
     have hms55_1:=NB691_711.out
     have hs56:w54.cell? ⟨gb691,1,none⟩=some (.int .i64 0):=(bC_ BK691.out 1).trans rfl
     have hfs56:=bF_ BK691.out 1
     have hns56_1:=NB711_691.out
     have hms56_1:=NB691_711.out
     have hs57:w54.cell? ⟨gb691,2,none⟩=some (.int .i64 0):=(bC_ BK691.out 2).trans rfl
     have hfs57:=bF_ BK691.out 2
     have hns57_1:=NB711_691.out
     have hms57_1:=NB691_711.out
     have hs58:w54.cell? ⟨gb691,3,none⟩=some (.int .i64 0):=(bC_ BK691.out 3).trans rfl
     have hfs58:=bF_ BK691.out 3
     have hns58_1:=NB711_691.out
     have hms58_1:=NB691_711.out
     have hs59:w54.cell? ⟨gb691,4,none⟩=some (.int .i64 0):=(bC_ BK691.out 4).trans rfl
     have hfs59:=bF_ BK691.out 4
     have hns59_1:=NB711_691.out
     have hms59_1:=NB691_711.out
     have hs60:w54.cell? ⟨gb691,5,none⟩=some (.int .i64 0):=(bC_ BK691.out 5).trans rfl
     have hfs60:=bF_ BK691.out 5
     have hns60_1:=NB711_691.out
     have hms60_1:=NB691_711.out
     have hs61:w54.cell? ⟨gb691,6,none⟩=some (.string (⟨#[]⟩:ByteArray)):=(bC_ BK691.out 6).trans rfl
     have hfs61:=bF_ BK691.out 6
     have hns61_1:=NB711_691.out
     have hms61_1:=NB691_711.out
     refine skip_ (w1:=?_) (by rfl) rfl ?_ ?_
     rotate_left
     ·go_simp
      rfl
     refine hK.out _ _ ⟨(cf7_ (g:=gb691) NB711_691.out (hHeld.1)),(cf7_ (g:=gb691) NB711_691.out (hHeld.2.1)),(cf7_ (g:=gb691) NB711_691.out (hHeld.2.2.1)),(cf7_ (g:=gb691) NB711_691.out (hHeld.2.2.2.1)),(cf7_ (g:=gb691) NB711_691.out (hHeld.2.2.2.2.1)),(cf7_ (g:=gb691) NB711_691.out (hHeld.2.2.2.2.2.1)),(cf7_ (g:=gb691) NB711_691.out (hHeld.2.2.2.2.2.2))⟩ (fun hHeld=>?_)
     clear hK K
     refine done_ (by kernel_rfl) ?_
     try go_wp2
     refine bodyPost_ret (results_tc rfl _ _ gb691 44 #[.int .i64 t704,.int .i64 t705,.int .i64 t706,.int .i64 t707,.int .i64 t708,.int .i64 t709,.string t710] (0,0) _ rfl (k7p_ BK691.out) Tryd.underlying44 rfl (by kernel_rfl)) rfl ?_
     exact ⟨_,fi_,by (with_reducible repeat (first|apply Kd.R_alloc|apply Kd.R_drewN|apply Kd.R_drew));exact Kd.R_mono (rf7_ (g:=gb691) (Kd.R_mono HO_5.out (fun k_ hk=>(⟨hk,hk.1⟩:_∧k_≠gb691))) (fun _ hk=>hk.2) (.int .i64 t704) (.int .i64 t705) (.int .i64 t706) (.int .i64 t707) (.int .i64 t708) (.int .i64 t709) (.string t710)) (fun _ hk=>trivial),bel_⟩

def spec_DrawServerHear.f (k:Nat) (l0:List Int):Option ((List (S44))×Int×Bool×Int×Int×Int×Int×Int×Int×ByteArray):=(spec_l6Open.f l0).bind fun bt717=>((spec_l72Server.f k bt717.1 bt717.2).bind fun bt720=>((spec_DrawLogAdd.f k l0).bind fun bt727=>((spec_l6Rd_pick.f k bt717.1 bt720.2.2.2 3).bind fun bt738=>(if bt738.1 > 0 then ((spec_l6Rd_pick.f k bt717.1 bt738.2 (wrap64 ((bt727.1.length:Int)+1))).bind fun bt740=>(some (bt727.1,bt740.1,bt720.2.2.1,bt727.2.1,bt727.2.2.1,bt727.2.2.2.1,bt727.2.2.2.2.1,bt727.2.2.2.2.2.1,bt727.2.2.2.2.2.2.1,bt727.2.2.2.2.2.2.2))) else (some (bt720.1,bt720.2.1,bt720.2.2.1,bt727.2.1,bt727.2.2.1,bt727.2.2.2.1,bt727.2.2.2.2.1,bt727.2.2.2.2.2.1,bt727.2.2.2.2.2.2.1,bt727.2.2.2.2.2.2.2))))))
theorem spec_DrawServerHear.mono:∀ a0 k,LeO (spec_DrawServerHear.f k a0) (spec_DrawServerHear.f (k+1) a0):=by
 intro a0 k
 unfold spec_DrawServerHear.f
 repeat' first
   | (with_reducible exact spec_DrawLogAdd.mono _ _)
   | (with_reducible exact spec_l6Rd_pick.mono _ _ _ _)
   | (with_reducible exact spec_l72Server.mono _ _ _)
   | (with_reducible exact LeO.refl _)
   | (with_reducible exact LeO.none _)
   | (with_reducible refine LeO.ite ?_ ?_)
   | (with_reducible refine LeO.bind ?_ (fun _=>?_))
theorem spec_DrawServerHear.calls (k:Nat) (A0:Option Addr) (c0:Nat) (l0:List Int) (r1:List (S44)) (r2:Int) (r3:Bool) (r4:Int) (r5:Int) (r6:Int) (r7:Int) (r8:Int) (r9:Int) (r10:ByteArray) (w:World) (hr0:Kd.C (Kd.int .u8) w A0 l0.length l0) (hc0:l0.length≤c0) (h:spec_DrawServerHear.f k l0=some (r1,r2,r3,r4,r5,r6,r7,r8,r9,r10)) :
  Calls Tryd.prog 28 #[.slice A0 l0.length c0] w fun e w'=>∃ v0_:Value,e=.returned (.tuple #[.agg #[v0_,.int .i64 r2,.bool r3],.agg #[.int .i64 r4,.int .i64 r5,.int .i64 r6,.int .i64 r7,.int .i64 r8,.int .i64 r9,.string r10]])∧Kd.R k44 44 w' w.heap.size (fun _=>True) v0_ r1∧Below w.heap.size w w':=by
 have hu25:=Tryd.underlying25
 have hu44:=Tryd.underlying44
 have HR0:=a_ hr0
 have HC0:=a_ hc0
 clear hr0 hc0
 have HB:=a_ (Below.refl w.heap.size w)
 have H:((spec_l6Open.f l0).bind fun bt717=>((spec_l72Server.f k bt717.1 bt717.2).bind fun bt720=>((spec_DrawLogAdd.f k l0).bind fun bt727=>((spec_l6Rd_pick.f k bt717.1 bt720.2.2.2 3).bind fun bt738=>(if bt738.1 > 0 then ((spec_l6Rd_pick.f k bt717.1 bt738.2 (wrap64 ((bt727.1.length:Int)+1))).bind fun bt740=>(some (bt727.1,bt740.1,bt720.2.2.1,bt727.2.1,bt727.2.2.1,bt727.2.2.2.1,bt727.2.2.2.2.1,bt727.2.2.2.2.2.1,bt727.2.2.2.2.2.2.1,bt727.2.2.2.2.2.2.2))) else (some (bt720.1,bt720.2.1,bt720.2.2.1,bt727.2.1,bt727.2.2.1,bt727.2.2.2.1,bt727.2.2.2.2.1,bt727.2.2.2.2.2.1,bt727.2.2.2.2.2.2.1,bt727.2.2.2.2.2.2.2)))))))=some (r1,r2,r3,r4,r5,r6,r7,r8,r9,r10):=h
 clear h
 replace H:=bs_ H
 obtain ⟨⟨t717,t718⟩,A20,H⟩:=H
 replace H:((spec_l72Server.f k t717 t718).bind fun bt720=>((spec_DrawLogAdd.f k l0).bind fun bt727=>((spec_l6Rd_pick.f k t717 bt720.2.2.2 3).bind fun bt738=>(if bt738.1 > 0 then ((spec_l6Rd_pick.f k t717 bt738.2 (wrap64 ((bt727.1.length:Int)+1))).bind fun bt740=>(some (bt727.1,bt740.1,bt720.2.2.1,bt727.2.1,bt727.2.2.1,bt727.2.2.2.1,bt727.2.2.2.2.1,bt727.2.2.2.2.2.1,bt727.2.2.2.2.2.2.1,bt727.2.2.2.2.2.2.2))) else (some (bt720.1,bt720.2.1,bt720.2.2.1,bt727.2.1,bt727.2.2.1,bt727.2.2.2.1,bt727.2.2.2.2.1,bt727.2.2.2.2.2.1,bt727.2.2.2.2.2.2.1,bt727.2.2.2.2.2.2.2))))))=some (r1,r2,r3,r4,r5,r6,r7,r8,r9,r10):=H
 have A2:=a_ A20
 clear A20
 replace H:=bs_ H
 obtain ⟨⟨t720,t723,t724,t725⟩,A30,H⟩:=H
 replace H:((spec_DrawLogAdd.f k l0).bind fun bt727=>((spec_l6Rd_pick.f k t717 t725 3).bind fun bt738=>(if bt738.1 > 0 then ((spec_l6Rd_pick.f k t717 bt738.2 (wrap64 ((bt727.1.length:Int)+1))).bind fun bt740=>(some (bt727.1,bt740.1,t724,bt727.2.1,bt727.2.2.1,bt727.2.2.2.1,bt727.2.2.2.2.1,bt727.2.2.2.2.2.1,bt727.2.2.2.2.2.2.1,bt727.2.2.2.2.2.2.2))) else (some (t720,t723,t724,bt727.2.1,bt727.2.2.1,bt727.2.2.2.1,bt727.2.2.2.2.1,bt727.2.2.2.2.2.1,bt727.2.2.2.2.2.2.1,bt727.2.2.2.2.2.2.2)))))=some (r1,r2,r3,r4,r5,r6,r7,r8,r9,r10):=H
 have A3:=a_ A30
 clear A30
 replace H:=bs_ H
 obtain ⟨⟨t727,t730,t731,t732,t733,t734,t735,t736⟩,A40,H⟩:=H
 replace H:((spec_l6Rd_pick.f k t717 t725 3).bind fun bt738=>(if bt738.1 > 0 then ((spec_l6Rd_pick.f k t717 bt738.2 (wrap64 ((t727.length:Int)+1))).bind fun bt740=>(some (t727,bt740.1,t724,t730,t731,t732,t733,t734,t735,t736))) else (some (t720,t723,t724,t730,t731,t732,t733,t734,t735,t736))))=some (r1,r2,r3,r4,r5,r6,r7,r8,r9,r10):=H
 have A4:=a_ A40
 clear A40
 replace H:=bs_ H
 obtain ⟨⟨t738,t739⟩,A50,H⟩:=H
 replace H:(if t738 > 0 then ((spec_l6Rd_pick.f k t717 t739 (wrap64 ((t727.length:Int)+1))).bind fun bt740=>(some (t727,bt740.1,t724,t730,t731,t732,t733,t734,t735,t736))) else (some (t720,t723,t724,t730,t731,t732,t733,t734,t735,t736)))=some (r1,r2,r3,r4,r5,r6,r7,r8,r9,r10):=H
 have A5:=a_ A50
 clear A50
 by_cases c6:t738 > 0
 ·rw [if_pos c6] at H
  have c6b0:decide (0 < t738)=true:=dt_ c6
  clear c6
  replace H:=bs_ H
  obtain ⟨⟨t740,t741⟩,A70,H⟩:=H
  replace H:(some (t727,t740,t724,t730,t731,t732,t733,t734,t735,t736))=some (r1,r2,r3,r4,r5,r6,r7,r8,r9,r10):=H
  have A7:=a_ A70
  clear A70
  simp only [Option.some.injEq,Prod.mk.injEq] at H
  obtain ⟨rfl,rfl,rfl,rfl,rfl,rfl,rfl,rfl,rfl,rfl⟩:=H
  go_enter Tryd.func28,Tryd.ntmps28
  try go_wp2_with (first|((with_reducible refine gD_ (N:=2) rfl ?_);refine bx_ 2 (#[.slice none 0 0,.int .i64 0,.bool false]) 25 ?_;intro gb715 hg w8 hbox hb;have n0_:=a_ (bS_ (bel_) hb);have n1_:=a_ (hbox);have n2_:=a_ ((by rw [hg];exact (below_size (bel_)):w.heap.size≤gb715));have n3_:=a_ ((by rw [hg];exact (below_size (bel_)):w.heap.size≤gb715));clear HB;have HB:=n0_;have BK715:=n1_;have GW715:=n2_;have GE715:=n3_;clear n0_ n1_ n2_ n3_;clear hb hbox hg)|((with_reducible refine gD_ (N:=3) rfl ?_);refine bx_ 3 (#[.int .i64 0,.int .i64 0,.int .i64 0,.int .i64 0,.int .i64 0,.int .i64 0,.string (⟨#[]⟩:ByteArray)]) 44 ?_;intro gb716 hg w9 hbox hb;have n0_:=a_ (blk_below (g:=gb715) (o:=.cells #[.slice none 0 0,.int .i64 0,.bool false] 25 (0,0)) (bp_ BK715.out) hb);have n1_:=a_ (bS_ (bel_) hb);have n2_:=a_ (hbox);have n3_:=a_ ((by rw [hg];exact (below_size (bel_)):w.heap.size≤gb716));have n4_:=a_ ((by rw [hg];exact (below_size (bel_)):w.heap.size≤gb716));have n5_:=a_ ((by rw [hg];exact Nat.ne_of_lt (blk_lt (g:=gb715) (o:=.cells #[.slice none 0 0,.int .i64 0,.bool false] 25 (0,0)) (bp_ BK715.out)):gb715≠gb716));have n6_:=a_ ((by rw [hg];exact Nat.ne_of_gt (blk_lt (g:=gb715) (o:=.cells #[.slice none 0 0,.int .i64 0,.bool false] 25 (0,0)) (bp_ BK715.out)):gb716≠gb715));clear BK715;clear HB;have BK715:=n0_;have HB:=n1_;have BK716:=n2_;have GW716:=n3_;have GE716:=n4_;have NB715_716:=n5_;have NB716_715:=n6_;clear n0_ n1_ n2_ n3_ n4_ n5_ n6_;clear hb hbox hg)|((with_reducible refine gC_ (f:=72) rfl ?_);refine gl_ 9 Tryd.func72 #[.slice A0 l0.length c0] ?_;(with_reducible refine (spec_l6Open.calls _ _ l0 t717 t718 w _ ?side1 ?side2 ?side3 A2.out).mono ?_);(case side1=>exact bel_);(case side2=>exact HR0.out);(case side3=>exact HC0.out);rintro e w10 ⟨g719,rfl,hi,hb,hb2⟩;refine ⟨_,rfl,?_⟩;replace HB:=a_ (hb);have HI719:=a_ (hi);have NB719_715:=a_ (IsS145.ne_blk hi (blk_below (g:=gb715) (o:=.cells #[.slice none 0 0,.int .i64 0,.bool false] 25 (0,0)) (bp_ BK715.out) hb2) (by decide));have NB715_719:=a_ (Ne.symm (IsS145.ne_blk hi (blk_below (g:=gb715) (o:=.cells #[.slice none 0 0,.int .i64 0,.bool false] 25 (0,0)) (bp_ BK715.out) hb2) (by decide)));replace BK715:=a_ (blk_below (g:=gb715) (o:=.cells #[.slice none 0 0,.int .i64 0,.bool false] 25 (0,0)) (bp_ BK715.out) hb2);have NB719_716:=a_ (IsS145.ne_blk hi (blk_below (g:=gb716) (o:=.cells #[.int .i64 0,.int .i64 0,.int .i64 0,.int .i64 0,.int .i64 0,.int .i64 0,.string (⟨#[]⟩:ByteArray)] 44 (0,0)) (bp_ BK716.out) hb2) (by decide));have NB716_719:=a_ (Ne.symm (IsS145.ne_blk hi (blk_below (g:=gb716) (o:=.cells #[.int .i64 0,.int .i64 0,.int .i64 0,.int .i64 0,.int .i64 0,.int .i64 0,.string (⟨#[]⟩:ByteArray)] 44 (0,0)) (bp_ BK716.out) hb2) (by decide)));replace BK716:=a_ (blk_below (g:=gb716) (o:=.cells #[.int .i64 0,.int .i64 0,.int .i64 0,.int .i64 0,.int .i64 0,.int .i64 0,.string (⟨#[]⟩:ByteArray)] 44 (0,0)) (bp_ BK716.out) hb2);(try clear hb hb2 hi))|((with_reducible refine gC_ (f:=73) rfl ?_);refine gl_ 11 Tryd.func73 #[.pointer (some ⟨g719,0,none⟩)] ?_;(with_reducible refine (spec_l72Server.calls k g719 t717 t718 t720 t723 t724 t725 w _ ?side1 ?side2 A3.out).mono ?_);(case side1=>exact is_HI719);(case side2=>exact bel_);rintro e w11 ⟨v721,rfl,ho0,hi,hb,hk⟩;refine ⟨_,rfl,?_⟩;have HO722:=a_ (Kd.R_lower (Kd.R_newB ho0 (g:=gb716) (o:=.cells #[.int .i64 0,.int .i64 0,.int .i64 0,.int .i64 0,.int .i64 0,.int .i64 0,.string (⟨#[]⟩:ByteArray)] 44 (0,0)) (bp_ BK716.out)) (below_size (bel_)));replace BK715:=a_ (kb_ hk BK715.out NB715_719.out);replace BK716:=a_ (kb_ hk BK716.out NB716_719.out);replace HB:=a_ (hb);replace HI719:=a_ (hi);(try clear hb hk hi ho0))|((with_reducible refine gD_ (N:=5) rfl ?_);refine bx_ 5 (#[.slice none 0 0,.int .i64 0,.bool false]) 25 ?_;intro gb726 hg w12 hbox hb;have n0_:=a_ (Kd.R_below (rp_ HO722.out) hb);have n1_:=a_ (blk_below (g:=gb715) (o:=.cells #[.slice none 0 0,.int .i64 0,.bool false] 25 (0,0)) (bp_ BK715.out) hb);have n2_:=a_ (blk_below (g:=gb716) (o:=.cells #[.int .i64 0,.int .i64 0,.int .i64 0,.int .i64 0,.int .i64 0,.int .i64 0,.string (⟨#[]⟩:ByteArray)] 44 (0,0)) (bp_ BK716.out) hb);have n3_:=a_ (IsS145.below (is_HI719) hb);have n4_:=a_ (bS_ (bel_) hb);have n5_:=a_ (hbox);have n6_:=a_ ((by rw [hg];exact (below_size (bel_)):w.heap.size≤gb726));have n7_:=a_ ((by rw [hg];exact (below_size (bel_)):w.heap.size≤gb726));have n8_:=a_ ((by rw [hg];exact Nat.ne_of_lt (blk_lt (g:=gb715) (o:=.cells #[.slice none 0 0,.int .i64 0,.bool false] 25 (0,0)) (bp_ BK715.out)):gb715≠gb726));have n9_:=a_ ((by rw [hg];exact Nat.ne_of_gt (blk_lt (g:=gb715) (o:=.cells #[.slice none 0 0,.int .i64 0,.bool false] 25 (0,0)) (bp_ BK715.out)):gb726≠gb715));have n10_:=a_ ((by rw [hg];exact Nat.ne_of_lt (blk_lt (g:=gb716) (o:=.cells #[.int .i64 0,.int .i64 0,.int .i64 0,.int .i64 0,.int .i64 0,.int .i64 0,.string (⟨#[]⟩:ByteArray)] 44 (0,0)) (bp_ BK716.out)):gb716≠gb726));have n11_:=a_ ((by rw [hg];exact Nat.ne_of_gt (blk_lt (g:=gb716) (o:=.cells #[.int .i64 0,.int .i64 0,.int .i64 0,.int .i64 0,.int .i64 0,.int .i64 0,.string (⟨#[]⟩:ByteArray)] 44 (0,0)) (bp_ BK716.out)):gb726≠gb716));have n12_:=a_ ((by rw [hg];exact Nat.ne_of_lt (IsS145.lt (show IsS145 w _ g719 t717 t725 from is_HI719)):g719≠gb726));have n13_:=a_ ((by rw [hg];exact Nat.ne_of_gt (IsS145.lt (show IsS145 w _ g719 t717 t725 from is_HI719)):gb726≠g719));clear HO722;clear BK715;clear BK716;clear HI719;clear HB;have HO722:=n0_;have BK715:=n1_;have BK716:=n2_;have HI719:=n3_;have HB:=n4_;have BK726:=n5_;have GW726:=n6_;have GE726:=n7_;have NB715_726:=n8_;have NB726_715:=n9_;have NB716_726:=n10_;have NB726_716:=n11_;have NB719_726:=n12_;have NB726_719:=n13_;clear n0_ n1_ n2_ n3_ n4_ n5_ n6_ n7_ n8_ n9_ n10_ n11_ n12_ n13_;clear hb hbox hg;obtain ⟨Ao13,co13,eo13⟩:=Kd.R_slice HO722.out;subst eo13;have hnb14:=NB726_715.out;have hnc14:=NB715_726.out;have hnb15:=NB726_716.out;have hnc15:=NB716_726.out;have hnb16:=NB726_719.out;have hnc16:=NB719_726.out;have Z17_0:=cz_ BK726.out 0 (.slice none 0 0);have Z17_1:=cz_ BK726.out 1 (.int .i64 0);have Z17_2:=cz_ BK726.out 2 (.bool false);have Y17_0:=bF_ BK726.out 0;have Y17_1:=bF_ BK726.out 1;have Y17_2:=bF_ BK726.out 2)|((with_reducible refine gC_ (f:=36) rfl ?_);refine gl_ 14 Tryd.func36 #[.slice A0 l0.length c0] ?_;(with_reducible refine (spec_DrawLogAdd.calls k _ _ l0 t727 t730 t731 t732 t733 t734 t735 t736 _ ?side1 ?side2 A4.out).mono ?_);(case side1=>exact Kd.C_below HR0.out (bel_));(case side2=>exact HC0.out);rintro e w18 ⟨v728,rfl,ho0,hb⟩;refine ⟨_,rfl,?_⟩;have n0_:=a_ (Kd.R_elder' (by (with_reducible repeat (first|apply Kd.R_alloc|apply Kd.R_drewN|apply Kd.R_drew));exact (Kd.R_mono (rf3_ (g:=gb726) (Kd.R_types HO722.out BK726.out (by decide)) (fun _ hk=>hk.2) (.slice Ao13 t720.length co13) (.int .i64 t723) (.bool t724)) (fun _ h_=>h_.1))) (Kd.R_base ho0) hb);have n1_:=a_ (Kd.R_lower (Kd.R_newB (Kd.R_new' ho0 (Kd.R_lt (by (with_reducible repeat (first|apply Kd.R_alloc|apply Kd.R_drewN|apply Kd.R_drew));exact (Kd.R_mono (rf3_ (g:=gb726) (Kd.R_types HO722.out BK726.out (by decide)) (fun _ hk=>hk.2) (.slice Ao13 t720.length co13) (.int .i64 t723) (.bool t724)) (fun _ h_=>h_.1))))) (g:=gb716) (o:=.cells #[.int .i64 0,.int .i64 0,.int .i64 0,.int .i64 0,.int .i64 0,.int .i64 0,.string (⟨#[]⟩:ByteArray)] 44 (0,0)) (fp1_ NB716_726.out BK716.out)) (below_size (bel_)));have n2_:=a_ (blk_below (g:=gb715) (o:=.cells #[.slice none 0 0,.int .i64 0,.bool false] 25 (0,0)) (fp1_ NB715_726.out BK715.out) hb);have n3_:=a_ (blk_below (g:=gb716) (o:=.cells #[.int .i64 0,.int .i64 0,.int .i64 0,.int .i64 0,.int .i64 0,.int .i64 0,.string (⟨#[]⟩:ByteArray)] 44 (0,0)) (fp1_ NB716_726.out BK716.out) hb);have n4_:=a_ (IsS145.below (show IsS145 w (((w12.setCell ⟨gb726,0,none⟩ (.slice Ao13 t720.length co13)).setCell ⟨gb726,1,none⟩ (.int .i64 t723)).setCell ⟨gb726,2,none⟩ (.bool t724)) g719 t717 t725 from is_HI719) hb);have n5_:=a_ (blk_below (g:=gb726) (o:=.cells #[.slice Ao13 t720.length co13,.int .i64 t723,.bool t724] 25 (0,0)) (k3p_ BK726.out) hb);have n6_:=a_ (bS_ (bel_) hb);clear HO722;clear BK715;clear BK716;clear HI719;clear BK726;clear HB;have HO722:=n0_;have HO729:=n1_;have BK715:=n2_;have BK716:=n3_;have HI719:=n4_;have BK726:=n5_;have HB:=n6_;clear n0_ n1_ n2_ n3_ n4_ n5_ n6_;(try clear hb ho0))|((with_reducible refine gD_ (N:=7) rfl ?_);refine bx_ 7 (#[.int .i64 0,.int .i64 0,.int .i64 0,.int .i64 0,.int .i64 0,.int .i64 0,.string (⟨#[]⟩:ByteArray)]) 44 ?_;intro gb737 hg w19 hbox hb;have n0_:=a_ (Kd.R_below (Kd.R_elderB (rp_ HO722.out) gb737 (Nat.le_of_eq hg.symm)) hb);have n1_:=a_ (Kd.R_below (Kd.R_elderB (rp_ HO729.out) gb737 (Nat.le_of_eq hg.symm)) hb);have n2_:=a_ (blk_below (g:=gb715) (o:=.cells #[.slice none 0 0,.int .i64 0,.bool false] 25 (0,0)) (bp_ BK715.out) hb);have n3_:=a_ (blk_below (g:=gb716) (o:=.cells #[.int .i64 0,.int .i64 0,.int .i64 0,.int .i64 0,.int .i64 0,.int .i64 0,.string (⟨#[]⟩:ByteArray)] 44 (0,0)) (bp_ BK716.out) hb);have n4_:=a_ (IsS145.below (is_HI719) hb);have n5_:=a_ (blk_below (g:=gb726) (o:=.cells #[.slice Ao13 t720.length co13,.int .i64 t723,.bool t724] 25 (0,0)) (bp_ BK726.out) hb);have n6_:=a_ (bS_ (bel_) hb);have n7_:=a_ (hbox);have n8_:=a_ ((by rw [hg];exact (below_size (bel_)):w.heap.size≤gb737));have n9_:=a_ ((by rw [hg];exact (below_size (bel_)):w.heap.size≤gb737));have n10_:=a_ ((by rw [hg];exact Nat.ne_of_lt (blk_lt (g:=gb715) (o:=.cells #[.slice none 0 0,.int .i64 0,.bool false] 25 (0,0)) (bp_ BK715.out)):gb715≠gb737));have n11_:=a_ ((by rw [hg];exact Nat.ne_of_gt (blk_lt (g:=gb715) (o:=.cells #[.slice none 0 0,.int .i64 0,.bool false] 25 (0,0)) (bp_ BK715.out)):gb737≠gb715));have n12_:=a_ ((by rw [hg];exact Nat.ne_of_lt (blk_lt (g:=gb716) (o:=.cells #[.int .i64 0,.int .i64 0,.int .i64 0,.int .i64 0,.int .i64 0,.int .i64 0,.string (⟨#[]⟩:ByteArray)] 44 (0,0)) (bp_ BK716.out)):gb716≠gb737));have n13_:=a_ ((by rw [hg];exact Nat.ne_of_gt (blk_lt (g:=gb716) (o:=.cells #[.int .i64 0,.int .i64 0,.int .i64 0,.int .i64 0,.int .i64 0,.int .i64 0,.string (⟨#[]⟩:ByteArray)] 44 (0,0)) (bp_ BK716.out)):gb737≠gb716));have n14_:=a_ ((by rw [hg];exact Nat.ne_of_lt (blk_lt (g:=gb726) (o:=.cells #[.slice Ao13 t720.length co13,.int .i64 t723,.bool t724] 25 (0,0)) (bp_ BK726.out)):gb726≠gb737));have n15_:=a_ ((by rw [hg];exact Nat.ne_of_gt (blk_lt (g:=gb726) (o:=.cells #[.slice Ao13 t720.length co13,.int .i64 t723,.bool t724] 25 (0,0)) (bp_ BK726.out)):gb737≠gb726));have n16_:=a_ ((by rw [hg];exact Nat.ne_of_lt (IsS145.lt (show IsS145 w _ g719 t717 t725 from is_HI719)):g719≠gb737));have n17_:=a_ ((by rw [hg];exact Nat.ne_of_gt (IsS145.lt (show IsS145 w _ g719 t717 t725 from is_HI719)):gb737≠g719));clear HO722;clear HO729;clear BK715;clear BK716;clear HI719;clear BK726;clear HB;have HO722:=n0_;have HO729:=n1_;have BK715:=n2_;have BK716:=n3_;have HI719:=n4_;have BK726:=n5_;have HB:=n6_;have BK737:=n7_;have GW737:=n8_;have GE737:=n9_;have NB715_737:=n10_;have NB737_715:=n11_;have NB716_737:=n12_;have NB737_716:=n13_;have NB726_737:=n14_;have NB737_726:=n15_;have NB719_737:=n16_;have NB737_719:=n17_;clear n0_ n1_ n2_ n3_ n4_ n5_ n6_ n7_ n8_ n9_ n10_ n11_ n12_ n13_ n14_ n15_ n16_ n17_;clear hb hbox hg;have hnb20:=NB737_715.out;have hnc20:=NB715_737.out;have hnb21:=NB737_716.out;have hnc21:=NB716_737.out;have hnb22:=NB737_726.out;have hnc22:=NB726_737.out;have hnb23:=NB737_719.out;have hnc23:=NB719_737.out;have Z24_0:=cz_ BK737.out 0 (.int .i64 0);have Z24_1:=cz_ BK737.out 1 (.int .i64 0);have Z24_2:=cz_ BK737.out 2 (.int .i64 0);have Z24_3:=cz_ BK737.out 3 (.int .i64 0);have Z24_4:=cz_ BK737.out 4 (.int .i64 0);have Z24_5:=cz_ BK737.out 5 (.int .i64 0);have Z24_6:=cz_ BK737.out 6 (.string (⟨#[]⟩:ByteArray));have Y24_0:=bF_ BK737.out 0;have Y24_1:=bF_ BK737.out 1;have Y24_2:=bF_ BK737.out 2;have Y24_3:=bF_ BK737.out 3;have Y24_4:=bF_ BK737.out 4;have Y24_5:=bF_ BK737.out 5;have Y24_6:=bF_ BK737.out 6)|((with_reducible refine gC_ (f:=74) rfl ?_);refine gl_ 18 Tryd.func74 #[.pointer (some ⟨g719,0,none⟩),.int .i64 3] ?_;(with_reducible refine (spec_l6Rd_pick.calls k g719 t717 t725 3 t738 t739 w _ ?side1 ?side2 A5.out).mono ?_);(case side1=>exact is_HI719);(case side2=>exact bel_);rintro e w25 ⟨rfl,hi,hb,hk⟩;refine ⟨_,rfl,?_⟩;have n0_:=a_ (KeepBut.blk hk (g':=gb715) (o:=.cells #[.slice none 0 0,.int .i64 0,.bool false] 25 (0,0)) (fp1_ NB715_737.out BK715.out) NB715_719.out (by simp));have n1_:=a_ (KeepBut.blk hk (g':=gb716) (o:=.cells #[.int .i64 0,.int .i64 0,.int .i64 0,.int .i64 0,.int .i64 0,.int .i64 0,.string (⟨#[]⟩:ByteArray)] 44 (0,0)) (fp1_ NB716_737.out BK716.out) NB716_719.out (by simp));have n2_:=a_ (Kd.R_mono (Kd.R_keep (IsS145.apart (show IsS145 w _ g719 t717 t725 from is_HI719) (by (with_reducible repeat (first|apply Kd.R_alloc|apply Kd.R_drewN|apply Kd.R_drew));exact (Kd.R_mono (rf7_ (g:=gb737) (Kd.R_mono HO722.out (fun k_ hk=>(⟨hk,hk.2⟩:_∧k_≠gb737))) (fun _ hk=>hk.2) (.int .i64 t730) (.int .i64 t731) (.int .i64 t732) (.int .i64 t733) (.int .i64 t734) (.int .i64 t735) (.string t736)) (fun _ h_=>h_.1))) (by decide)) hk (fun _ h=>h.2)) (fun _ h=>h.1));have n3_:=a_ (KeepBut.blk hk (g':=gb726) (o:=.cells #[.slice Ao13 t720.length co13,.int .i64 t723,.bool t724] 25 (0,0)) (fp1_ NB726_737.out BK726.out) NB726_719.out (by simp));have n4_:=a_ (Kd.R_mono (Kd.R_keep (IsS145.apart (show IsS145 w _ g719 t717 t725 from is_HI719) (by (with_reducible repeat (first|apply Kd.R_alloc|apply Kd.R_drewN|apply Kd.R_drew));exact (Kd.R_mono (rf7_ (g:=gb737) (Kd.R_mono HO729.out (fun k_ hk=>(⟨hk,hk.2⟩:_∧k_≠gb737))) (fun _ hk=>hk.2) (.int .i64 t730) (.int .i64 t731) (.int .i64 t732) (.int .i64 t733) (.int .i64 t734) (.int .i64 t735) (.string t736)) (fun _ h_=>h_.1))) (by decide)) hk (fun _ h=>h.2)) (fun _ h=>h.1));have n5_:=a_ (KeepBut.blk hk (g':=gb737) (o:=.cells #[.int .i64 t730,.int .i64 t731,.int .i64 t732,.int .i64 t733,.int .i64 t734,.int .i64 t735,.string t736] 44 (0,0)) (k7p_ BK737.out) NB737_719.out (by simp));have n6_:=a_ (hb);have n7_:=a_ (hi);clear BK715;clear BK716;clear HO722;clear BK726;clear HO729;clear BK737;clear HB;clear HI719;have BK715:=n0_;have BK716:=n1_;have HO722:=n2_;have BK726:=n3_;have HO729:=n4_;have BK737:=n5_;have HB:=n6_;have HI719:=n7_;clear n0_ n1_ n2_ n3_ n4_ n5_ n6_ n7_;(try clear hb hk hi);obtain ⟨Ao26,co26,eo26⟩:=Kd.R_slice HO729.out;subst eo26;have Z27_0:=cz_ BK726.out 0 (.slice Ao13 t720.length co13);have Z27_1:=cz_ BK726.out 1 (.int .i64 t723);have Z27_2:=cz_ BK726.out 2 (.bool t724);have Y27_0:=bF_ BK726.out 0;have Y27_1:=bF_ BK726.out 1;have Y27_2:=bF_ BK726.out 2)|((with_reducible refine gC_ (f:=74) rfl ?_);refine gl_ 26 Tryd.func74 #[.pointer (some ⟨g719,0,none⟩),.int .i64 (wrap64 ((t727.length:Int)+1))] ?_;(with_reducible refine (spec_l6Rd_pick.calls k g719 t717 t739 (wrap64 ((t727.length:Int)+1)) t740 t741 w _ ?side1 ?side2 A7.out).mono ?_);(case side1=>exact is_HI719);(case side2=>exact bel_);rintro e w28 ⟨rfl,hi,hb,hk⟩;refine ⟨_,rfl,?_⟩;have n0_:=a_ (KeepBut.blk hk (g':=gb715) (o:=.cells #[.slice none 0 0,.int .i64 0,.bool false] 25 (0,0)) (fp1_ NB715_726.out BK715.out) NB715_719.out (by simp));have n1_:=a_ (KeepBut.blk hk (g':=gb716) (o:=.cells #[.int .i64 0,.int .i64 0,.int .i64 0,.int .i64 0,.int .i64 0,.int .i64 0,.string (⟨#[]⟩:ByteArray)] 44 (0,0)) (fp1_ NB716_726.out BK716.out) NB716_719.out (by simp));have n2_:=a_ (Kd.R_mono (Kd.R_keep (IsS145.apart (show IsS145 w _ g719 t717 t739 from is_HI719) (by (with_reducible repeat (first|apply Kd.R_alloc|apply Kd.R_drewN|apply Kd.R_drew));exact (Kd.R_mono (Kd.R_far (p:=⟨gb726,0,none⟩) (Kd.R_types HO722.out BK726.out (by decide)) (fun _ hk=>hk.2) (.slice Ao26 t727.length co26)) (fun _ h_=>h_.1))) (by decide)) hk (fun _ h=>h.2)) (fun _ h=>h.1));have n3_:=a_ (KeepBut.blk hk (g':=gb726) (o:=.cells #[.slice Ao26 t727.length co26,.int .i64 t723,.bool t724] 25 (0,0)) (by (with_reducible repeat (first|refine bN_ ?_ _|refine bD_ ?_|refine bA_ ?_ _));refine blk_put (cs:=#[.slice Ao13 t720.length co13,.int .i64 t723,.bool t724]) ?_ 0 _ rfl;(with_reducible repeat (first|refine bN_ ?_ _|refine bD_ ?_|refine bA_ ?_ _));exact BK726.out) NB726_719.out (by simp));have n4_:=a_ (Kd.R_mono (Kd.R_keep (IsS145.apart (show IsS145 w _ g719 t717 t739 from is_HI719) (by (with_reducible repeat (first|apply Kd.R_alloc|apply Kd.R_drewN|apply Kd.R_drew));exact (Kd.R_mono (Kd.R_far (p:=⟨gb726,0,none⟩) (Kd.R_types HO729.out BK726.out (by decide)) (fun _ hk=>hk.2) (.slice Ao26 t727.length co26)) (fun _ h_=>h_.1))) (by decide)) hk (fun _ h=>h.2)) (fun _ h=>h.1));have n5_:=a_ (KeepBut.blk hk (g':=gb737) (o:=.cells #[.int .i64 t730,.int .i64 t731,.int .i64 t732,.int .i64 t733,.int .i64 t734,.int .i64 t735,.string t736] 44 (0,0)) (fp1_ NB737_726.out BK737.out) NB737_719.out (by simp));have n6_:=a_ (hb);have n7_:=a_ (hi);clear BK715;clear BK716;clear HO722;clear BK726;clear HO729;clear BK737;clear HB;clear HI719;have BK715:=n0_;have BK716:=n1_;have HO722:=n2_;have BK726:=n3_;have HO729:=n4_;have BK737:=n5_;have HB:=n6_;have HI719:=n7_;clear n0_ n1_ n2_ n3_ n4_ n5_ n6_ n7_;(try clear hb hk hi);have Z29_0:=cz_ BK726.out 0 (.slice Ao26 t727.length co26);have Z29_1:=cz_ BK726.out 1 (.int .i64 t723);have Z29_2:=cz_ BK726.out 2 (.bool t724);have Y29_0:=bF_ BK726.out 0;have Y29_1:=bF_ BK726.out 1;have Y29_2:=bF_ BK726.out 2))
  have n0_:Aside0 (Kd.R k44 44 (w28.setCell ⟨gb726,1,none⟩ (.int .i64 t740)) w.heap.size (fun k_=>some k_≠(.slice Ao26 t727.length co26:Value).ownBlock∧k_≠gb716∧k_≠gb737) (.slice Ao13 t720.length co13) t720):=⟨by (with_reducible repeat (first|apply Kd.R_alloc|apply Kd.R_drewN|apply Kd.R_drew));exact Kd.R_mono (Kd.R_far (p:=⟨gb726,1,none⟩) (Kd.R_types HO722.out BK726.out (by decide)) (fun _ hk=>hk.2) (.int .i64 t740)) (fun _ hk=>⟨hk.1.1.2,⟨hk.1.1.1.2,hk.1.2⟩⟩)⟩
  have n1_:Aside0 (Kd.R k44 44 (w28.setCell ⟨gb726,1,none⟩ (.int .i64 t740)) w.heap.size (fun k_=>some k_≠(.slice Ao13 t720.length co13:Value).ownBlock∧k_≠gb716∧k_≠gb737) (.slice Ao26 t727.length co26) t727):=⟨by (with_reducible repeat (first|apply Kd.R_alloc|apply Kd.R_drewN|apply Kd.R_drew));exact Kd.R_mono (Kd.R_far (p:=⟨gb726,1,none⟩) (Kd.R_types HO729.out BK726.out (by decide)) (fun _ hk=>hk.2) (.int .i64 t740)) (fun _ hk=>⟨hk.1.1.1.2,⟨hk.1.1.2,hk.1.2⟩⟩)⟩
  have n2_:Aside0 ((w28.setCell ⟨gb726,1,none⟩ (.int .i64 t740)).heap[gb715]?=some (.cells #[.slice none 0 0,.int .i64 0,.bool false] 25 (0,0))):=⟨fp1_ NB715_726.out BK715.out⟩
  have n3_:Aside0 ((w28.setCell ⟨gb726,1,none⟩ (.int .i64 t740)).heap[gb716]?=some (.cells #[.int .i64 0,.int .i64 0,.int .i64 0,.int .i64 0,.int .i64 0,.int .i64 0,.string (⟨#[]⟩:ByteArray)] 44 (0,0))):=⟨fp1_ NB716_726.out BK716.out⟩
  have n4_:Aside0 ((w28.setCell ⟨gb726,1,none⟩ (.int .i64 t740)).heap[gb726]?=some (.cells #[.slice Ao26 t727.length co26,.int .i64 t740,.bool t724] 25 (0,0))):=⟨by (with_reducible repeat (first|refine bN_ ?_ _|refine bD_ ?_|refine bA_ ?_ _));refine blk_put (cs:=#[.slice Ao26 t727.length co26,.int .i64 t723,.bool t724]) ?_ 1 _ rfl;(with_reducible repeat (first|refine bN_ ?_ _|refine bD_ ?_|refine bA_ ?_ _));exact BK726.out⟩
  have n5_:Aside0 ((w28.setCell ⟨gb726,1,none⟩ (.int .i64 t740)).heap[gb737]?=some (.cells #[.int .i64 t730,.int .i64 t731,.int .i64 t732,.int .i64 t733,.int .i64 t734,.int .i64 t735,.string t736] 44 (0,0))):=⟨fp1_ NB737_726.out BK737.out⟩
  have n6_:Aside0 (IsS145 w (w28.setCell ⟨gb726,1,none⟩ (.int .i64 t740)) g719 t717 t741):=⟨is_HI719⟩
  have n7_:Aside0 (Below w.heap.size w (w28.setCell ⟨gb726,1,none⟩ (.int .i64 t740))):=⟨bel_⟩
  (try clear HO722)
  (try clear HO729)
  (try clear BK715)
  (try clear BK716)
  (try clear BK726)
  (try clear BK737)
  (try clear HI719)
  (try clear HB)
  generalize (w28.setCell ⟨gb726,1,none⟩ (.int .i64 t740))=w30 at n0_ n1_ n2_ n3_ n4_ n5_ n6_ n7_ ⊢
  have HO722:=n0_
  have HO729:=n1_
  have BK715:=n2_
  have BK716:=n3_
  have BK726:=n4_
  have BK737:=n5_
  have HI719:=n6_
  have HB:=n7_
  clear n0_ n1_ n2_ n3_ n4_ n5_ n6_ n7_
  have n0_:=a_ (Kd.R_drew HO722.out)
  have n1_:=a_ (Kd.R_drew HO729.out)
  have n2_:=a_ (bD_ BK715.out)
  have n3_:=a_ (bD_ BK716.out)
  have n4_:=a_ (bD_ BK726.out)
  have n5_:=a_ (bD_ BK737.out)
  have n6_:=a_ (IsS145.drew HI719.out)
  have n7_:=a_ (below_drew1 HB.out)
  clear HO722
  clear HO729
  clear BK715
  clear BK716
  clear BK726
  clear BK737
  clear HI719
  clear HB
  have HO722:=n0_
  have HO729:=n1_
  have BK715:=n2_
  have BK716:=n3_
  have BK726:=n4_
  have BK737:=n5_
  have HI719:=n6_
  have HB:=n7_
  clear n0_ n1_ n2_ n3_ n4_ n5_ n6_ n7_
  refine start_ (n:=4) (S:=fun w'=>w'.cell? ⟨gb726,0,none⟩=some (.slice Ao26 t727.length co26)∧w'.cell? ⟨gb726,1,none⟩=some (.int .i64 t740)∧w'.cell? ⟨gb726,2,none⟩=some (.bool t724)∧w'.cell? ⟨gb737,0,none⟩=some (.int .i64 t730)∧w'.cell? ⟨gb737,1,none⟩=some (.int .i64 t731)∧w'.cell? ⟨gb737,2,none⟩=some (.int .i64 t732)∧w'.cell? ⟨gb737,3,none⟩=some (.int .i64 t733)∧w'.cell? ⟨gb737,4,none⟩=some (.int .i64 t734)∧w'.cell? ⟨gb737,5,none⟩=some (.int .i64 t735)∧w'.cell? ⟨gb737,6,none⟩=some (.string t736)) (ds:=[]) #[false,false,false,false] (by kernel_rfl) rfl rfl ⟨(bC_ BK726.out 0).trans rfl,(bC_ BK726.out 1).trans rfl,(bC_ BK726.out 2).trans rfl,(bC_ BK737.out 0).trans rfl,(bC_ BK737.out 1).trans rfl,(bC_ BK737.out 2).trans rfl,(bC_ BK737.out 3).trans rfl,(bC_ BK737.out 4).trans rfl,(bC_ BK737.out 5).trans rfl,(bC_ BK737.out 6).trans rfl⟩ (fun hHeld=>?_)
  generalize w30.drew=w31 at HO722 HO729 BK715 BK716 BK726 BK737 HI719 HB hHeld ⊢
  refine take_ (i:=0) (N:=some 28) (v:=?_) (a':=?_) #[true,false,false,false] rfl rfl (by kernel_rfl) (fun _ _ _ h=>h) (Or.inl ⟨by rfl,?_⟩) hHeld ?_ ?_
  rotate_left
  ·rintro w' ⟨s0,s1,s2,s3,s4,s5,s6,s7,s8,s9⟩
   go_simp
   with_reducible rfl
  rotate_left
  ·simp only [Act.put,List.setIfInBounds_toArray,List.set_cons_zero,List.set_cons_succ,i64_w,i32_w]
   rfl
  refine take_ (i:=1) (N:=some 29) (v:=?_) (a':=?_) #[true,true,false,false] rfl rfl (by kernel_rfl) (fun _ _ _ h=>h) (Or.inl ⟨by rfl,?_⟩) hHeld ?_ ?_
  rotate_left
  ·rintro w' ⟨s0,s1,s2,s3,s4,s5,s6,s7,s8,s9⟩
   go_simp
   with_reducible rfl
  rotate_left
  ·simp only [Act.put,List.setIfInBounds_toArray,List.set_cons_zero,List.set_cons_succ,i64_w,i32_w]
   rfl
  refine one_ (i:=2) (N:=none) #[true,true,true,false] rfl rfl (by kernel_rfl) (by decide) (fun K hK=>?_)
  have hs32:w31.cell? ⟨gb715,0,none⟩=some (.slice none 0 0):=(bC_ BK715.out 0).trans rfl
  have hfs32:=bF_ BK715.out 0
  have hns32_1:=NB716_715.out
  have hns32_2:=NB726_715.out
  have hns32_3:=NB737_715.out
  have hms32_1:=NB715_716.out
  have hms32_2:=NB715_726.out
  have hms32_3:=NB715_737.out
  have hs33:w31.cell? ⟨gb715,1,none⟩=some (.int .i64 0):=(bC_ BK715.out 1).trans rfl
  have hfs33:=bF_ BK715.out 1
  have hns33_1:=NB716_715.out
  have hns33_2:=NB726_715.out
  have hns33_3:=NB737_715.out
  have hms33_1:=NB715_716.out
  have hms33_2:=NB715_726.out
  have hms33_3:=NB715_737.out
  have hs34:w31.cell? ⟨gb715,2,none⟩=some (.bool false):=(bC_ BK715.out 2).trans rfl
  have hfs34:=bF_ BK715.out 2
  have hns34_1:=NB716_715.out
  have hns34_2:=NB726_715.out
  have hns34_3:=NB737_715.out
  have hms34_1:=NB715_716.out
  have hms34_2:=NB715_726.out
  have hms34_3:=NB715_737.out
  refine skip_ (w1:=?_) (by rfl) rfl ?_ ?_
  rotate_left
  ·go_simp
   rfl
  refine hK.out _ _ ⟨(cf3_ (g:=gb715) NB726_715.out (hHeld.1)),(cf3_ (g:=gb715) NB726_715.out (hHeld.2.1)),(cf3_ (g:=gb715) NB726_715.out (hHeld.2.2.1)),(cf3_ (g:=gb715) NB737_715.out (hHeld.2.2.2.1)),(cf3_ (g:=gb715) NB737_715.out (hHeld.2.2.2.2.1)),(cf3_ (g:=gb715) NB737_715.out (hHeld.2.2.2.2.2.1)),(cf3_ (g:=gb715) NB737_715.out (hHeld.2.2.2.2.2.2.1)),(cf3_ (g:=gb715) NB737_715.out (hHeld.2.2.2.2.2.2.2.1)),(cf3_ (g:=gb715) NB737_715.out (hHeld.2.2.2.2.2.2.2.2.1)),(cf3_ (g:=gb715) NB737_715.out (hHeld.2.2.2.2.2.2.2.2.2))⟩ (fun hHeld=>?_)
  clear hK K
  refine one_ (i:=3) (N:=none) #[true,true,true,true] rfl rfl (by kernel_rfl) (by decide) (fun K hK=>?_)
  have hs35:w31.cell? ⟨gb716,0,none⟩=some (.int .i64 0):=(bC_ BK716.out 0).trans rfl
  have hfs35:=bF_ BK716.out 0
  have hns35_0:=NB715_716.out
  have hns35_2:=NB726_716.out
  have hns35_3:=NB737_716.out
  have hms35_0:=NB716_715.out
  have hms35_2:=NB716_726.out
  have hms35_3:=NB716_737.out
  have hs36:w31.cell? ⟨gb716,1,none⟩=some (.int .i64 0):=(bC_ BK716.out 1).trans rfl
  have hfs36:=bF_ BK716.out 1
  have hns36_0:=NB715_716.out
  have hns36_2:=NB726_716.out
  have hns36_3:=NB737_716.out
  have hms36_0:=NB716_715.out
  have hms36_2:=NB716_726.out
  have hms36_3:=NB716_737.out
  have hs37:w31.cell? ⟨gb716,2,none⟩=some (.int .i64 0):=(bC_ BK716.out 2).trans rfl
  have hfs37:=bF_ BK716.out 2
  have hns37_0:=NB715_716.out
  have hns37_2:=NB726_716.out
  have hns37_3:=NB737_716.out
  have hms37_0:=NB716_715.out
  have hms37_2:=NB716_726.out
  have hms37_3:=NB716_737.out
  have hs38:w31.cell? ⟨gb716,3,none⟩=some (.int .i64 0):=(bC_ BK716.out 3).trans rfl
  have hfs38:=bF_ BK716.out 3
  have hns38_0:=NB715_716.out
  have hns38_2:=NB726_716.out
  have hns38_3:=NB737_716.out
  have hms38_0:=NB716_715.out
  have hms38_2:=NB716_726.out
  have hms38_3:=NB716_737.out
  have hs39:w31.cell? ⟨gb716,4,none⟩=some (.int .i64 0):=(bC_ BK716.out 4).trans rfl
  have hfs39:=bF_ BK716.out 4
  have hns39_0:=NB715_716.out
  have hns39_2:=NB726_716.out
  have hns39_3:=NB737_716.out
  have hms39_0:=NB716_715.out
  have hms39_2:=NB716_726.out
  have hms39_3:=NB716_737.out
  have hs40:w31.cell? ⟨gb716,5,none⟩=some (.int .i64 0):=(bC_ BK716.out 5).trans rfl
  have hfs40:=bF_ BK716.out 5
  have hns40_0:=NB715_716.out
  have hns40_2:=NB726_716.out
  have hns40_3:=NB737_716.out
  have hms40_0:=NB716_715.out
  have hms40_2:=NB716_726.out
  have hms40_3:=NB716_737.out
  have hs41:w31.cell? ⟨gb716,6,none⟩=some (.string (⟨#[]⟩:ByteArray)):=(bC_ BK716.out 6).trans rfl
  have hfs41:=bF_ BK716.out 6
  have hns41_0:=NB715_716.out
  have hns41_2:=NB726_716.out
  have hns41_3:=NB737_716.out
  have hms41_0:=NB716_715.out
  have hms41_2:=NB716_726.out
  have hms41_3:=NB716_737.out
  refine skip_ (w1:=?_) (by rfl) rfl ?_ ?_
  rotate_left
  ·go_simp
   rfl
  refine hK.out _ _ ⟨(cf7_ (g:=gb716) NB726_716.out (hHeld.1)),(cf7_ (g:=gb716) NB726_716.out (hHeld.2.1)),(cf7_ (g:=gb716) NB726_716.out (hHeld.2.2.1)),(cf7_ (g:=gb716) NB737_716.out (hHeld.2.2.2.1)),(cf7_ (g:=gb716) NB737_716.out (hHeld.2.2.2.2.1)),(cf7_ (g:=gb716) NB737_716.out (hHeld.2.2.2.2.2.1)),(cf7_ (g:=gb716) NB737_716.out (hHeld.2.2.2.2.2.2.1)),(cf7_ (g:=gb716) NB737_716.out (hHeld.2.2.2.2.2.2.2.1)),(cf7_ (g:=gb716) NB737_716.out (hHeld.2.2.2.2.2.2.2.2.1)),(cf7_ (g:=gb716) NB737_716.out (hHeld.2.2.2.2.2.2.2.2.2))⟩ (fun hHeld=>?_)
  clear hK K
  refine done_ (by kernel_rfl) ?_
  try go_wp2
  refine bodyPost_ret (results_cc rfl _ _ gb715 gb716 25 44 #[.slice Ao26 t727.length co26,.int .i64 t740,.bool t724] #[.int .i64 t730,.int .i64 t731,.int .i64 t732,.int .i64 t733,.int .i64 t734,.int .i64 t735,.string t736] (0,0) (0,0) _ _ rfl (k3p1_ NB715_716.out BK715.out) Tryd.underlying25 rfl (by kernel_rfl) rfl (k7p1_ NB716_715.out BK716.out) Tryd.underlying44 rfl (by kernel_rfl)) rfl ?_
  exact ⟨_,fi_,by (with_reducible repeat (first|apply Kd.R_alloc|apply Kd.R_drewN|apply Kd.R_drew));exact Kd.R_mono (rf7_ (g:=gb716) (rf3_ (g:=gb715) (Kd.R_mono (Kd.R_types HO729.out BK715.out (by decide)) (fun k_ hk=>(⟨hk,hk.1.2.1⟩:_∧k_≠gb716))) (fun _ hk=>hk.1.2) (.slice Ao26 t727.length co26) (.int .i64 t740) (.bool t724)) (fun _ hk=>hk.2) (.int .i64 t730) (.int .i64 t731) (.int .i64 t732) (.int .i64 t733) (.int .i64 t734) (.int .i64 t735) (.string t736)) (fun _ hk=>trivial),bel_⟩
 ·rw [if_neg c6] at H
  have c6b0:decide (0 < t738)=false:=df_ c6
  clear c6
  simp only [Option.some.injEq,Prod.mk.injEq] at H
  obtain ⟨rfl,rfl,rfl,rfl,rfl,rfl,rfl,rfl,rfl,rfl⟩:=H
  go_enter Tryd.func28,Tryd.ntmps28
  try go_wp2_with (first|((with_reducible refine gD_ (N:=2) rfl ?_);refine bx_ 2 (#[.slice none 0 0,.int .i64 0,.bool false]) 25 ?_;intro gb715 hg w42 hbox hb;have n0_:=a_ (bS_ (bel_) hb);have n1_:=a_ (hbox);have n2_:=a_ ((by rw [hg];exact (below_size (bel_)):w.heap.size≤gb715));have n3_:=a_ ((by rw [hg];exact (below_size (bel_)):w.heap.size≤gb715));clear HB;have HB:=n0_;have BK715:=n1_;have GW715:=n2_;have GE715:=n3_;clear n0_ n1_ n2_ n3_;clear hb hbox hg)|((with_reducible refine gD_ (N:=3) rfl ?_);refine bx_ 3 (#[.int .i64 0,.int .i64 0,.int .i64 0,.int .i64 0,.int .i64 0,.int .i64 0,.string (⟨#[]⟩:ByteArray)]) 44 ?_;intro gb716 hg w43 hbox hb;have n0_:=a_ (blk_below (g:=gb715) (o:=.cells #[.slice none 0 0,.int .i64 0,.bool false] 25 (0,0)) (bp_ BK715.out) hb);have n1_:=a_ (bS_ (bel_) hb);have n2_:=a_ (hbox);have n3_:=a_ ((by rw [hg];exact (below_size (bel_)):w.heap.size≤gb716));have n4_:=a_ ((by rw [hg];exact (below_size (bel_)):w.heap.size≤gb716));have n5_:=a_ ((by rw [hg];exact Nat.ne_of_lt (blk_lt (g:=gb715) (o:=.cells #[.slice none 0 0,.int .i64 0,.bool false] 25 (0,0)) (bp_ BK715.out)):gb715≠gb716));have n6_:=a_ ((by rw [hg];exact Nat.ne_of_gt (blk_lt (g:=gb715) (o:=.cells #[.slice none 0 0,.int .i64 0,.bool false] 25 (0,0)) (bp_ BK715.out)):gb716≠gb715));clear BK715;clear HB;have BK715:=n0_;have HB:=n1_;have BK716:=n2_;have GW716:=n3_;have GE716:=n4_;have NB715_716:=n5_;have NB716_715:=n6_;clear n0_ n1_ n2_ n3_ n4_ n5_ n6_;clear hb hbox hg)|((with_reducible refine gC_ (f:=72) rfl ?_);refine gl_ 9 Tryd.func72 #[.slice A0 l0.length c0] ?_;(with_reducible refine (spec_l6Open.calls _ _ l0 t717 t718 w _ ?side1 ?side2 ?side3 A2.out).mono ?_);(case side1=>exact bel_);(case side2=>exact HR0.out);(case side3=>exact HC0.out);rintro e w44 ⟨g719,rfl,hi,hb,hb2⟩;refine ⟨_,rfl,?_⟩;replace HB:=a_ (hb);have HI719:=a_ (hi);have NB719_715:=a_ (IsS145.ne_blk hi (blk_below (g:=gb715) (o:=.cells #[.slice none 0 0,.int .i64 0,.bool false] 25 (0,0)) (bp_ BK715.out) hb2) (by decide));have NB715_719:=a_ (Ne.symm (IsS145.ne_blk hi (blk_below (g:=gb715) (o:=.cells #[.slice none 0 0,.int .i64 0,.bool false] 25 (0,0)) (bp_ BK715.out) hb2) (by decide)));replace BK715:=a_ (blk_below (g:=gb715) (o:=.cells #[.slice none 0 0,.int .i64 0,.bool false] 25 (0,0)) (bp_ BK715.out) hb2);have NB719_716:=a_ (IsS145.ne_blk hi (blk_below (g:=gb716) (o:=.cells #[.int .i64 0,.int .i64 0,.int .i64 0,.int .i64 0,.int .i64 0,.int .i64 0,.string (⟨#[]⟩:ByteArray)] 44 (0,0)) (bp_ BK716.out) hb2) (by decide));have NB716_719:=a_ (Ne.symm (IsS145.ne_blk hi (blk_below (g:=gb716) (o:=.cells #[.int .i64 0,.int .i64 0,.int .i64 0,.int .i64 0,.int .i64 0,.int .i64 0,.string (⟨#[]⟩:ByteArray)] 44 (0,0)) (bp_ BK716.out) hb2) (by decide)));replace BK716:=a_ (blk_below (g:=gb716) (o:=.cells #[.int .i64 0,.int .i64 0,.int .i64 0,.int .i64 0,.int .i64 0,.int .i64 0,.string (⟨#[]⟩:ByteArray)] 44 (0,0)) (bp_ BK716.out) hb2);(try clear hb hb2 hi))|((with_reducible refine gC_ (f:=73) rfl ?_);refine gl_ 11 Tryd.func73 #[.pointer (some ⟨g719,0,none⟩)] ?_;(with_reducible refine (spec_l72Server.calls k g719 t717 t718 t720 t723 t724 t725 w _ ?side1 ?side2 A3.out).mono ?_);(case side1=>exact is_HI719);(case side2=>exact bel_);rintro e w45 ⟨v721,rfl,ho0,hi,hb,hk⟩;refine ⟨_,rfl,?_⟩;have HO722:=a_ (Kd.R_lower (Kd.R_newB ho0 (g:=gb716) (o:=.cells #[.int .i64 0,.int .i64 0,.int .i64 0,.int .i64 0,.int .i64 0,.int .i64 0,.string (⟨#[]⟩:ByteArray)] 44 (0,0)) (bp_ BK716.out)) (below_size (bel_)));replace BK715:=a_ (kb_ hk BK715.out NB715_719.out);replace BK716:=a_ (kb_ hk BK716.out NB716_719.out);replace HB:=a_ (hb);replace HI719:=a_ (hi);(try clear hb hk hi ho0))|((with_reducible refine gD_ (N:=5) rfl ?_);refine bx_ 5 (#[.slice none 0 0,.int .i64 0,.bool false]) 25 ?_;intro gb726 hg w46 hbox hb;have n0_:=a_ (Kd.R_below (rp_ HO722.out) hb);have n1_:=a_ (blk_below (g:=gb715) (o:=.cells #[.slice none 0 0,.int .i64 0,.bool false] 25 (0,0)) (bp_ BK715.out) hb);have n2_:=a_ (blk_below (g:=gb716) (o:=.cells #[.int .i64 0,.int .i64 0,.int .i64 0,.int .i64 0,.int .i64 0,.int .i64 0,.string (⟨#[]⟩:ByteArray)] 44 (0,0)) (bp_ BK716.out) hb);have n3_:=a_ (IsS145.below (is_HI719) hb);have n4_:=a_ (bS_ (bel_) hb);have n5_:=a_ (hbox);have n6_:=a_ ((by rw [hg];exact (below_size (bel_)):w.heap.size≤gb726));have n7_:=a_ ((by rw [hg];exact (below_size (bel_)):w.heap.size≤gb726));have n8_:=a_ ((by rw [hg];exact Nat.ne_of_lt (blk_lt (g:=gb715) (o:=.cells #[.slice none 0 0,.int .i64 0,.bool false] 25 (0,0)) (bp_ BK715.out)):gb715≠gb726));have n9_:=a_ ((by rw [hg];exact Nat.ne_of_gt (blk_lt (g:=gb715) (o:=.cells #[.slice none 0 0,.int .i64 0,.bool false] 25 (0,0)) (bp_ BK715.out)):gb726≠gb715));have n10_:=a_ ((by rw [hg];exact Nat.ne_of_lt (blk_lt (g:=gb716) (o:=.cells #[.int .i64 0,.int .i64 0,.int .i64 0,.int .i64 0,.int .i64 0,.int .i64 0,.string (⟨#[]⟩:ByteArray)] 44 (0,0)) (bp_ BK716.out)):gb716≠gb726));have n11_:=a_ ((by rw [hg];exact Nat.ne_of_gt (blk_lt (g:=gb716) (o:=.cells #[.int .i64 0,.int .i64 0,.int .i64 0,.int .i64 0,.int .i64 0,.int .i64 0,.string (⟨#[]⟩:ByteArray)] 44 (0,0)) (bp_ BK716.out)):gb726≠gb716));have n12_:=a_ ((by rw [hg];exact Nat.ne_of_lt (IsS145.lt (show IsS145 w _ g719 t717 t725 from is_HI719)):g719≠gb726));have n13_:=a_ ((by rw [hg];exact Nat.ne_of_gt (IsS145.lt (show IsS145 w _ g719 t717 t725 from is_HI719)):gb726≠g719));clear HO722;clear BK715;clear BK716;clear HI719;clear HB;have HO722:=n0_;have BK715:=n1_;have BK716:=n2_;have HI719:=n3_;have HB:=n4_;have BK726:=n5_;have GW726:=n6_;have GE726:=n7_;have NB715_726:=n8_;have NB726_715:=n9_;have NB716_726:=n10_;have NB726_716:=n11_;have NB719_726:=n12_;have NB726_719:=n13_;clear n0_ n1_ n2_ n3_ n4_ n5_ n6_ n7_ n8_ n9_ n10_ n11_ n12_ n13_;clear hb hbox hg;obtain ⟨Ao47,co47,eo47⟩:=Kd.R_slice HO722.out;subst eo47;have hnb48:=NB726_715.out;have hnc48:=NB715_726.out;have hnb49:=NB726_716.out;have hnc49:=NB716_726.out;have hnb50:=NB726_719.out;have hnc50:=NB719_726.out;have Z51_0:=cz_ BK726.out 0 (.slice none 0 0);have Z51_1:=cz_ BK726.out 1 (.int .i64 0);have Z51_2:=cz_ BK726.out 2 (.bool false);have Y51_0:=bF_ BK726.out 0;have Y51_1:=bF_ BK726.out 1;have Y51_2:=bF_ BK726.out 2)|((with_reducible refine gC_ (f:=36) rfl ?_);refine gl_ 14 Tryd.func36 #[.slice A0 l0.length c0] ?_;(with_reducible refine (spec_DrawLogAdd.calls k _ _ l0 t727 t730 t731 t732 t733 t734 t735 t736 _ ?side1 ?side2 A4.out).mono ?_);(case side1=>exact Kd.C_below HR0.out (bel_));(case side2=>exact HC0.out);rintro e w52 ⟨v728,rfl,ho0,hb⟩;refine ⟨_,rfl,?_⟩;have n0_:=a_ (Kd.R_elder' (by (with_reducible repeat (first|apply Kd.R_alloc|apply Kd.R_drewN|apply Kd.R_drew));exact (Kd.R_mono (rf3_ (g:=gb726) (Kd.R_types HO722.out BK726.out (by decide)) (fun _ hk=>hk.2) (.slice Ao47 t720.length co47) (.int .i64 t723) (.bool t724)) (fun _ h_=>h_.1))) (Kd.R_base ho0) hb);have n1_:=a_ (Kd.R_lower (Kd.R_newB (Kd.R_new' ho0 (Kd.R_lt (by (with_reducible repeat (first|apply Kd.R_alloc|apply Kd.R_drewN|apply Kd.R_drew));exact (Kd.R_mono (rf3_ (g:=gb726) (Kd.R_types HO722.out BK726.out (by decide)) (fun _ hk=>hk.2) (.slice Ao47 t720.length co47) (.int .i64 t723) (.bool t724)) (fun _ h_=>h_.1))))) (g:=gb716) (o:=.cells #[.int .i64 0,.int .i64 0,.int .i64 0,.int .i64 0,.int .i64 0,.int .i64 0,.string (⟨#[]⟩:ByteArray)] 44 (0,0)) (fp1_ NB716_726.out BK716.out)) (below_size (bel_)));have n2_:=a_ (blk_below (g:=gb715) (o:=.cells #[.slice none 0 0,.int .i64 0,.bool false] 25 (0,0)) (fp1_ NB715_726.out BK715.out) hb);have n3_:=a_ (blk_below (g:=gb716) (o:=.cells #[.int .i64 0,.int .i64 0,.int .i64 0,.int .i64 0,.int .i64 0,.int .i64 0,.string (⟨#[]⟩:ByteArray)] 44 (0,0)) (fp1_ NB716_726.out BK716.out) hb);have n4_:=a_ (IsS145.below (show IsS145 w (((w46.setCell ⟨gb726,0,none⟩ (.slice Ao47 t720.length co47)).setCell ⟨gb726,1,none⟩ (.int .i64 t723)).setCell ⟨gb726,2,none⟩ (.bool t724)) g719 t717 t725 from is_HI719) hb);have n5_:=a_ (blk_below (g:=gb726) (o:=.cells #[.slice Ao47 t720.length co47,.int .i64 t723,.bool t724] 25 (0,0)) (k3p_ BK726.out) hb);have n6_:=a_ (bS_ (bel_) hb);clear HO722;clear BK715;clear BK716;clear HI719;clear BK726;clear HB;have HO722:=n0_;have HO729:=n1_;have BK715:=n2_;have BK716:=n3_;have HI719:=n4_;have BK726:=n5_;have HB:=n6_;clear n0_ n1_ n2_ n3_ n4_ n5_ n6_;(try clear hb ho0))|((with_reducible refine gD_ (N:=7) rfl ?_);refine bx_ 7 (#[.int .i64 0,.int .i64 0,.int .i64 0,.int .i64 0,.int .i64 0,.int .i64 0,.string (⟨#[]⟩:ByteArray)]) 44 ?_;intro gb737 hg w53 hbox hb;have n0_:=a_ (Kd.R_below (Kd.R_elderB (rp_ HO722.out) gb737 (Nat.le_of_eq hg.symm)) hb);have n1_:=a_ (Kd.R_below (Kd.R_elderB (rp_ HO729.out) gb737 (Nat.le_of_eq hg.symm)) hb);have n2_:=a_ (blk_below (g:=gb715) (o:=.cells #[.slice none 0 0,.int .i64 0,.bool false] 25 (0,0)) (bp_ BK715.out) hb);have n3_:=a_ (blk_below (g:=gb716) (o:=.cells #[.int .i64 0,.int .i64 0,.int .i64 0,.int .i64 0,.int .i64 0,.int .i64 0,.string (⟨#[]⟩:ByteArray)] 44 (0,0)) (bp_ BK716.out) hb);have n4_:=a_ (IsS145.below (is_HI719) hb);have n5_:=a_ (blk_below (g:=gb726) (o:=.cells #[.slice Ao47 t720.length co47,.int .i64 t723,.bool t724] 25 (0,0)) (bp_ BK726.out) hb);have n6_:=a_ (bS_ (bel_) hb);have n7_:=a_ (hbox);have n8_:=a_ ((by rw [hg];exact (below_size (bel_)):w.heap.size≤gb737));have n9_:=a_ ((by rw [hg];exact (below_size (bel_)):w.heap.size≤gb737));have n10_:=a_ ((by rw [hg];exact Nat.ne_of_lt (blk_lt (g:=gb715) (o:=.cells #[.slice none 0 0,.int .i64 0,.bool false] 25 (0,0)) (bp_ BK715.out)):gb715≠gb737));have n11_:=a_ ((by rw [hg];exact Nat.ne_of_gt (blk_lt (g:=gb715) (o:=.cells #[.slice none 0 0,.int .i64 0,.bool false] 25 (0,0)) (bp_ BK715.out)):gb737≠gb715));have n12_:=a_ ((by rw [hg];exact Nat.ne_of_lt (blk_lt (g:=gb716) (o:=.cells #[.int .i64 0,.int .i64 0,.int .i64 0,.int .i64 0,.int .i64 0,.int .i64 0,.string (⟨#[]⟩:ByteArray)] 44 (0,0)) (bp_ BK716.out)):gb716≠gb737));have n13_:=a_ ((by rw [hg];exact Nat.ne_of_gt (blk_lt (g:=gb716) (o:=.cells #[.int .i64 0,.int .i64 0,.int .i64 0,.int .i64 0,.int .i64 0,.int .i64 0,.string (⟨#[]⟩:ByteArray)] 44 (0,0)) (bp_ BK716.out)):gb737≠gb716));have n14_:=a_ ((by rw [hg];exact Nat.ne_of_lt (blk_lt (g:=gb726) (o:=.cells #[.slice Ao47 t720.length co47,.int .i64 t723,.bool t724] 25 (0,0)) (bp_ BK726.out)):gb726≠gb737));have n15_:=a_ ((by rw [hg];exact Nat.ne_of_gt (blk_lt (g:=gb726) (o:=.cells #[.slice Ao47 t720.length co47,.int .i64 t723,.bool t724] 25 (0,0)) (bp_ BK726.out)):gb737≠gb726));have n16_:=a_ ((by rw [hg];exact Nat.ne_of_lt (IsS145.lt (show IsS145 w _ g719 t717 t725 from is_HI719)):g719≠gb737));have n17_:=a_ ((by rw [hg];exact Nat.ne_of_gt (IsS145.lt (show IsS145 w _ g719 t717 t725 from is_HI719)):gb737≠g719));clear HO722;clear HO729;clear BK715;clear BK716;clear HI719;clear BK726;clear HB;have HO722:=n0_;have HO729:=n1_;have BK715:=n2_;have BK716:=n3_;have HI719:=n4_;have BK726:=n5_;have HB:=n6_;have BK737:=n7_;have GW737:=n8_;have GE737:=n9_;have NB715_737:=n10_;have NB737_715:=n11_;have NB716_737:=n12_;have NB737_716:=n13_;have NB726_737:=n14_;have NB737_726:=n15_;have NB719_737:=n16_;have NB737_719:=n17_;clear n0_ n1_ n2_ n3_ n4_ n5_ n6_ n7_ n8_ n9_ n10_ n11_ n12_ n13_ n14_ n15_ n16_ n17_;clear hb hbox hg;have hnb54:=NB737_715.out;have hnc54:=NB715_737.out;have hnb55:=NB737_716.out;have hnc55:=NB716_737.out;have hnb56:=NB737_726.out;have hnc56:=NB726_737.out;have hnb57:=NB737_719.out;have hnc57:=NB719_737.out;have Z58_0:=cz_ BK737.out 0 (.int .i64 0);have Z58_1:=cz_ BK737.out 1 (.int .i64 0);have Z58_2:=cz_ BK737.out 2 (.int .i64 0);have Z58_3:=cz_ BK737.out 3 (.int .i64 0);have Z58_4:=cz_ BK737.out 4 (.int .i64 0);have Z58_5:=cz_ BK737.out 5 (.int .i64 0);have Z58_6:=cz_ BK737.out 6 (.string (⟨#[]⟩:ByteArray));have Y58_0:=bF_ BK737.out 0;have Y58_1:=bF_ BK737.out 1;have Y58_2:=bF_ BK737.out 2;have Y58_3:=bF_ BK737.out 3;have Y58_4:=bF_ BK737.out 4;have Y58_5:=bF_ BK737.out 5;have Y58_6:=bF_ BK737.out 6)|((with_reducible refine gC_ (f:=74) rfl ?_);refine gl_ 18 Tryd.func74 #[.pointer (some ⟨g719,0,none⟩),.int .i64 3] ?_;(with_reducible refine (spec_l6Rd_pick.calls k g719 t717 t725 3 t738 t739 w _ ?side1 ?side2 A5.out).mono ?_);(case side1=>exact is_HI719);(case side2=>exact bel_);rintro e w59 ⟨rfl,hi,hb,hk⟩;refine ⟨_,rfl,?_⟩;have n0_:=a_ (KeepBut.blk hk (g':=gb715) (o:=.cells #[.slice none 0 0,.int .i64 0,.bool false] 25 (0,0)) (fp1_ NB715_737.out BK715.out) NB715_719.out (by simp));have n1_:=a_ (KeepBut.blk hk (g':=gb716) (o:=.cells #[.int .i64 0,.int .i64 0,.int .i64 0,.int .i64 0,.int .i64 0,.int .i64 0,.string (⟨#[]⟩:ByteArray)] 44 (0,0)) (fp1_ NB716_737.out BK716.out) NB716_719.out (by simp));have n2_:=a_ (Kd.R_mono (Kd.R_keep (IsS145.apart (show IsS145 w _ g719 t717 t725 from is_HI719) (by (with_reducible repeat (first|apply Kd.R_alloc|apply Kd.R_drewN|apply Kd.R_drew));exact (Kd.R_mono (rf7_ (g:=gb737) (Kd.R_mono HO722.out (fun k_ hk=>(⟨hk,hk.2⟩:_∧k_≠gb737))) (fun _ hk=>hk.2) (.int .i64 t730) (.int .i64 t731) (.int .i64 t732) (.int .i64 t733) (.int .i64 t734) (.int .i64 t735) (.string t736)) (fun _ h_=>h_.1))) (by decide)) hk (fun _ h=>h.2)) (fun _ h=>h.1));have n3_:=a_ (KeepBut.blk hk (g':=gb726) (o:=.cells #[.slice Ao47 t720.length co47,.int .i64 t723,.bool t724] 25 (0,0)) (fp1_ NB726_737.out BK726.out) NB726_719.out (by simp));have n4_:=a_ (Kd.R_mono (Kd.R_keep (IsS145.apart (show IsS145 w _ g719 t717 t725 from is_HI719) (by (with_reducible repeat (first|apply Kd.R_alloc|apply Kd.R_drewN|apply Kd.R_drew));exact (Kd.R_mono (rf7_ (g:=gb737) (Kd.R_mono HO729.out (fun k_ hk=>(⟨hk,hk.2⟩:_∧k_≠gb737))) (fun _ hk=>hk.2) (.int .i64 t730) (.int .i64 t731) (.int .i64 t732) (.int .i64 t733) (.int .i64 t734) (.int .i64 t735) (.string t736)) (fun _ h_=>h_.1))) (by decide)) hk (fun _ h=>h.2)) (fun _ h=>h.1));have n5_:=a_ (KeepBut.blk hk (g':=gb737) (o:=.cells #[.int .i64 t730,.int .i64 t731,.int .i64 t732,.int .i64 t733,.int .i64 t734,.int .i64 t735,.string t736] 44 (0,0)) (k7p_ BK737.out) NB737_719.out (by simp));have n6_:=a_ (hb);have n7_:=a_ (hi);clear BK715;clear BK716;clear HO722;clear BK726;clear HO729;clear BK737;clear HB;clear HI719;have BK715:=n0_;have BK716:=n1_;have HO722:=n2_;have BK726:=n3_;have HO729:=n4_;have BK737:=n5_;have HB:=n6_;have HI719:=n7_;clear n0_ n1_ n2_ n3_ n4_ n5_ n6_ n7_;(try clear hb hk hi)))
  have n0_:=a_ (Kd.R_drew HO722.out)
  have n1_:=a_ (Kd.R_drew HO729.out)
  have n2_:=a_ (bD_ BK715.out)
  have n3_:=a_ (bD_ BK716.out)
  have n4_:=a_ (bD_ BK726.out)
  have n5_:=a_ (bD_ BK737.out)
  have n6_:=a_ (IsS145.drew HI719.out)
  have n7_:=a_ (below_drew1 HB.out)
  clear HO722
  clear HO729
  clear BK715
  clear BK716
  clear BK726
  clear BK737
  clear HI719
  clear HB
  have HO722:=n0_
  have HO729:=n1_
  have BK715:=n2_
  have BK716:=n3_
  have BK726:=n4_
  have BK737:=n5_
  have HI719:=n6_
  have HB:=n7_
  clear n0_ n1_ n2_ n3_ n4_ n5_ n6_ n7_
  refine start_ (n:=4) (S:=fun w'=>w'.cell? ⟨gb726,0,none⟩=some (.slice Ao47 t720.length co47)∧w'.cell? ⟨gb726,1,none⟩=some (.int .i64 t723)∧w'.cell? ⟨gb726,2,none⟩=some (.bool t724)∧w'.cell? ⟨gb737,0,none⟩=some (.int .i64 t730)∧w'.cell? ⟨gb737,1,none⟩=some (.int .i64 t731)∧w'.cell? ⟨gb737,2,none⟩=some (.int .i64 t732)∧w'.cell? ⟨gb737,3,none⟩=some (.int .i64 t733)∧w'.cell? ⟨gb737,4,none⟩=some (.int .i64 t734)∧w'.cell? ⟨gb737,5,none⟩=some (.int .i64 t735)∧w'.cell? ⟨gb737,6,none⟩=some (.string t736)) (ds:=[]) #[false,false,false,false] (by kernel_rfl) rfl rfl ⟨(bC_ BK726.out 0).trans rfl,(bC_ BK726.out 1).trans rfl,(bC_ BK726.out 2).trans rfl,(bC_ BK737.out 0).trans rfl,(bC_ BK737.out 1).trans rfl,(bC_ BK737.out 2).trans rfl,(bC_ BK737.out 3).trans rfl,(bC_ BK737.out 4).trans rfl,(bC_ BK737.out 5).trans rfl,(bC_ BK737.out 6).trans rfl⟩ (fun hHeld=>?_)
  generalize w59.drew=w60 at HO722 HO729 BK715 BK716 BK726 BK737 HI719 HB hHeld ⊢
  refine take_ (i:=0) (N:=some 28) (v:=?_) (a':=?_) #[true,false,false,false] rfl rfl (by kernel_rfl) (fun _ _ _ h=>h) (Or.inl ⟨by rfl,?_⟩) hHeld ?_ ?_
  rotate_left
  ·rintro w' ⟨s0,s1,s2,s3,s4,s5,s6,s7,s8,s9⟩
   go_simp
   with_reducible rfl
  rotate_left
  ·simp only [Act.put,List.setIfInBounds_toArray,List.set_cons_zero,List.set_cons_succ,i64_w,i32_w]
   rfl
  refine take_ (i:=1) (N:=some 29) (v:=?_) (a':=?_) #[true,true,false,false] rfl rfl (by kernel_rfl) (fun _ _ _ h=>h) (Or.inl ⟨by rfl,?_⟩) hHeld ?_ ?_
  rotate_left
  ·rintro w' ⟨s0,s1,s2,s3,s4,s5,s6,s7,s8,s9⟩
   go_simp
   with_reducible rfl
  rotate_left
  ·simp only [Act.put,List.setIfInBounds_toArray,List.set_cons_zero,List.set_cons_succ,i64_w,i32_w]
   rfl
  refine one_ (i:=2) (N:=none) #[true,true,true,false] rfl rfl (by kernel_rfl) (by decide) (fun K hK=>?_)
  have hs61:w60.cell? ⟨gb715,0,none⟩=some (.slice none 0 0):=(bC_ BK715.out 0).trans rfl
  have hfs61:=bF_ BK715.out 0
  have hns61_1:=NB716_715.out
  have hns61_2:=NB726_715.out
  have hns61_3:=NB737_715.out
  have hms61_1:=NB715_716.out
  have hms61_2:=NB715_726.out
  have hms61_3:=NB715_737.out
  have hs62:w60.cell? ⟨gb715,1,none⟩=some (.int .i64 0):=(bC_ BK715.out 1).trans rfl
  have hfs62:=bF_ BK715.out 1
  have hns62_1:=NB716_715.out
  have hns62_2:=NB726_715.out
  have hns62_3:=NB737_715.out
  have hms62_1:=NB715_716.out
  have hms62_2:=NB715_726.out
  have hms62_3:=NB715_737.out
  have hs63:w60.cell? ⟨gb715,2,none⟩=some (.bool false):=(bC_ BK715.out 2).trans rfl
  have hfs63:=bF_ BK715.out 2
  have hns63_1:=NB716_715.out
  have hns63_2:=NB726_715.out
  have hns63_3:=NB737_715.out
  have hms63_1:=NB715_716.out
  have hms63_2:=NB715_726.out
  have hms63_3:=NB715_737.out
  refine skip_ (w1:=?_) (by rfl) rfl ?_ ?_
  rotate_left
  ·go_simp
   rfl
  refine hK.out _ _ ⟨(cf3_ (g:=gb715) NB726_715.out (hHeld.1)),(cf3_ (g:=gb715) NB726_715.out (hHeld.2.1)),(cf3_ (g:=gb715) NB726_715.out (hHeld.2.2.1)),(cf3_ (g:=gb715) NB737_715.out (hHeld.2.2.2.1)),(cf3_ (g:=gb715) NB737_715.out (hHeld.2.2.2.2.1)),(cf3_ (g:=gb715) NB737_715.out (hHeld.2.2.2.2.2.1)),(cf3_ (g:=gb715) NB737_715.out (hHeld.2.2.2.2.2.2.1)),(cf3_ (g:=gb715) NB737_715.out (hHeld.2.2.2.2.2.2.2.1)),(cf3_ (g:=gb715) NB737_715.out (hHeld.2.2.2.2.2.2.2.2.1)),(cf3_ (g:=gb715) NB737_715.out (hHeld.2.2.2.2.2.2.2.2.2))⟩ (fun hHeld=>?_)
  clear hK K
  refine one_ (i:=3) (N:=none) #[true,true,true,true] rfl rfl (by kernel_rfl) (by decide) (fun K hK=>?_)
  have hs64:w60.cell? ⟨gb716,0,none⟩=some (.int .i64 0):=(bC_ BK716.out 0).trans rfl
  have hfs64:=bF_ BK716.out 0
  have hns64_0:=NB715_716.out
  have hns64_2:=NB726_716.out
  have hns64_3:=NB737_716.out
  have hms64_0:=NB716_715.out
  have hms64_2:=NB716_726.out
  have hms64_3:=NB716_737.out
  have hs65:w60.cell? ⟨gb716,1,none⟩=some (.int .i64 0):=(bC_ BK716.out 1).trans rfl
  have hfs65:=bF_ BK716.out 1
  have hns65_0:=NB715_716.out
  have hns65_2:=NB726_716.out
  have hns65_3:=NB737_716.out
  have hms65_0:=NB716_715.out
  have hms65_2:=NB716_726.out
  have hms65_3:=NB716_737.out
  have hs66:w60.cell? ⟨gb716,2,none⟩=some (.int .i64 0):=(bC_ BK716.out 2).trans rfl
  have hfs66:=bF_ BK716.out 2
  have hns66_0:=NB715_716.out
  have hns66_2:=NB726_716.out
  have hns66_3:=NB737_716.out
  have hms66_0:=NB716_715.out
  have hms66_2:=NB716_726.out
  have hms66_3:=NB716_737.out
  have hs67:w60.cell? ⟨gb716,3,none⟩=some (.int .i64 0):=(bC_ BK716.out 3).trans rfl
  have hfs67:=bF_ BK716.out 3
  have hns67_0:=NB715_716.out
  have hns67_2:=NB726_716.out
  have hns67_3:=NB737_716.out
  have hms67_0:=NB716_715.out
  have hms67_2:=NB716_726.out
  have hms67_3:=NB716_737.out
  have hs68:w60.cell? ⟨gb716,4,none⟩=some (.int .i64 0):=(bC_ BK716.out 4).trans rfl
  have hfs68:=bF_ BK716.out 4
  have hns68_0:=NB715_716.out
  have hns68_2:=NB726_716.out
  have hns68_3:=NB737_716.out
  have hms68_0:=NB716_715.out
  have hms68_2:=NB716_726.out
  have hms68_3:=NB716_737.out
  have hs69:w60.cell? ⟨gb716,5,none⟩=some (.int .i64 0):=(bC_ BK716.out 5).trans rfl
  have hfs69:=bF_ BK716.out 5
  have hns69_0:=NB715_716.out
  have hns69_2:=NB726_716.out
  have hns69_3:=NB737_716.out
  have hms69_0:=NB716_715.out
  have hms69_2:=NB716_726.out
  have hms69_3:=NB716_737.out
  have hs70:w60.cell? ⟨gb716,6,none⟩=some (.string (⟨#[]⟩:ByteArray)):=(bC_ BK716.out 6).trans rfl
  have hfs70:=bF_ BK716.out 6
  have hns70_0:=NB715_716.out
  have hns70_2:=NB726_716.out
  have hns70_3:=NB737_716.out
  have hms70_0:=NB716_715.out
  have hms70_2:=NB716_726.out
  have hms70_3:=NB716_737.out
  refine skip_ (w1:=?_) (by rfl) rfl ?_ ?_
  rotate_left
  ·go_simp
   rfl
  refine hK.out _ _ ⟨(cf7_ (g:=gb716) NB726_716.out (hHeld.1)),(cf7_ (g:=gb716) NB726_716.out (hHeld.2.1)),(cf7_ (g:=gb716) NB726_716.out (hHeld.2.2.1)),(cf7_ (g:=gb716) NB737_716.out (hHeld.2.2.2.1)),(cf7_ (g:=gb716) NB737_716.out (hHeld.2.2.2.2.1)),(cf7_ (g:=gb716) NB737_716.out (hHeld.2.2.2.2.2.1)),(cf7_ (g:=gb716) NB737_716.out (hHeld.2.2.2.2.2.2.1)),(cf7_ (g:=gb716) NB737_716.out (hHeld.2.2.2.2.2.2.2.1)),(cf7_ (g:=gb716) NB737_716.out (hHeld.2.2.2.2.2.2.2.2.1)),(cf7_ (g:=gb716) NB737_716.out (hHeld.2.2.2.2.2.2.2.2.2))⟩ (fun hHeld=>?_)
  clear hK K
  refine done_ (by kernel_rfl) ?_
  try go_wp2
  refine bodyPost_ret (results_cc rfl _ _ gb715 gb716 25 44 #[.slice Ao47 t720.length co47,.int .i64 t723,.bool t724] #[.int .i64 t730,.int .i64 t731,.int .i64 t732,.int .i64 t733,.int .i64 t734,.int .i64 t735,.string t736] (0,0) (0,0) _ _ rfl (k3p1_ NB715_716.out BK715.out) Tryd.underlying25 rfl (by kernel_rfl) rfl (k7p1_ NB716_715.out BK716.out) Tryd.underlying44 rfl (by kernel_rfl)) rfl ?_
  exact ⟨_,fi_,by (with_reducible repeat (first|apply Kd.R_alloc|apply Kd.R_drewN|apply Kd.R_drew));exact Kd.R_mono (rf7_ (g:=gb716) (rf3_ (g:=gb715) (Kd.R_mono (Kd.R_types HO722.out BK715.out (by decide)) (fun k_ hk=>(⟨hk,hk.1.1.1.2⟩:_∧k_≠gb716))) (fun _ hk=>hk.1.2) (.slice Ao47 t720.length co47) (.int .i64 t723) (.bool t724)) (fun _ hk=>hk.2) (.int .i64 t730) (.int .i64 t731) (.int .i64 t732) (.int .i64 t733) (.int .i64 t734) (.int .i64 t735) (.string t736)) (fun _ hk=>trivial),bel_⟩

attribute [local go_sem high] eqA44
def laws_lpLog.l0:Nat→List (S44)→List (S44)→Int→Option (Bool)
 | 0,_,_,_=>none
 | k+1,x0,x1,x5=>if x5 < (x0.length:Int) then (if 0≤x5 then (if x5 < (x1.length:Int) then (if (!(((rd_T44 x0 x5).f0)==((rd_T44 x1 x5).f0)) || (!(((rd_T44 x0 x5).f1)==((rd_T44 x1 x5).f1)) || ((!(((rd_T44 x0 x5).f2.f0)==((rd_T44 x1 x5).f2.f0)) || (!(((rd_T44 x0 x5).f2.f1)==((rd_T44 x1 x5).f2.f1)) || (!(((rd_T44 x0 x5).f2.f2)==((rd_T44 x1 x5).f2.f2)) || (!(((rd_T44 x0 x5).f2.f3)==((rd_T44 x1 x5).f2.f3)) || (!((((rd_T44 x0 x5).f2.f4).toList)==(((rd_T44 x1 x5).f2.f4).toList))))))))))=true then (some false) else (laws_lpLog.l0 k x0 x1 (wrap64 (x5+1)))) else (none)) else (none)) else (some true)
def laws_lpLog.f (k:Nat) (l0:List (S44)) (l1:List (S44)):Option (Bool):=if (l0.length:Int)=(l1.length:Int) then (laws_lpLog.l0 k l0 l1 0) else (some false)
theorem laws_lpLog.mono_l:∀ k,(∀ y0 y1 y2,LeO (laws_lpLog.l0 k y0 y1 y2) (laws_lpLog.l0 (k+1) y0 y1 y2))
 | 0=>fun _ _ _ r h=>by simp [laws_lpLog.l0] at h
 | k+1=>by
  have ih0:=laws_lpLog.mono_l k
  ·intro y0 y1 y2
   unfold laws_lpLog.l0
   repeat' first
   | (with_reducible exact ih0 _ _ _)
   | (with_reducible exact LeO.refl _)
   | (with_reducible exact LeO.none _)
   | (with_reducible refine LeO.ite ?_ ?_)
   | (with_reducible refine LeO.bind ?_ (fun _=>?_))
theorem laws_lpLog.mono:∀ a0 a1 k,LeO (laws_lpLog.f k a0 a1) (laws_lpLog.f (k+1) a0 a1):=by
 intro a0 a1 k
 have ih0:=laws_lpLog.mono_l k
 unfold laws_lpLog.f
 repeat' first
   | (with_reducible exact ih0 _ _ _)
   | (with_reducible exact LeO.refl _)
   | (with_reducible exact LeO.none _)
   | (with_reducible refine LeO.ite ?_ ?_)
   | (with_reducible refine LeO.bind ?_ (fun _=>?_))
theorem laws_lpLog.calls (k:Nat) (A0:Option Addr) (c0:Nat) (l0:List (S44)) (A1:Option Addr) (c1:Nat) (l1:List (S44)) (r:Bool) (w:World) (hr0:Kd.C k44 w A0 l0.length l0) (hc0:l0.length≤c0) (hr1:Kd.C k44 w A1 l1.length l1) (hc1:l1.length≤c1) (h:laws_lpLog.f k l0 l1=some r) :
  Calls Tryd.prog 32 #[.slice A0 l0.length c0,.slice A1 l1.length c1] w fun e w'=>e=.returned (.bool r)∧Drawn0 w w':=by
 have hu44:=Tryd.underlying44
 have HR0:=a_ hr0
 have HC0:=a_ hc0
 clear hr0 hc0
 have HR1:=a_ hr1
 have HC1:=a_ hc1
 clear hr1 hc1
 unfold laws_lpLog.f at h
 have H:=h
 clear h
 by_cases c3:(l0.length:Int)=(l1.length:Int)
 ·rw [if_pos c3] at H
  have c3b0:((l0.length:Int)==(l1.length:Int))=true:=beq_iff_eq.mpr c3
  have c3b1:((l0.length:Int) != (l1.length:Int))=false:=be_ c3
  have c3b2:(l0.length==l1.length)=true:=by first|simpa using c3|(simp at c3 ⊢;omega)
  clear c3
  have H':=a_ H
  clear H
  go_enter Tryd.func32,Tryd.ntmps32
  go_wp2
  repeat (go_quiet (fail);try go_wp2)
  go_loopg [5] k (fun kq v5 w'=>∃ (x5_1:Int),v5=.int .i64 x5_1∧Aside0 (laws_lpLog.l0 kq l0 l1 x5_1=some r)∧Aside0 (kq≤k)∧Drawn0 w w')
  case atStart=>exact ⟨(0),(si_),H',⟨Nat.le_refl _⟩,by repeat (first|exact Drawn0.refl _|apply Drawn0.step)⟩
  case round =>
   clear H'
   try clear c1
   try clear p2
   try clear c3
   try clear c3b0
   try clear c3b1
   try clear c3b2
   obtain ⟨x5_1,rfl,HA,HK1,⟨m1,rfl⟩⟩:=hrel
   cases gk with
   | zero=>exact absurd HA.out (by simp [laws_lpLog.l0])
   | succ k1 =>
    have H:=HA.out
    clear HA
    simp only [laws_lpLog.l0] at H
    by_cases c4:x5_1 < (l0.length:Int)
    ·rw [if_pos c4] at H
     have c4b0:decide (x5_1 < (l0.length:Int))=true:=dt_ c4
     clear c4
     by_cases c5:0≤x5_1
     ·rw [if_pos c5] at H
      have c5b0:decide (0≤x5_1)=true:=dt_ c5
      clear c5
      by_cases c6:x5_1 < (l1.length:Int)
      ·rw [if_pos c6] at H
       have c6b0:decide (x5_1 < (l1.length:Int))=true:=dt_ c6
       clear c6
       by_cases c7:(!(((rd_T44 l0 x5_1).f0)==((rd_T44 l1 x5_1).f0)) || (!(((rd_T44 l0 x5_1).f1)==((rd_T44 l1 x5_1).f1)) || ((!(((rd_T44 l0 x5_1).f2.f0)==((rd_T44 l1 x5_1).f2.f0)) || (!(((rd_T44 l0 x5_1).f2.f1)==((rd_T44 l1 x5_1).f2.f1)) || (!(((rd_T44 l0 x5_1).f2.f2)==((rd_T44 l1 x5_1).f2.f2)) || (!(((rd_T44 l0 x5_1).f2.f3)==((rd_T44 l1 x5_1).f2.f3)) || (!((((rd_T44 l0 x5_1).f2.f4).toList)==(((rd_T44 l1 x5_1).f2.f4).toList))))))))))=true
       ·rw [if_pos c7] at H
        have c7b0:(!(((rd_T44 l0 x5_1).f0)==((rd_T44 l1 x5_1).f0)) || (!(((rd_T44 l0 x5_1).f1)==((rd_T44 l1 x5_1).f1)) || ((!(((rd_T44 l0 x5_1).f2.f0)==((rd_T44 l1 x5_1).f2.f0)) || (!(((rd_T44 l0 x5_1).f2.f1)==((rd_T44 l1 x5_1).f2.f1)) || (!(((rd_T44 l0 x5_1).f2.f2)==((rd_T44 l1 x5_1).f2.f2)) || (!(((rd_T44 l0 x5_1).f2.f3)==((rd_T44 l1 x5_1).f2.f3)) || (!((((rd_T44 l0 x5_1).f2.f4).toList)==(((rd_T44 l1 x5_1).f2.f4).toList))))))))))=true:=c7
        clear c7
        obtain rfl:=sj_ H
        have p742:0≤(x5_1:Int):=od_
        have q742:x5_1 < (l0.length:Int):=od_
        obtain ⟨ad742,e742,hx742_0,hx742_1,hx742_2,hx742_3,hx742_4,hx742_5,hx742_6⟩:=at_T44 HR0.out x5_1 p742 q742
        cases e742
        replace p742:=eq_true p742
        replace q742:=eq_true q742
        have p743:0≤(x5_1:Int):=od_
        have q743:x5_1 < (l1.length:Int):=od_
        obtain ⟨ad743,e743,hx743_0,hx743_1,hx743_2,hx743_3,hx743_4,hx743_5,hx743_6⟩:=at_T44 HR1.out x5_1 p743 q743
        cases e743
        replace p743:=eq_true p743
        replace q743:=eq_true q743
        go_wp2
        repeat (go_quiet (fail);try go_wp2)
        go_ret
        exact ⟨si_,by repeat (first|exact Drawn0.refl _|apply Drawn0.step)⟩
       ·rw [if_neg c7] at H
        have c7b0:(!(((rd_T44 l0 x5_1).f0)==((rd_T44 l1 x5_1).f0)) || (!(((rd_T44 l0 x5_1).f1)==((rd_T44 l1 x5_1).f1)) || ((!(((rd_T44 l0 x5_1).f2.f0)==((rd_T44 l1 x5_1).f2.f0)) || (!(((rd_T44 l0 x5_1).f2.f1)==((rd_T44 l1 x5_1).f2.f1)) || (!(((rd_T44 l0 x5_1).f2.f2)==((rd_T44 l1 x5_1).f2.f2)) || (!(((rd_T44 l0 x5_1).f2.f3)==((rd_T44 l1 x5_1).f2.f3)) || (!((((rd_T44 l0 x5_1).f2.f4).toList)==(((rd_T44 l1 x5_1).f2.f4).toList))))))))))=false:=by simpa using c7
        clear c7
        have H':=a_ H
        clear H
        have p742:0≤(x5_1:Int):=od_
        have q742:x5_1 < (l0.length:Int):=od_
        obtain ⟨ad742,e742,hx742_0,hx742_1,hx742_2,hx742_3,hx742_4,hx742_5,hx742_6⟩:=at_T44 HR0.out x5_1 p742 q742
        cases e742
        replace p742:=eq_true p742
        replace q742:=eq_true q742
        have p743:0≤(x5_1:Int):=od_
        have q743:x5_1 < (l1.length:Int):=od_
        obtain ⟨ad743,e743,hx743_0,hx743_1,hx743_2,hx743_3,hx743_4,hx743_5,hx743_6⟩:=at_T44 HR1.out x5_1 p743 q743
        cases e743
        replace p743:=eq_true p743
        replace q743:=eq_true q743
        go_wp2
        repeat (go_quiet (fail);try go_wp2)
        go_roundg k1
        case measure=>have:=HK1.out;omega
        case rel=>exact ⟨(wrap64 (x5_1+1)),(si_),H',⟨by have:=HK1.out;omega⟩,by repeat (first|exact Drawn0.refl _|apply Drawn0.step)⟩
      ·rw [if_neg c6] at H
       exact absurd H (by simp)
     ·rw [if_neg c5] at H
      exact absurd H (by simp)
    ·rw [if_neg c4] at H
     have c4b0:decide (x5_1 < (l0.length:Int))=false:=df_ c4
     clear c4
     obtain rfl:=sj_ H
     go_wp2
     repeat (go_quiet (fail);try go_wp2)
     go_ret
     exact ⟨si_,by repeat (first|exact Drawn0.refl _|apply Drawn0.step)⟩
 ·rw [if_neg c3] at H
  have c3b0:((l0.length:Int)==(l1.length:Int))=false:=bn_ c3
  have c3b1:((l0.length:Int) != (l1.length:Int))=true:=bne_iff_ne.mpr c3
  have c3b2:(l0.length==l1.length)=false:=by first|simpa using c3|(simp at c3 ⊢;omega)
  obtain rfl:=sj_ H
  go_enter Tryd.func32,Tryd.ntmps32
  go_wp2
  repeat (go_quiet (fail);try go_wp2)
  go_ret
  exact ⟨si_,by repeat (first|exact Drawn0.refl _|apply Drawn0.step)⟩

def laws_lpServer.f (k:Nat) (l0_0:List (S44)) (a0_1:Int) (a0_2:Bool) (l1_0:List (S44)) (a1_1:Int) (a1_2:Bool):Option (Bool):=(laws_lpLog.f k l0_0 l1_0).bind fun t746=>(if t746=true then (if a0_1=a1_1 then (some (a0_2==a1_2)) else (some false)) else (some false))
theorem laws_lpServer.mono:∀ a0 a1 a2 a3 a4 a5 k,LeO (laws_lpServer.f k a0 a1 a2 a3 a4 a5) (laws_lpServer.f (k+1) a0 a1 a2 a3 a4 a5):=by
 intro a0 a1 a2 a3 a4 a5 k
 unfold laws_lpServer.f
 repeat' first
   | (with_reducible exact laws_lpLog.mono _ _ _)
   | (with_reducible exact LeO.refl _)
   | (with_reducible exact LeO.none _)
   | (with_reducible refine LeO.ite ?_ ?_)
   | (with_reducible refine LeO.bind ?_ (fun _=>?_))
theorem laws_lpServer.calls (k:Nat) (A0_0:Option Addr) (c0_0:Nat) (l0_0:List (S44)) (a0_1:Int) (a0_2:Bool) (A1_0:Option Addr) (c1_0:Nat) (l1_0:List (S44)) (a1_1:Int) (a1_2:Bool) (r:Bool) (w:World) (hr0_0:Kd.C k44 w A0_0 l0_0.length l0_0) (hc0_0:l0_0.length≤c0_0) (hr1_0:Kd.C k44 w A1_0 l1_0.length l1_0) (hc1_0:l1_0.length≤c1_0) (h:laws_lpServer.f k l0_0 a0_1 a0_2 l1_0 a1_1 a1_2=some r) :
  Calls Tryd.prog 29 #[.agg #[.slice A0_0 l0_0.length c0_0,.int .i64 a0_1,.bool a0_2],.agg #[.slice A1_0 l1_0.length c1_0,.int .i64 a1_1,.bool a1_2]] w fun e w'=>e=.returned (.bool r)∧Below w.heap.size w w':=by
 have hu25:=Tryd.underlying25
 have HR0_0:=a_ hr0_0
 have HC0_0:=a_ hc0_0
 clear hr0_0 hc0_0
 have HR1_0:=a_ hr1_0
 have HC1_0:=a_ hc1_0
 clear hr1_0 hc1_0
 have HB:=a_ (Below.refl w.heap.size w)
 unfold laws_lpServer.f at h
 have H:=h
 clear h
 replace H:=bs_ H
 obtain ⟨t746,A30,H⟩:=H
 try dsimp only at H
 have A3:=a_ A30
 clear A30
 by_cases c4:t746=true
 ·subst c4
  have H1:(if a0_1=a1_1 then (some (a0_2==a1_2)) else (some false))=some r:=by rw [if_pos rfl] at H;exact H
  clear H
  have H:=H1
  clear H1
  by_cases c5:a0_1=a1_1
  ·rw [if_pos c5] at H
   have c5b0:(a0_1==a1_1)=true:=beq_iff_eq.mpr c5
   have c5b1:(a0_1 != a1_1)=false:=be_ c5
   clear c5
   obtain rfl:=sj_ H
   go_enter Tryd.func29,Tryd.ntmps29
   go_wp2_with (first|((with_reducible refine gD_ (N:=2) rfl ?_);refine bx_ 2 (#[.slice A0_0 l0_0.length c0_0,.int .i64 a0_1,.bool a0_2]) 25 ?_;intro gb744 hg w6 hbox hb;have n0_:=a_ (bS_ (bel_) hb);have n1_:=a_ (hbox);have n2_:=a_ ((by rw [hg];exact (below_size (bel_)):w.heap.size≤gb744));have n3_:=a_ ((by rw [hg];exact (below_size (bel_)):w.heap.size≤gb744));clear HB;have HB:=n0_;have BK744:=n1_;have GW744:=n2_;have GE744:=n3_;clear n0_ n1_ n2_ n3_;clear hb hbox hg)|((with_reducible refine gD_ (N:=3) rfl ?_);refine bx_ 3 (#[.slice A1_0 l1_0.length c1_0,.int .i64 a1_1,.bool a1_2]) 25 ?_;intro gb745 hg w7 hbox hb;have n0_:=a_ (bb_ BK744.out hb);have n1_:=a_ (bS_ (bel_) hb);have n2_:=a_ (hbox);have n3_:=a_ ((by rw [hg];exact (below_size (bel_)):w.heap.size≤gb745));have n4_:=a_ ((by rw [hg];exact (below_size (bel_)):w.heap.size≤gb745));have n5_:=a_ ((by rw [hg];exact Nat.ne_of_lt (blk_lt (g:=gb744) (o:=.cells #[.slice A0_0 l0_0.length c0_0,.int .i64 a0_1,.bool a0_2] 25 (0,0)) (bp_ BK744.out)):gb744≠gb745));have n6_:=a_ ((by rw [hg];exact Nat.ne_of_gt (blk_lt (g:=gb744) (o:=.cells #[.slice A0_0 l0_0.length c0_0,.int .i64 a0_1,.bool a0_2] 25 (0,0)) (bp_ BK744.out)):gb745≠gb744));clear BK744;clear HB;have BK744:=n0_;have HB:=n1_;have BK745:=n2_;have GW745:=n3_;have GE745:=n4_;have NB744_745:=n5_;have NB745_744:=n6_;clear n0_ n1_ n2_ n3_ n4_ n5_ n6_;clear hb hbox hg;have hnb8:=NB744_745.out;have hnc8:=NB745_744.out;obtain ⟨Z9_0,Z9_1,Z9_2,Y9_0,Y9_1,Y9_2⟩:=op3_ BK744.out;obtain ⟨Z10_0,Z10_1,Z10_2,Y10_0,Y10_1,Y10_2⟩:=op3_ BK745.out)|((with_reducible refine gC_ (f:=32) rfl ?_);refine gl_ 9 Tryd.func32 #[.slice A0_0 l0_0.length c0_0,.slice A1_0 l1_0.length c1_0] ?_;(with_reducible refine (laws_lpLog.calls k _ _ l0_0 _ _ l1_0 true _ ?side1 ?side2 ?side3 ?side4 A3.out).mono ?_);(case side1=>exact cp_ HR0_0.out);(case side2=>exact HC0_0.out);(case side3=>exact cx_ (Kd.C_below HR1_0.out HB.out));(case side4=>exact HC1_0.out);rintro e w' ⟨rfl,⟨nd,rfl⟩⟩;refine ⟨_,rfl,?_⟩))
   go_ret
   exact ⟨fi_,bel_⟩
  ·rw [if_neg c5] at H
   have c5b0:(a0_1==a1_1)=false:=bn_ c5
   have c5b1:(a0_1 != a1_1)=true:=bne_iff_ne.mpr c5
   obtain rfl:=sj_ H
   go_enter Tryd.func29,Tryd.ntmps29
   go_wp2_with (first|((with_reducible refine gD_ (N:=2) rfl ?_);refine bx_ 2 (#[.slice A0_0 l0_0.length c0_0,.int .i64 a0_1,.bool a0_2]) 25 ?_;intro gb744 hg w11 hbox hb;have n0_:=a_ (bS_ (bel_) hb);have n1_:=a_ (hbox);have n2_:=a_ ((by rw [hg];exact (below_size (bel_)):w.heap.size≤gb744));have n3_:=a_ ((by rw [hg];exact (below_size (bel_)):w.heap.size≤gb744));clear HB;have HB:=n0_;have BK744:=n1_;have GW744:=n2_;have GE744:=n3_;clear n0_ n1_ n2_ n3_;clear hb hbox hg)|((with_reducible refine gD_ (N:=3) rfl ?_);refine bx_ 3 (#[.slice A1_0 l1_0.length c1_0,.int .i64 a1_1,.bool a1_2]) 25 ?_;intro gb745 hg w12 hbox hb;have n0_:=a_ (bb_ BK744.out hb);have n1_:=a_ (bS_ (bel_) hb);have n2_:=a_ (hbox);have n3_:=a_ ((by rw [hg];exact (below_size (bel_)):w.heap.size≤gb745));have n4_:=a_ ((by rw [hg];exact (below_size (bel_)):w.heap.size≤gb745));have n5_:=a_ ((by rw [hg];exact Nat.ne_of_lt (blk_lt (g:=gb744) (o:=.cells #[.slice A0_0 l0_0.length c0_0,.int .i64 a0_1,.bool a0_2] 25 (0,0)) (bp_ BK744.out)):gb744≠gb745));have n6_:=a_ ((by rw [hg];exact Nat.ne_of_gt (blk_lt (g:=gb744) (o:=.cells #[.slice A0_0 l0_0.length c0_0,.int .i64 a0_1,.bool a0_2] 25 (0,0)) (bp_ BK744.out)):gb745≠gb744));clear BK744;clear HB;have BK744:=n0_;have HB:=n1_;have BK745:=n2_;have GW745:=n3_;have GE745:=n4_;have NB744_745:=n5_;have NB745_744:=n6_;clear n0_ n1_ n2_ n3_ n4_ n5_ n6_;clear hb hbox hg;have hnb13:=NB744_745.out;have hnc13:=NB745_744.out;obtain ⟨Z14_0,Z14_1,Z14_2,Y14_0,Y14_1,Y14_2⟩:=op3_ BK744.out;obtain ⟨Z15_0,Z15_1,Z15_2,Y15_0,Y15_1,Y15_2⟩:=op3_ BK745.out)|((with_reducible refine gC_ (f:=32) rfl ?_);refine gl_ 9 Tryd.func32 #[.slice A0_0 l0_0.length c0_0,.slice A1_0 l1_0.length c1_0] ?_;(with_reducible refine (laws_lpLog.calls k _ _ l0_0 _ _ l1_0 true _ ?side1 ?side2 ?side3 ?side4 A3.out).mono ?_);(case side1=>exact cp_ HR0_0.out);(case side2=>exact HC0_0.out);(case side3=>exact cx_ (Kd.C_below HR1_0.out HB.out));(case side4=>exact HC1_0.out);rintro e w' ⟨rfl,⟨nd,rfl⟩⟩;refine ⟨_,rfl,?_⟩))
   go_ret
   exact ⟨fi_,bel_⟩
 ·replace c4:=Bool.eq_false_iff.mpr c4
  subst c4
  have H1:(some false)=some r:=by rw [if_neg (show ¬ (false=true) by decide)] at H;exact H
  clear H
  have H:=H1
  clear H1
  obtain rfl:=sj_ H
  go_enter Tryd.func29,Tryd.ntmps29
  go_wp2_with (first|((with_reducible refine gD_ (N:=2) rfl ?_);refine bx_ 2 (#[.slice A0_0 l0_0.length c0_0,.int .i64 a0_1,.bool a0_2]) 25 ?_;intro gb744 hg w16 hbox hb;have n0_:=a_ (bS_ (bel_) hb);have n1_:=a_ (hbox);have n2_:=a_ ((by rw [hg];exact (below_size (bel_)):w.heap.size≤gb744));have n3_:=a_ ((by rw [hg];exact (below_size (bel_)):w.heap.size≤gb744));clear HB;have HB:=n0_;have BK744:=n1_;have GW744:=n2_;have GE744:=n3_;clear n0_ n1_ n2_ n3_;clear hb hbox hg)|((with_reducible refine gD_ (N:=3) rfl ?_);refine bx_ 3 (#[.slice A1_0 l1_0.length c1_0,.int .i64 a1_1,.bool a1_2]) 25 ?_;intro gb745 hg w17 hbox hb;have n0_:=a_ (bb_ BK744.out hb);have n1_:=a_ (bS_ (bel_) hb);have n2_:=a_ (hbox);have n3_:=a_ ((by rw [hg];exact (below_size (bel_)):w.heap.size≤gb745));have n4_:=a_ ((by rw [hg];exact (below_size (bel_)):w.heap.size≤gb745));have n5_:=a_ ((by rw [hg];exact Nat.ne_of_lt (blk_lt (g:=gb744) (o:=.cells #[.slice A0_0 l0_0.length c0_0,.int .i64 a0_1,.bool a0_2] 25 (0,0)) (bp_ BK744.out)):gb744≠gb745));have n6_:=a_ ((by rw [hg];exact Nat.ne_of_gt (blk_lt (g:=gb744) (o:=.cells #[.slice A0_0 l0_0.length c0_0,.int .i64 a0_1,.bool a0_2] 25 (0,0)) (bp_ BK744.out)):gb745≠gb744));clear BK744;clear HB;have BK744:=n0_;have HB:=n1_;have BK745:=n2_;have GW745:=n3_;have GE745:=n4_;have NB744_745:=n5_;have NB745_744:=n6_;clear n0_ n1_ n2_ n3_ n4_ n5_ n6_;clear hb hbox hg;have hnb18:=NB744_745.out;have hnc18:=NB745_744.out;obtain ⟨Z19_0,Z19_1,Z19_2,Y19_0,Y19_1,Y19_2⟩:=op3_ BK744.out;obtain ⟨Z20_0,Z20_1,Z20_2,Y20_0,Y20_1,Y20_2⟩:=op3_ BK745.out)|((with_reducible refine gC_ (f:=32) rfl ?_);refine gl_ 9 Tryd.func32 #[.slice A0_0 l0_0.length c0_0,.slice A1_0 l1_0.length c1_0] ?_;(with_reducible refine (laws_lpLog.calls k _ _ l0_0 _ _ l1_0 false _ ?side1 ?side2 ?side3 ?side4 A3.out).mono ?_);(case side1=>exact cp_ HR0_0.out);(case side2=>exact HC0_0.out);(case side3=>exact cx_ (Kd.C_below HR1_0.out HB.out));(case side4=>exact HC1_0.out);rintro e w' ⟨rfl,⟨nd,rfl⟩⟩;refine ⟨_,rfl,?_⟩))
  go_ret
  exact ⟨fi_,bel_⟩

end Go.Proofs.YtdpklbomhdpimaaDoor.P
