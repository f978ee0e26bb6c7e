/- Joined by a program (wip/shake.py): the declarations that 'YtdpklbomhdpimaaDoorCardFnExactClientDo' reaches. -/
import Derived.Test.YtdpklbomhdpimaaDoorZLm3
set_option linter.unusedVariables false
set_option linter.unusedSimpArgs false
set_option linter.unusedSectionVars false
set_option maxHeartbeats 8000000
set_option maxRecDepth 100000
namespace Go.Proofs.YtdpklbomhdpimaaDoor.P
open Go.RowKit Go.Proofs.YtdpklbomhdpimaaDoorW.PrintWords Go.Proofs.YtdpklbomhdpimaaDoorW.PrintLast
theorem spec_l21Do.calls (k:Nat) (a0_0:Int) (a0_1:Int) (P0_2_:Nat→Prop) (u9000_:Value) (l0_2:List (S69)) (P0_3_:Nat→Prop) (u9001_:Value) (l0_3:List (S44)) (a0_4:Int) (a0_5:Int) (a1_0:Int) (a1_1:Int) (a1_2:Int) (a1_3:Int) (a1_4:ByteArray) (r1:Int) (r2:Int) (r3:List (S69)) (r4:List (S44)) (r5:Int) (r6:Int) (r7:Bool) (w0 w:World) (hB:Below w0.heap.size w0 w) (ho0_2:Kd.R k69 69 w w0.heap.size P0_2_ u9000_ l0_2) (ho0_3:Kd.R k44 44 w w0.heap.size P0_3_ u9001_ l0_3) (h:spec_l21Do.f k a0_0 a0_1 l0_2 l0_3 a0_4 a0_5 a1_0 a1_1 a1_2 a1_3 a1_4=some (r1,r2,r3,r4,r5,r6,r7)) :
  Calls Tryd.prog 112 #[.agg #[.int .i64 a0_0,.int .i64 a0_1,u9000_,u9001_,.int .i64 a0_4,.int .i64 a0_5],.agg #[.int .i64 a1_0,.int .i64 a1_1,.int .i64 a1_2,.int .i64 a1_3,.string a1_4]] w fun e w'=>∃ v2_ v3_:Value,e=.returned (.tuple #[.agg #[.int .i64 r1,.int .i64 r2,v2_,v3_,.int .i64 r5,.int .i64 r6],.bool r7])∧Kd.R k69 69 w' w0.heap.size (fun k_=>((P0_2_ k_∨P0_3_ k_)∨w.heap.size≤k_)) v2_ r3∧Kd.R k44 44 w' w0.heap.size (fun k_=>((P0_2_ k_∨P0_3_ k_)∨w.heap.size≤k_)) v3_ r4∧Below w0.heap.size w0 w'∧Kept w w' (fun k_=>P0_2_ k_∨P0_3_ k_):=by
 have hu77:=Tryd.underlying77
 have hu42:=Tryd.underlying42
 have hu44:=Tryd.underlying44
 have HO0_2:=a_ (show Kd.R k69 69 w w0.heap.size (fun k_=>((P0_2_ k_∨P0_3_ k_)∨w.heap.size≤k_)) u9000_ l0_2 from Kd.R_mono ho0_2 (fun k_ hk=>(.inl (.inl hk))))
 have HO0_3:=a_ (show Kd.R k44 44 w w0.heap.size (fun k_=>((P0_2_ k_∨P0_3_ k_)∨w.heap.size≤k_)) u9001_ l0_3 from Kd.R_mono ho0_3 (fun k_ hk=>(.inl (.inr hk))))
 have HK:=a_ (Kept.refl w (fun k_=>P0_2_ k_∨P0_3_ k_))
 have HW0:=a_ hB.size
 have HB:=a_ hB
 clear hB
 unfold spec_l21Do.f at h
 have H:=h
 clear h
 have HC3:=a_ H
 clear H
 obtain ⟨Ao4,co4,eo4⟩:=Kd.R_slice HO0_2.out
 subst eo4
 obtain ⟨Ao5,co5,eo5⟩:=Kd.R_slice HO0_3.out
 subst eo5
 go_enter Tryd.func112,Tryd.ntmps112
 go_upto_region 2 with (first|((with_reducible refine gD_ (N:=2) rfl ?_);refine bx_ 2 (#[.int .i64 a0_0,.int .i64 a0_1,.slice Ao4 l0_2.length co4,.slice Ao5 l0_3.length co5,.int .i64 a0_4,.int .i64 a0_5]) 77 ?_;intro gb274 hg w6 hbox hb;have n0_:=a_ (Kd.R_below (rp_ HO0_2.out) hb);have n1_:=a_ (Kd.R_below (rp_ HO0_3.out) hb);have n2_:=a_ (Kept.below (S:=(fun k_=>P0_2_ k_∨P0_3_ k_)) (by repeat (first|(with_reducible first|exact HK.out|apply Kept.alloc|apply Kept.drewN|apply Kept.drew)|exact HK.out)) hb);have n3_:=a_ (bS_ (bel_) hb);have n4_:=a_ (hbox);have n5_:=a_ ((by rw [hg];exact (by first|exact HK.out.1|exact (show Kept w _ (fun k_=>P0_2_ k_∨P0_3_ k_) from by repeat (first|(with_reducible first|exact HK.out|apply Kept.alloc|apply Kept.drewN|apply Kept.drew)|exact HK.out)).1):w.heap.size≤gb274));have n6_:=a_ ((by rw [hg];exact (below_size (bel_)):w0.heap.size≤gb274));clear HO0_2;clear HO0_3;clear HK;clear HB;have HO0_2:=n0_;have HO0_3:=n1_;have HK:=n2_;have HB:=n3_;have BK274:=n4_;have GW274:=n5_;have GE274:=n6_;clear n0_ n1_ n2_ n3_ n4_ n5_ n6_;clear hb hbox hg)|((with_reducible refine gD_ (N:=3) rfl ?_);refine bx_ 3 (#[.int .i64 a1_0,.int .i64 a1_1,.int .i64 a1_2,.int .i64 a1_3,.string a1_4]) 42 ?_;intro gb275 hg w7 hbox hb;have n0_:=a_ (Kd.R_below (rp_ HO0_2.out) hb);have n1_:=a_ (Kd.R_below (rp_ HO0_3.out) hb);have n2_:=a_ (bb_ BK274.out hb);have n3_:=a_ (Kept.below (S:=(fun k_=>P0_2_ k_∨P0_3_ k_)) (by repeat (first|(with_reducible first|exact HK.out|apply Kept.alloc|apply Kept.drewN|apply Kept.drew|refine Kept.setCell ?_ (.inr GW274.out) _)|exact HK.out)) hb);have n4_:=a_ (bS_ (bel_) hb);have n5_:=a_ (hbox);have n6_:=a_ ((by rw [hg];exact (by first|exact HK.out.1|exact (show Kept w _ (fun k_=>P0_2_ k_∨P0_3_ k_) from by repeat (first|(with_reducible first|exact HK.out|apply Kept.alloc|apply Kept.drewN|apply Kept.drew|refine Kept.setCell ?_ (.inr GW274.out) _)|exact HK.out)).1):w.heap.size≤gb275));have n7_:=a_ ((by rw [hg];exact (below_size (bel_)):w0.heap.size≤gb275));have n8_:=a_ ((by rw [hg];exact Nat.ne_of_lt (blk_lt (g:=gb274) (o:=.cells #[.int .i64 a0_0,.int .i64 a0_1,.slice Ao4 l0_2.length co4,.slice Ao5 l0_3.length co5,.int .i64 a0_4,.int .i64 a0_5] 77 (0,0)) (bp_ BK274.out)):gb274≠gb275));have n9_:=a_ ((by rw [hg];exact Nat.ne_of_gt (blk_lt (g:=gb274) (o:=.cells #[.int .i64 a0_0,.int .i64 a0_1,.slice Ao4 l0_2.length co4,.slice Ao5 l0_3.length co5,.int .i64 a0_4,.int .i64 a0_5] 77 (0,0)) (bp_ BK274.out)):gb275≠gb274));clear HO0_2;clear HO0_3;clear BK274;clear HK;clear HB;have HO0_2:=n0_;have HO0_3:=n1_;have BK274:=n2_;have HK:=n3_;have HB:=n4_;have BK275:=n5_;have GW275:=n6_;have GE275:=n7_;have NB274_275:=n8_;have NB275_274:=n9_;clear n0_ n1_ n2_ n3_ n4_ n5_ n6_ n7_ n8_ n9_;clear hb hbox hg)|((with_reducible refine gD_ (N:=4) rfl ?_);refine bx_ 4 (#[.int .i64 0,.int .i64 0,.slice none 0 0,.slice none 0 0,.int .i64 0,.int .i64 0]) 77 ?_;intro gb276 hg w8 hbox hb;have n0_:=a_ (Kd.R_below (rp_ HO0_2.out) hb);have n1_:=a_ (Kd.R_below (rp_ HO0_3.out) hb);have n2_:=a_ (bb_ BK274.out hb);have n3_:=a_ (bb_ BK275.out hb);have n4_:=a_ (Kept.below (S:=(fun k_=>P0_2_ k_∨P0_3_ k_)) (by repeat (first|(with_reducible first|exact HK.out|apply Kept.alloc|apply Kept.drewN|apply Kept.drew|refine Kept.setCell ?_ (.inr GW274.out) _|refine Kept.setCell ?_ (.inr GW275.out) _)|exact HK.out)) hb);have n5_:=a_ (bS_ (bel_) hb);have n6_:=a_ (hbox);have n7_:=a_ ((by rw [hg];exact (by first|exact HK.out.1|exact (show Kept w _ (fun k_=>P0_2_ k_∨P0_3_ k_) from by repeat (first|(with_reducible first|exact HK.out|apply Kept.alloc|apply Kept.drewN|apply Kept.drew|refine Kept.setCell ?_ (.inr GW274.out) _|refine Kept.setCell ?_ (.inr GW275.out) _)|exact HK.out)).1):w.heap.size≤gb276));have n8_:=a_ ((by rw [hg];exact (below_size (bel_)):w0.heap.size≤gb276));have n9_:=a_ ((by rw [hg];exact Nat.ne_of_lt (blk_lt (g:=gb274) (o:=.cells #[.int .i64 a0_0,.int .i64 a0_1,.slice Ao4 l0_2.length co4,.slice Ao5 l0_3.length co5,.int .i64 a0_4,.int .i64 a0_5] 77 (0,0)) (bp_ BK274.out)):gb274≠gb276));have n10_:=a_ ((by rw [hg];exact Nat.ne_of_gt (blk_lt (g:=gb274) (o:=.cells #[.int .i64 a0_0,.int .i64 a0_1,.slice Ao4 l0_2.length co4,.slice Ao5 l0_3.length co5,.int .i64 a0_4,.int .i64 a0_5] 77 (0,0)) (bp_ BK274.out)):gb276≠gb274));have n11_:=a_ ((by rw [hg];exact Nat.ne_of_lt (blk_lt (g:=gb275) (o:=.cells #[.int .i64 a1_0,.int .i64 a1_1,.int .i64 a1_2,.int .i64 a1_3,.string a1_4] 42 (0,0)) (bp_ BK275.out)):gb275≠gb276));have n12_:=a_ ((by rw [hg];exact Nat.ne_of_gt (blk_lt (g:=gb275) (o:=.cells #[.int .i64 a1_0,.int .i64 a1_1,.int .i64 a1_2,.int .i64 a1_3,.string a1_4] 42 (0,0)) (bp_ BK275.out)):gb276≠gb275));clear HO0_2;clear HO0_3;clear BK274;clear BK275;clear HK;clear HB;have HO0_2:=n0_;have HO0_3:=n1_;have BK274:=n2_;have BK275:=n3_;have HK:=n4_;have HB:=n5_;have BK276:=n6_;have GW276:=n7_;have GE276:=n8_;have NB274_276:=n9_;have NB276_274:=n10_;have NB275_276:=n11_;have NB276_275:=n12_;clear n0_ n1_ n2_ n3_ n4_ n5_ n6_ n7_ n8_ n9_ n10_ n11_ n12_;clear hb hbox hg;have hnb9:=NB274_275.out;have hnc9:=NB275_274.out;have hnb10:=NB274_276.out;have hnc10:=NB276_274.out;obtain ⟨Z11_0,Z11_1,Z11_2,Z11_3,Z11_4,Z11_5,Y11_0,Y11_1,Y11_2,Y11_3,Y11_4,Y11_5⟩:=op6_ BK274.out;have hnb12:=NB275_276.out;have hnc12:=NB276_275.out;obtain ⟨Z13_0,Z13_1,Z13_2,Z13_3,Z13_4,Y13_0,Y13_1,Y13_2,Y13_3,Y13_4⟩:=op5_ BK275.out)|((with_reducible refine gD_ (N:=6) rfl ?_);refine bx_ 6 (#[.int .i64 0,.int .i64 0,.int .i64 0,.int .i64 0,.int .i64 0,.int .i64 0,.string (⟨#[]⟩:ByteArray)]) 44 ?_;intro gb277 hg w14 hbox hb;have n0_:=a_ (Kd.R_below (rp_ HO0_2.out) hb);have n1_:=a_ (Kd.R_below (Kd.R_elderB (rp_ HO0_3.out) gb277 (Nat.le_of_eq hg.symm)) hb);have n2_:=a_ (bb_ BK274.out hb);have n3_:=a_ (bb_ BK275.out hb);have n4_:=a_ (bb_ BK276.out hb);have n5_:=a_ (Kept.below (S:=(fun k_=>P0_2_ k_∨P0_3_ k_)) (by repeat (first|(with_reducible first|exact HK.out|apply Kept.alloc|apply Kept.drewN|apply Kept.drew|refine Kept.setCell ?_ (.inr GW274.out) _|refine Kept.setCell ?_ (.inr GW275.out) _|refine Kept.setCell ?_ (.inr GW276.out) _)|exact HK.out)) hb);have n6_:=a_ (bS_ (bel_) hb);have n7_:=a_ (hbox);have n8_:=a_ ((by rw [hg];exact (by first|exact HK.out.1|exact (show Kept w _ (fun k_=>P0_2_ k_∨P0_3_ k_) from by repeat (first|(with_reducible first|exact HK.out|apply Kept.alloc|apply Kept.drewN|apply Kept.drew|refine Kept.setCell ?_ (.inr GW274.out) _|refine Kept.setCell ?_ (.inr GW275.out) _|refine Kept.setCell ?_ (.inr GW276.out) _)|exact HK.out)).1):w.heap.size≤gb277));have n9_:=a_ ((by rw [hg];exact (below_size (bel_)):w0.heap.size≤gb277));have n10_:=a_ ((by rw [hg];exact Nat.ne_of_lt (blk_lt (g:=gb274) (o:=.cells #[.int .i64 a0_0,.int .i64 a0_1,.slice Ao4 l0_2.length co4,.slice Ao5 l0_3.length co5,.int .i64 a0_4,.int .i64 a0_5] 77 (0,0)) (bp_ BK274.out)):gb274≠gb277));have n11_:=a_ ((by rw [hg];exact Nat.ne_of_gt (blk_lt (g:=gb274) (o:=.cells #[.int .i64 a0_0,.int .i64 a0_1,.slice Ao4 l0_2.length co4,.slice Ao5 l0_3.length co5,.int .i64 a0_4,.int .i64 a0_5] 77 (0,0)) (bp_ BK274.out)):gb277≠gb274));have n12_:=a_ ((by rw [hg];exact Nat.ne_of_lt (blk_lt (g:=gb275) (o:=.cells #[.int .i64 a1_0,.int .i64 a1_1,.int .i64 a1_2,.int .i64 a1_3,.string a1_4] 42 (0,0)) (bp_ BK275.out)):gb275≠gb277));have n13_:=a_ ((by rw [hg];exact Nat.ne_of_gt (blk_lt (g:=gb275) (o:=.cells #[.int .i64 a1_0,.int .i64 a1_1,.int .i64 a1_2,.int .i64 a1_3,.string a1_4] 42 (0,0)) (bp_ BK275.out)):gb277≠gb275));have n14_:=a_ ((by rw [hg];exact Nat.ne_of_lt (blk_lt (g:=gb276) (o:=.cells #[.int .i64 0,.int .i64 0,.slice none 0 0,.slice none 0 0,.int .i64 0,.int .i64 0] 77 (0,0)) (bp_ BK276.out)):gb276≠gb277));have n15_:=a_ ((by rw [hg];exact Nat.ne_of_gt (blk_lt (g:=gb276) (o:=.cells #[.int .i64 0,.int .i64 0,.slice none 0 0,.slice none 0 0,.int .i64 0,.int .i64 0] 77 (0,0)) (bp_ BK276.out)):gb277≠gb276));clear HO0_2;clear HO0_3;clear BK274;clear BK275;clear BK276;clear HK;clear HB;have HO0_2:=n0_;have HO0_3:=n1_;have BK274:=n2_;have BK275:=n3_;have BK276:=n4_;have HK:=n5_;have HB:=n6_;have BK277:=n7_;have GW277:=n8_;have GE277:=n9_;have NB274_277:=n10_;have NB277_274:=n11_;have NB275_277:=n12_;have NB277_275:=n13_;have NB276_277:=n14_;have NB277_276:=n15_;clear n0_ n1_ n2_ n3_ n4_ n5_ n6_ n7_ n8_ n9_ n10_ n11_ n12_ n13_ n14_ n15_;clear hb hbox hg;have hnb15:=NB277_274.out;have hnc15:=NB274_277.out;have hnb16:=NB277_275.out;have hnc16:=NB275_277.out;have hnb17:=NB277_276.out;have hnc17:=NB276_277.out;obtain ⟨Z18_0,Z18_1,Z18_2,Z18_3,Z18_4,Z18_5,Z18_6,Y18_0,Y18_1,Y18_2,Y18_3,Y18_4,Y18_5,Y18_6⟩:=op7_ BK277.out))
 (try simp only [Act.put,List.setIfInBounds_toArray,List.set_cons_zero,List.set_cons_succ])
 go_cut [36] (fun v36 wc=>∃ (kq:Nat) (x36_2:Bool),v36=.bool x36_2∧Aside0 (spec_l21Do.j0 kq x36_2 a0_0 a0_1 l0_2 l0_3 a0_4 a0_5 a1_0 a1_1 a1_2 a1_3 a1_4 a0_0 (wrap64 ((wrap64 (a0_4+(l0_3.length:Int)))+1)) a1_0 a1_1 a1_2 a1_3 a1_4=some (r1,r2,r3,r4,r5,r6,r7))∧Aside0 (kq≤k)∧Aside0 (Kd.R k69 69 wc w0.heap.size (fun k_=>((P0_2_ k_∨P0_3_ k_)∨w.heap.size≤k_)) (.slice Ao4 l0_2.length co4) l0_2)∧Aside0 (Kd.R k44 44 wc w0.heap.size (fun k_=>((P0_2_ k_∨P0_3_ k_)∨w.heap.size≤k_)∧k_≠gb277) (.slice Ao5 l0_3.length co5) l0_3)∧Aside0 (wc.heap[gb274]?=some (.cells #[.int .i64 a0_0,.int .i64 a0_1,(.slice Ao4 l0_2.length co4),(.slice Ao5 l0_3.length co5),.int .i64 a0_4,.int .i64 a0_5] 77 (0,0)))∧Aside0 (wc.heap[gb275]?=some (.cells #[.int .i64 a1_0,.int .i64 a1_1,.int .i64 a1_2,.int .i64 a1_3,.string a1_4] 42 (0,0)))∧Aside0 (wc.heap[gb276]?=some (.cells #[.int .i64 0,.int .i64 0,(.slice none 0 0),(.slice none 0 0),.int .i64 0,.int .i64 0] 77 (0,0)))∧Aside0 (wc.heap[gb277]?=some (.cells #[.int .i64 a0_0,.int .i64 (wrap64 ((wrap64 (a0_4+(l0_3.length:Int)))+1)),.int .i64 a1_0,.int .i64 a1_1,.int .i64 a1_2,.int .i64 a1_3,.string a1_4] 44 (0,0)))∧Aside0 (Kept w wc (fun k_=>P0_2_ k_∨P0_3_ k_))∧Aside0 (Below w0.heap.size w0 wc))
 case first =>
  have H:=HC3.out
  clear HC3
  replace H:=bs_ H
  obtain ⟨t278,A190,H⟩:=H
  try dsimp only at H
  have A19:=a_ A190
  clear A190
  by_cases c20:t278=true
  ·subst c20
   have H1:(if a1_0=1 then ((spec_RowMade.f a0_0 (wrap64 (a0_5+1))).bind fun t279=>(spec_l21Do.j0 k (a1_1 != t279) a0_0 a0_1 l0_2 l0_3 a0_4 a0_5 a1_0 a1_1 a1_2 a1_3 a1_4 a0_0 (wrap64 ((wrap64 (a0_4+(l0_3.length:Int)))+1)) a1_0 a1_1 a1_2 a1_3 a1_4)) else (spec_l21Do.j0 k false a0_0 a0_1 l0_2 l0_3 a0_4 a0_5 a1_0 a1_1 a1_2 a1_3 a1_4 a0_0 (wrap64 ((wrap64 (a0_4+(l0_3.length:Int)))+1)) a1_0 a1_1 a1_2 a1_3 a1_4))=some (r1,r2,r3,r4,r5,r6,r7):=by rw [if_pos rfl] at H;exact H
   clear H
   have H:=H1
   clear H1
   by_cases c21:a1_0=1
   ·rw [if_pos c21] at H
    have c21b0:(a1_0==1)=true:=beq_iff_eq.mpr c21
    have c21b1:(a1_0 != 1)=false:=be_ c21
    clear c21
    (first|rw [c21b0]|(simp only [i64_w,i32_w];rw [c21b0])|skip)
    replace H:=bs_ H
    obtain ⟨t279,A220,H⟩:=H
    try dsimp only at H
    have A22:=a_ A220
    clear A220
    have H':=a_ H
    clear H
    try go_wp2
    have n0_:Aside0 (Kd.R k69 69 (((((((w14.setCell ⟨gb277,0,none⟩ (.int .i64 a0_0)).setCell ⟨gb277,1,none⟩ (.int .i64 (wrap64 ((wrap64 (a0_4+(l0_3.length:Int)))+1)))).setCell ⟨gb277,2,none⟩ (.int .i64 a1_0)).setCell ⟨gb277,3,none⟩ (.int .i64 a1_1)).setCell ⟨gb277,4,none⟩ (.int .i64 a1_2)).setCell ⟨gb277,5,none⟩ (.int .i64 a1_3)).setCell ⟨gb277,6,none⟩ (.string a1_4)) w0.heap.size (fun k_=>((P0_2_ k_∨P0_3_ k_)∨w.heap.size≤k_)) (.slice Ao4 l0_2.length co4) l0_2):=⟨by (with_reducible repeat (first|apply Kd.R_alloc|apply Kd.R_drewN|apply Kd.R_drew));exact Kd.R_mono (rf7_ (g:=gb277) (Kd.R_types HO0_2.out BK277.out (by decide)) (fun _ hk=>hk.2) (.int .i64 a0_0) (.int .i64 (wrap64 ((wrap64 (a0_4+(l0_3.length:Int)))+1))) (.int .i64 a1_0) (.int .i64 a1_1) (.int .i64 a1_2) (.int .i64 a1_3) (.string a1_4)) (fun _ hk=>hk.1)⟩
    have n1_:Aside0 (Kd.R k44 44 (((((((w14.setCell ⟨gb277,0,none⟩ (.int .i64 a0_0)).setCell ⟨gb277,1,none⟩ (.int .i64 (wrap64 ((wrap64 (a0_4+(l0_3.length:Int)))+1)))).setCell ⟨gb277,2,none⟩ (.int .i64 a1_0)).setCell ⟨gb277,3,none⟩ (.int .i64 a1_1)).setCell ⟨gb277,4,none⟩ (.int .i64 a1_2)).setCell ⟨gb277,5,none⟩ (.int .i64 a1_3)).setCell ⟨gb277,6,none⟩ (.string a1_4)) w0.heap.size (fun k_=>((P0_2_ k_∨P0_3_ k_)∨w.heap.size≤k_)∧k_≠gb277) (.slice Ao5 l0_3.length co5) l0_3):=⟨by (with_reducible repeat (first|apply Kd.R_alloc|apply Kd.R_drewN|apply Kd.R_drew));exact Kd.R_mono (rf7_ (g:=gb277) (Kd.R_mono HO0_3.out (fun k_ hk=>(⟨hk,hk.2⟩:_∧k_≠gb277))) (fun _ hk=>hk.2) (.int .i64 a0_0) (.int .i64 (wrap64 ((wrap64 (a0_4+(l0_3.length:Int)))+1))) (.int .i64 a1_0) (.int .i64 a1_1) (.int .i64 a1_2) (.int .i64 a1_3) (.string a1_4)) (fun _ hk=>⟨hk.1.1,hk.1.2⟩)⟩
    have n2_:Aside0 ((((((((w14.setCell ⟨gb277,0,none⟩ (.int .i64 a0_0)).setCell ⟨gb277,1,none⟩ (.int .i64 (wrap64 ((wrap64 (a0_4+(l0_3.length:Int)))+1)))).setCell ⟨gb277,2,none⟩ (.int .i64 a1_0)).setCell ⟨gb277,3,none⟩ (.int .i64 a1_1)).setCell ⟨gb277,4,none⟩ (.int .i64 a1_2)).setCell ⟨gb277,5,none⟩ (.int .i64 a1_3)).setCell ⟨gb277,6,none⟩ (.string a1_4)).heap[gb274]?=some (.cells #[.int .i64 a0_0,.int .i64 a0_1,.slice Ao4 l0_2.length co4,.slice Ao5 l0_3.length co5,.int .i64 a0_4,.int .i64 a0_5] 77 (0,0))):=⟨fp1_ NB274_277.out BK274.out⟩
    have n3_:Aside0 ((((((((w14.setCell ⟨gb277,0,none⟩ (.int .i64 a0_0)).setCell ⟨gb277,1,none⟩ (.int .i64 (wrap64 ((wrap64 (a0_4+(l0_3.length:Int)))+1)))).setCell ⟨gb277,2,none⟩ (.int .i64 a1_0)).setCell ⟨gb277,3,none⟩ (.int .i64 a1_1)).setCell ⟨gb277,4,none⟩ (.int .i64 a1_2)).setCell ⟨gb277,5,none⟩ (.int .i64 a1_3)).setCell ⟨gb277,6,none⟩ (.string a1_4)).heap[gb275]?=some (.cells #[.int .i64 a1_0,.int .i64 a1_1,.int .i64 a1_2,.int .i64 a1_3,.string a1_4] 42 (0,0))):=⟨fp1_ NB275_277.out BK275.out⟩
    have n4_:Aside0 ((((((((w14.setCell ⟨gb277,0,none⟩ (.int .i64 a0_0)).setCell ⟨gb277,1,none⟩ (.int .i64 (wrap64 ((wrap64 (a0_4+(l0_3.length:Int)))+1)))).setCell ⟨gb277,2,none⟩ (.int .i64 a1_0)).setCell ⟨gb277,3,none⟩ (.int .i64 a1_1)).setCell ⟨gb277,4,none⟩ (.int .i64 a1_2)).setCell ⟨gb277,5,none⟩ (.int .i64 a1_3)).setCell ⟨gb277,6,none⟩ (.string a1_4)).heap[gb276]?=some (.cells #[.int .i64 0,.int .i64 0,.slice none 0 0,.slice none 0 0,.int .i64 0,.int .i64 0] 77 (0,0))):=⟨fp1_ NB276_277.out BK276.out⟩
    have n5_:Aside0 ((((((((w14.setCell ⟨gb277,0,none⟩ (.int .i64 a0_0)).setCell ⟨gb277,1,none⟩ (.int .i64 (wrap64 ((wrap64 (a0_4+(l0_3.length:Int)))+1)))).setCell ⟨gb277,2,none⟩ (.int .i64 a1_0)).setCell ⟨gb277,3,none⟩ (.int .i64 a1_1)).setCell ⟨gb277,4,none⟩ (.int .i64 a1_2)).setCell ⟨gb277,5,none⟩ (.int .i64 a1_3)).setCell ⟨gb277,6,none⟩ (.string a1_4)).heap[gb277]?=some (.cells #[.int .i64 a0_0,.int .i64 (wrap64 ((wrap64 (a0_4+(l0_3.length:Int)))+1)),.int .i64 a1_0,.int .i64 a1_1,.int .i64 a1_2,.int .i64 a1_3,.string a1_4] 44 (0,0))):=⟨k7p_ BK277.out⟩
    have n6_:Aside0 (Kept w (((((((w14.setCell ⟨gb277,0,none⟩ (.int .i64 a0_0)).setCell ⟨gb277,1,none⟩ (.int .i64 (wrap64 ((wrap64 (a0_4+(l0_3.length:Int)))+1)))).setCell ⟨gb277,2,none⟩ (.int .i64 a1_0)).setCell ⟨gb277,3,none⟩ (.int .i64 a1_1)).setCell ⟨gb277,4,none⟩ (.int .i64 a1_2)).setCell ⟨gb277,5,none⟩ (.int .i64 a1_3)).setCell ⟨gb277,6,none⟩ (.string a1_4)) (fun k_=>P0_2_ k_∨P0_3_ k_)):=⟨by repeat (first|(with_reducible first|exact HK.out|apply Kept.alloc|apply Kept.drewN|apply Kept.drew|refine Kept.setCell ?_ (.inr GW274.out) _|refine Kept.setCell ?_ (.inr GW275.out) _|refine Kept.setCell ?_ (.inr GW276.out) _|refine Kept.setCell ?_ (.inr GW277.out) _)|exact HK.out)⟩
    have n7_:Aside0 (Below w0.heap.size w0 (((((((w14.setCell ⟨gb277,0,none⟩ (.int .i64 a0_0)).setCell ⟨gb277,1,none⟩ (.int .i64 (wrap64 ((wrap64 (a0_4+(l0_3.length:Int)))+1)))).setCell ⟨gb277,2,none⟩ (.int .i64 a1_0)).setCell ⟨gb277,3,none⟩ (.int .i64 a1_1)).setCell ⟨gb277,4,none⟩ (.int .i64 a1_2)).setCell ⟨gb277,5,none⟩ (.int .i64 a1_3)).setCell ⟨gb277,6,none⟩ (.string a1_4))):=⟨bel_⟩
    (try clear HO0_2)
    (try clear HO0_3)
    (try clear BK274)
    (try clear BK275)
    (try clear BK276)
    (try clear BK277)
    (try clear HK)
    (try clear HB)
    generalize (((((((w14.setCell ⟨gb277,0,none⟩ (.int .i64 a0_0)).setCell ⟨gb277,1,none⟩ (.int .i64 (wrap64 ((wrap64 (a0_4+(l0_3.length:Int)))+1)))).setCell ⟨gb277,2,none⟩ (.int .i64 a1_0)).setCell ⟨gb277,3,none⟩ (.int .i64 a1_1)).setCell ⟨gb277,4,none⟩ (.int .i64 a1_2)).setCell ⟨gb277,5,none⟩ (.int .i64 a1_3)).setCell ⟨gb277,6,none⟩ (.string a1_4))=w23 at n0_ n1_ n2_ n3_ n4_ n5_ n6_ n7_ ⊢
    have HO0_2:=n0_
    have HO0_3:=n1_
    have BK274:=n2_
    have BK275:=n3_
    have BK276:=n4_
    have BK277:=n5_
    have HK:=n6_
    have HB:=n7_
    clear n0_ n1_ n2_ n3_ n4_ n5_ n6_ n7_
    replace HO0_2:=a_ (Kd.R_drew HO0_2.out)
    replace HO0_3:=a_ (Kd.R_drew HO0_3.out)
    replace BK274:=a_ (bD_ BK274.out)
    replace BK275:=a_ (bD_ BK275.out)
    replace BK276:=a_ (bD_ BK276.out)
    replace BK277:=a_ (bD_ BK277.out)
    replace HK:=a_ (Kept.drew HK.out)
    replace HB:=a_ (below_drew1 HB.out)
    refine start_ (n:=19) (S:=fun w'=>w'.cell? ⟨gb277,0,none⟩=some (.int .i64 a0_0)∧w'.cell? ⟨gb277,1,none⟩=some (.int .i64 (wrap64 ((wrap64 (a0_4+(l0_3.length:Int)))+1)))∧w'.cell? ⟨gb277,2,none⟩=some (.int .i64 a1_0)∧w'.cell? ⟨gb277,3,none⟩=some (.int .i64 a1_1)∧w'.cell? ⟨gb277,4,none⟩=some (.int .i64 a1_2)∧w'.cell? ⟨gb277,5,none⟩=some (.int .i64 a1_3)∧w'.cell? ⟨gb277,6,none⟩=some (.string a1_4)∧w'.cell? ⟨gb275,0,none⟩=some (.int .i64 a1_0)∧w'.cell? ⟨gb275,1,none⟩=some (.int .i64 a1_1)∧w'.cell? ⟨gb275,2,none⟩=some (.int .i64 a1_2)∧w'.cell? ⟨gb275,3,none⟩=some (.int .i64 a1_3)∧w'.cell? ⟨gb275,4,none⟩=some (.string a1_4)∧w'.cell? ⟨gb274,0,none⟩=some (.int .i64 a0_0)∧w'.cell? ⟨gb274,1,none⟩=some (.int .i64 a0_1)∧w'.cell? ⟨gb274,2,none⟩=some (.slice Ao4 l0_2.length co4)∧w'.cell? ⟨gb274,3,none⟩=some (.slice Ao5 l0_3.length co5)∧w'.cell? ⟨gb274,4,none⟩=some (.int .i64 a0_4)∧w'.cell? ⟨gb274,5,none⟩=some (.int .i64 a0_5)) (ds:=[]) #[false,false,false,false,false,false,false,false,false,false,false,false,false,false,false,false,false,false,false] (by kernel_rfl) rfl rfl ⟨(bC_ BK277.out 0).trans rfl,(bC_ BK277.out 1).trans rfl,(bC_ BK277.out 2).trans rfl,(bC_ BK277.out 3).trans rfl,(bC_ BK277.out 4).trans rfl,(bC_ BK277.out 5).trans rfl,(bC_ BK277.out 6).trans rfl,(bC_ BK275.out 0).trans rfl,(bC_ BK275.out 1).trans rfl,(bC_ BK275.out 2).trans rfl,(bC_ BK275.out 3).trans rfl,(bC_ BK275.out 4).trans rfl,(bC_ BK274.out 0).trans rfl,(bC_ BK274.out 1).trans rfl,(bC_ BK274.out 2).trans rfl,(bC_ BK274.out 3).trans rfl,(bC_ BK274.out 4).trans rfl,(bC_ BK274.out 5).trans rfl⟩ (fun hHeld=>?_);refine with_tabW spec_l21Do.tab2 spec_l21Do.bits2 (fun HT_ HW_=>?_)
    generalize w23.drew=w24 at HO0_2 HO0_3 BK274 BK275 BK276 BK277 HK HB hHeld ⊢
    refine ta18_ 0 18 hHeld ?_
    refine on_ 1 19 (fun K hK=>?_)
    refine goes_ Tryd.func30 (by kernel_rfl) rfl #[.agg #[.int .i64 a0_0,.int .i64 (wrap64 ((wrap64 (a0_4+(l0_3.length:Int)))+1)),.int .i64 a1_0,.int .i64 a1_1,.int .i64 a1_2,.int .i64 a1_3,.string a1_4]] (by rfl) rfl rfl ar_ ?_
    with_reducible refine (spec_EntryOk.calls k a0_0 (wrap64 ((wrap64 (a0_4+(l0_3.length:Int)))+1)) a1_0 a1_1 a1_2 a1_3 a1_4 true _ A19.out).mono ?_
    rintro e w25 ⟨rfl,hb⟩
    refine ⟨_,rfl,?_⟩
    replace HO0_2:=a_ (Kd.R_below (rp_ HO0_2.out) hb)
    replace HO0_3:=a_ (Kd.R_below (rp_ HO0_3.out) hb)
    replace HB:=a_ (bS_ (bel_) hb)
    replace BK274:=a_ (bb_ BK274.out hb)
    replace BK275:=a_ (bb_ BK275.out hb)
    replace BK276:=a_ (bb_ BK276.out hb)
    replace BK277:=a_ (bb_ BK277.out hb)
    replace HK:=a_ (Kept.below (S:=(fun k_=>P0_2_ k_∨P0_3_ k_)) (by repeat (first|(with_reducible first|exact HK.out|apply Kept.alloc|apply Kept.drewN|apply Kept.drew|refine Kept.setCell ?_ (.inr GW274.out) _|refine Kept.setCell ?_ (.inr GW275.out) _|refine Kept.setCell ?_ (.inr GW276.out) _|refine Kept.setCell ?_ (.inr GW277.out) _)|exact HK.out)) hb)
    try clear hb
    refine hK.out _ _ ⟨(bC_ BK277.out 0).trans rfl,(bC_ BK277.out 1).trans rfl,(bC_ BK277.out 2).trans rfl,(bC_ BK277.out 3).trans rfl,(bC_ BK277.out 4).trans rfl,(bC_ BK277.out 5).trans rfl,(bC_ BK277.out 6).trans rfl,(bC_ BK275.out 0).trans rfl,(bC_ BK275.out 1).trans rfl,(bC_ BK275.out 2).trans rfl,(bC_ BK275.out 3).trans rfl,(bC_ BK275.out 4).trans rfl,(bC_ BK274.out 0).trans rfl,(bC_ BK274.out 1).trans rfl,(bC_ BK274.out 2).trans rfl,(bC_ BK274.out 3).trans rfl,(bC_ BK274.out 4).trans rfl,(bC_ BK274.out 5).trans rfl⟩ (fun hHeld=>?_)
    clear hK K
    refine no_ 19 ?_
    refine pa_ 2 20 ?_
    refine pa_ 3 21 ?_
    refine pa_ 4 22 ?_
    refine ta18_ 5 23 hHeld ?_
    refine pa_ 6 24 ?_
    refine pa_ 7 25 ?_
    refine pa_ 8 26 ?_
    refine pa_ 10 28 ?_
    refine pa_ 12 30 ?_
    refine ta18_ 9 27 hHeld ?_
    refine ta18_ 11 29 hHeld ?_
    refine ta18_ 13 31 hHeld ?_
    refine pa_ 14 32 ?_
    refine on_ 15 33 (fun K hK=>?_)
    refine goes_ Tryd.func143 (by kernel_rfl) rfl #[.int .i64 a0_0,.int .i64 (wrap64 (a0_5+1))] (by rfl) rfl rfl ar_ ?_
    with_reducible refine (spec_RowMade.calls a0_0 (wrap64 (a0_5+1)) t279 _ A22.out).mono ?_
    rintro e w' ⟨rfl,⟨nd,rfl⟩⟩
    refine ⟨_,rfl,?_⟩
    refine hK.out _ _ ⟨(bC_ BK277.out 0).trans rfl,(bC_ BK277.out 1).trans rfl,(bC_ BK277.out 2).trans rfl,(bC_ BK277.out 3).trans rfl,(bC_ BK277.out 4).trans rfl,(bC_ BK277.out 5).trans rfl,(bC_ BK277.out 6).trans rfl,(bC_ BK275.out 0).trans rfl,(bC_ BK275.out 1).trans rfl,(bC_ BK275.out 2).trans rfl,(bC_ BK275.out 3).trans rfl,(bC_ BK275.out 4).trans rfl,(bC_ BK274.out 0).trans rfl,(bC_ BK274.out 1).trans rfl,(bC_ BK274.out 2).trans rfl,(bC_ BK274.out 3).trans rfl,(bC_ BK274.out 4).trans rfl,(bC_ BK274.out 5).trans rfl⟩ (fun hHeld=>?_)
    clear hK K
    refine no_ 33 ?_
    refine pa_ 16 34 ?_
    refine pa_ 17 35 ?_
    refine pa_ 18 36 ?_
    refine done_ (done_of HT_.out (by kernel_rfl)) ?_
    try go_wp2
    go_meet
    case rel=>exact ⟨_,((a1_1 != t279)),(si_),H',⟨by first|omega|exact Nat.le_refl _⟩,⟨by (with_reducible repeat (first|apply Kd.R_alloc|apply Kd.R_drewN|apply Kd.R_drew));exact HO0_2.out⟩,⟨by (with_reducible repeat (first|apply Kd.R_alloc|apply Kd.R_drewN|apply Kd.R_drew));exact HO0_3.out⟩,⟨bp_ BK274.out⟩,⟨bp_ BK275.out⟩,⟨bp_ BK276.out⟩,⟨bp_ BK277.out⟩,⟨by repeat (first|(with_reducible first|exact HK.out|apply Kept.alloc|apply Kept.drewN|apply Kept.drew|refine Kept.setCell ?_ (.inr GW274.out) _|refine Kept.setCell ?_ (.inr GW275.out) _|refine Kept.setCell ?_ (.inr GW276.out) _|refine Kept.setCell ?_ (.inr GW277.out) _)|exact HK.out)⟩,⟨bel_⟩⟩
   ·rw [if_neg c21] at H
    have c21b0:(a1_0==1)=false:=bn_ c21
    have c21b1:(a1_0 != 1)=true:=bne_iff_ne.mpr c21
    (first|rw [c21b0]|(simp only [i64_w,i32_w];rw [c21b0])|skip)
    have H':=a_ H
    clear H
    try go_wp2
    have n0_:Aside0 (Kd.R k69 69 (((((((w14.setCell ⟨gb277,0,none⟩ (.int .i64 a0_0)).setCell ⟨gb277,1,none⟩ (.int .i64 (wrap64 ((wrap64 (a0_4+(l0_3.length:Int)))+1)))).setCell ⟨gb277,2,none⟩ (.int .i64 a1_0)).setCell ⟨gb277,3,none⟩ (.int .i64 a1_1)).setCell ⟨gb277,4,none⟩ (.int .i64 a1_2)).setCell ⟨gb277,5,none⟩ (.int .i64 a1_3)).setCell ⟨gb277,6,none⟩ (.string a1_4)) w0.heap.size (fun k_=>((P0_2_ k_∨P0_3_ k_)∨w.heap.size≤k_)) (.slice Ao4 l0_2.length co4) l0_2):=⟨by (with_reducible repeat (first|apply Kd.R_alloc|apply Kd.R_drewN|apply Kd.R_drew));exact Kd.R_mono (rf7_ (g:=gb277) (Kd.R_types HO0_2.out BK277.out (by decide)) (fun _ hk=>hk.2) (.int .i64 a0_0) (.int .i64 (wrap64 ((wrap64 (a0_4+(l0_3.length:Int)))+1))) (.int .i64 a1_0) (.int .i64 a1_1) (.int .i64 a1_2) (.int .i64 a1_3) (.string a1_4)) (fun _ hk=>hk.1)⟩
    have n1_:Aside0 (Kd.R k44 44 (((((((w14.setCell ⟨gb277,0,none⟩ (.int .i64 a0_0)).setCell ⟨gb277,1,none⟩ (.int .i64 (wrap64 ((wrap64 (a0_4+(l0_3.length:Int)))+1)))).setCell ⟨gb277,2,none⟩ (.int .i64 a1_0)).setCell ⟨gb277,3,none⟩ (.int .i64 a1_1)).setCell ⟨gb277,4,none⟩ (.int .i64 a1_2)).setCell ⟨gb277,5,none⟩ (.int .i64 a1_3)).setCell ⟨gb277,6,none⟩ (.string a1_4)) w0.heap.size (fun k_=>((P0_2_ k_∨P0_3_ k_)∨w.heap.size≤k_)∧k_≠gb277) (.slice Ao5 l0_3.length co5) l0_3):=⟨by (with_reducible repeat (first|apply Kd.R_alloc|apply Kd.R_drewN|apply Kd.R_drew));exact Kd.R_mono (rf7_ (g:=gb277) (Kd.R_mono HO0_3.out (fun k_ hk=>(⟨hk,hk.2⟩:_∧k_≠gb277))) (fun _ hk=>hk.2) (.int .i64 a0_0) (.int .i64 (wrap64 ((wrap64 (a0_4+(l0_3.length:Int)))+1))) (.int .i64 a1_0) (.int .i64 a1_1) (.int .i64 a1_2) (.int .i64 a1_3) (.string a1_4)) (fun _ hk=>⟨hk.1.1,hk.1.2⟩)⟩
    have n2_:Aside0 ((((((((w14.setCell ⟨gb277,0,none⟩ (.int .i64 a0_0)).setCell ⟨gb277,1,none⟩ (.int .i64 (wrap64 ((wrap64 (a0_4+(l0_3.length:Int)))+1)))).setCell ⟨gb277,2,none⟩ (.int .i64 a1_0)).setCell ⟨gb277,3,none⟩ (.int .i64 a1_1)).setCell ⟨gb277,4,none⟩ (.int .i64 a1_2)).setCell ⟨gb277,5,none⟩ (.int .i64 a1_3)).setCell ⟨gb277,6,none⟩ (.string a1_4)).heap[gb274]?=some (.cells #[.int .i64 a0_0,.int .i64 a0_1,.slice Ao4 l0_2.length co4,.slice Ao5 l0_3.length co5,.int .i64 a0_4,.int .i64 a0_5] 77 (0,0))):=⟨fp1_ NB274_277.out BK274.out⟩
    have n3_:Aside0 ((((((((w14.setCell ⟨gb277,0,none⟩ (.int .i64 a0_0)).setCell ⟨gb277,1,none⟩ (.int .i64 (wrap64 ((wrap64 (a0_4+(l0_3.length:Int)))+1)))).setCell ⟨gb277,2,none⟩ (.int .i64 a1_0)).setCell ⟨gb277,3,none⟩ (.int .i64 a1_1)).setCell ⟨gb277,4,none⟩ (.int .i64 a1_2)).setCell ⟨gb277,5,none⟩ (.int .i64 a1_3)).setCell ⟨gb277,6,none⟩ (.string a1_4)).heap[gb275]?=some (.cells #[.int .i64 a1_0,.int .i64 a1_1,.int .i64 a1_2,.int .i64 a1_3,.string a1_4] 42 (0,0))):=⟨fp1_ NB275_277.out BK275.out⟩
    have n4_:Aside0 ((((((((w14.setCell ⟨gb277,0,none⟩ (.int .i64 a0_0)).setCell ⟨gb277,1,none⟩ (.int .i64 (wrap64 ((wrap64 (a0_4+(l0_3.length:Int)))+1)))).setCell ⟨gb277,2,none⟩ (.int .i64 a1_0)).setCell ⟨gb277,3,none⟩ (.int .i64 a1_1)).setCell ⟨gb277,4,none⟩ (.int .i64 a1_2)).setCell ⟨gb277,5,none⟩ (.int .i64 a1_3)).setCell ⟨gb277,6,none⟩ (.string a1_4)).heap[gb276]?=some (.cells #[.int .i64 0,.int .i64 0,.slice none 0 0,.slice none 0 0,.int .i64 0,.int .i64 0] 77 (0,0))):=⟨fp1_ NB276_277.out BK276.out⟩
    have n5_:Aside0 ((((((((w14.setCell ⟨gb277,0,none⟩ (.int .i64 a0_0)).setCell ⟨gb277,1,none⟩ (.int .i64 (wrap64 ((wrap64 (a0_4+(l0_3.length:Int)))+1)))).setCell ⟨gb277,2,none⟩ (.int .i64 a1_0)).setCell ⟨gb277,3,none⟩ (.int .i64 a1_1)).setCell ⟨gb277,4,none⟩ (.int .i64 a1_2)).setCell ⟨gb277,5,none⟩ (.int .i64 a1_3)).setCell ⟨gb277,6,none⟩ (.string a1_4)).heap[gb277]?=some (.cells #[.int .i64 a0_0,.int .i64 (wrap64 ((wrap64 (a0_4+(l0_3.length:Int)))+1)),.int .i64 a1_0,.int .i64 a1_1,.int .i64 a1_2,.int .i64 a1_3,.string a1_4] 44 (0,0))):=⟨k7p_ BK277.out⟩
    have n6_:Aside0 (Kept w (((((((w14.setCell ⟨gb277,0,none⟩ (.int .i64 a0_0)).setCell ⟨gb277,1,none⟩ (.int .i64 (wrap64 ((wrap64 (a0_4+(l0_3.length:Int)))+1)))).setCell ⟨gb277,2,none⟩ (.int .i64 a1_0)).setCell ⟨gb277,3,none⟩ (.int .i64 a1_1)).setCell ⟨gb277,4,none⟩ (.int .i64 a1_2)).setCell ⟨gb277,5,none⟩ (.int .i64 a1_3)).setCell ⟨gb277,6,none⟩ (.string a1_4)) (fun k_=>P0_2_ k_∨P0_3_ k_)):=⟨by repeat (first|(with_reducible first|exact HK.out|apply Kept.alloc|apply Kept.drewN|apply Kept.drew|refine Kept.setCell ?_ (.inr GW274.out) _|refine Kept.setCell ?_ (.inr GW275.out) _|refine Kept.setCell ?_ (.inr GW276.out) _|refine Kept.setCell ?_ (.inr GW277.out) _)|exact HK.out)⟩
    have n7_:Aside0 (Below w0.heap.size w0 (((((((w14.setCell ⟨gb277,0,none⟩ (.int .i64 a0_0)).setCell ⟨gb277,1,none⟩ (.int .i64 (wrap64 ((wrap64 (a0_4+(l0_3.length:Int)))+1)))).setCell ⟨gb277,2,none⟩ (.int .i64 a1_0)).setCell ⟨gb277,3,none⟩ (.int .i64 a1_1)).setCell ⟨gb277,4,none⟩ (.int .i64 a1_2)).setCell ⟨gb277,5,none⟩ (.int .i64 a1_3)).setCell ⟨gb277,6,none⟩ (.string a1_4))):=⟨bel_⟩
    generalize (((((((w14.setCell ⟨gb277,0,none⟩ (.int .i64 a0_0)).setCell ⟨gb277,1,none⟩ (.int .i64 (wrap64 ((wrap64 (a0_4+(l0_3.length:Int)))+1)))).setCell ⟨gb277,2,none⟩ (.int .i64 a1_0)).setCell ⟨gb277,3,none⟩ (.int .i64 a1_1)).setCell ⟨gb277,4,none⟩ (.int .i64 a1_2)).setCell ⟨gb277,5,none⟩ (.int .i64 a1_3)).setCell ⟨gb277,6,none⟩ (.string a1_4))=w26 at n0_ n1_ n2_ n3_ n4_ n5_ n6_ n7_ ⊢
    have HO0_2:=n0_
    have HO0_3:=n1_
    have BK274:=n2_
    have BK275:=n3_
    have BK276:=n4_
    have BK277:=n5_
    have HK:=n6_
    have HB:=n7_
    clear n0_ n1_ n2_ n3_ n4_ n5_ n6_ n7_
    replace HO0_2:=a_ (Kd.R_drew HO0_2.out)
    replace HO0_3:=a_ (Kd.R_drew HO0_3.out)
    replace BK274:=a_ (bD_ BK274.out)
    replace BK275:=a_ (bD_ BK275.out)
    replace BK276:=a_ (bD_ BK276.out)
    replace BK277:=a_ (bD_ BK277.out)
    replace HK:=a_ (Kept.drew HK.out)
    replace HB:=a_ (below_drew1 HB.out)
    refine start_ (n:=19) (S:=fun w'=>w'.cell? ⟨gb277,0,none⟩=some (.int .i64 a0_0)∧w'.cell? ⟨gb277,1,none⟩=some (.int .i64 (wrap64 ((wrap64 (a0_4+(l0_3.length:Int)))+1)))∧w'.cell? ⟨gb277,2,none⟩=some (.int .i64 a1_0)∧w'.cell? ⟨gb277,3,none⟩=some (.int .i64 a1_1)∧w'.cell? ⟨gb277,4,none⟩=some (.int .i64 a1_2)∧w'.cell? ⟨gb277,5,none⟩=some (.int .i64 a1_3)∧w'.cell? ⟨gb277,6,none⟩=some (.string a1_4)∧w'.cell? ⟨gb275,0,none⟩=some (.int .i64 a1_0)∧w'.cell? ⟨gb275,1,none⟩=some (.int .i64 a1_1)∧w'.cell? ⟨gb275,2,none⟩=some (.int .i64 a1_2)∧w'.cell? ⟨gb275,3,none⟩=some (.int .i64 a1_3)∧w'.cell? ⟨gb275,4,none⟩=some (.string a1_4)) (ds:=[]) #[false,false,false,false,false,false,false,false,false,false,false,false,false,false,false,false,false,false,false] (by kernel_rfl) rfl rfl ⟨(bC_ BK277.out 0).trans rfl,(bC_ BK277.out 1).trans rfl,(bC_ BK277.out 2).trans rfl,(bC_ BK277.out 3).trans rfl,(bC_ BK277.out 4).trans rfl,(bC_ BK277.out 5).trans rfl,(bC_ BK277.out 6).trans rfl,(bC_ BK275.out 0).trans rfl,(bC_ BK275.out 1).trans rfl,(bC_ BK275.out 2).trans rfl,(bC_ BK275.out 3).trans rfl,(bC_ BK275.out 4).trans rfl⟩ (fun hHeld=>?_);refine with_tabW spec_l21Do.tab2 spec_l21Do.bits2 (fun HT_ HW_=>?_)
    generalize w26.drew=w27 at HO0_2 HO0_3 BK274 BK275 BK276 BK277 HK HB hHeld ⊢
    refine ta12_ 0 18 hHeld ?_
    refine on_ 1 19 (fun K hK=>?_)
    refine goes_ Tryd.func30 (by kernel_rfl) rfl #[.agg #[.int .i64 a0_0,.int .i64 (wrap64 ((wrap64 (a0_4+(l0_3.length:Int)))+1)),.int .i64 a1_0,.int .i64 a1_1,.int .i64 a1_2,.int .i64 a1_3,.string a1_4]] (by rfl) rfl rfl ar_ ?_
    with_reducible refine (spec_EntryOk.calls k a0_0 (wrap64 ((wrap64 (a0_4+(l0_3.length:Int)))+1)) a1_0 a1_1 a1_2 a1_3 a1_4 true _ A19.out).mono ?_
    rintro e w28 ⟨rfl,hb⟩
    refine ⟨_,rfl,?_⟩
    replace HO0_2:=a_ (Kd.R_below (rp_ HO0_2.out) hb)
    replace HO0_3:=a_ (Kd.R_below (rp_ HO0_3.out) hb)
    replace HB:=a_ (bS_ (bel_) hb)
    replace BK274:=a_ (bb_ BK274.out hb)
    replace BK275:=a_ (bb_ BK275.out hb)
    replace BK276:=a_ (bb_ BK276.out hb)
    replace BK277:=a_ (bb_ BK277.out hb)
    replace HK:=a_ (Kept.below (S:=(fun k_=>P0_2_ k_∨P0_3_ k_)) (by repeat (first|(with_reducible first|exact HK.out|apply Kept.alloc|apply Kept.drewN|apply Kept.drew|refine Kept.setCell ?_ (.inr GW274.out) _|refine Kept.setCell ?_ (.inr GW275.out) _|refine Kept.setCell ?_ (.inr GW276.out) _|refine Kept.setCell ?_ (.inr GW277.out) _)|exact HK.out)) hb)
    try clear hb
    refine hK.out _ _ ⟨(bC_ BK277.out 0).trans rfl,(bC_ BK277.out 1).trans rfl,(bC_ BK277.out 2).trans rfl,(bC_ BK277.out 3).trans rfl,(bC_ BK277.out 4).trans rfl,(bC_ BK277.out 5).trans rfl,(bC_ BK277.out 6).trans rfl,(bC_ BK275.out 0).trans rfl,(bC_ BK275.out 1).trans rfl,(bC_ BK275.out 2).trans rfl,(bC_ BK275.out 3).trans rfl,(bC_ BK275.out 4).trans rfl⟩ (fun hHeld=>?_)
    clear hK K
    refine no_ 19 ?_
    refine pa_ 2 20 ?_
    refine pa_ 3 21 ?_
    refine pa_ 4 22 ?_
    refine ta12_ 5 23 hHeld ?_
    refine pa_ 6 24 ?_
    refine pa_ 7 25 ?_
    refine po_ 8 26 ?_
    refine po_ 9 27 ?_
    refine po_ 10 28 ?_
    refine po_ 11 29 ?_
    refine po_ 12 30 ?_
    refine po_ 13 31 ?_
    refine po_ 14 32 ?_
    refine po_ 15 33 ?_
    refine po_ 16 34 ?_
    refine pa_ 17 35 ?_
    refine pa_ 18 36 ?_
    refine done_ (done_of HT_.out (by kernel_rfl)) ?_
    try go_wp2
    go_meet
    case rel=>exact ⟨_,(false),(si_),H',⟨by first|omega|exact Nat.le_refl _⟩,⟨by (with_reducible repeat (first|apply Kd.R_alloc|apply Kd.R_drewN|apply Kd.R_drew));exact HO0_2.out⟩,⟨by (with_reducible repeat (first|apply Kd.R_alloc|apply Kd.R_drewN|apply Kd.R_drew));exact HO0_3.out⟩,⟨bp_ BK274.out⟩,⟨bp_ BK275.out⟩,⟨bp_ BK276.out⟩,⟨bp_ BK277.out⟩,⟨by repeat (first|(with_reducible first|exact HK.out|apply Kept.alloc|apply Kept.drewN|apply Kept.drew|refine Kept.setCell ?_ (.inr GW274.out) _|refine Kept.setCell ?_ (.inr GW275.out) _|refine Kept.setCell ?_ (.inr GW276.out) _|refine Kept.setCell ?_ (.inr GW277.out) _)|exact HK.out)⟩,⟨bel_⟩⟩
  ·replace c20:=Bool.eq_false_iff.mpr c20
   subst c20
   have H1:(spec_l21Do.j0 k true a0_0 a0_1 l0_2 l0_3 a0_4 a0_5 a1_0 a1_1 a1_2 a1_3 a1_4 a0_0 (wrap64 ((wrap64 (a0_4+(l0_3.length:Int)))+1)) a1_0 a1_1 a1_2 a1_3 a1_4)=some (r1,r2,r3,r4,r5,r6,r7):=by rw [if_neg (show ¬ (false=true) by decide)] at H;exact H
   clear H
   have H:=H1
   clear H1
   have H':=a_ H
   clear H
   try go_wp2
   have n0_:Aside0 (Kd.R k69 69 (((((((w14.setCell ⟨gb277,0,none⟩ (.int .i64 a0_0)).setCell ⟨gb277,1,none⟩ (.int .i64 (wrap64 ((wrap64 (a0_4+(l0_3.length:Int)))+1)))).setCell ⟨gb277,2,none⟩ (.int .i64 a1_0)).setCell ⟨gb277,3,none⟩ (.int .i64 a1_1)).setCell ⟨gb277,4,none⟩ (.int .i64 a1_2)).setCell ⟨gb277,5,none⟩ (.int .i64 a1_3)).setCell ⟨gb277,6,none⟩ (.string a1_4)) w0.heap.size (fun k_=>((P0_2_ k_∨P0_3_ k_)∨w.heap.size≤k_)) (.slice Ao4 l0_2.length co4) l0_2):=⟨by (with_reducible repeat (first|apply Kd.R_alloc|apply Kd.R_drewN|apply Kd.R_drew));exact Kd.R_mono (rf7_ (g:=gb277) (Kd.R_types HO0_2.out BK277.out (by decide)) (fun _ hk=>hk.2) (.int .i64 a0_0) (.int .i64 (wrap64 ((wrap64 (a0_4+(l0_3.length:Int)))+1))) (.int .i64 a1_0) (.int .i64 a1_1) (.int .i64 a1_2) (.int .i64 a1_3) (.string a1_4)) (fun _ hk=>hk.1)⟩
   have n1_:Aside0 (Kd.R k44 44 (((((((w14.setCell ⟨gb277,0,none⟩ (.int .i64 a0_0)).setCell ⟨gb277,1,none⟩ (.int .i64 (wrap64 ((wrap64 (a0_4+(l0_3.length:Int)))+1)))).setCell ⟨gb277,2,none⟩ (.int .i64 a1_0)).setCell ⟨gb277,3,none⟩ (.int .i64 a1_1)).setCell ⟨gb277,4,none⟩ (.int .i64 a1_2)).setCell ⟨gb277,5,none⟩ (.int .i64 a1_3)).setCell ⟨gb277,6,none⟩ (.string a1_4)) w0.heap.size (fun k_=>((P0_2_ k_∨P0_3_ k_)∨w.heap.size≤k_)∧k_≠gb277) (.slice Ao5 l0_3.length co5) l0_3):=⟨by (with_reducible repeat (first|apply Kd.R_alloc|apply Kd.R_drewN|apply Kd.R_drew));exact Kd.R_mono (rf7_ (g:=gb277) (Kd.R_mono HO0_3.out (fun k_ hk=>(⟨hk,hk.2⟩:_∧k_≠gb277))) (fun _ hk=>hk.2) (.int .i64 a0_0) (.int .i64 (wrap64 ((wrap64 (a0_4+(l0_3.length:Int)))+1))) (.int .i64 a1_0) (.int .i64 a1_1) (.int .i64 a1_2) (.int .i64 a1_3) (.string a1_4)) (fun _ hk=>⟨hk.1.1,hk.1.2⟩)⟩
   have n2_:Aside0 ((((((((w14.setCell ⟨gb277,0,none⟩ (.int .i64 a0_0)).setCell ⟨gb277,1,none⟩ (.int .i64 (wrap64 ((wrap64 (a0_4+(l0_3.length:Int)))+1)))).setCell ⟨gb277,2,none⟩ (.int .i64 a1_0)).setCell ⟨gb277,3,none⟩ (.int .i64 a1_1)).setCell ⟨gb277,4,none⟩ (.int .i64 a1_2)).setCell ⟨gb277,5,none⟩ (.int .i64 a1_3)).setCell ⟨gb277,6,none⟩ (.string a1_4)).heap[gb274]?=some (.cells #[.int .i64 a0_0,.int .i64 a0_1,.slice Ao4 l0_2.length co4,.slice Ao5 l0_3.length co5,.int .i64 a0_4,.int .i64 a0_5] 77 (0,0))):=⟨fp1_ NB274_277.out BK274.out⟩
   have n3_:Aside0 ((((((((w14.setCell ⟨gb277,0,none⟩ (.int .i64 a0_0)).setCell ⟨gb277,1,none⟩ (.int .i64 (wrap64 ((wrap64 (a0_4+(l0_3.length:Int)))+1)))).setCell ⟨gb277,2,none⟩ (.int .i64 a1_0)).setCell ⟨gb277,3,none⟩ (.int .i64 a1_1)).setCell ⟨gb277,4,none⟩ (.int .i64 a1_2)).setCell ⟨gb277,5,none⟩ (.int .i64 a1_3)).setCell ⟨gb277,6,none⟩ (.string a1_4)).heap[gb275]?=some (.cells #[.int .i64 a1_0,.int .i64 a1_1,.int .i64 a1_2,.int .i64 a1_3,.string a1_4] 42 (0,0))):=⟨fp1_ NB275_277.out BK275.out⟩
   have n4_:Aside0 ((((((((w14.setCell ⟨gb277,0,none⟩ (.int .i64 a0_0)).setCell ⟨gb277,1,none⟩ (.int .i64 (wrap64 ((wrap64 (a0_4+(l0_3.length:Int)))+1)))).setCell ⟨gb277,2,none⟩ (.int .i64 a1_0)).setCell ⟨gb277,3,none⟩ (.int .i64 a1_1)).setCell ⟨gb277,4,none⟩ (.int .i64 a1_2)).setCell ⟨gb277,5,none⟩ (.int .i64 a1_3)).setCell ⟨gb277,6,none⟩ (.string a1_4)).heap[gb276]?=some (.cells #[.int .i64 0,.int .i64 0,.slice none 0 0,.slice none 0 0,.int .i64 0,.int .i64 0] 77 (0,0))):=⟨fp1_ NB276_277.out BK276.out⟩
   have n5_:Aside0 ((((((((w14.setCell ⟨gb277,0,none⟩ (.int .i64 a0_0)).setCell ⟨gb277,1,none⟩ (.int .i64 (wrap64 ((wrap64 (a0_4+(l0_3.length:Int)))+1)))).setCell ⟨gb277,2,none⟩ (.int .i64 a1_0)).setCell ⟨gb277,3,none⟩ (.int .i64 a1_1)).setCell ⟨gb277,4,none⟩ (.int .i64 a1_2)).setCell ⟨gb277,5,none⟩ (.int .i64 a1_3)).setCell ⟨gb277,6,none⟩ (.string a1_4)).heap[gb277]?=some (.cells #[.int .i64 a0_0,.int .i64 (wrap64 ((wrap64 (a0_4+(l0_3.length:Int)))+1)),.int .i64 a1_0,.int .i64 a1_1,.int .i64 a1_2,.int .i64 a1_3,.string a1_4] 44 (0,0))):=⟨k7p_ BK277.out⟩
   have n6_:Aside0 (Kept w (((((((w14.setCell ⟨gb277,0,none⟩ (.int .i64 a0_0)).setCell ⟨gb277,1,none⟩ (.int .i64 (wrap64 ((wrap64 (a0_4+(l0_3.length:Int)))+1)))).setCell ⟨gb277,2,none⟩ (.int .i64 a1_0)).setCell ⟨gb277,3,none⟩ (.int .i64 a1_1)).setCell ⟨gb277,4,none⟩ (.int .i64 a1_2)).setCell ⟨gb277,5,none⟩ (.int .i64 a1_3)).setCell ⟨gb277,6,none⟩ (.string a1_4)) (fun k_=>P0_2_ k_∨P0_3_ k_)):=⟨by repeat (first|(with_reducible first|exact HK.out|apply Kept.alloc|apply Kept.drewN|apply Kept.drew|refine Kept.setCell ?_ (.inr GW274.out) _|refine Kept.setCell ?_ (.inr GW275.out) _|refine Kept.setCell ?_ (.inr GW276.out) _|refine Kept.setCell ?_ (.inr GW277.out) _)|exact HK.out)⟩
   have n7_:Aside0 (Below w0.heap.size w0 (((((((w14.setCell ⟨gb277,0,none⟩ (.int .i64 a0_0)).setCell ⟨gb277,1,none⟩ (.int .i64 (wrap64 ((wrap64 (a0_4+(l0_3.length:Int)))+1)))).setCell ⟨gb277,2,none⟩ (.int .i64 a1_0)).setCell ⟨gb277,3,none⟩ (.int .i64 a1_1)).setCell ⟨gb277,4,none⟩ (.int .i64 a1_2)).setCell ⟨gb277,5,none⟩ (.int .i64 a1_3)).setCell ⟨gb277,6,none⟩ (.string a1_4))):=⟨bel_⟩
   generalize (((((((w14.setCell ⟨gb277,0,none⟩ (.int .i64 a0_0)).setCell ⟨gb277,1,none⟩ (.int .i64 (wrap64 ((wrap64 (a0_4+(l0_3.length:Int)))+1)))).setCell ⟨gb277,2,none⟩ (.int .i64 a1_0)).setCell ⟨gb277,3,none⟩ (.int .i64 a1_1)).setCell ⟨gb277,4,none⟩ (.int .i64 a1_2)).setCell ⟨gb277,5,none⟩ (.int .i64 a1_3)).setCell ⟨gb277,6,none⟩ (.string a1_4))=w29 at n0_ n1_ n2_ n3_ n4_ n5_ n6_ n7_ ⊢
   have HO0_2:=n0_
   have HO0_3:=n1_
   have BK274:=n2_
   have BK275:=n3_
   have BK276:=n4_
   have BK277:=n5_
   have HK:=n6_
   have HB:=n7_
   clear n0_ n1_ n2_ n3_ n4_ n5_ n6_ n7_
   replace HO0_2:=a_ (Kd.R_drew HO0_2.out)
   replace HO0_3:=a_ (Kd.R_drew HO0_3.out)
   replace BK274:=a_ (bD_ BK274.out)
   replace BK275:=a_ (bD_ BK275.out)
   replace BK276:=a_ (bD_ BK276.out)
   replace BK277:=a_ (bD_ BK277.out)
   replace HK:=a_ (Kept.drew HK.out)
   replace HB:=a_ (below_drew1 HB.out)
   refine start_ (n:=19) (S:=fun w'=>w'.cell? ⟨gb277,0,none⟩=some (.int .i64 a0_0)∧w'.cell? ⟨gb277,1,none⟩=some (.int .i64 (wrap64 ((wrap64 (a0_4+(l0_3.length:Int)))+1)))∧w'.cell? ⟨gb277,2,none⟩=some (.int .i64 a1_0)∧w'.cell? ⟨gb277,3,none⟩=some (.int .i64 a1_1)∧w'.cell? ⟨gb277,4,none⟩=some (.int .i64 a1_2)∧w'.cell? ⟨gb277,5,none⟩=some (.int .i64 a1_3)∧w'.cell? ⟨gb277,6,none⟩=some (.string a1_4)) (ds:=[]) #[false,false,false,false,false,false,false,false,false,false,false,false,false,false,false,false,false,false,false] (by kernel_rfl) rfl rfl ⟨(bC_ BK277.out 0).trans rfl,(bC_ BK277.out 1).trans rfl,(bC_ BK277.out 2).trans rfl,(bC_ BK277.out 3).trans rfl,(bC_ BK277.out 4).trans rfl,(bC_ BK277.out 5).trans rfl,(bC_ BK277.out 6).trans rfl⟩ (fun hHeld=>?_);refine with_tabW spec_l21Do.tab2 spec_l21Do.bits2 (fun HT_ HW_=>?_)
   generalize w29.drew=w30 at HO0_2 HO0_3 BK274 BK275 BK276 BK277 HK HB hHeld ⊢
   refine ta7_ 0 18 hHeld ?_
   refine on_ 1 19 (fun K hK=>?_)
   refine goes_ Tryd.func30 (by kernel_rfl) rfl #[.agg #[.int .i64 a0_0,.int .i64 (wrap64 ((wrap64 (a0_4+(l0_3.length:Int)))+1)),.int .i64 a1_0,.int .i64 a1_1,.int .i64 a1_2,.int .i64 a1_3,.string a1_4]] (by rfl) rfl rfl ar_ ?_
   with_reducible refine (spec_EntryOk.calls k a0_0 (wrap64 ((wrap64 (a0_4+(l0_3.length:Int)))+1)) a1_0 a1_1 a1_2 a1_3 a1_4 false _ A19.out).mono ?_
   rintro e w31 ⟨rfl,hb⟩
   refine ⟨_,rfl,?_⟩
   replace HO0_2:=a_ (Kd.R_below (rp_ HO0_2.out) hb)
   replace HO0_3:=a_ (Kd.R_below (rp_ HO0_3.out) hb)
   replace HB:=a_ (bS_ (bel_) hb)
   replace BK274:=a_ (bb_ BK274.out hb)
   replace BK275:=a_ (bb_ BK275.out hb)
   replace BK276:=a_ (bb_ BK276.out hb)
   replace BK277:=a_ (bb_ BK277.out hb)
   replace HK:=a_ (Kept.below (S:=(fun k_=>P0_2_ k_∨P0_3_ k_)) (by repeat (first|(with_reducible first|exact HK.out|apply Kept.alloc|apply Kept.drewN|apply Kept.drew|refine Kept.setCell ?_ (.inr GW274.out) _|refine Kept.setCell ?_ (.inr GW275.out) _|refine Kept.setCell ?_ (.inr GW276.out) _|refine Kept.setCell ?_ (.inr GW277.out) _)|exact HK.out)) hb)
   try clear hb
   refine hK.out _ _ ⟨(bC_ BK277.out 0).trans rfl,(bC_ BK277.out 1).trans rfl,(bC_ BK277.out 2).trans rfl,(bC_ BK277.out 3).trans rfl,(bC_ BK277.out 4).trans rfl,(bC_ BK277.out 5).trans rfl,(bC_ BK277.out 6).trans rfl⟩ (fun hHeld=>?_)
   clear hK K
   refine no_ 19 ?_
   refine pa_ 2 20 ?_
   refine pa_ 3 21 ?_
   refine po_ 4 22 ?_
   refine po_ 5 23 ?_
   refine po_ 6 24 ?_
   refine po_ 7 25 ?_
   refine po_ 8 26 ?_
   refine po_ 9 27 ?_
   refine po_ 10 28 ?_
   refine po_ 11 29 ?_
   refine po_ 12 30 ?_
   refine po_ 13 31 ?_
   refine po_ 14 32 ?_
   refine po_ 15 33 ?_
   refine po_ 16 34 ?_
   refine po_ 17 35 ?_
   refine pa_ 18 36 ?_
   refine done_ (done_of HT_.out (by kernel_rfl)) ?_
   try go_wp2
   go_meet
   case rel=>exact ⟨_,(true),(si_),H',⟨by first|omega|exact Nat.le_refl _⟩,⟨by (with_reducible repeat (first|apply Kd.R_alloc|apply Kd.R_drewN|apply Kd.R_drew));exact HO0_2.out⟩,⟨by (with_reducible repeat (first|apply Kd.R_alloc|apply Kd.R_drewN|apply Kd.R_drew));exact HO0_3.out⟩,⟨bp_ BK274.out⟩,⟨bp_ BK275.out⟩,⟨bp_ BK276.out⟩,⟨bp_ BK277.out⟩,⟨by repeat (first|(with_reducible first|exact HK.out|apply Kept.alloc|apply Kept.drewN|apply Kept.drew|refine Kept.setCell ?_ (.inr GW274.out) _|refine Kept.setCell ?_ (.inr GW275.out) _|refine Kept.setCell ?_ (.inr GW276.out) _|refine Kept.setCell ?_ (.inr GW277.out) _)|exact HK.out)⟩,⟨bel_⟩⟩
 case rest =>
  clear HC3
  try clear c1
  try clear c2
  try clear p2
  try clear c3
  try clear p6
  try clear c14
  try clear c20
  try clear c21
  try clear c21b0
  try clear c21b1
  try clear c30
  obtain ⟨kq,x36_2,rfl,HA,HJ2,HO_275002,HO_275003,BK274,BK275,BK276,BK277,HK,HB⟩:=hcut
  cases kq with
  | zero=>exact absurd HA.out (by simp [spec_l21Do.j0])
  | succ kj2 =>
   have H:=HA.out
   clear HA
   simp only [spec_l21Do.j0] at H
   by_cases c32:x36_2=true
   ·subst c32
    have H1:(some (a0_0,a0_1,l0_2,l0_3,a0_4,a0_5,false))=some (r1,r2,r3,r4,r5,r6,r7):=by rw [if_pos rfl] at H;exact H
    clear H
    have H:=H1
    clear H1
    simp only [Option.some.injEq,Prod.mk.injEq] at H
    obtain ⟨rfl,rfl,rfl,rfl,rfl,rfl,rfl⟩:=H
    have hnb33:=NB274_275.out
    have hnc33:=NB275_274.out
    have hnb34:=NB274_276.out
    have hnc34:=NB276_274.out
    have hnb35:=NB274_277.out
    have hnc35:=NB277_274.out
    obtain ⟨Z36_0,Z36_1,Z36_2,Z36_3,Z36_4,Z36_5,Y36_0,Y36_1,Y36_2,Y36_3,Y36_4,Y36_5⟩:=op6_ (W:=wc) BK274.out
    have hnb37:=NB276_275.out
    have hnc37:=NB275_276.out
    have hnb38:=NB276_277.out
    have hnc38:=NB277_276.out
    obtain ⟨Z39_0,Z39_1,Z39_2,Z39_3,Z39_4,Z39_5,Y39_0,Y39_1,Y39_2,Y39_3,Y39_4,Y39_5⟩:=op6_ (W:=wc) BK276.out
    go_wp2
    refine bodyPost_ret (results_ct rfl _ _ gb276 77 #[.int .i64 a0_0,.int .i64 a0_1,.slice Ao4 l0_2.length co4,.slice Ao5 l0_3.length co5,.int .i64 a0_4,.int .i64 a0_5] (0,0) _ rfl (k6p_ BK276.out) Tryd.underlying77 rfl (by kernel_rfl)) rfl ?_
    exact ⟨_,_,fi_,by (with_reducible repeat (first|apply Kd.R_alloc|apply Kd.R_drewN|apply Kd.R_drew));exact Kd.R_mono (rf6_ (g:=gb276) (Kd.R_types HO_275002.out BK276.out (by decide)) (fun _ hk=>hk.2) (.int .i64 a0_0) (.int .i64 a0_1) (.slice Ao4 l0_2.length co4) (.slice Ao5 l0_3.length co5) (.int .i64 a0_4) (.int .i64 a0_5)) (fun _ hk=>hk.1),by (with_reducible repeat (first|apply Kd.R_alloc|apply Kd.R_drewN|apply Kd.R_drew));exact Kd.R_mono (rf6_ (g:=gb276) (Kd.R_types HO_275003.out BK276.out (by decide)) (fun _ hk=>hk.2) (.int .i64 a0_0) (.int .i64 a0_1) (.slice Ao4 l0_2.length co4) (.slice Ao5 l0_3.length co5) (.int .i64 a0_4) (.int .i64 a0_5)) (fun _ hk=>hk.1.1),bel_,by repeat (first|(with_reducible first|exact HK.out|apply Kept.alloc|apply Kept.drewN|apply Kept.drew|refine Kept.setCell ?_ (.inr GW274.out) _|refine Kept.setCell ?_ (.inr GW275.out) _|refine Kept.setCell ?_ (.inr GW276.out) _|refine Kept.setCell ?_ (.inr GW277.out) _)|exact HK.out)⟩
   ·replace c32:=Bool.eq_false_iff.mpr c32
    subst c32
    have H1:(if a1_0=1 then ((some (([]:List (S44)):List (S44))).bind fun y280=>(if y280.length+l0_3.length < 2199023255552 then ((some (y280++l0_3:List (S44))).bind fun y283=>((some (([(⟨a0_0,(wrap64 ((wrap64 (a0_4+(l0_3.length:Int)))+1)),(⟨a1_0,a1_1,a1_2,a1_3,a1_4⟩:S42)⟩:S44)]:List (S44)):List (S44))).bind fun y286=>(if y283.length+y286.length < 2199023255552 then (some (a0_0,a0_1,l0_2,(y283++y286),a0_4,wrap64 (a0_5+1),true)) else (none)))) else (none))) else ((some (([]:List (S44)):List (S44))).bind fun y292=>(if y292.length+l0_3.length < 2199023255552 then ((some (y292++l0_3:List (S44))).bind fun y295=>((some (([(⟨a0_0,(wrap64 ((wrap64 (a0_4+(l0_3.length:Int)))+1)),(⟨a1_0,a1_1,a1_2,a1_3,a1_4⟩:S42)⟩:S44)]:List (S44)):List (S44))).bind fun y298=>(if y295.length+y298.length < 2199023255552 then (some (a0_0,a0_1,l0_2,(y295++y298),a0_4,a0_5,true)) else (none)))) else (none))))=some (r1,r2,r3,r4,r5,r6,r7):=by rw [if_neg (show ¬ (false=true) by decide)] at H;exact H
    clear H
    have H:=H1
    clear H1
    by_cases c40:a1_0=1
    ·rw [if_pos c40] at H
     have c40b0:(a1_0==1)=true:=beq_iff_eq.mpr c40
     have c40b1:(a1_0 != 1)=false:=be_ c40
     clear c40
     obtain ⟨y280,hy280⟩:∃ y_:List (S44),y_=(([]:List (S44))):=⟨_,rfl⟩
     replace H:(if y280.length+l0_3.length < 2199023255552 then ((some (y280++l0_3:List (S44))).bind fun y283=>((some (([(⟨a0_0,(wrap64 ((wrap64 (a0_4+(l0_3.length:Int)))+1)),(⟨a1_0,a1_1,a1_2,a1_3,a1_4⟩:S42)⟩:S44)]:List (S44)):List (S44))).bind fun y286=>(if y283.length+y286.length < 2199023255552 then (some (a0_0,a0_1,l0_2,(y283++y286),a0_4,wrap64 (a0_5+1),true)) else (none)))) else (none))=some (r1,r2,r3,r4,r5,r6,r7):=by first|(rw [hy280];with_reducible exact H)|(have H2_:=(Option.bind_some _ _).symm.trans H;rw [hy280];with_reducible exact H2_)|(have H2_:=(Option.bind_some _ _).symm.trans H;with_reducible exact H2_)|with_reducible exact H|(rw [hy280];exact H)|exact H
     have Ny280:=a_ hy280
     clear hy280
     by_cases c41:y280.length+l0_3.length < 2199023255552
     ·rw [if_pos c41] at H
      have LMc41:=a_ c41
      clear c41
      obtain ⟨y283,hy283⟩:∃ y_:List (S44),y_=(y280++l0_3):=⟨_,rfl⟩
      replace H:((some (([(⟨a0_0,(wrap64 ((wrap64 (a0_4+(l0_3.length:Int)))+1)),(⟨a1_0,a1_1,a1_2,a1_3,a1_4⟩:S42)⟩:S44)]:List (S44)):List (S44))).bind fun y286=>(if y283.length+y286.length < 2199023255552 then (some (a0_0,a0_1,l0_2,(y283++y286),a0_4,wrap64 (a0_5+1),true)) else (none)))=some (r1,r2,r3,r4,r5,r6,r7):=by first|(rw [hy283];with_reducible exact H)|(have H2_:=(Option.bind_some _ _).symm.trans H;rw [hy283];with_reducible exact H2_)|(have H2_:=(Option.bind_some _ _).symm.trans H;with_reducible exact H2_)|with_reducible exact H|(rw [hy283];exact H)|exact H
      have Ny283:=a_ hy283
      clear hy283
      obtain ⟨y286,hy286⟩:∃ y_:List (S44),y_=(([(⟨a0_0,(wrap64 ((wrap64 (a0_4+(l0_3.length:Int)))+1)),(⟨a1_0,a1_1,a1_2,a1_3,a1_4⟩:S42)⟩:S44)]:List (S44))):=⟨_,rfl⟩
      replace H:(if y283.length+y286.length < 2199023255552 then (some (a0_0,a0_1,l0_2,(y283++y286),a0_4,wrap64 (a0_5+1),true)) else (none))=some (r1,r2,r3,r4,r5,r6,r7):=by first|(rw [hy286];with_reducible exact H)|(have H2_:=(Option.bind_some _ _).symm.trans H;rw [hy286];with_reducible exact H2_)|(have H2_:=(Option.bind_some _ _).symm.trans H;with_reducible exact H2_)|with_reducible exact H|(rw [hy286];exact H)|exact H
      have Ny286:=a_ hy286
      clear hy286
      by_cases c42:y283.length+y286.length < 2199023255552
      ·rw [if_pos c42] at H
       have LMc42:=a_ c42
       clear c42
       obtain ⟨y289,hy289⟩:∃ y_:List (S44),y_=(y283++y286):=⟨_,rfl⟩
       replace H:(some (a0_0,a0_1,l0_2,y289,a0_4,wrap64 (a0_5+1),true))=some (r1,r2,r3,r4,r5,r6,r7):=by first|(rw [hy289];with_reducible exact H)|(have H2_:=(Option.bind_some _ _).symm.trans H;rw [hy289];with_reducible exact H2_)|(have H2_:=(Option.bind_some _ _).symm.trans H;with_reducible exact H2_)|with_reducible exact H|(rw [hy289];exact H)|exact H
       have Ny289:=a_ hy289
       clear hy289
       simp only [Option.some.injEq,Prod.mk.injEq] at H
       obtain ⟨rfl,rfl,rfl,rfl,rfl,rfl,rfl⟩:=H
       have hnb43:=NB275_274.out
       have hnc43:=NB274_275.out
       have hnb44:=NB275_276.out
       have hnc44:=NB276_275.out
       have hnb45:=NB275_277.out
       have hnc45:=NB277_275.out
       obtain ⟨Z46_0,Z46_1,Z46_2,Z46_3,Z46_4,Y46_0,Y46_1,Y46_2,Y46_3,Y46_4⟩:=op5_ (W:=wc) BK275.out
       have hnb47:=NB274_276.out
       have hnc47:=NB276_274.out
       have hnb48:=NB274_277.out
       have hnc48:=NB277_274.out
       obtain ⟨Z49_0,Z49_1,Z49_2,Z49_3,Z49_4,Z49_5,Y49_0,Y49_1,Y49_2,Y49_3,Y49_4,Y49_5⟩:=op6_ (W:=wc) BK274.out
       try go_wp2
       have n0_:Aside0 (Kd.R k69 69 (wc.setCell ⟨gb274,5,none⟩ (.int .i64 (wrap64 (a0_5+1)))) w0.heap.size (fun k_=>((P0_2_ k_∨P0_3_ k_)∨w.heap.size≤k_)) (.slice Ao4 l0_2.length co4) l0_2):=⟨by (with_reducible repeat (first|apply Kd.R_alloc|apply Kd.R_drewN|apply Kd.R_drew));exact Kd.R_mono (Kd.R_far (p:=⟨gb274,5,none⟩) (Kd.R_types HO_275002.out BK274.out (by decide)) (fun _ hk=>hk.2) (.int .i64 (wrap64 (a0_5+1)))) (fun _ hk=>hk.1)⟩
       have n1_:Aside0 (Kd.R k44 44 (wc.setCell ⟨gb274,5,none⟩ (.int .i64 (wrap64 (a0_5+1)))) w0.heap.size (fun k_=>((P0_2_ k_∨P0_3_ k_)∨w.heap.size≤k_)∧k_≠gb277) (.slice Ao5 l0_3.length co5) l0_3):=⟨by (with_reducible repeat (first|apply Kd.R_alloc|apply Kd.R_drewN|apply Kd.R_drew));exact Kd.R_mono (Kd.R_far (p:=⟨gb274,5,none⟩) (Kd.R_types HO_275003.out BK274.out (by decide)) (fun _ hk=>hk.2) (.int .i64 (wrap64 (a0_5+1)))) (fun _ hk=>⟨hk.1.1,hk.1.2⟩)⟩
       have n2_:Aside0 ((wc.setCell ⟨gb274,5,none⟩ (.int .i64 (wrap64 (a0_5+1)))).heap[gb274]?=some (.cells #[.int .i64 a0_0,.int .i64 a0_1,.slice Ao4 l0_2.length co4,.slice Ao5 l0_3.length co5,.int .i64 a0_4,.int .i64 (wrap64 (a0_5+1))] 77 (0,0))):=⟨by (with_reducible repeat (first|refine bN_ ?_ _|refine bD_ ?_|refine bA_ ?_ _));refine blk_put (cs:=#[.int .i64 a0_0,.int .i64 a0_1,.slice Ao4 l0_2.length co4,.slice Ao5 l0_3.length co5,.int .i64 a0_4,.int .i64 a0_5]) ?_ 5 _ rfl;(with_reducible repeat (first|refine bN_ ?_ _|refine bD_ ?_|refine bA_ ?_ _));exact BK274.out⟩
       have n3_:Aside0 ((wc.setCell ⟨gb274,5,none⟩ (.int .i64 (wrap64 (a0_5+1)))).heap[gb275]?=some (.cells #[.int .i64 a1_0,.int .i64 a1_1,.int .i64 a1_2,.int .i64 a1_3,.string a1_4] 42 (0,0))):=⟨fp1_ NB275_274.out BK275.out⟩
       have n4_:Aside0 ((wc.setCell ⟨gb274,5,none⟩ (.int .i64 (wrap64 (a0_5+1)))).heap[gb276]?=some (.cells #[.int .i64 0,.int .i64 0,.slice none 0 0,.slice none 0 0,.int .i64 0,.int .i64 0] 77 (0,0))):=⟨fp1_ NB276_274.out BK276.out⟩
       have n5_:Aside0 ((wc.setCell ⟨gb274,5,none⟩ (.int .i64 (wrap64 (a0_5+1)))).heap[gb277]?=some (.cells #[.int .i64 a0_0,.int .i64 (wrap64 ((wrap64 (a0_4+(l0_3.length:Int)))+1)),.int .i64 a1_0,.int .i64 a1_1,.int .i64 a1_2,.int .i64 a1_3,.string a1_4] 44 (0,0))):=⟨fp1_ NB277_274.out BK277.out⟩
       have n6_:Aside0 (Kept w (wc.setCell ⟨gb274,5,none⟩ (.int .i64 (wrap64 (a0_5+1)))) (fun k_=>P0_2_ k_∨P0_3_ k_)):=⟨by repeat (first|(with_reducible first|exact HK.out|apply Kept.alloc|apply Kept.drewN|apply Kept.drew|refine Kept.setCell ?_ (.inr GW274.out) _|refine Kept.setCell ?_ (.inr GW275.out) _|refine Kept.setCell ?_ (.inr GW276.out) _|refine Kept.setCell ?_ (.inr GW277.out) _)|exact HK.out)⟩
       have n7_:Aside0 (Below w0.heap.size w0 (wc.setCell ⟨gb274,5,none⟩ (.int .i64 (wrap64 (a0_5+1))))):=⟨bel_⟩
       (try clear HO_275002)
       (try clear HO_275003)
       (try clear BK274)
       (try clear BK275)
       (try clear BK276)
       (try clear BK277)
       (try clear HK)
       (try clear HB)
       generalize (wc.setCell ⟨gb274,5,none⟩ (.int .i64 (wrap64 (a0_5+1))))=w50 at n0_ n1_ n2_ n3_ n4_ n5_ n6_ n7_ ⊢
       have HO_275002:=n0_
       have HO_275003:=n1_
       have BK274:=n2_
       have BK275:=n3_
       have BK276:=n4_
       have BK277:=n5_
       have HK:=n6_
       have HB:=n7_
       clear n0_ n1_ n2_ n3_ n4_ n5_ n6_ n7_
       replace HO_275002:=a_ (Kd.R_drew HO_275002.out)
       replace HO_275003:=a_ (Kd.R_drew HO_275003.out)
       replace BK274:=a_ (bD_ BK274.out)
       replace BK275:=a_ (bD_ BK275.out)
       replace BK276:=a_ (bD_ BK276.out)
       replace BK277:=a_ (bD_ BK277.out)
       replace HK:=a_ (Kept.drew HK.out)
       replace HB:=a_ (below_drew1 HB.out)
       refine start_ (n:=9) (S:=fun w'=>w'.cell? ⟨gb274,0,none⟩=some (.int .i64 a0_0)∧w'.cell? ⟨gb274,1,none⟩=some (.int .i64 a0_1)∧w'.cell? ⟨gb274,2,none⟩=some (.slice Ao4 l0_2.length co4)∧w'.cell? ⟨gb274,3,none⟩=some (.slice Ao5 l0_3.length co5)∧w'.cell? ⟨gb274,4,none⟩=some (.int .i64 a0_4)∧w'.cell? ⟨gb274,5,none⟩=some (.int .i64 (wrap64 (a0_5+1)))∧w'.cell? ⟨gb277,0,none⟩=some (.int .i64 a0_0)∧w'.cell? ⟨gb277,1,none⟩=some (.int .i64 (wrap64 ((wrap64 (a0_4+(l0_3.length:Int)))+1)))∧w'.cell? ⟨gb277,2,none⟩=some (.int .i64 a1_0)∧w'.cell? ⟨gb277,3,none⟩=some (.int .i64 a1_1)∧w'.cell? ⟨gb277,4,none⟩=some (.int .i64 a1_2)∧w'.cell? ⟨gb277,5,none⟩=some (.int .i64 a1_3)∧w'.cell? ⟨gb277,6,none⟩=some (.string a1_4)) (ds:=[8]) #[false,false,false,false,false,false,false,false,false] (by kernel_rfl) rfl rfl ⟨(bC_ BK274.out 0).trans rfl,(bC_ BK274.out 1).trans rfl,(bC_ BK274.out 2).trans rfl,(bC_ BK274.out 3).trans rfl,(bC_ BK274.out 4).trans rfl,(bC_ BK274.out 5).trans rfl,(bC_ BK277.out 0).trans rfl,(bC_ BK277.out 1).trans rfl,(bC_ BK277.out 2).trans rfl,(bC_ BK277.out 3).trans rfl,(bC_ BK277.out 4).trans rfl,(bC_ BK277.out 5).trans rfl,(bC_ BK277.out 6).trans rfl⟩ (fun hHeld=>?_);refine with_tabW spec_l21Do.tab6 spec_l21Do.bits6 (fun HT_ HW_=>?_)
       generalize w50.drew=w51 at HO_275002 HO_275003 BK274 BK275 BK276 BK277 HK HB hHeld ⊢
       refine pa_ 1 46 ?_
       refine ta13_ 2 47 hHeld ?_
       refine ta13_ 4 49 hHeld ?_
       refine join_ (σ:=Value×Value×Value) 3 #[true,true,true,true,true,true,false,false,false] (fun s_=>[(45,s_.1),(48,s_.2.1),(50,s_.2.2)]) (fun s_ w'=>(w'.cell? ⟨gb274,0,none⟩=some (.int .i64 a0_0)∧w'.cell? ⟨gb274,1,none⟩=some (.int .i64 a0_1)∧w'.cell? ⟨gb274,2,none⟩=some (.slice Ao4 l0_2.length co4)∧w'.cell? ⟨gb274,3,none⟩=some (.slice Ao5 l0_3.length co5)∧w'.cell? ⟨gb274,4,none⟩=some (.int .i64 a0_4)∧w'.cell? ⟨gb274,5,none⟩=some (.int .i64 (wrap64 (a0_5+1)))∧w'.cell? ⟨gb277,0,none⟩=some (.int .i64 a0_0)∧w'.cell? ⟨gb277,1,none⟩=some (.int .i64 (wrap64 ((wrap64 (a0_4+(l0_3.length:Int)))+1)))∧w'.cell? ⟨gb277,2,none⟩=some (.int .i64 a1_0)∧w'.cell? ⟨gb277,3,none⟩=some (.int .i64 a1_1)∧w'.cell? ⟨gb277,4,none⟩=some (.int .i64 a1_2)∧w'.cell? ⟨gb277,5,none⟩=some (.int .i64 a1_3)∧w'.cell? ⟨gb277,6,none⟩=some (.string a1_4))∧(Kd.R k44 44 w' w0.heap.size (fun k_=>((P0_2_ k_∨P0_3_ k_)∨w.heap.size≤k_)∧some k_≠(s_.2.2:Value).ownBlock∧some k_≠(.slice Ao5 l0_3.length co5:Value).ownBlock∧k_≠gb277) s_.2.1 y283)∧(Kd.R k44 44 w' w0.heap.size (fun k_=>((P0_2_ k_∨P0_3_ k_)∨w.heap.size≤k_)∧some k_≠(s_.2.1:Value).ownBlock∧some k_≠(.slice Ao5 l0_3.length co5:Value).ownBlock∧k_≠gb277) s_.2.2 y286)∧(Kd.R k69 69 w' w0.heap.size (fun k_=>((P0_2_ k_∨P0_3_ k_)∨w.heap.size≤k_)) (.slice Ao4 l0_2.length co4) l0_2)∧(Kd.R k44 44 w' w0.heap.size (fun k_=>((P0_2_ k_∨P0_3_ k_)∨w.heap.size≤k_)∧some k_≠(s_.2.1:Value).ownBlock∧some k_≠(s_.2.2:Value).ownBlock∧k_≠gb277) (.slice Ao5 l0_3.length co5) l0_3)∧(w'.heap[gb274]?=some (.cells #[.int .i64 a0_0,.int .i64 a0_1,.slice Ao4 l0_2.length co4,.slice Ao5 l0_3.length co5,.int .i64 a0_4,.int .i64 (wrap64 (a0_5+1))] 77 (0,0)))∧(w'.heap[gb275]?=some (.cells #[.int .i64 a1_0,.int .i64 a1_1,.int .i64 a1_2,.int .i64 a1_3,.string a1_4] 42 (0,0)))∧(w'.heap[gb276]?=some (.cells #[.int .i64 0,.int .i64 0,.slice none 0 0,.slice none 0 0,.int .i64 0,.int .i64 0] 77 (0,0)))∧(w'.heap[gb277]?=some (.cells #[.int .i64 a0_0,.int .i64 (wrap64 ((wrap64 (a0_4+(l0_3.length:Int)))+1)),.int .i64 a1_0,.int .i64 a1_1,.int .i64 a1_2,.int .i64 a1_3,.string a1_4] 44 (0,0)))∧(Kept w w' (fun k_=>P0_2_ k_∨P0_3_ k_))∧(Below w0.heap.size w0 w')) ?_ ?_
       rotate_left
       ·intro hCont
        refine two_ (i:=0) (j:=5) (Ni:=some 45) (Nj:=some 50) #[true,true,true,false,true,false,false,false,false] #[false,true,true,false,true,true,false,false,false] rfl rfl rfl rfl (two_of HT_.out (by kernel_rfl)) (by decide) (by decide) (fun K hK=>?_) (fun K hK=>?_)
        ·skip
         refine Kd.R_lit_step k44 _ 44 ?hg (N:=45) ?hd (xs:=([]:List (S44))) (inner:=[]) (ok:=fun _=>True) (okp:=fun _=>True) ?hr ?hp (fun _ hk=>hk) trivial (Below.refl _ _) (Nat.le_refl _) (by simp) ?_;(case hd=>rfl);(case hg=>rfl);(case hr=>first|(go_simp;done)|(go_simp;rfl));(case hp=>exact (Reps.none _ _))
         intro v281 w52 ho53 hb hg_ hnew_
         clear hg_ hnew_
         (first|rw [←Ny280.out] at ho53|(simp only [Int.reduceToNat] at ho53;rw [←Ny280.out] at ho53))
         replace HO_275002:=a_ (Kd.R_below (rp_ HO_275002.out) hb)
         have HO282:=a_ (Kd.R_lower (Kd.R_newB (Kd.R_new' (Kd.R_newM (M:=fun k_=>((P0_2_ k_∨P0_3_ k_)∨w.heap.size≤k_)) ho53 (by first|exact HK.out.1|exact (show Kept w _ (fun k_=>P0_2_ k_∨P0_3_ k_) from by repeat (first|(with_reducible first|exact HK.out|apply Kept.alloc|apply Kept.drewN|apply Kept.drew|refine Kept.setCell ?_ (.inr GW274.out) _|refine Kept.setCell ?_ (.inr GW275.out) _|refine Kept.setCell ?_ (.inr GW276.out) _|refine Kept.setCell ?_ (.inr GW277.out) _)|exact HK.out)).1) (fun k_ h_=>.inr h_)) (Kd.R_lt (rp_ HO_275003.out))) (g:=gb277) (o:=.cells #[.int .i64 a0_0,.int .i64 (wrap64 ((wrap64 (a0_4+(l0_3.length:Int)))+1)),.int .i64 a1_0,.int .i64 a1_1,.int .i64 a1_2,.int .i64 a1_3,.string a1_4] 44 (0,0)) (bp_ BK277.out)) (below_size (bel_)))
         replace HO_275003:=a_ (Kd.R_elder' (rp_ HO_275003.out) (Kd.R_base ho53) hb)
         replace HB:=a_ (bS_ (bel_) hb)
         replace BK274:=a_ (bb_ BK274.out hb)
         replace BK275:=a_ (bb_ BK275.out hb)
         replace BK276:=a_ (bb_ BK276.out hb)
         replace BK277:=a_ (bb_ BK277.out hb)
         replace HK:=a_ (Kept.below (S:=(fun k_=>P0_2_ k_∨P0_3_ k_)) (by repeat (first|(with_reducible first|exact HK.out|apply Kept.alloc|apply Kept.drewN|apply Kept.drew|refine Kept.setCell ?_ (.inr GW274.out) _|refine Kept.setCell ?_ (.inr GW275.out) _|refine Kept.setCell ?_ (.inr GW276.out) _|refine Kept.setCell ?_ (.inr GW277.out) _)|exact HK.out)) hb)
         clear hb ho53
         refine hK.out _ _ ⟨(bC_ BK274.out 0).trans rfl,(bC_ BK274.out 1).trans rfl,(bC_ BK274.out 2).trans rfl,(bC_ BK274.out 3).trans rfl,(bC_ BK274.out 4).trans rfl,(bC_ BK274.out 5).trans rfl,(bC_ BK277.out 0).trans rfl,(bC_ BK277.out 1).trans rfl,(bC_ BK277.out 2).trans rfl,(bC_ BK277.out 3).trans rfl,(bC_ BK277.out 4).trans rfl,(bC_ BK277.out 5).trans rfl,(bC_ BK277.out 6).trans rfl⟩ (fun hHeld=>?_)
         clear hK K
         refine no_ 45 ?_
         refine two_ (i:=3) (j:=5) (Ni:=some 48) (Nj:=some 50) #[true,true,true,true,true,false,false,false,false] #[true,true,true,false,true,true,false,false,false] rfl rfl rfl rfl (two_of HT_.out (by kernel_rfl)) (by decide) (by decide) (fun K hK=>?_) (fun K hK=>?_)
         ·skip
          refine Kd.R_append_rows_step k44 (w0:=w0) w0.heap.size (by rfl) (.tmp 45) (.tmp 47) 23 44 (.agg #[(.int .i64 0),(.int .i64 0),(.int .i64 0),(.int .i64 0),(.int .i64 0),(.int .i64 0),(.string ⟨#[]⟩)]) 64 rfl Tryd.underlying23 info44 rfl (by decide) (by omega) v281 y280 l0_3 _ _ _ (fun k_=>((P0_2_ k_∨P0_3_ k_)∨w.heap.size≤k_)∧some k_≠(.slice Ao5 l0_3.length co5:Value).ownBlock∧k_≠gb277) (fun _=>False) rfl rfl ?aO ?aR (fun _ _ h=>h) (fun _ h=>h.elim) ?aF ?aB ?aS ?aL ?_
          (case aR=>exact cx_ (Kd.R_reads' HO_275003.out).2.2)
          (case aB=>exact (bel_))
          (case aF=>exact (fun k_ hk=>⟨(.inr (Nat.le_trans (by first|exact HK.out.1|exact (show Kept w _ (fun k_=>P0_2_ k_∨P0_3_ k_) from by repeat (first|(with_reducible first|exact HK.out|apply Kept.alloc|apply Kept.drewN|apply Kept.drew|refine Kept.setCell ?_ (.inr GW274.out) _|refine Kept.setCell ?_ (.inr GW275.out) _|refine Kept.setCell ?_ (.inr GW276.out) _|refine Kept.setCell ?_ (.inr GW277.out) _)|exact HK.out)).1) hk)),Kd.fresh' (Kd.R_lt (rp_ HO_275003.out)) k_ hk,Kd.freshB (g:=gb277) (o:=.cells #[.int .i64 a0_0,.int .i64 (wrap64 ((wrap64 (a0_4+(l0_3.length:Int)))+1)),.int .i64 a1_0,.int .i64 a1_1,.int .i64 a1_2,.int .i64 a1_3,.string a1_4] 44 (0,0)) (bp_ BK277.out) k_ hk⟩))
          (case aO=>exact (by (with_reducible repeat (first|apply Kd.R_alloc|apply Kd.R_drewN|apply Kd.R_drew));exact Kd.R_mono HO282.out (fun _ hk=>⟨hk.1.1.1,⟨hk.1.2,hk.2⟩⟩)))
          (case aS=>exact (below_size (bel_)))
          (case aL=>have:=LMc41.out;omega)
          intro v284 w54 ho hb hg hat
          rw [←Ny283.out] at ho
          replace HO_275002:=a_ (Kd.R_over' (rp_ HO_275002.out) (Kd.R_typed (rp_ HO282.out)) (by decide) hg)
          replace HO_275003:=a_ (Kd.R_after (ok:=(fun k_=>((P0_2_ k_∨P0_3_ k_)∨w.heap.size≤k_)∧k_≠gb277)) (rp_ HO_275003.out) hg hat)
          replace BK274:=a_ (blk_grown (g:=gb274) (o:=.cells #[.int .i64 a0_0,.int .i64 a0_1,.slice Ao4 l0_2.length co4,.slice Ao5 l0_3.length co5,.int .i64 a0_4,.int .i64 (wrap64 (a0_5+1))] 77 (0,0)) (bp_ BK274.out) hg (Kd.R_ne HO282.out BK274.out (by decide)))
          replace BK275:=a_ (blk_grown (g:=gb275) (o:=.cells #[.int .i64 a1_0,.int .i64 a1_1,.int .i64 a1_2,.int .i64 a1_3,.string a1_4] 42 (0,0)) (bp_ BK275.out) hg (Kd.R_ne HO282.out BK275.out (by decide)))
          replace BK276:=a_ (blk_grown (g:=gb276) (o:=.cells #[.int .i64 0,.int .i64 0,.slice none 0 0,.slice none 0 0,.int .i64 0,.int .i64 0] 77 (0,0)) (bp_ BK276.out) hg (Kd.R_ne HO282.out BK276.out (by decide)))
          replace BK277:=a_ (blk_grown (g:=gb277) (o:=.cells #[.int .i64 a0_0,.int .i64 (wrap64 ((wrap64 (a0_4+(l0_3.length:Int)))+1)),.int .i64 a1_0,.int .i64 a1_1,.int .i64 a1_2,.int .i64 a1_3,.string a1_4] 44 (0,0)) (bp_ BK277.out) hg (Kd.R_away HO282.out (fun _ hk=>hk.2)))
          replace HB:=a_ (hb)
          replace HK:=a_ (Kept.of_grown (S:=(fun k_=>P0_2_ k_∨P0_3_ k_)) hg (by repeat (first|(with_reducible first|exact HK.out|apply Kept.alloc|apply Kept.drewN|apply Kept.drew|refine Kept.setCell ?_ (.inr GW274.out) _|refine Kept.setCell ?_ (.inr GW275.out) _|refine Kept.setCell ?_ (.inr GW276.out) _|refine Kept.setCell ?_ (.inr GW277.out) _)|exact HK.out)) (fun k_ e_=>(HO282.out.1 k_ e_).1.1.1))
          have HO285:=a_ (ho)
          clear HO282
          clear ho hb hg hat
          refine hK.out _ _ ⟨(bC_ BK274.out 0).trans rfl,(bC_ BK274.out 1).trans rfl,(bC_ BK274.out 2).trans rfl,(bC_ BK274.out 3).trans rfl,(bC_ BK274.out 4).trans rfl,(bC_ BK274.out 5).trans rfl,(bC_ BK277.out 0).trans rfl,(bC_ BK277.out 1).trans rfl,(bC_ BK277.out 2).trans rfl,(bC_ BK277.out 3).trans rfl,(bC_ BK277.out 4).trans rfl,(bC_ BK277.out 5).trans rfl,(bC_ BK277.out 6).trans rfl⟩ (fun hHeld=>?_)
          clear hK K
          refine no_ 48 ?_
          refine on_ 5 50 (fun K hK=>?_)
          refine Kd.R_lit_step k44 _ 44 ?hg (N:=50) ?hd (xs:=([(⟨a0_0,(wrap64 ((wrap64 (a0_4+(l0_3.length:Int)))+1)),(⟨a1_0,a1_1,a1_2,a1_3,a1_4⟩:S42)⟩:S44)]:List (S44))) (inner:=[.int .i64 a0_0,.int .i64 (wrap64 ((wrap64 (a0_4+(l0_3.length:Int)))+1)),.int .i64 a1_0,.int .i64 a1_1,.int .i64 a1_2,.int .i64 a1_3,.string a1_4]) (ok:=fun _=>True) (okp:=fun _=>True) ?hr ?hp (fun _ hk=>hk) trivial (Below.refl _ _) (Nat.le_refl _) (by simp) ?_;(case hd=>rfl);(case hg=>rfl);(case hr=>first|(go_simp;done)|(go_simp;rfl));(case hp=>exact (Reps.c7 (show Kd.M k44 _ _ _ (⟨a0_0,(wrap64 ((wrap64 (a0_4+(l0_3.length:Int)))+1)),(⟨a1_0,a1_1,a1_2,a1_3,a1_4⟩:S42)⟩:S44) [.int .i64 a0_0,.int .i64 (wrap64 ((wrap64 (a0_4+(l0_3.length:Int)))+1)),.int .i64 a1_0,.int .i64 a1_1,.int .i64 a1_2,.int .i64 a1_3,.string a1_4] from (k44_mkM _ _ _ (⟨a0_0,(wrap64 ((wrap64 (a0_4+(l0_3.length:Int)))+1)),(⟨a1_0,a1_1,a1_2,a1_3,a1_4⟩:S42)⟩:S44) )) (Reps.none _ _)))
          intro v287 w55 ho56 hb hg_ hnew_
          clear hg_ hnew_
          (first|rw [←Ny286.out] at ho56|(simp only [Int.reduceToNat] at ho56;rw [←Ny286.out] at ho56))
          replace HO_275002:=a_ (Kd.R_below (rp_ HO_275002.out) hb)
          have HO288:=a_ (Kd.R_lower (Kd.R_newB (Kd.R_new' (Kd.R_new' (Kd.R_newM (M:=fun k_=>((P0_2_ k_∨P0_3_ k_)∨w.heap.size≤k_)) ho56 (by first|exact HK.out.1|exact (show Kept w _ (fun k_=>P0_2_ k_∨P0_3_ k_) from by repeat (first|(with_reducible first|exact HK.out|apply Kept.alloc|apply Kept.drewN|apply Kept.drew|refine Kept.setCell ?_ (.inr GW274.out) _|refine Kept.setCell ?_ (.inr GW275.out) _|refine Kept.setCell ?_ (.inr GW276.out) _|refine Kept.setCell ?_ (.inr GW277.out) _)|exact HK.out)).1) (fun k_ h_=>.inr h_)) (Kd.R_lt (rp_ HO_275003.out))) (Kd.R_lt (rp_ HO285.out))) (g:=gb277) (o:=.cells #[.int .i64 a0_0,.int .i64 (wrap64 ((wrap64 (a0_4+(l0_3.length:Int)))+1)),.int .i64 a1_0,.int .i64 a1_1,.int .i64 a1_2,.int .i64 a1_3,.string a1_4] 44 (0,0)) (bp_ BK277.out)) (below_size (bel_)))
          replace HO_275003:=a_ (Kd.R_elder' (rp_ HO_275003.out) (Kd.R_base ho56) hb)
          replace HO285:=a_ (Kd.R_elder' (rp_ HO285.out) (Kd.R_base ho56) hb)
          replace HB:=a_ (bS_ (bel_) hb)
          replace BK274:=a_ (bb_ BK274.out hb)
          replace BK275:=a_ (bb_ BK275.out hb)
          replace BK276:=a_ (bb_ BK276.out hb)
          replace BK277:=a_ (bb_ BK277.out hb)
          replace HK:=a_ (Kept.below (S:=(fun k_=>P0_2_ k_∨P0_3_ k_)) (by repeat (first|(with_reducible first|exact HK.out|apply Kept.alloc|apply Kept.drewN|apply Kept.drew|refine Kept.setCell ?_ (.inr GW274.out) _|refine Kept.setCell ?_ (.inr GW275.out) _|refine Kept.setCell ?_ (.inr GW276.out) _|refine Kept.setCell ?_ (.inr GW277.out) _)|exact HK.out)) hb)
          clear hb ho56
          refine hK.out _ _ ⟨(bC_ BK274.out 0).trans rfl,(bC_ BK274.out 1).trans rfl,(bC_ BK274.out 2).trans rfl,(bC_ BK274.out 3).trans rfl,(bC_ BK274.out 4).trans rfl,(bC_ BK274.out 5).trans rfl,(bC_ BK277.out 0).trans rfl,(bC_ BK277.out 1).trans rfl,(bC_ BK277.out 2).trans rfl,(bC_ BK277.out 3).trans rfl,(bC_ BK277.out 4).trans rfl,(bC_ BK277.out 5).trans rfl,(bC_ BK277.out 6).trans rfl⟩ (fun hHeld=>?_)
          clear hK K
          refine no_ 50 ?_
          exact norm_ (by simp only [putAll,Act.put,List.setIfInBounds_toArray,List.set_cons_zero,List.set_cons_succ]) (hCont (v281,v284,v287) _ ⟨hHeld,(by (with_reducible repeat (first|apply Kd.R_alloc|apply Kd.R_drewN|apply Kd.R_drew));exact Kd.R_mono HO285.out (fun _ hk=>⟨hk.1.1,⟨hk.2,⟨hk.1.2.1,hk.1.2.2⟩⟩⟩)),(by (with_reducible repeat (first|apply Kd.R_alloc|apply Kd.R_drewN|apply Kd.R_drew));exact Kd.R_mono HO288.out (fun _ hk=>⟨hk.1.1.1.1,⟨hk.1.2,⟨hk.1.1.2,hk.2⟩⟩⟩)),(rp_ HO_275002.out),(by (with_reducible repeat (first|apply Kd.R_alloc|apply Kd.R_drewN|apply Kd.R_drew));exact Kd.R_mono HO_275003.out (fun _ hk=>⟨hk.1.1.1,⟨hk.1.2,⟨hk.2,hk.1.1.2⟩⟩⟩)),(bp_ BK274.out),(bp_ BK275.out),(bp_ BK276.out),(bp_ BK277.out),(by repeat (first|(with_reducible first|exact HK.out|apply Kept.alloc|apply Kept.drewN|apply Kept.drew|refine Kept.setCell ?_ (.inr GW274.out) _|refine Kept.setCell ?_ (.inr GW275.out) _|refine Kept.setCell ?_ (.inr GW276.out) _|refine Kept.setCell ?_ (.inr GW277.out) _)|exact HK.out)),(bel_)⟩)
         ·skip
          refine Kd.R_lit_step k44 _ 44 ?hg (N:=50) ?hd (xs:=([(⟨a0_0,(wrap64 ((wrap64 (a0_4+(l0_3.length:Int)))+1)),(⟨a1_0,a1_1,a1_2,a1_3,a1_4⟩:S42)⟩:S44)]:List (S44))) (inner:=[.int .i64 a0_0,.int .i64 (wrap64 ((wrap64 (a0_4+(l0_3.length:Int)))+1)),.int .i64 a1_0,.int .i64 a1_1,.int .i64 a1_2,.int .i64 a1_3,.string a1_4]) (ok:=fun _=>True) (okp:=fun _=>True) ?hr ?hp (fun _ hk=>hk) trivial (Below.refl _ _) (Nat.le_refl _) (by simp) ?_;(case hd=>rfl);(case hg=>rfl);(case hr=>first|(go_simp;done)|(go_simp;rfl));(case hp=>exact (Reps.c7 (show Kd.M k44 _ _ _ (⟨a0_0,(wrap64 ((wrap64 (a0_4+(l0_3.length:Int)))+1)),(⟨a1_0,a1_1,a1_2,a1_3,a1_4⟩:S42)⟩:S44) [.int .i64 a0_0,.int .i64 (wrap64 ((wrap64 (a0_4+(l0_3.length:Int)))+1)),.int .i64 a1_0,.int .i64 a1_1,.int .i64 a1_2,.int .i64 a1_3,.string a1_4] from (k44_mkM _ _ _ (⟨a0_0,(wrap64 ((wrap64 (a0_4+(l0_3.length:Int)))+1)),(⟨a1_0,a1_1,a1_2,a1_3,a1_4⟩:S42)⟩:S44) )) (Reps.none _ _)))
          intro v287 w54 ho55 hb hg_ hnew_
          clear hg_ hnew_
          (first|rw [←Ny286.out] at ho55|(simp only [Int.reduceToNat] at ho55;rw [←Ny286.out] at ho55))
          replace HO_275002:=a_ (Kd.R_below (rp_ HO_275002.out) hb)
          have HO288:=a_ (Kd.R_lower (Kd.R_newB (Kd.R_new' (Kd.R_new' (Kd.R_newM (M:=fun k_=>((P0_2_ k_∨P0_3_ k_)∨w.heap.size≤k_)) ho55 (by first|exact HK.out.1|exact (show Kept w _ (fun k_=>P0_2_ k_∨P0_3_ k_) from by repeat (first|(with_reducible first|exact HK.out|apply Kept.alloc|apply Kept.drewN|apply Kept.drew|refine Kept.setCell ?_ (.inr GW274.out) _|refine Kept.setCell ?_ (.inr GW275.out) _|refine Kept.setCell ?_ (.inr GW276.out) _|refine Kept.setCell ?_ (.inr GW277.out) _)|exact HK.out)).1) (fun k_ h_=>.inr h_)) (Kd.R_lt (rp_ HO_275003.out))) (Kd.R_lt (rp_ HO282.out))) (g:=gb277) (o:=.cells #[.int .i64 a0_0,.int .i64 (wrap64 ((wrap64 (a0_4+(l0_3.length:Int)))+1)),.int .i64 a1_0,.int .i64 a1_1,.int .i64 a1_2,.int .i64 a1_3,.string a1_4] 44 (0,0)) (bp_ BK277.out)) (below_size (bel_)))
          replace HO_275003:=a_ (Kd.R_elder' (rp_ HO_275003.out) (Kd.R_base ho55) hb)
          replace HO282:=a_ (Kd.R_elder' (rp_ HO282.out) (Kd.R_base ho55) hb)
          replace HB:=a_ (bS_ (bel_) hb)
          replace BK274:=a_ (bb_ BK274.out hb)
          replace BK275:=a_ (bb_ BK275.out hb)
          replace BK276:=a_ (bb_ BK276.out hb)
          replace BK277:=a_ (bb_ BK277.out hb)
          replace HK:=a_ (Kept.below (S:=(fun k_=>P0_2_ k_∨P0_3_ k_)) (by repeat (first|(with_reducible first|exact HK.out|apply Kept.alloc|apply Kept.drewN|apply Kept.drew|refine Kept.setCell ?_ (.inr GW274.out) _|refine Kept.setCell ?_ (.inr GW275.out) _|refine Kept.setCell ?_ (.inr GW276.out) _|refine Kept.setCell ?_ (.inr GW277.out) _)|exact HK.out)) hb)
          clear hb ho55
          refine hK.out _ _ ⟨(bC_ BK274.out 0).trans rfl,(bC_ BK274.out 1).trans rfl,(bC_ BK274.out 2).trans rfl,(bC_ BK274.out 3).trans rfl,(bC_ BK274.out 4).trans rfl,(bC_ BK274.out 5).trans rfl,(bC_ BK277.out 0).trans rfl,(bC_ BK277.out 1).trans rfl,(bC_ BK277.out 2).trans rfl,(bC_ BK277.out 3).trans rfl,(bC_ BK277.out 4).trans rfl,(bC_ BK277.out 5).trans rfl,(bC_ BK277.out 6).trans rfl⟩ (fun hHeld=>?_)
          clear hK K
          refine no_ 50 ?_
          refine on_ 3 48 (fun K hK=>?_)
          refine Kd.R_append_rows_step k44 (w0:=w0) w0.heap.size (by rfl) (.tmp 45) (.tmp 47) 23 44 (.agg #[(.int .i64 0),(.int .i64 0),(.int .i64 0),(.int .i64 0),(.int .i64 0),(.int .i64 0),(.string ⟨#[]⟩)]) 64 rfl Tryd.underlying23 info44 rfl (by decide) (by omega) v281 y280 l0_3 _ _ _ (fun k_=>((P0_2_ k_∨P0_3_ k_)∨w.heap.size≤k_)∧some k_≠(.slice Ao5 l0_3.length co5:Value).ownBlock∧some k_≠(v287:Value).ownBlock∧k_≠gb277) (fun _=>False) rfl rfl ?aO ?aR (fun _ _ h=>h) (fun _ h=>h.elim) ?aF ?aB ?aS ?aL ?_
          (case aR=>exact cx_ (Kd.R_reads' HO_275003.out).2.2)
          (case aB=>exact (bel_))
          (case aF=>exact (fun k_ hk=>⟨(.inr (Nat.le_trans (by first|exact HK.out.1|exact (show Kept w _ (fun k_=>P0_2_ k_∨P0_3_ k_) from by repeat (first|(with_reducible first|exact HK.out|apply Kept.alloc|apply Kept.drewN|apply Kept.drew|refine Kept.setCell ?_ (.inr GW274.out) _|refine Kept.setCell ?_ (.inr GW275.out) _|refine Kept.setCell ?_ (.inr GW276.out) _|refine Kept.setCell ?_ (.inr GW277.out) _)|exact HK.out)).1) hk)),Kd.fresh' (Kd.R_lt (rp_ HO_275003.out)) k_ hk,Kd.fresh' (Kd.R_lt (rp_ HO288.out)) k_ hk,Kd.freshB (g:=gb277) (o:=.cells #[.int .i64 a0_0,.int .i64 (wrap64 ((wrap64 (a0_4+(l0_3.length:Int)))+1)),.int .i64 a1_0,.int .i64 a1_1,.int .i64 a1_2,.int .i64 a1_3,.string a1_4] 44 (0,0)) (bp_ BK277.out) k_ hk⟩))
          (case aO=>exact (by (with_reducible repeat (first|apply Kd.R_alloc|apply Kd.R_drewN|apply Kd.R_drew));exact Kd.R_mono HO282.out (fun _ hk=>⟨hk.1.1.1.1,⟨hk.1.1.2,⟨hk.2,hk.1.2⟩⟩⟩)))
          (case aS=>exact (below_size (bel_)))
          (case aL=>have:=LMc41.out;omega)
          intro v284 w56 ho hb hg hat
          rw [←Ny283.out] at ho
          replace HO_275002:=a_ (Kd.R_over' (rp_ HO_275002.out) (Kd.R_typed (rp_ HO282.out)) (by decide) hg)
          replace HO_275003:=a_ (Kd.R_after (ok:=(fun k_=>((P0_2_ k_∨P0_3_ k_)∨w.heap.size≤k_)∧some k_≠(v287:Value).ownBlock∧k_≠gb277)) (by (with_reducible repeat (first|apply Kd.R_alloc|apply Kd.R_drewN|apply Kd.R_drew));exact Kd.R_mono HO_275003.out (fun _ hk=>⟨⟨hk.1.1.1,⟨hk.2,hk.1.1.2⟩⟩,hk.1.2⟩)) hg hat)
          replace BK274:=a_ (blk_grown (g:=gb274) (o:=.cells #[.int .i64 a0_0,.int .i64 a0_1,.slice Ao4 l0_2.length co4,.slice Ao5 l0_3.length co5,.int .i64 a0_4,.int .i64 (wrap64 (a0_5+1))] 77 (0,0)) (bp_ BK274.out) hg (Kd.R_ne HO282.out BK274.out (by decide)))
          replace BK275:=a_ (blk_grown (g:=gb275) (o:=.cells #[.int .i64 a1_0,.int .i64 a1_1,.int .i64 a1_2,.int .i64 a1_3,.string a1_4] 42 (0,0)) (bp_ BK275.out) hg (Kd.R_ne HO282.out BK275.out (by decide)))
          replace BK276:=a_ (blk_grown (g:=gb276) (o:=.cells #[.int .i64 0,.int .i64 0,.slice none 0 0,.slice none 0 0,.int .i64 0,.int .i64 0] 77 (0,0)) (bp_ BK276.out) hg (Kd.R_ne HO282.out BK276.out (by decide)))
          replace BK277:=a_ (blk_grown (g:=gb277) (o:=.cells #[.int .i64 a0_0,.int .i64 (wrap64 ((wrap64 (a0_4+(l0_3.length:Int)))+1)),.int .i64 a1_0,.int .i64 a1_1,.int .i64 a1_2,.int .i64 a1_3,.string a1_4] 44 (0,0)) (bp_ BK277.out) hg (Kd.R_away HO282.out (fun _ hk=>hk.1.2)))
          replace HO288:=a_ (Kd.R_after (ok:=(fun k_=>((P0_2_ k_∨P0_3_ k_)∨w.heap.size≤k_)∧some k_≠(.slice Ao5 l0_3.length co5:Value).ownBlock∧k_≠gb277)) (by (with_reducible repeat (first|apply Kd.R_alloc|apply Kd.R_drewN|apply Kd.R_drew));exact Kd.R_mono HO288.out (fun _ hk=>⟨⟨hk.1.1.1.1,⟨hk.1.1.2,hk.2⟩⟩,hk.1.2⟩)) hg hat)
          replace HB:=a_ (hb)
          replace HK:=a_ (Kept.of_grown (S:=(fun k_=>P0_2_ k_∨P0_3_ k_)) hg (by repeat (first|(with_reducible first|exact HK.out|apply Kept.alloc|apply Kept.drewN|apply Kept.drew|refine Kept.setCell ?_ (.inr GW274.out) _|refine Kept.setCell ?_ (.inr GW275.out) _|refine Kept.setCell ?_ (.inr GW276.out) _|refine Kept.setCell ?_ (.inr GW277.out) _)|exact HK.out)) (fun k_ e_=>(HO282.out.1 k_ e_).1.1.1.1))
          have HO285:=a_ (ho)
          clear HO282
          clear ho hb hg hat
          refine hK.out _ _ ⟨(bC_ BK274.out 0).trans rfl,(bC_ BK274.out 1).trans rfl,(bC_ BK274.out 2).trans rfl,(bC_ BK274.out 3).trans rfl,(bC_ BK274.out 4).trans rfl,(bC_ BK274.out 5).trans rfl,(bC_ BK277.out 0).trans rfl,(bC_ BK277.out 1).trans rfl,(bC_ BK277.out 2).trans rfl,(bC_ BK277.out 3).trans rfl,(bC_ BK277.out 4).trans rfl,(bC_ BK277.out 5).trans rfl,(bC_ BK277.out 6).trans rfl⟩ (fun hHeld=>?_)
          clear hK K
          refine no_ 48 ?_
          exact norm_ (by simp only [putAll,Act.put,List.setIfInBounds_toArray,List.set_cons_zero,List.set_cons_succ]) (hCont (v281,v284,v287) _ ⟨hHeld,(by (with_reducible repeat (first|apply Kd.R_alloc|apply Kd.R_drewN|apply Kd.R_drew));exact Kd.R_mono HO285.out (fun _ hk=>⟨hk.1,⟨hk.2.2.1,⟨hk.2.1,hk.2.2.2⟩⟩⟩)),(by (with_reducible repeat (first|apply Kd.R_alloc|apply Kd.R_drewN|apply Kd.R_drew));exact Kd.R_mono HO288.out (fun _ hk=>⟨hk.1.1,⟨hk.2,⟨hk.1.2.1,hk.1.2.2⟩⟩⟩)),(rp_ HO_275002.out),(by (with_reducible repeat (first|apply Kd.R_alloc|apply Kd.R_drewN|apply Kd.R_drew));exact Kd.R_mono HO_275003.out (fun _ hk=>⟨hk.1.1,⟨hk.2,⟨hk.1.2.1,hk.1.2.2⟩⟩⟩)),(bp_ BK274.out),(bp_ BK275.out),(bp_ BK276.out),(bp_ BK277.out),(by repeat (first|(with_reducible first|exact HK.out|apply Kept.alloc|apply Kept.drewN|apply Kept.drew|refine Kept.setCell ?_ (.inr GW274.out) _|refine Kept.setCell ?_ (.inr GW275.out) _|refine Kept.setCell ?_ (.inr GW276.out) _|refine Kept.setCell ?_ (.inr GW277.out) _)|exact HK.out)),(bel_)⟩)
        ·skip
         refine Kd.R_lit_step k44 _ 44 ?hg (N:=50) ?hd (xs:=([(⟨a0_0,(wrap64 ((wrap64 (a0_4+(l0_3.length:Int)))+1)),(⟨a1_0,a1_1,a1_2,a1_3,a1_4⟩:S42)⟩:S44)]:List (S44))) (inner:=[.int .i64 a0_0,.int .i64 (wrap64 ((wrap64 (a0_4+(l0_3.length:Int)))+1)),.int .i64 a1_0,.int .i64 a1_1,.int .i64 a1_2,.int .i64 a1_3,.string a1_4]) (ok:=fun _=>True) (okp:=fun _=>True) ?hr ?hp (fun _ hk=>hk) trivial (Below.refl _ _) (Nat.le_refl _) (by simp) ?_;(case hd=>rfl);(case hg=>rfl);(case hr=>first|(go_simp;done)|(go_simp;rfl));(case hp=>exact (Reps.c7 (show Kd.M k44 _ _ _ (⟨a0_0,(wrap64 ((wrap64 (a0_4+(l0_3.length:Int)))+1)),(⟨a1_0,a1_1,a1_2,a1_3,a1_4⟩:S42)⟩:S44) [.int .i64 a0_0,.int .i64 (wrap64 ((wrap64 (a0_4+(l0_3.length:Int)))+1)),.int .i64 a1_0,.int .i64 a1_1,.int .i64 a1_2,.int .i64 a1_3,.string a1_4] from (k44_mkM _ _ _ (⟨a0_0,(wrap64 ((wrap64 (a0_4+(l0_3.length:Int)))+1)),(⟨a1_0,a1_1,a1_2,a1_3,a1_4⟩:S42)⟩:S44) )) (Reps.none _ _)))
         intro v287 w52 ho53 hb hg_ hnew_
         clear hg_ hnew_
         (first|rw [←Ny286.out] at ho53|(simp only [Int.reduceToNat] at ho53;rw [←Ny286.out] at ho53))
         replace HO_275002:=a_ (Kd.R_below (rp_ HO_275002.out) hb)
         have HO288:=a_ (Kd.R_lower (Kd.R_newB (Kd.R_new' (Kd.R_newM (M:=fun k_=>((P0_2_ k_∨P0_3_ k_)∨w.heap.size≤k_)) ho53 (by first|exact HK.out.1|exact (show Kept w _ (fun k_=>P0_2_ k_∨P0_3_ k_) from by repeat (first|(with_reducible first|exact HK.out|apply Kept.alloc|apply Kept.drewN|apply Kept.drew|refine Kept.setCell ?_ (.inr GW274.out) _|refine Kept.setCell ?_ (.inr GW275.out) _|refine Kept.setCell ?_ (.inr GW276.out) _|refine Kept.setCell ?_ (.inr GW277.out) _)|exact HK.out)).1) (fun k_ h_=>.inr h_)) (Kd.R_lt (rp_ HO_275003.out))) (g:=gb277) (o:=.cells #[.int .i64 a0_0,.int .i64 (wrap64 ((wrap64 (a0_4+(l0_3.length:Int)))+1)),.int .i64 a1_0,.int .i64 a1_1,.int .i64 a1_2,.int .i64 a1_3,.string a1_4] 44 (0,0)) (bp_ BK277.out)) (below_size (bel_)))
         replace HO_275003:=a_ (Kd.R_elder' (rp_ HO_275003.out) (Kd.R_base ho53) hb)
         replace HB:=a_ (bS_ (bel_) hb)
         replace BK274:=a_ (bb_ BK274.out hb)
         replace BK275:=a_ (bb_ BK275.out hb)
         replace BK276:=a_ (bb_ BK276.out hb)
         replace BK277:=a_ (bb_ BK277.out hb)
         replace HK:=a_ (Kept.below (S:=(fun k_=>P0_2_ k_∨P0_3_ k_)) (by repeat (first|(with_reducible first|exact HK.out|apply Kept.alloc|apply Kept.drewN|apply Kept.drew|refine Kept.setCell ?_ (.inr GW274.out) _|refine Kept.setCell ?_ (.inr GW275.out) _|refine Kept.setCell ?_ (.inr GW276.out) _|refine Kept.setCell ?_ (.inr GW277.out) _)|exact HK.out)) hb)
         clear hb ho53
         refine hK.out _ _ ⟨(bC_ BK274.out 0).trans rfl,(bC_ BK274.out 1).trans rfl,(bC_ BK274.out 2).trans rfl,(bC_ BK274.out 3).trans rfl,(bC_ BK274.out 4).trans rfl,(bC_ BK274.out 5).trans rfl,(bC_ BK277.out 0).trans rfl,(bC_ BK277.out 1).trans rfl,(bC_ BK277.out 2).trans rfl,(bC_ BK277.out 3).trans rfl,(bC_ BK277.out 4).trans rfl,(bC_ BK277.out 5).trans rfl,(bC_ BK277.out 6).trans rfl⟩ (fun hHeld=>?_)
         clear hK K
         refine no_ 50 ?_
         refine on_ 0 45 (fun K hK=>?_)
         refine Kd.R_lit_step k44 _ 44 ?hg (N:=45) ?hd (xs:=([]:List (S44))) (inner:=[]) (ok:=fun _=>True) (okp:=fun _=>True) ?hr ?hp (fun _ hk=>hk) trivial (Below.refl _ _) (Nat.le_refl _) (by simp) ?_;(case hd=>rfl);(case hg=>rfl);(case hr=>first|(go_simp;done)|(go_simp;rfl));(case hp=>exact (Reps.none _ _))
         intro v281 w54 ho55 hb hg_ hnew_
         clear hg_ hnew_
         (first|rw [←Ny280.out] at ho55|(simp only [Int.reduceToNat] at ho55;rw [←Ny280.out] at ho55))
         replace HO_275002:=a_ (Kd.R_below (rp_ HO_275002.out) hb)
         have HO282:=a_ (Kd.R_lower (Kd.R_newB (Kd.R_new' (Kd.R_new' (Kd.R_newM (M:=fun k_=>((P0_2_ k_∨P0_3_ k_)∨w.heap.size≤k_)) ho55 (by first|exact HK.out.1|exact (show Kept w _ (fun k_=>P0_2_ k_∨P0_3_ k_) from by repeat (first|(with_reducible first|exact HK.out|apply Kept.alloc|apply Kept.drewN|apply Kept.drew|refine Kept.setCell ?_ (.inr GW274.out) _|refine Kept.setCell ?_ (.inr GW275.out) _|refine Kept.setCell ?_ (.inr GW276.out) _|refine Kept.setCell ?_ (.inr GW277.out) _)|exact HK.out)).1) (fun k_ h_=>.inr h_)) (Kd.R_lt (rp_ HO_275003.out))) (Kd.R_lt (rp_ HO288.out))) (g:=gb277) (o:=.cells #[.int .i64 a0_0,.int .i64 (wrap64 ((wrap64 (a0_4+(l0_3.length:Int)))+1)),.int .i64 a1_0,.int .i64 a1_1,.int .i64 a1_2,.int .i64 a1_3,.string a1_4] 44 (0,0)) (bp_ BK277.out)) (below_size (bel_)))
         replace HO_275003:=a_ (Kd.R_elder' (rp_ HO_275003.out) (Kd.R_base ho55) hb)
         replace HO288:=a_ (Kd.R_elder' (rp_ HO288.out) (Kd.R_base ho55) hb)
         replace HB:=a_ (bS_ (bel_) hb)
         replace BK274:=a_ (bb_ BK274.out hb)
         replace BK275:=a_ (bb_ BK275.out hb)
         replace BK276:=a_ (bb_ BK276.out hb)
         replace BK277:=a_ (bb_ BK277.out hb)
         replace HK:=a_ (Kept.below (S:=(fun k_=>P0_2_ k_∨P0_3_ k_)) (by repeat (first|(with_reducible first|exact HK.out|apply Kept.alloc|apply Kept.drewN|apply Kept.drew|refine Kept.setCell ?_ (.inr GW274.out) _|refine Kept.setCell ?_ (.inr GW275.out) _|refine Kept.setCell ?_ (.inr GW276.out) _|refine Kept.setCell ?_ (.inr GW277.out) _)|exact HK.out)) hb)
         clear hb ho55
         refine hK.out _ _ ⟨(bC_ BK274.out 0).trans rfl,(bC_ BK274.out 1).trans rfl,(bC_ BK274.out 2).trans rfl,(bC_ BK274.out 3).trans rfl,(bC_ BK274.out 4).trans rfl,(bC_ BK274.out 5).trans rfl,(bC_ BK277.out 0).trans rfl,(bC_ BK277.out 1).trans rfl,(bC_ BK277.out 2).trans rfl,(bC_ BK277.out 3).trans rfl,(bC_ BK277.out 4).trans rfl,(bC_ BK277.out 5).trans rfl,(bC_ BK277.out 6).trans rfl⟩ (fun hHeld=>?_)
         clear hK K
         refine no_ 45 ?_
         refine on_ 3 48 (fun K hK=>?_)
         refine Kd.R_append_rows_step k44 (w0:=w0) w0.heap.size (by rfl) (.tmp 45) (.tmp 47) 23 44 (.agg #[(.int .i64 0),(.int .i64 0),(.int .i64 0),(.int .i64 0),(.int .i64 0),(.int .i64 0),(.string ⟨#[]⟩)]) 64 rfl Tryd.underlying23 info44 rfl (by decide) (by omega) v281 y280 l0_3 _ _ _ (fun k_=>((P0_2_ k_∨P0_3_ k_)∨w.heap.size≤k_)∧some k_≠(.slice Ao5 l0_3.length co5:Value).ownBlock∧some k_≠(v287:Value).ownBlock∧k_≠gb277) (fun _=>False) rfl rfl ?aO ?aR (fun _ _ h=>h) (fun _ h=>h.elim) ?aF ?aB ?aS ?aL ?_
         (case aR=>exact cx_ (Kd.R_reads' HO_275003.out).2.2)
         (case aB=>exact (bel_))
         (case aF=>exact (fun k_ hk=>⟨(.inr (Nat.le_trans (by first|exact HK.out.1|exact (show Kept w _ (fun k_=>P0_2_ k_∨P0_3_ k_) from by repeat (first|(with_reducible first|exact HK.out|apply Kept.alloc|apply Kept.drewN|apply Kept.drew|refine Kept.setCell ?_ (.inr GW274.out) _|refine Kept.setCell ?_ (.inr GW275.out) _|refine Kept.setCell ?_ (.inr GW276.out) _|refine Kept.setCell ?_ (.inr GW277.out) _)|exact HK.out)).1) hk)),Kd.fresh' (Kd.R_lt (rp_ HO_275003.out)) k_ hk,Kd.fresh' (Kd.R_lt (rp_ HO288.out)) k_ hk,Kd.freshB (g:=gb277) (o:=.cells #[.int .i64 a0_0,.int .i64 (wrap64 ((wrap64 (a0_4+(l0_3.length:Int)))+1)),.int .i64 a1_0,.int .i64 a1_1,.int .i64 a1_2,.int .i64 a1_3,.string a1_4] 44 (0,0)) (bp_ BK277.out) k_ hk⟩))
         (case aO=>exact (by (with_reducible repeat (first|apply Kd.R_alloc|apply Kd.R_drewN|apply Kd.R_drew));exact Kd.R_mono HO282.out (fun _ hk=>⟨hk.1.1.1.1,⟨hk.1.1.2,⟨hk.1.2,hk.2⟩⟩⟩)))
         (case aS=>exact (below_size (bel_)))
         (case aL=>have:=LMc41.out;omega)
         intro v284 w56 ho hb hg hat
         rw [←Ny283.out] at ho
         replace HO_275002:=a_ (Kd.R_over' (rp_ HO_275002.out) (Kd.R_typed (rp_ HO282.out)) (by decide) hg)
         replace HO_275003:=a_ (Kd.R_after (ok:=(fun k_=>((P0_2_ k_∨P0_3_ k_)∨w.heap.size≤k_)∧some k_≠(v287:Value).ownBlock∧k_≠gb277)) (by (with_reducible repeat (first|apply Kd.R_alloc|apply Kd.R_drewN|apply Kd.R_drew));exact Kd.R_mono HO_275003.out (fun _ hk=>⟨⟨hk.1.1.1,⟨hk.1.2,hk.1.1.2⟩⟩,hk.2⟩)) hg hat)
         replace BK274:=a_ (blk_grown (g:=gb274) (o:=.cells #[.int .i64 a0_0,.int .i64 a0_1,.slice Ao4 l0_2.length co4,.slice Ao5 l0_3.length co5,.int .i64 a0_4,.int .i64 (wrap64 (a0_5+1))] 77 (0,0)) (bp_ BK274.out) hg (Kd.R_ne HO282.out BK274.out (by decide)))
         replace BK275:=a_ (blk_grown (g:=gb275) (o:=.cells #[.int .i64 a1_0,.int .i64 a1_1,.int .i64 a1_2,.int .i64 a1_3,.string a1_4] 42 (0,0)) (bp_ BK275.out) hg (Kd.R_ne HO282.out BK275.out (by decide)))
         replace BK276:=a_ (blk_grown (g:=gb276) (o:=.cells #[.int .i64 0,.int .i64 0,.slice none 0 0,.slice none 0 0,.int .i64 0,.int .i64 0] 77 (0,0)) (bp_ BK276.out) hg (Kd.R_ne HO282.out BK276.out (by decide)))
         replace BK277:=a_ (blk_grown (g:=gb277) (o:=.cells #[.int .i64 a0_0,.int .i64 (wrap64 ((wrap64 (a0_4+(l0_3.length:Int)))+1)),.int .i64 a1_0,.int .i64 a1_1,.int .i64 a1_2,.int .i64 a1_3,.string a1_4] 44 (0,0)) (bp_ BK277.out) hg (Kd.R_away HO282.out (fun _ hk=>hk.2)))
         replace HO288:=a_ (Kd.R_after (ok:=(fun k_=>((P0_2_ k_∨P0_3_ k_)∨w.heap.size≤k_)∧some k_≠(.slice Ao5 l0_3.length co5:Value).ownBlock∧k_≠gb277)) (by (with_reducible repeat (first|apply Kd.R_alloc|apply Kd.R_drewN|apply Kd.R_drew));exact Kd.R_mono HO288.out (fun _ hk=>⟨⟨hk.1.1.1.1,⟨hk.1.1.2,hk.1.2⟩⟩,hk.2⟩)) hg hat)
         replace HB:=a_ (hb)
         replace HK:=a_ (Kept.of_grown (S:=(fun k_=>P0_2_ k_∨P0_3_ k_)) hg (by repeat (first|(with_reducible first|exact HK.out|apply Kept.alloc|apply Kept.drewN|apply Kept.drew|refine Kept.setCell ?_ (.inr GW274.out) _|refine Kept.setCell ?_ (.inr GW275.out) _|refine Kept.setCell ?_ (.inr GW276.out) _|refine Kept.setCell ?_ (.inr GW277.out) _)|exact HK.out)) (fun k_ e_=>(HO282.out.1 k_ e_).1.1.1.1))
         have HO285:=a_ (ho)
         clear HO282
         clear ho hb hg hat
         refine hK.out _ _ ⟨(bC_ BK274.out 0).trans rfl,(bC_ BK274.out 1).trans rfl,(bC_ BK274.out 2).trans rfl,(bC_ BK274.out 3).trans rfl,(bC_ BK274.out 4).trans rfl,(bC_ BK274.out 5).trans rfl,(bC_ BK277.out 0).trans rfl,(bC_ BK277.out 1).trans rfl,(bC_ BK277.out 2).trans rfl,(bC_ BK277.out 3).trans rfl,(bC_ BK277.out 4).trans rfl,(bC_ BK277.out 5).trans rfl,(bC_ BK277.out 6).trans rfl⟩ (fun hHeld=>?_)
         clear hK K
         refine no_ 48 ?_
         exact norm_ (by simp only [putAll,Act.put,List.setIfInBounds_toArray,List.set_cons_zero,List.set_cons_succ]) (hCont (v281,v284,v287) _ ⟨hHeld,(by (with_reducible repeat (first|apply Kd.R_alloc|apply Kd.R_drewN|apply Kd.R_drew));exact Kd.R_mono HO285.out (fun _ hk=>⟨hk.1,⟨hk.2.2.1,⟨hk.2.1,hk.2.2.2⟩⟩⟩)),(by (with_reducible repeat (first|apply Kd.R_alloc|apply Kd.R_drewN|apply Kd.R_drew));exact Kd.R_mono HO288.out (fun _ hk=>⟨hk.1.1,⟨hk.2,⟨hk.1.2.1,hk.1.2.2⟩⟩⟩)),(rp_ HO_275002.out),(by (with_reducible repeat (first|apply Kd.R_alloc|apply Kd.R_drewN|apply Kd.R_drew));exact Kd.R_mono HO_275003.out (fun _ hk=>⟨hk.1.1,⟨hk.2,⟨hk.1.2.1,hk.1.2.2⟩⟩⟩)),(bp_ BK274.out),(bp_ BK275.out),(bp_ BK276.out),(bp_ BK277.out),(by repeat (first|(with_reducible first|exact HK.out|apply Kept.alloc|apply Kept.drewN|apply Kept.drew|refine Kept.setCell ?_ (.inr GW274.out) _|refine Kept.setCell ?_ (.inr GW275.out) _|refine Kept.setCell ?_ (.inr GW276.out) _|refine Kept.setCell ?_ (.inr GW277.out) _)|exact HK.out)),(bel_)⟩)
       rintro ⟨v281,v284,v287⟩ w57 ⟨hS_,h0_,h1_,h2_,h3_,h4_,h5_,h6_,h7_,h8_,h9_⟩
       have HO285:Aside0 (Kd.R k44 44 w57 w0.heap.size (fun k_=>((P0_2_ k_∨P0_3_ k_)∨w.heap.size≤k_)∧some k_≠(v287:Value).ownBlock∧some k_≠(.slice Ao5 l0_3.length co5:Value).ownBlock∧k_≠gb277) v284 y283):=⟨h0_⟩
       have HO288:Aside0 (Kd.R k44 44 w57 w0.heap.size (fun k_=>((P0_2_ k_∨P0_3_ k_)∨w.heap.size≤k_)∧some k_≠(v284:Value).ownBlock∧some k_≠(.slice Ao5 l0_3.length co5:Value).ownBlock∧k_≠gb277) v287 y286):=⟨h1_⟩
       replace HO_275002:Aside0 (Kd.R k69 69 w57 w0.heap.size (fun k_=>((P0_2_ k_∨P0_3_ k_)∨w.heap.size≤k_)) (.slice Ao4 l0_2.length co4) l0_2):=⟨h2_⟩
       replace HO_275003:Aside0 (Kd.R k44 44 w57 w0.heap.size (fun k_=>((P0_2_ k_∨P0_3_ k_)∨w.heap.size≤k_)∧some k_≠(v284:Value).ownBlock∧some k_≠(v287:Value).ownBlock∧k_≠gb277) (.slice Ao5 l0_3.length co5) l0_3):=⟨h3_⟩
       replace BK274:Aside0 (w57.heap[gb274]?=some (.cells #[.int .i64 a0_0,.int .i64 a0_1,.slice Ao4 l0_2.length co4,.slice Ao5 l0_3.length co5,.int .i64 a0_4,.int .i64 (wrap64 (a0_5+1))] 77 (0,0))):=⟨h4_⟩
       replace BK275:Aside0 (w57.heap[gb275]?=some (.cells #[.int .i64 a1_0,.int .i64 a1_1,.int .i64 a1_2,.int .i64 a1_3,.string a1_4] 42 (0,0))):=⟨h5_⟩
       replace BK276:Aside0 (w57.heap[gb276]?=some (.cells #[.int .i64 0,.int .i64 0,.slice none 0 0,.slice none 0 0,.int .i64 0,.int .i64 0] 77 (0,0))):=⟨h6_⟩
       replace BK277:Aside0 (w57.heap[gb277]?=some (.cells #[.int .i64 a0_0,.int .i64 (wrap64 ((wrap64 (a0_4+(l0_3.length:Int)))+1)),.int .i64 a1_0,.int .i64 a1_1,.int .i64 a1_2,.int .i64 a1_3,.string a1_4] 44 (0,0))):=⟨h7_⟩
       replace HK:Aside0 (Kept w w57 (fun k_=>P0_2_ k_∨P0_3_ k_)):=⟨h8_⟩
       replace HB:Aside0 (Below w0.heap.size w0 w57):=⟨h9_⟩
       clear h0_ h1_ h2_ h3_ h4_ h5_ h6_ h7_ h8_ h9_
       have hHeld:w57.cell? ⟨gb274,0,none⟩=some (.int .i64 a0_0)∧w57.cell? ⟨gb274,1,none⟩=some (.int .i64 a0_1)∧w57.cell? ⟨gb274,2,none⟩=some (.slice Ao4 l0_2.length co4)∧w57.cell? ⟨gb274,3,none⟩=some (.slice Ao5 l0_3.length co5)∧w57.cell? ⟨gb274,4,none⟩=some (.int .i64 a0_4)∧w57.cell? ⟨gb274,5,none⟩=some (.int .i64 (wrap64 (a0_5+1)))∧w57.cell? ⟨gb277,0,none⟩=some (.int .i64 a0_0)∧w57.cell? ⟨gb277,1,none⟩=some (.int .i64 (wrap64 ((wrap64 (a0_4+(l0_3.length:Int)))+1)))∧w57.cell? ⟨gb277,2,none⟩=some (.int .i64 a1_0)∧w57.cell? ⟨gb277,3,none⟩=some (.int .i64 a1_1)∧w57.cell? ⟨gb277,4,none⟩=some (.int .i64 a1_2)∧w57.cell? ⟨gb277,5,none⟩=some (.int .i64 a1_3)∧w57.cell? ⟨gb277,6,none⟩=some (.string a1_4):=hS_
       obtain ⟨Ao59,co59,eo59⟩:=Kd.R_slice HO288.out
       (first|subst eo59|(injection eo59 with f1_ f2_ f3_;have f4_:=f1_.symm;have f5_:=f3_.symm;clear f1_ f2_ f3_;subst f4_;subst f5_))
       refine norm_ (a':=?_) ?_ ?_
       rotate_left
       ·simp only [putAll,Act.put,List.setIfInBounds_toArray,List.set_cons_zero,List.set_cons_succ]
        rfl
       refine on_ 6 51 (fun K hK=>?_)
       refine Kd.R_append_rows_step k44 (w0:=w0) w0.heap.size (by rfl) (.tmp 48) (.tmp 50) 23 44 (.agg #[(.int .i64 0),(.int .i64 0),(.int .i64 0),(.int .i64 0),(.int .i64 0),(.int .i64 0),(.string ⟨#[]⟩)]) 64 rfl Tryd.underlying23 info44 rfl (by decide) (by omega) v284 y283 y286 _ _ _ (fun k_=>((P0_2_ k_∨P0_3_ k_)∨w.heap.size≤k_)∧some k_≠(.slice Ao5 l0_3.length co5:Value).ownBlock∧some k_≠(.slice Ao59 y286.length co59:Value).ownBlock∧k_≠gb277) (fun _=>False) rfl rfl ?aO ?aR (fun _ _ h=>h) (fun _ h=>h.elim) ?aF ?aB ?aS ?aL ?_
       (case aR=>exact cx_ (Kd.R_reads' HO288.out).2.2)
       (case aB=>exact (bel_))
       (case aF=>exact (fun k_ hk=>⟨(.inr (Nat.le_trans (by first|exact HK.out.1|exact (show Kept w _ (fun k_=>P0_2_ k_∨P0_3_ k_) from by repeat (first|(with_reducible first|exact HK.out|apply Kept.alloc|apply Kept.drewN|apply Kept.drew|refine Kept.setCell ?_ (.inr GW274.out) _|refine Kept.setCell ?_ (.inr GW275.out) _|refine Kept.setCell ?_ (.inr GW276.out) _|refine Kept.setCell ?_ (.inr GW277.out) _)|exact HK.out)).1) hk)),Kd.fresh' (Kd.R_lt (rp_ HO_275003.out)) k_ hk,Kd.fresh' (Kd.R_lt (rp_ HO288.out)) k_ hk,Kd.freshB (g:=gb277) (o:=.cells #[.int .i64 a0_0,.int .i64 (wrap64 ((wrap64 (a0_4+(l0_3.length:Int)))+1)),.int .i64 a1_0,.int .i64 a1_1,.int .i64 a1_2,.int .i64 a1_3,.string a1_4] 44 (0,0)) (bp_ BK277.out) k_ hk⟩))
       (case aO=>exact (by (with_reducible repeat (first|apply Kd.R_alloc|apply Kd.R_drewN|apply Kd.R_drew));exact Kd.R_mono HO285.out (fun _ hk=>⟨hk.1,⟨hk.2.2.1,⟨hk.2.1,hk.2.2.2⟩⟩⟩)))
       (case aS=>exact (below_size (bel_)))
       (case aL=>have:=LMc42.out;omega)
       intro v290 w58 ho hb hg hat
       rw [←Ny289.out] at ho
       replace HO_275002:=a_ (Kd.R_over' (rp_ HO_275002.out) (Kd.R_typed (rp_ HO285.out)) (by decide) hg)
       replace HO_275003:=a_ (Kd.R_after (ok:=(fun k_=>((P0_2_ k_∨P0_3_ k_)∨w.heap.size≤k_)∧some k_≠(.slice Ao59 y286.length co59:Value).ownBlock∧k_≠gb277)) (by (with_reducible repeat (first|apply Kd.R_alloc|apply Kd.R_drewN|apply Kd.R_drew));exact Kd.R_mono HO_275003.out (fun _ hk=>⟨⟨hk.1,⟨hk.2.2.1,hk.2.2.2⟩⟩,hk.2.1⟩)) hg hat)
       replace BK274:=a_ (blk_grown (g:=gb274) (o:=.cells #[.int .i64 a0_0,.int .i64 a0_1,.slice Ao4 l0_2.length co4,.slice Ao5 l0_3.length co5,.int .i64 a0_4,.int .i64 (wrap64 (a0_5+1))] 77 (0,0)) (bp_ BK274.out) hg (Kd.R_ne HO285.out BK274.out (by decide)))
       replace BK275:=a_ (blk_grown (g:=gb275) (o:=.cells #[.int .i64 a1_0,.int .i64 a1_1,.int .i64 a1_2,.int .i64 a1_3,.string a1_4] 42 (0,0)) (bp_ BK275.out) hg (Kd.R_ne HO285.out BK275.out (by decide)))
       replace BK276:=a_ (blk_grown (g:=gb276) (o:=.cells #[.int .i64 0,.int .i64 0,.slice none 0 0,.slice none 0 0,.int .i64 0,.int .i64 0] 77 (0,0)) (bp_ BK276.out) hg (Kd.R_ne HO285.out BK276.out (by decide)))
       replace BK277:=a_ (blk_grown (g:=gb277) (o:=.cells #[.int .i64 a0_0,.int .i64 (wrap64 ((wrap64 (a0_4+(l0_3.length:Int)))+1)),.int .i64 a1_0,.int .i64 a1_1,.int .i64 a1_2,.int .i64 a1_3,.string a1_4] 44 (0,0)) (bp_ BK277.out) hg (Kd.R_away HO285.out (fun _ hk=>hk.2.2.2)))
       replace HO288:=a_ (Kd.R_after (ok:=(fun k_=>((P0_2_ k_∨P0_3_ k_)∨w.heap.size≤k_)∧some k_≠(.slice Ao5 l0_3.length co5:Value).ownBlock∧k_≠gb277)) (by (with_reducible repeat (first|apply Kd.R_alloc|apply Kd.R_drewN|apply Kd.R_drew));exact Kd.R_mono HO288.out (fun _ hk=>⟨⟨hk.1,⟨hk.2.2.1,hk.2.2.2⟩⟩,hk.2.1⟩)) hg hat)
       replace HB:=a_ (hb)
       replace HK:=a_ (Kept.of_grown (S:=(fun k_=>P0_2_ k_∨P0_3_ k_)) hg (by repeat (first|(with_reducible first|exact HK.out|apply Kept.alloc|apply Kept.drewN|apply Kept.drew|refine Kept.setCell ?_ (.inr GW274.out) _|refine Kept.setCell ?_ (.inr GW275.out) _|refine Kept.setCell ?_ (.inr GW276.out) _|refine Kept.setCell ?_ (.inr GW277.out) _)|exact HK.out)) (fun k_ e_=>(HO285.out.1 k_ e_).1))
       have HO291:=a_ (ho)
       clear HO285
       clear ho hb hg hat
       obtain ⟨Ao60,co60,eo60⟩:=Kd.R_slice HO291.out
       (first|subst eo60|(injection eo60 with f1_ f2_ f3_;have f4_:=f1_.symm;have f5_:=f3_.symm;clear f1_ f2_ f3_;subst f4_;subst f5_))
       refine hK.out _ _ ⟨(bC_ BK274.out 0).trans rfl,(bC_ BK274.out 1).trans rfl,(bC_ BK274.out 2).trans rfl,(bC_ BK274.out 3).trans rfl,(bC_ BK274.out 4).trans rfl,(bC_ BK274.out 5).trans rfl,(bC_ BK277.out 0).trans rfl,(bC_ BK277.out 1).trans rfl,(bC_ BK277.out 2).trans rfl,(bC_ BK277.out 3).trans rfl,(bC_ BK277.out 4).trans rfl,(bC_ BK277.out 5).trans rfl,(bC_ BK277.out 6).trans rfl⟩ (fun hHeld=>?_)
       clear hK K
       refine no_ 51 ?_
       refine pa_ 7 52 ?_
       refine last_ (i:=8) (N:=none) #[true,true,true,true,true,true,true,true,true] rfl rfl (one_of HT_.out (by kernel_rfl)) (by decide) (fun K hK=>?_)
       have hs61:w58.cell? ⟨gb274,3,none⟩=some (.slice Ao5 l0_3.length co5):=(bC_ BK274.out 3).trans rfl
       have hfs61:=bF_ BK274.out 3
       have hns61_1:=NB275_274.out
       have hns61_2:=NB276_274.out
       have hns61_3:=NB277_274.out
       have hms61_1:=NB274_275.out
       have hms61_2:=NB274_276.out
       have hms61_3:=NB274_277.out
       refine skip_ (w1:=?_) (by rfl) rfl ?_ ?_
       rotate_left
       ·go_simp
        rfl
       refine hK.out _ _ ?_
       clear hK K
       refine done_ (done_of HT_.out (by kernel_rfl)) ?_
       obtain ⟨Z62_0,Z62_1,Z62_2,Z62_3,Z62_4,Z62_5,Y62_0,Y62_1,Y62_2,Y62_3,Y62_4,Y62_5⟩:=op6_ BK274.out
       have hnb63:=NB276_277.out
       have hnc63:=NB277_276.out
       obtain ⟨Z64_0,Z64_1,Z64_2,Z64_3,Z64_4,Z64_5,Y64_0,Y64_1,Y64_2,Y64_3,Y64_4,Y64_5⟩:=op6_ BK276.out
       try go_wp2
       refine bodyPost_ret (results_ct rfl _ _ gb276 77 #[.int .i64 a0_0,.int .i64 a0_1,.slice Ao4 l0_2.length co4,.slice Ao60 y289.length co60,.int .i64 a0_4,.int .i64 (wrap64 (a0_5+1))] (0,0) _ rfl (k6p1_ NB276_274.out BK276.out) Tryd.underlying77 rfl (by kernel_rfl)) rfl ?_
       exact ⟨_,_,fi_,by (with_reducible repeat (first|apply Kd.R_alloc|apply Kd.R_drewN|apply Kd.R_drew));exact Kd.R_mono (rf6_ (g:=gb276) (Kd.R_far (p:=⟨gb274,3,none⟩) (Kd.R_types (Kd.R_types HO_275002.out BK274.out (by decide)) BK276.out (by decide)) (fun _ hk=>hk.1.2) (.slice Ao60 y289.length co60)) (fun _ hk=>hk.2) (.int .i64 a0_0) (.int .i64 a0_1) (.slice Ao4 l0_2.length co4) (.slice Ao60 y289.length co60) (.int .i64 a0_4) (.int .i64 (wrap64 (a0_5+1)))) (fun _ hk=>hk.1.1),by (with_reducible repeat (first|apply Kd.R_alloc|apply Kd.R_drewN|apply Kd.R_drew));exact Kd.R_mono (rf6_ (g:=gb276) (Kd.R_far (p:=⟨gb274,3,none⟩) (Kd.R_types (Kd.R_types HO291.out BK274.out (by decide)) BK276.out (by decide)) (fun _ hk=>hk.1.2) (.slice Ao60 y289.length co60)) (fun _ hk=>hk.2) (.int .i64 a0_0) (.int .i64 a0_1) (.slice Ao4 l0_2.length co4) (.slice Ao60 y289.length co60) (.int .i64 a0_4) (.int .i64 (wrap64 (a0_5+1)))) (fun _ hk=>hk.1.1.1),bel_,by repeat (first|(with_reducible first|exact HK.out|apply Kept.alloc|apply Kept.drewN|apply Kept.drew|refine Kept.setCell ?_ (.inr GW274.out) _|refine Kept.setCell ?_ (.inr GW275.out) _|refine Kept.setCell ?_ (.inr GW276.out) _|refine Kept.setCell ?_ (.inr GW277.out) _)|exact HK.out)⟩
      ·rw [if_neg c42] at H
       exact absurd H (by simp)
     ·rw [if_neg c41] at H
      exact absurd H (by simp)
    ·rw [if_neg c40] at H
     have c40b0:(a1_0==1)=false:=bn_ c40
     have c40b1:(a1_0 != 1)=true:=bne_iff_ne.mpr c40
     obtain ⟨y292,hy292⟩:∃ y_:List (S44),y_=(([]:List (S44))):=⟨_,rfl⟩
     replace H:(if y292.length+l0_3.length < 2199023255552 then ((some (y292++l0_3:List (S44))).bind fun y295=>((some (([(⟨a0_0,(wrap64 ((wrap64 (a0_4+(l0_3.length:Int)))+1)),(⟨a1_0,a1_1,a1_2,a1_3,a1_4⟩:S42)⟩:S44)]:List (S44)):List (S44))).bind fun y298=>(if y295.length+y298.length < 2199023255552 then (some (a0_0,a0_1,l0_2,(y295++y298),a0_4,a0_5,true)) else (none)))) else (none))=some (r1,r2,r3,r4,r5,r6,r7):=by first|(rw [hy292];with_reducible exact H)|(have H2_:=(Option.bind_some _ _).symm.trans H;rw [hy292];with_reducible exact H2_)|(have H2_:=(Option.bind_some _ _).symm.trans H;with_reducible exact H2_)|with_reducible exact H|(rw [hy292];exact H)|exact H
     have Ny292:=a_ hy292
     clear hy292
     by_cases c65:y292.length+l0_3.length < 2199023255552
     ·rw [if_pos c65] at H
      have LMc65:=a_ c65
      clear c65
      obtain ⟨y295,hy295⟩:∃ y_:List (S44),y_=(y292++l0_3):=⟨_,rfl⟩
      replace H:((some (([(⟨a0_0,(wrap64 ((wrap64 (a0_4+(l0_3.length:Int)))+1)),(⟨a1_0,a1_1,a1_2,a1_3,a1_4⟩:S42)⟩:S44)]:List (S44)):List (S44))).bind fun y298=>(if y295.length+y298.length < 2199023255552 then (some (a0_0,a0_1,l0_2,(y295++y298),a0_4,a0_5,true)) else (none)))=some (r1,r2,r3,r4,r5,r6,r7):=by first|(rw [hy295];with_reducible exact H)|(have H2_:=(Option.bind_some _ _).symm.trans H;rw [hy295];with_reducible exact H2_)|(have H2_:=(Option.bind_some _ _).symm.trans H;with_reducible exact H2_)|with_reducible exact H|(rw [hy295];exact H)|exact H
      have Ny295:=a_ hy295
      clear hy295
      obtain ⟨y298,hy298⟩:∃ y_:List (S44),y_=(([(⟨a0_0,(wrap64 ((wrap64 (a0_4+(l0_3.length:Int)))+1)),(⟨a1_0,a1_1,a1_2,a1_3,a1_4⟩:S42)⟩:S44)]:List (S44))):=⟨_,rfl⟩
      replace H:(if y295.length+y298.length < 2199023255552 then (some (a0_0,a0_1,l0_2,(y295++y298),a0_4,a0_5,true)) else (none))=some (r1,r2,r3,r4,r5,r6,r7):=by first|(rw [hy298];with_reducible exact H)|(have H2_:=(Option.bind_some _ _).symm.trans H;rw [hy298];with_reducible exact H2_)|(have H2_:=(Option.bind_some _ _).symm.trans H;with_reducible exact H2_)|with_reducible exact H|(rw [hy298];exact H)|exact H
      have Ny298:=a_ hy298
      clear hy298
      by_cases c66:y295.length+y298.length < 2199023255552
      ·rw [if_pos c66] at H
       have LMc66:=a_ c66
       clear c66
       obtain ⟨y301,hy301⟩:∃ y_:List (S44),y_=(y295++y298):=⟨_,rfl⟩
       replace H:(some (a0_0,a0_1,l0_2,y301,a0_4,a0_5,true))=some (r1,r2,r3,r4,r5,r6,r7):=by first|(rw [hy301];with_reducible exact H)|(have H2_:=(Option.bind_some _ _).symm.trans H;rw [hy301];with_reducible exact H2_)|(have H2_:=(Option.bind_some _ _).symm.trans H;with_reducible exact H2_)|with_reducible exact H|(rw [hy301];exact H)|exact H
       have Ny301:=a_ hy301
       clear hy301
       simp only [Option.some.injEq,Prod.mk.injEq] at H
       obtain ⟨rfl,rfl,rfl,rfl,rfl,rfl,rfl⟩:=H
       have hnb67:=NB275_274.out
       have hnc67:=NB274_275.out
       have hnb68:=NB275_276.out
       have hnc68:=NB276_275.out
       have hnb69:=NB275_277.out
       have hnc69:=NB277_275.out
       obtain ⟨Z70_0,Z70_1,Z70_2,Z70_3,Z70_4,Y70_0,Y70_1,Y70_2,Y70_3,Y70_4⟩:=op5_ (W:=wc) BK275.out
       try go_wp2
       replace HO_275002:=a_ (Kd.R_drew HO_275002.out)
       replace HO_275003:=a_ (Kd.R_drew HO_275003.out)
       replace BK274:=a_ (bD_ BK274.out)
       replace BK275:=a_ (bD_ BK275.out)
       replace BK276:=a_ (bD_ BK276.out)
       replace BK277:=a_ (bD_ BK277.out)
       replace HK:=a_ (Kept.drew HK.out)
       replace HB:=a_ (below_drew1 HB.out)
       refine start_ (n:=9) (S:=fun w'=>w'.cell? ⟨gb274,0,none⟩=some (.int .i64 a0_0)∧w'.cell? ⟨gb274,1,none⟩=some (.int .i64 a0_1)∧w'.cell? ⟨gb274,2,none⟩=some (.slice Ao4 l0_2.length co4)∧w'.cell? ⟨gb274,3,none⟩=some (.slice Ao5 l0_3.length co5)∧w'.cell? ⟨gb274,4,none⟩=some (.int .i64 a0_4)∧w'.cell? ⟨gb274,5,none⟩=some (.int .i64 a0_5)∧w'.cell? ⟨gb277,0,none⟩=some (.int .i64 a0_0)∧w'.cell? ⟨gb277,1,none⟩=some (.int .i64 (wrap64 ((wrap64 (a0_4+(l0_3.length:Int)))+1)))∧w'.cell? ⟨gb277,2,none⟩=some (.int .i64 a1_0)∧w'.cell? ⟨gb277,3,none⟩=some (.int .i64 a1_1)∧w'.cell? ⟨gb277,4,none⟩=some (.int .i64 a1_2)∧w'.cell? ⟨gb277,5,none⟩=some (.int .i64 a1_3)∧w'.cell? ⟨gb277,6,none⟩=some (.string a1_4)) (ds:=[8]) #[false,false,false,false,false,false,false,false,false] (by kernel_rfl) rfl rfl ⟨(bC_ BK274.out 0).trans rfl,(bC_ BK274.out 1).trans rfl,(bC_ BK274.out 2).trans rfl,(bC_ BK274.out 3).trans rfl,(bC_ BK274.out 4).trans rfl,(bC_ BK274.out 5).trans rfl,(bC_ BK277.out 0).trans rfl,(bC_ BK277.out 1).trans rfl,(bC_ BK277.out 2).trans rfl,(bC_ BK277.out 3).trans rfl,(bC_ BK277.out 4).trans rfl,(bC_ BK277.out 5).trans rfl,(bC_ BK277.out 6).trans rfl⟩ (fun hHeld=>?_);refine with_tabW spec_l21Do.tab6 spec_l21Do.bits6 (fun HT_ HW_=>?_)
       generalize wc.drew=w71 at HO_275002 HO_275003 BK274 BK275 BK276 BK277 HK HB hHeld ⊢
       refine pa_ 1 46 ?_
       refine ta13_ 2 47 hHeld ?_
       refine ta13_ 4 49 hHeld ?_
       refine join_ (σ:=Value×Value×Value) 3 #[true,true,true,true,true,true,false,false,false] (fun s_=>[(45,s_.1),(48,s_.2.1),(50,s_.2.2)]) (fun s_ w'=>(w'.cell? ⟨gb274,0,none⟩=some (.int .i64 a0_0)∧w'.cell? ⟨gb274,1,none⟩=some (.int .i64 a0_1)∧w'.cell? ⟨gb274,2,none⟩=some (.slice Ao4 l0_2.length co4)∧w'.cell? ⟨gb274,3,none⟩=some (.slice Ao5 l0_3.length co5)∧w'.cell? ⟨gb274,4,none⟩=some (.int .i64 a0_4)∧w'.cell? ⟨gb274,5,none⟩=some (.int .i64 a0_5)∧w'.cell? ⟨gb277,0,none⟩=some (.int .i64 a0_0)∧w'.cell? ⟨gb277,1,none⟩=some (.int .i64 (wrap64 ((wrap64 (a0_4+(l0_3.length:Int)))+1)))∧w'.cell? ⟨gb277,2,none⟩=some (.int .i64 a1_0)∧w'.cell? ⟨gb277,3,none⟩=some (.int .i64 a1_1)∧w'.cell? ⟨gb277,4,none⟩=some (.int .i64 a1_2)∧w'.cell? ⟨gb277,5,none⟩=some (.int .i64 a1_3)∧w'.cell? ⟨gb277,6,none⟩=some (.string a1_4))∧(Kd.R k44 44 w' w0.heap.size (fun k_=>((P0_2_ k_∨P0_3_ k_)∨w.heap.size≤k_)∧some k_≠(s_.2.2:Value).ownBlock∧some k_≠(.slice Ao5 l0_3.length co5:Value).ownBlock∧k_≠gb277) s_.2.1 y295)∧(Kd.R k44 44 w' w0.heap.size (fun k_=>((P0_2_ k_∨P0_3_ k_)∨w.heap.size≤k_)∧some k_≠(s_.2.1:Value).ownBlock∧some k_≠(.slice Ao5 l0_3.length co5:Value).ownBlock∧k_≠gb277) s_.2.2 y298)∧(Kd.R k69 69 w' w0.heap.size (fun k_=>((P0_2_ k_∨P0_3_ k_)∨w.heap.size≤k_)) (.slice Ao4 l0_2.length co4) l0_2)∧(Kd.R k44 44 w' w0.heap.size (fun k_=>((P0_2_ k_∨P0_3_ k_)∨w.heap.size≤k_)∧some k_≠(s_.2.1:Value).ownBlock∧some k_≠(s_.2.2:Value).ownBlock∧k_≠gb277) (.slice Ao5 l0_3.length co5) l0_3)∧(w'.heap[gb274]?=some (.cells #[.int .i64 a0_0,.int .i64 a0_1,.slice Ao4 l0_2.length co4,.slice Ao5 l0_3.length co5,.int .i64 a0_4,.int .i64 a0_5] 77 (0,0)))∧(w'.heap[gb275]?=some (.cells #[.int .i64 a1_0,.int .i64 a1_1,.int .i64 a1_2,.int .i64 a1_3,.string a1_4] 42 (0,0)))∧(w'.heap[gb276]?=some (.cells #[.int .i64 0,.int .i64 0,.slice none 0 0,.slice none 0 0,.int .i64 0,.int .i64 0] 77 (0,0)))∧(w'.heap[gb277]?=some (.cells #[.int .i64 a0_0,.int .i64 (wrap64 ((wrap64 (a0_4+(l0_3.length:Int)))+1)),.int .i64 a1_0,.int .i64 a1_1,.int .i64 a1_2,.int .i64 a1_3,.string a1_4] 44 (0,0)))∧(Kept w w' (fun k_=>P0_2_ k_∨P0_3_ k_))∧(Below w0.heap.size w0 w')) ?_ ?_
       rotate_left
       ·intro hCont
        refine two_ (i:=0) (j:=5) (Ni:=some 45) (Nj:=some 50) #[true,true,true,false,true,false,false,false,false] #[false,true,true,false,true,true,false,false,false] rfl rfl rfl rfl (two_of HT_.out (by kernel_rfl)) (by decide) (by decide) (fun K hK=>?_) (fun K hK=>?_)
        ·skip
         refine Kd.R_lit_step k44 _ 44 ?hg (N:=45) ?hd (xs:=([]:List (S44))) (inner:=[]) (ok:=fun _=>True) (okp:=fun _=>True) ?hr ?hp (fun _ hk=>hk) trivial (Below.refl _ _) (Nat.le_refl _) (by simp) ?_;(case hd=>rfl);(case hg=>rfl);(case hr=>first|(go_simp;done)|(go_simp;rfl));(case hp=>exact (Reps.none _ _))
         intro v293 w72 ho73 hb hg_ hnew_
         clear hg_ hnew_
         (first|rw [←Ny292.out] at ho73|(simp only [Int.reduceToNat] at ho73;rw [←Ny292.out] at ho73))
         replace HO_275002:=a_ (Kd.R_below (rp_ HO_275002.out) hb)
         have HO294:=a_ (Kd.R_lower (Kd.R_newB (Kd.R_new' (Kd.R_newM (M:=fun k_=>((P0_2_ k_∨P0_3_ k_)∨w.heap.size≤k_)) ho73 (by first|exact HK.out.1|exact (show Kept w _ (fun k_=>P0_2_ k_∨P0_3_ k_) from by repeat (first|(with_reducible first|exact HK.out|apply Kept.alloc|apply Kept.drewN|apply Kept.drew|refine Kept.setCell ?_ (.inr GW274.out) _|refine Kept.setCell ?_ (.inr GW275.out) _|refine Kept.setCell ?_ (.inr GW276.out) _|refine Kept.setCell ?_ (.inr GW277.out) _)|exact HK.out)).1) (fun k_ h_=>.inr h_)) (Kd.R_lt (rp_ HO_275003.out))) (g:=gb277) (o:=.cells #[.int .i64 a0_0,.int .i64 (wrap64 ((wrap64 (a0_4+(l0_3.length:Int)))+1)),.int .i64 a1_0,.int .i64 a1_1,.int .i64 a1_2,.int .i64 a1_3,.string a1_4] 44 (0,0)) (bp_ BK277.out)) (below_size (bel_)))
         replace HO_275003:=a_ (Kd.R_elder' (rp_ HO_275003.out) (Kd.R_base ho73) hb)
         replace HB:=a_ (bS_ (bel_) hb)
         replace BK274:=a_ (bb_ BK274.out hb)
         replace BK275:=a_ (bb_ BK275.out hb)
         replace BK276:=a_ (bb_ BK276.out hb)
         replace BK277:=a_ (bb_ BK277.out hb)
         replace HK:=a_ (Kept.below (S:=(fun k_=>P0_2_ k_∨P0_3_ k_)) (by repeat (first|(with_reducible first|exact HK.out|apply Kept.alloc|apply Kept.drewN|apply Kept.drew|refine Kept.setCell ?_ (.inr GW274.out) _|refine Kept.setCell ?_ (.inr GW275.out) _|refine Kept.setCell ?_ (.inr GW276.out) _|refine Kept.setCell ?_ (.inr GW277.out) _)|exact HK.out)) hb)
         clear hb ho73
         refine hK.out _ _ ⟨(bC_ BK274.out 0).trans rfl,(bC_ BK274.out 1).trans rfl,(bC_ BK274.out 2).trans rfl,(bC_ BK274.out 3).trans rfl,(bC_ BK274.out 4).trans rfl,(bC_ BK274.out 5).trans rfl,(bC_ BK277.out 0).trans rfl,(bC_ BK277.out 1).trans rfl,(bC_ BK277.out 2).trans rfl,(bC_ BK277.out 3).trans rfl,(bC_ BK277.out 4).trans rfl,(bC_ BK277.out 5).trans rfl,(bC_ BK277.out 6).trans rfl⟩ (fun hHeld=>?_)
         clear hK K
         refine no_ 45 ?_
         refine two_ (i:=3) (j:=5) (Ni:=some 48) (Nj:=some 50) #[true,true,true,true,true,false,false,false,false] #[true,true,true,false,true,true,false,false,false] rfl rfl rfl rfl (two_of HT_.out (by kernel_rfl)) (by decide) (by decide) (fun K hK=>?_) (fun K hK=>?_)
         ·skip
          refine Kd.R_append_rows_step k44 (w0:=w0) w0.heap.size (by rfl) (.tmp 45) (.tmp 47) 23 44 (.agg #[(.int .i64 0),(.int .i64 0),(.int .i64 0),(.int .i64 0),(.int .i64 0),(.int .i64 0),(.string ⟨#[]⟩)]) 64 rfl Tryd.underlying23 info44 rfl (by decide) (by omega) v293 y292 l0_3 _ _ _ (fun k_=>((P0_2_ k_∨P0_3_ k_)∨w.heap.size≤k_)∧some k_≠(.slice Ao5 l0_3.length co5:Value).ownBlock∧k_≠gb277) (fun _=>False) rfl rfl ?aO ?aR (fun _ _ h=>h) (fun _ h=>h.elim) ?aF ?aB ?aS ?aL ?_
          (case aR=>exact cx_ (Kd.R_reads' HO_275003.out).2.2)
          (case aB=>exact (bel_))
          (case aF=>exact (fun k_ hk=>⟨(.inr (Nat.le_trans (by first|exact HK.out.1|exact (show Kept w _ (fun k_=>P0_2_ k_∨P0_3_ k_) from by repeat (first|(with_reducible first|exact HK.out|apply Kept.alloc|apply Kept.drewN|apply Kept.drew|refine Kept.setCell ?_ (.inr GW274.out) _|refine Kept.setCell ?_ (.inr GW275.out) _|refine Kept.setCell ?_ (.inr GW276.out) _|refine Kept.setCell ?_ (.inr GW277.out) _)|exact HK.out)).1) hk)),Kd.fresh' (Kd.R_lt (rp_ HO_275003.out)) k_ hk,Kd.freshB (g:=gb277) (o:=.cells #[.int .i64 a0_0,.int .i64 (wrap64 ((wrap64 (a0_4+(l0_3.length:Int)))+1)),.int .i64 a1_0,.int .i64 a1_1,.int .i64 a1_2,.int .i64 a1_3,.string a1_4] 44 (0,0)) (bp_ BK277.out) k_ hk⟩))
          (case aO=>exact (by (with_reducible repeat (first|apply Kd.R_alloc|apply Kd.R_drewN|apply Kd.R_drew));exact Kd.R_mono HO294.out (fun _ hk=>⟨hk.1.1.1,⟨hk.1.2,hk.2⟩⟩)))
          (case aS=>exact (below_size (bel_)))
          (case aL=>have:=LMc65.out;omega)
          intro v296 w74 ho hb hg hat
          rw [←Ny295.out] at ho
          replace HO_275002:=a_ (Kd.R_over' (rp_ HO_275002.out) (Kd.R_typed (rp_ HO294.out)) (by decide) hg)
          replace HO_275003:=a_ (Kd.R_after (ok:=(fun k_=>((P0_2_ k_∨P0_3_ k_)∨w.heap.size≤k_)∧k_≠gb277)) (rp_ HO_275003.out) hg hat)
          replace BK274:=a_ (blk_grown (g:=gb274) (o:=.cells #[.int .i64 a0_0,.int .i64 a0_1,.slice Ao4 l0_2.length co4,.slice Ao5 l0_3.length co5,.int .i64 a0_4,.int .i64 a0_5] 77 (0,0)) (bp_ BK274.out) hg (Kd.R_ne HO294.out BK274.out (by decide)))
          replace BK275:=a_ (blk_grown (g:=gb275) (o:=.cells #[.int .i64 a1_0,.int .i64 a1_1,.int .i64 a1_2,.int .i64 a1_3,.string a1_4] 42 (0,0)) (bp_ BK275.out) hg (Kd.R_ne HO294.out BK275.out (by decide)))
          replace BK276:=a_ (blk_grown (g:=gb276) (o:=.cells #[.int .i64 0,.int .i64 0,.slice none 0 0,.slice none 0 0,.int .i64 0,.int .i64 0] 77 (0,0)) (bp_ BK276.out) hg (Kd.R_ne HO294.out BK276.out (by decide)))
          replace BK277:=a_ (blk_grown (g:=gb277) (o:=.cells #[.int .i64 a0_0,.int .i64 (wrap64 ((wrap64 (a0_4+(l0_3.length:Int)))+1)),.int .i64 a1_0,.int .i64 a1_1,.int .i64 a1_2,.int .i64 a1_3,.string a1_4] 44 (0,0)) (bp_ BK277.out) hg (Kd.R_away HO294.out (fun _ hk=>hk.2)))
          replace HB:=a_ (hb)
          replace HK:=a_ (Kept.of_grown (S:=(fun k_=>P0_2_ k_∨P0_3_ k_)) hg (by repeat (first|(with_reducible first|exact HK.out|apply Kept.alloc|apply Kept.drewN|apply Kept.drew|refine Kept.setCell ?_ (.inr GW274.out) _|refine Kept.setCell ?_ (.inr GW275.out) _|refine Kept.setCell ?_ (.inr GW276.out) _|refine Kept.setCell ?_ (.inr GW277.out) _)|exact HK.out)) (fun k_ e_=>(HO294.out.1 k_ e_).1.1.1))
          have HO297:=a_ (ho)
          clear HO294
          clear ho hb hg hat
          refine hK.out _ _ ⟨(bC_ BK274.out 0).trans rfl,(bC_ BK274.out 1).trans rfl,(bC_ BK274.out 2).trans rfl,(bC_ BK274.out 3).trans rfl,(bC_ BK274.out 4).trans rfl,(bC_ BK274.out 5).trans rfl,(bC_ BK277.out 0).trans rfl,(bC_ BK277.out 1).trans rfl,(bC_ BK277.out 2).trans rfl,(bC_ BK277.out 3).trans rfl,(bC_ BK277.out 4).trans rfl,(bC_ BK277.out 5).trans rfl,(bC_ BK277.out 6).trans rfl⟩ (fun hHeld=>?_)
          clear hK K
          refine no_ 48 ?_
          refine on_ 5 50 (fun K hK=>?_)
          refine Kd.R_lit_step k44 _ 44 ?hg (N:=50) ?hd (xs:=([(⟨a0_0,(wrap64 ((wrap64 (a0_4+(l0_3.length:Int)))+1)),(⟨a1_0,a1_1,a1_2,a1_3,a1_4⟩:S42)⟩:S44)]:List (S44))) (inner:=[.int .i64 a0_0,.int .i64 (wrap64 ((wrap64 (a0_4+(l0_3.length:Int)))+1)),.int .i64 a1_0,.int .i64 a1_1,.int .i64 a1_2,.int .i64 a1_3,.string a1_4]) (ok:=fun _=>True) (okp:=fun _=>True) ?hr ?hp (fun _ hk=>hk) trivial (Below.refl _ _) (Nat.le_refl _) (by simp) ?_;(case hd=>rfl);(case hg=>rfl);(case hr=>first|(go_simp;done)|(go_simp;rfl));(case hp=>exact (Reps.c7 (show Kd.M k44 _ _ _ (⟨a0_0,(wrap64 ((wrap64 (a0_4+(l0_3.length:Int)))+1)),(⟨a1_0,a1_1,a1_2,a1_3,a1_4⟩:S42)⟩:S44) [.int .i64 a0_0,.int .i64 (wrap64 ((wrap64 (a0_4+(l0_3.length:Int)))+1)),.int .i64 a1_0,.int .i64 a1_1,.int .i64 a1_2,.int .i64 a1_3,.string a1_4] from (k44_mkM _ _ _ (⟨a0_0,(wrap64 ((wrap64 (a0_4+(l0_3.length:Int)))+1)),(⟨a1_0,a1_1,a1_2,a1_3,a1_4⟩:S42)⟩:S44) )) (Reps.none _ _)))
          intro v299 w75 ho76 hb hg_ hnew_
          clear hg_ hnew_
          (first|rw [←Ny298.out] at ho76|(simp only [Int.reduceToNat] at ho76;rw [←Ny298.out] at ho76))
          replace HO_275002:=a_ (Kd.R_below (rp_ HO_275002.out) hb)
          have HO300:=a_ (Kd.R_lower (Kd.R_newB (Kd.R_new' (Kd.R_new' (Kd.R_newM (M:=fun k_=>((P0_2_ k_∨P0_3_ k_)∨w.heap.size≤k_)) ho76 (by first|exact HK.out.1|exact (show Kept w _ (fun k_=>P0_2_ k_∨P0_3_ k_) from by repeat (first|(with_reducible first|exact HK.out|apply Kept.alloc|apply Kept.drewN|apply Kept.drew|refine Kept.setCell ?_ (.inr GW274.out) _|refine Kept.setCell ?_ (.inr GW275.out) _|refine Kept.setCell ?_ (.inr GW276.out) _|refine Kept.setCell ?_ (.inr GW277.out) _)|exact HK.out)).1) (fun k_ h_=>.inr h_)) (Kd.R_lt (rp_ HO_275003.out))) (Kd.R_lt (rp_ HO297.out))) (g:=gb277) (o:=.cells #[.int .i64 a0_0,.int .i64 (wrap64 ((wrap64 (a0_4+(l0_3.length:Int)))+1)),.int .i64 a1_0,.int .i64 a1_1,.int .i64 a1_2,.int .i64 a1_3,.string a1_4] 44 (0,0)) (bp_ BK277.out)) (below_size (bel_)))
          replace HO_275003:=a_ (Kd.R_elder' (rp_ HO_275003.out) (Kd.R_base ho76) hb)
          replace HO297:=a_ (Kd.R_elder' (rp_ HO297.out) (Kd.R_base ho76) hb)
          replace HB:=a_ (bS_ (bel_) hb)
          replace BK274:=a_ (bb_ BK274.out hb)
          replace BK275:=a_ (bb_ BK275.out hb)
          replace BK276:=a_ (bb_ BK276.out hb)
          replace BK277:=a_ (bb_ BK277.out hb)
          replace HK:=a_ (Kept.below (S:=(fun k_=>P0_2_ k_∨P0_3_ k_)) (by repeat (first|(with_reducible first|exact HK.out|apply Kept.alloc|apply Kept.drewN|apply Kept.drew|refine Kept.setCell ?_ (.inr GW274.out) _|refine Kept.setCell ?_ (.inr GW275.out) _|refine Kept.setCell ?_ (.inr GW276.out) _|refine Kept.setCell ?_ (.inr GW277.out) _)|exact HK.out)) hb)
          clear hb ho76
          refine hK.out _ _ ⟨(bC_ BK274.out 0).trans rfl,(bC_ BK274.out 1).trans rfl,(bC_ BK274.out 2).trans rfl,(bC_ BK274.out 3).trans rfl,(bC_ BK274.out 4).trans rfl,(bC_ BK274.out 5).trans rfl,(bC_ BK277.out 0).trans rfl,(bC_ BK277.out 1).trans rfl,(bC_ BK277.out 2).trans rfl,(bC_ BK277.out 3).trans rfl,(bC_ BK277.out 4).trans rfl,(bC_ BK277.out 5).trans rfl,(bC_ BK277.out 6).trans rfl⟩ (fun hHeld=>?_)
          clear hK K
          refine no_ 50 ?_
          exact norm_ (by simp only [putAll,Act.put,List.setIfInBounds_toArray,List.set_cons_zero,List.set_cons_succ]) (hCont (v293,v296,v299) _ ⟨hHeld,(by (with_reducible repeat (first|apply Kd.R_alloc|apply Kd.R_drewN|apply Kd.R_drew));exact Kd.R_mono HO297.out (fun _ hk=>⟨hk.1.1,⟨hk.2,⟨hk.1.2.1,hk.1.2.2⟩⟩⟩)),(by (with_reducible repeat (first|apply Kd.R_alloc|apply Kd.R_drewN|apply Kd.R_drew));exact Kd.R_mono HO300.out (fun _ hk=>⟨hk.1.1.1.1,⟨hk.1.2,⟨hk.1.1.2,hk.2⟩⟩⟩)),(rp_ HO_275002.out),(by (with_reducible repeat (first|apply Kd.R_alloc|apply Kd.R_drewN|apply Kd.R_drew));exact Kd.R_mono HO_275003.out (fun _ hk=>⟨hk.1.1.1,⟨hk.1.2,⟨hk.2,hk.1.1.2⟩⟩⟩)),(bp_ BK274.out),(bp_ BK275.out),(bp_ BK276.out),(bp_ BK277.out),(by repeat (first|(with_reducible first|exact HK.out|apply Kept.alloc|apply Kept.drewN|apply Kept.drew|refine Kept.setCell ?_ (.inr GW274.out) _|refine Kept.setCell ?_ (.inr GW275.out) _|refine Kept.setCell ?_ (.inr GW276.out) _|refine Kept.setCell ?_ (.inr GW277.out) _)|exact HK.out)),(bel_)⟩)
         ·skip
          refine Kd.R_lit_step k44 _ 44 ?hg (N:=50) ?hd (xs:=([(⟨a0_0,(wrap64 ((wrap64 (a0_4+(l0_3.length:Int)))+1)),(⟨a1_0,a1_1,a1_2,a1_3,a1_4⟩:S42)⟩:S44)]:List (S44))) (inner:=[.int .i64 a0_0,.int .i64 (wrap64 ((wrap64 (a0_4+(l0_3.length:Int)))+1)),.int .i64 a1_0,.int .i64 a1_1,.int .i64 a1_2,.int .i64 a1_3,.string a1_4]) (ok:=fun _=>True) (okp:=fun _=>True) ?hr ?hp (fun _ hk=>hk) trivial (Below.refl _ _) (Nat.le_refl _) (by simp) ?_;(case hd=>rfl);(case hg=>rfl);(case hr=>first|(go_simp;done)|(go_simp;rfl));(case hp=>exact (Reps.c7 (show Kd.M k44 _ _ _ (⟨a0_0,(wrap64 ((wrap64 (a0_4+(l0_3.length:Int)))+1)),(⟨a1_0,a1_1,a1_2,a1_3,a1_4⟩:S42)⟩:S44) [.int .i64 a0_0,.int .i64 (wrap64 ((wrap64 (a0_4+(l0_3.length:Int)))+1)),.int .i64 a1_0,.int .i64 a1_1,.int .i64 a1_2,.int .i64 a1_3,.string a1_4] from (k44_mkM _ _ _ (⟨a0_0,(wrap64 ((wrap64 (a0_4+(l0_3.length:Int)))+1)),(⟨a1_0,a1_1,a1_2,a1_3,a1_4⟩:S42)⟩:S44) )) (Reps.none _ _)))
          intro v299 w74 ho75 hb hg_ hnew_
          clear hg_ hnew_
          (first|rw [←Ny298.out] at ho75|(simp only [Int.reduceToNat] at ho75;rw [←Ny298.out] at ho75))
          replace HO_275002:=a_ (Kd.R_below (rp_ HO_275002.out) hb)
          have HO300:=a_ (Kd.R_lower (Kd.R_newB (Kd.R_new' (Kd.R_new' (Kd.R_newM (M:=fun k_=>((P0_2_ k_∨P0_3_ k_)∨w.heap.size≤k_)) ho75 (by first|exact HK.out.1|exact (show Kept w _ (fun k_=>P0_2_ k_∨P0_3_ k_) from by repeat (first|(with_reducible first|exact HK.out|apply Kept.alloc|apply Kept.drewN|apply Kept.drew|refine Kept.setCell ?_ (.inr GW274.out) _|refine Kept.setCell ?_ (.inr GW275.out) _|refine Kept.setCell ?_ (.inr GW276.out) _|refine Kept.setCell ?_ (.inr GW277.out) _)|exact HK.out)).1) (fun k_ h_=>.inr h_)) (Kd.R_lt (rp_ HO_275003.out))) (Kd.R_lt (rp_ HO294.out))) (g:=gb277) (o:=.cells #[.int .i64 a0_0,.int .i64 (wrap64 ((wrap64 (a0_4+(l0_3.length:Int)))+1)),.int .i64 a1_0,.int .i64 a1_1,.int .i64 a1_2,.int .i64 a1_3,.string a1_4] 44 (0,0)) (bp_ BK277.out)) (below_size (bel_)))
          replace HO_275003:=a_ (Kd.R_elder' (rp_ HO_275003.out) (Kd.R_base ho75) hb)
          replace HO294:=a_ (Kd.R_elder' (rp_ HO294.out) (Kd.R_base ho75) hb)
          replace HB:=a_ (bS_ (bel_) hb)
          replace BK274:=a_ (bb_ BK274.out hb)
          replace BK275:=a_ (bb_ BK275.out hb)
          replace BK276:=a_ (bb_ BK276.out hb)
          replace BK277:=a_ (bb_ BK277.out hb)
          replace HK:=a_ (Kept.below (S:=(fun k_=>P0_2_ k_∨P0_3_ k_)) (by repeat (first|(with_reducible first|exact HK.out|apply Kept.alloc|apply Kept.drewN|apply Kept.drew|refine Kept.setCell ?_ (.inr GW274.out) _|refine Kept.setCell ?_ (.inr GW275.out) _|refine Kept.setCell ?_ (.inr GW276.out) _|refine Kept.setCell ?_ (.inr GW277.out) _)|exact HK.out)) hb)
          clear hb ho75
          refine hK.out _ _ ⟨(bC_ BK274.out 0).trans rfl,(bC_ BK274.out 1).trans rfl,(bC_ BK274.out 2).trans rfl,(bC_ BK274.out 3).trans rfl,(bC_ BK274.out 4).trans rfl,(bC_ BK274.out 5).trans rfl,(bC_ BK277.out 0).trans rfl,(bC_ BK277.out 1).trans rfl,(bC_ BK277.out 2).trans rfl,(bC_ BK277.out 3).trans rfl,(bC_ BK277.out 4).trans rfl,(bC_ BK277.out 5).trans rfl,(bC_ BK277.out 6).trans rfl⟩ (fun hHeld=>?_)
          clear hK K
          refine no_ 50 ?_
          refine on_ 3 48 (fun K hK=>?_)
          refine Kd.R_append_rows_step k44 (w0:=w0) w0.heap.size (by rfl) (.tmp 45) (.tmp 47) 23 44 (.agg #[(.int .i64 0),(.int .i64 0),(.int .i64 0),(.int .i64 0),(.int .i64 0),(.int .i64 0),(.string ⟨#[]⟩)]) 64 rfl Tryd.underlying23 info44 rfl (by decide) (by omega) v293 y292 l0_3 _ _ _ (fun k_=>((P0_2_ k_∨P0_3_ k_)∨w.heap.size≤k_)∧some k_≠(.slice Ao5 l0_3.length co5:Value).ownBlock∧some k_≠(v299:Value).ownBlock∧k_≠gb277) (fun _=>False) rfl rfl ?aO ?aR (fun _ _ h=>h) (fun _ h=>h.elim) ?aF ?aB ?aS ?aL ?_
          (case aR=>exact cx_ (Kd.R_reads' HO_275003.out).2.2)
          (case aB=>exact (bel_))
          (case aF=>exact (fun k_ hk=>⟨(.inr (Nat.le_trans (by first|exact HK.out.1|exact (show Kept w _ (fun k_=>P0_2_ k_∨P0_3_ k_) from by repeat (first|(with_reducible first|exact HK.out|apply Kept.alloc|apply Kept.drewN|apply Kept.drew|refine Kept.setCell ?_ (.inr GW274.out) _|refine Kept.setCell ?_ (.inr GW275.out) _|refine Kept.setCell ?_ (.inr GW276.out) _|refine Kept.setCell ?_ (.inr GW277.out) _)|exact HK.out)).1) hk)),Kd.fresh' (Kd.R_lt (rp_ HO_275003.out)) k_ hk,Kd.fresh' (Kd.R_lt (rp_ HO300.out)) k_ hk,Kd.freshB (g:=gb277) (o:=.cells #[.int .i64 a0_0,.int .i64 (wrap64 ((wrap64 (a0_4+(l0_3.length:Int)))+1)),.int .i64 a1_0,.int .i64 a1_1,.int .i64 a1_2,.int .i64 a1_3,.string a1_4] 44 (0,0)) (bp_ BK277.out) k_ hk⟩))
          (case aO=>exact (by (with_reducible repeat (first|apply Kd.R_alloc|apply Kd.R_drewN|apply Kd.R_drew));exact Kd.R_mono HO294.out (fun _ hk=>⟨hk.1.1.1.1,⟨hk.1.1.2,⟨hk.2,hk.1.2⟩⟩⟩)))
          (case aS=>exact (below_size (bel_)))
          (case aL=>have:=LMc65.out;omega)
          intro v296 w76 ho hb hg hat
          rw [←Ny295.out] at ho
          replace HO_275002:=a_ (Kd.R_over' (rp_ HO_275002.out) (Kd.R_typed (rp_ HO294.out)) (by decide) hg)
          replace HO_275003:=a_ (Kd.R_after (ok:=(fun k_=>((P0_2_ k_∨P0_3_ k_)∨w.heap.size≤k_)∧some k_≠(v299:Value).ownBlock∧k_≠gb277)) (by (with_reducible repeat (first|apply Kd.R_alloc|apply Kd.R_drewN|apply Kd.R_drew));exact Kd.R_mono HO_275003.out (fun _ hk=>⟨⟨hk.1.1.1,⟨hk.2,hk.1.1.2⟩⟩,hk.1.2⟩)) hg hat)
          replace BK274:=a_ (blk_grown (g:=gb274) (o:=.cells #[.int .i64 a0_0,.int .i64 a0_1,.slice Ao4 l0_2.length co4,.slice Ao5 l0_3.length co5,.int .i64 a0_4,.int .i64 a0_5] 77 (0,0)) (bp_ BK274.out) hg (Kd.R_ne HO294.out BK274.out (by decide)))
          replace BK275:=a_ (blk_grown (g:=gb275) (o:=.cells #[.int .i64 a1_0,.int .i64 a1_1,.int .i64 a1_2,.int .i64 a1_3,.string a1_4] 42 (0,0)) (bp_ BK275.out) hg (Kd.R_ne HO294.out BK275.out (by decide)))
          replace BK276:=a_ (blk_grown (g:=gb276) (o:=.cells #[.int .i64 0,.int .i64 0,.slice none 0 0,.slice none 0 0,.int .i64 0,.int .i64 0] 77 (0,0)) (bp_ BK276.out) hg (Kd.R_ne HO294.out BK276.out (by decide)))
          replace BK277:=a_ (blk_grown (g:=gb277) (o:=.cells #[.int .i64 a0_0,.int .i64 (wrap64 ((wrap64 (a0_4+(l0_3.length:Int)))+1)),.int .i64 a1_0,.int .i64 a1_1,.int .i64 a1_2,.int .i64 a1_3,.string a1_4] 44 (0,0)) (bp_ BK277.out) hg (Kd.R_away HO294.out (fun _ hk=>hk.1.2)))
          replace HO300:=a_ (Kd.R_after (ok:=(fun k_=>((P0_2_ k_∨P0_3_ k_)∨w.heap.size≤k_)∧some k_≠(.slice Ao5 l0_3.length co5:Value).ownBlock∧k_≠gb277)) (by (with_reducible repeat (first|apply Kd.R_alloc|apply Kd.R_drewN|apply Kd.R_drew));exact Kd.R_mono HO300.out (fun _ hk=>⟨⟨hk.1.1.1.1,⟨hk.1.1.2,hk.2⟩⟩,hk.1.2⟩)) hg hat)
          replace HB:=a_ (hb)
          replace HK:=a_ (Kept.of_grown (S:=(fun k_=>P0_2_ k_∨P0_3_ k_)) hg (by repeat (first|(with_reducible first|exact HK.out|apply Kept.alloc|apply Kept.drewN|apply Kept.drew|refine Kept.setCell ?_ (.inr GW274.out) _|refine Kept.setCell ?_ (.inr GW275.out) _|refine Kept.setCell ?_ (.inr GW276.out) _|refine Kept.setCell ?_ (.inr GW277.out) _)|exact HK.out)) (fun k_ e_=>(HO294.out.1 k_ e_).1.1.1.1))
          have HO297:=a_ (ho)
          clear HO294
          clear ho hb hg hat
          refine hK.out _ _ ⟨(bC_ BK274.out 0).trans rfl,(bC_ BK274.out 1).trans rfl,(bC_ BK274.out 2).trans rfl,(bC_ BK274.out 3).trans rfl,(bC_ BK274.out 4).trans rfl,(bC_ BK274.out 5).trans rfl,(bC_ BK277.out 0).trans rfl,(bC_ BK277.out 1).trans rfl,(bC_ BK277.out 2).trans rfl,(bC_ BK277.out 3).trans rfl,(bC_ BK277.out 4).trans rfl,(bC_ BK277.out 5).trans rfl,(bC_ BK277.out 6).trans rfl⟩ (fun hHeld=>?_)
          clear hK K
          refine no_ 48 ?_
          exact norm_ (by simp only [putAll,Act.put,List.setIfInBounds_toArray,List.set_cons_zero,List.set_cons_succ]) (hCont (v293,v296,v299) _ ⟨hHeld,(by (with_reducible repeat (first|apply Kd.R_alloc|apply Kd.R_drewN|apply Kd.R_drew));exact Kd.R_mono HO297.out (fun _ hk=>⟨hk.1,⟨hk.2.2.1,⟨hk.2.1,hk.2.2.2⟩⟩⟩)),(by (with_reducible repeat (first|apply Kd.R_alloc|apply Kd.R_drewN|apply Kd.R_drew));exact Kd.R_mono HO300.out (fun _ hk=>⟨hk.1.1,⟨hk.2,⟨hk.1.2.1,hk.1.2.2⟩⟩⟩)),(rp_ HO_275002.out),(by (with_reducible repeat (first|apply Kd.R_alloc|apply Kd.R_drewN|apply Kd.R_drew));exact Kd.R_mono HO_275003.out (fun _ hk=>⟨hk.1.1,⟨hk.2,⟨hk.1.2.1,hk.1.2.2⟩⟩⟩)),(bp_ BK274.out),(bp_ BK275.out),(bp_ BK276.out),(bp_ BK277.out),(by repeat (first|(with_reducible first|exact HK.out|apply Kept.alloc|apply Kept.drewN|apply Kept.drew|refine Kept.setCell ?_ (.inr GW274.out) _|refine Kept.setCell ?_ (.inr GW275.out) _|refine Kept.setCell ?_ (.inr GW276.out) _|refine Kept.setCell ?_ (.inr GW277.out) _)|exact HK.out)),(bel_)⟩)
        ·skip
         refine Kd.R_lit_step k44 _ 44 ?hg (N:=50) ?hd (xs:=([(⟨a0_0,(wrap64 ((wrap64 (a0_4+(l0_3.length:Int)))+1)),(⟨a1_0,a1_1,a1_2,a1_3,a1_4⟩:S42)⟩:S44)]:List (S44))) (inner:=[.int .i64 a0_0,.int .i64 (wrap64 ((wrap64 (a0_4+(l0_3.length:Int)))+1)),.int .i64 a1_0,.int .i64 a1_1,.int .i64 a1_2,.int .i64 a1_3,.string a1_4]) (ok:=fun _=>True) (okp:=fun _=>True) ?hr ?hp (fun _ hk=>hk) trivial (Below.refl _ _) (Nat.le_refl _) (by simp) ?_;(case hd=>rfl);(case hg=>rfl);(case hr=>first|(go_simp;done)|(go_simp;rfl));(case hp=>exact (Reps.c7 (show Kd.M k44 _ _ _ (⟨a0_0,(wrap64 ((wrap64 (a0_4+(l0_3.length:Int)))+1)),(⟨a1_0,a1_1,a1_2,a1_3,a1_4⟩:S42)⟩:S44) [.int .i64 a0_0,.int .i64 (wrap64 ((wrap64 (a0_4+(l0_3.length:Int)))+1)),.int .i64 a1_0,.int .i64 a1_1,.int .i64 a1_2,.int .i64 a1_3,.string a1_4] from (k44_mkM _ _ _ (⟨a0_0,(wrap64 ((wrap64 (a0_4+(l0_3.length:Int)))+1)),(⟨a1_0,a1_1,a1_2,a1_3,a1_4⟩:S42)⟩:S44) )) (Reps.none _ _)))
         intro v299 w72 ho73 hb hg_ hnew_
         clear hg_ hnew_
         (first|rw [←Ny298.out] at ho73|(simp only [Int.reduceToNat] at ho73;rw [←Ny298.out] at ho73))
         replace HO_275002:=a_ (Kd.R_below (rp_ HO_275002.out) hb)
         have HO300:=a_ (Kd.R_lower (Kd.R_newB (Kd.R_new' (Kd.R_newM (M:=fun k_=>((P0_2_ k_∨P0_3_ k_)∨w.heap.size≤k_)) ho73 (by first|exact HK.out.1|exact (show Kept w _ (fun k_=>P0_2_ k_∨P0_3_ k_) from by repeat (first|(with_reducible first|exact HK.out|apply Kept.alloc|apply Kept.drewN|apply Kept.drew|refine Kept.setCell ?_ (.inr GW274.out) _|refine Kept.setCell ?_ (.inr GW275.out) _|refine Kept.setCell ?_ (.inr GW276.out) _|refine Kept.setCell ?_ (.inr GW277.out) _)|exact HK.out)).1) (fun k_ h_=>.inr h_)) (Kd.R_lt (rp_ HO_275003.out))) (g:=gb277) (o:=.cells #[.int .i64 a0_0,.int .i64 (wrap64 ((wrap64 (a0_4+(l0_3.length:Int)))+1)),.int .i64 a1_0,.int .i64 a1_1,.int .i64 a1_2,.int .i64 a1_3,.string a1_4] 44 (0,0)) (bp_ BK277.out)) (below_size (bel_)))
         replace HO_275003:=a_ (Kd.R_elder' (rp_ HO_275003.out) (Kd.R_base ho73) hb)
         replace HB:=a_ (bS_ (bel_) hb)
         replace BK274:=a_ (bb_ BK274.out hb)
         replace BK275:=a_ (bb_ BK275.out hb)
         replace BK276:=a_ (bb_ BK276.out hb)
         replace BK277:=a_ (bb_ BK277.out hb)
         replace HK:=a_ (Kept.below (S:=(fun k_=>P0_2_ k_∨P0_3_ k_)) (by repeat (first|(with_reducible first|exact HK.out|apply Kept.alloc|apply Kept.drewN|apply Kept.drew|refine Kept.setCell ?_ (.inr GW274.out) _|refine Kept.setCell ?_ (.inr GW275.out) _|refine Kept.setCell ?_ (.inr GW276.out) _|refine Kept.setCell ?_ (.inr GW277.out) _)|exact HK.out)) hb)
         clear hb ho73
         refine hK.out _ _ ⟨(bC_ BK274.out 0).trans rfl,(bC_ BK274.out 1).trans rfl,(bC_ BK274.out 2).trans rfl,(bC_ BK274.out 3).trans rfl,(bC_ BK274.out 4).trans rfl,(bC_ BK274.out 5).trans rfl,(bC_ BK277.out 0).trans rfl,(bC_ BK277.out 1).trans rfl,(bC_ BK277.out 2).trans rfl,(bC_ BK277.out 3).trans rfl,(bC_ BK277.out 4).trans rfl,(bC_ BK277.out 5).trans rfl,(bC_ BK277.out 6).trans rfl⟩ (fun hHeld=>?_)
         clear hK K
         refine no_ 50 ?_
         refine on_ 0 45 (fun K hK=>?_)
         refine Kd.R_lit_step k44 _ 44 ?hg (N:=45) ?hd (xs:=([]:List (S44))) (inner:=[]) (ok:=fun _=>True) (okp:=fun _=>True) ?hr ?hp (fun _ hk=>hk) trivial (Below.refl _ _) (Nat.le_refl _) (by simp) ?_;(case hd=>rfl);(case hg=>rfl);(case hr=>first|(go_simp;done)|(go_simp;rfl));(case hp=>exact (Reps.none _ _))
         intro v293 w74 ho75 hb hg_ hnew_
         clear hg_ hnew_
         (first|rw [←Ny292.out] at ho75|(simp only [Int.reduceToNat] at ho75;rw [←Ny292.out] at ho75))
         replace HO_275002:=a_ (Kd.R_below (rp_ HO_275002.out) hb)
         have HO294:=a_ (Kd.R_lower (Kd.R_newB (Kd.R_new' (Kd.R_new' (Kd.R_newM (M:=fun k_=>((P0_2_ k_∨P0_3_ k_)∨w.heap.size≤k_)) ho75 (by first|exact HK.out.1|exact (show Kept w _ (fun k_=>P0_2_ k_∨P0_3_ k_) from by repeat (first|(with_reducible first|exact HK.out|apply Kept.alloc|apply Kept.drewN|apply Kept.drew|refine Kept.setCell ?_ (.inr GW274.out) _|refine Kept.setCell ?_ (.inr GW275.out) _|refine Kept.setCell ?_ (.inr GW276.out) _|refine Kept.setCell ?_ (.inr GW277.out) _)|exact HK.out)).1) (fun k_ h_=>.inr h_)) (Kd.R_lt (rp_ HO_275003.out))) (Kd.R_lt (rp_ HO300.out))) (g:=gb277) (o:=.cells #[.int .i64 a0_0,.int .i64 (wrap64 ((wrap64 (a0_4+(l0_3.length:Int)))+1)),.int .i64 a1_0,.int .i64 a1_1,.int .i64 a1_2,.int .i64 a1_3,.string a1_4] 44 (0,0)) (bp_ BK277.out)) (below_size (bel_)))
         replace HO_275003:=a_ (Kd.R_elder' (rp_ HO_275003.out) (Kd.R_base ho75) hb)
         replace HO300:=a_ (Kd.R_elder' (rp_ HO300.out) (Kd.R_base ho75) hb)
         replace HB:=a_ (bS_ (bel_) hb)
         replace BK274:=a_ (bb_ BK274.out hb)
         replace BK275:=a_ (bb_ BK275.out hb)
         replace BK276:=a_ (bb_ BK276.out hb)
         replace BK277:=a_ (bb_ BK277.out hb)
         replace HK:=a_ (Kept.below (S:=(fun k_=>P0_2_ k_∨P0_3_ k_)) (by repeat (first|(with_reducible first|exact HK.out|apply Kept.alloc|apply Kept.drewN|apply Kept.drew|refine Kept.setCell ?_ (.inr GW274.out) _|refine Kept.setCell ?_ (.inr GW275.out) _|refine Kept.setCell ?_ (.inr GW276.out) _|refine Kept.setCell ?_ (.inr GW277.out) _)|exact HK.out)) hb)
         clear hb ho75
         refine hK.out _ _ ⟨(bC_ BK274.out 0).trans rfl,(bC_ BK274.out 1).trans rfl,(bC_ BK274.out 2).trans rfl,(bC_ BK274.out 3).trans rfl,(bC_ BK274.out 4).trans rfl,(bC_ BK274.out 5).trans rfl,(bC_ BK277.out 0).trans rfl,(bC_ BK277.out 1).trans rfl,(bC_ BK277.out 2).trans rfl,(bC_ BK277.out 3).trans rfl,(bC_ BK277.out 4).trans rfl,(bC_ BK277.out 5).trans rfl,(bC_ BK277.out 6).trans rfl⟩ (fun hHeld=>?_)
         clear hK K
         refine no_ 45 ?_
         refine on_ 3 48 (fun K hK=>?_)
         refine Kd.R_append_rows_step k44 (w0:=w0) w0.heap.size (by rfl) (.tmp 45) (.tmp 47) 23 44 (.agg #[(.int .i64 0),(.int .i64 0),(.int .i64 0),(.int .i64 0),(.int .i64 0),(.int .i64 0),(.string ⟨#[]⟩)]) 64 rfl Tryd.underlying23 info44 rfl (by decide) (by omega) v293 y292 l0_3 _ _ _ (fun k_=>((P0_2_ k_∨P0_3_ k_)∨w.heap.size≤k_)∧some k_≠(.slice Ao5 l0_3.length co5:Value).ownBlock∧some k_≠(v299:Value).ownBlock∧k_≠gb277) (fun _=>False) rfl rfl ?aO ?aR (fun _ _ h=>h) (fun _ h=>h.elim) ?aF ?aB ?aS ?aL ?_
         (case aR=>exact cx_ (Kd.R_reads' HO_275003.out).2.2)
         (case aB=>exact (bel_))
         (case aF=>exact (fun k_ hk=>⟨(.inr (Nat.le_trans (by first|exact HK.out.1|exact (show Kept w _ (fun k_=>P0_2_ k_∨P0_3_ k_) from by repeat (first|(with_reducible first|exact HK.out|apply Kept.alloc|apply Kept.drewN|apply Kept.drew|refine Kept.setCell ?_ (.inr GW274.out) _|refine Kept.setCell ?_ (.inr GW275.out) _|refine Kept.setCell ?_ (.inr GW276.out) _|refine Kept.setCell ?_ (.inr GW277.out) _)|exact HK.out)).1) hk)),Kd.fresh' (Kd.R_lt (rp_ HO_275003.out)) k_ hk,Kd.fresh' (Kd.R_lt (rp_ HO300.out)) k_ hk,Kd.freshB (g:=gb277) (o:=.cells #[.int .i64 a0_0,.int .i64 (wrap64 ((wrap64 (a0_4+(l0_3.length:Int)))+1)),.int .i64 a1_0,.int .i64 a1_1,.int .i64 a1_2,.int .i64 a1_3,.string a1_4] 44 (0,0)) (bp_ BK277.out) k_ hk⟩))
         (case aO=>exact (by (with_reducible repeat (first|apply Kd.R_alloc|apply Kd.R_drewN|apply Kd.R_drew));exact Kd.R_mono HO294.out (fun _ hk=>⟨hk.1.1.1.1,⟨hk.1.1.2,⟨hk.1.2,hk.2⟩⟩⟩)))
         (case aS=>exact (below_size (bel_)))
         (case aL=>have:=LMc65.out;omega)
         intro v296 w76 ho hb hg hat
         rw [←Ny295.out] at ho
         replace HO_275002:=a_ (Kd.R_over' (rp_ HO_275002.out) (Kd.R_typed (rp_ HO294.out)) (by decide) hg)
         replace HO_275003:=a_ (Kd.R_after (ok:=(fun k_=>((P0_2_ k_∨P0_3_ k_)∨w.heap.size≤k_)∧some k_≠(v299:Value).ownBlock∧k_≠gb277)) (by (with_reducible repeat (first|apply Kd.R_alloc|apply Kd.R_drewN|apply Kd.R_drew));exact Kd.R_mono HO_275003.out (fun _ hk=>⟨⟨hk.1.1.1,⟨hk.1.2,hk.1.1.2⟩⟩,hk.2⟩)) hg hat)
         replace BK274:=a_ (blk_grown (g:=gb274) (o:=.cells #[.int .i64 a0_0,.int .i64 a0_1,.slice Ao4 l0_2.length co4,.slice Ao5 l0_3.length co5,.int .i64 a0_4,.int .i64 a0_5] 77 (0,0)) (bp_ BK274.out) hg (Kd.R_ne HO294.out BK274.out (by decide)))
         replace BK275:=a_ (blk_grown (g:=gb275) (o:=.cells #[.int .i64 a1_0,.int .i64 a1_1,.int .i64 a1_2,.int .i64 a1_3,.string a1_4] 42 (0,0)) (bp_ BK275.out) hg (Kd.R_ne HO294.out BK275.out (by decide)))
         replace BK276:=a_ (blk_grown (g:=gb276) (o:=.cells #[.int .i64 0,.int .i64 0,.slice none 0 0,.slice none 0 0,.int .i64 0,.int .i64 0] 77 (0,0)) (bp_ BK276.out) hg (Kd.R_ne HO294.out BK276.out (by decide)))
         replace BK277:=a_ (blk_grown (g:=gb277) (o:=.cells #[.int .i64 a0_0,.int .i64 (wrap64 ((wrap64 (a0_4+(l0_3.length:Int)))+1)),.int .i64 a1_0,.int .i64 a1_1,.int .i64 a1_2,.int .i64 a1_3,.string a1_4] 44 (0,0)) (bp_ BK277.out) hg (Kd.R_away HO294.out (fun _ hk=>hk.2)))
         replace HO300:=a_ (Kd.R_after (ok:=(fun k_=>((P0_2_ k_∨P0_3_ k_)∨w.heap.size≤k_)∧some k_≠(.slice Ao5 l0_3.length co5:Value).ownBlock∧k_≠gb277)) (by (with_reducible repeat (first|apply Kd.R_alloc|apply Kd.R_drewN|apply Kd.R_drew));exact Kd.R_mono HO300.out (fun _ hk=>⟨⟨hk.1.1.1.1,⟨hk.1.1.2,hk.1.2⟩⟩,hk.2⟩)) hg hat)
         replace HB:=a_ (hb)
         replace HK:=a_ (Kept.of_grown (S:=(fun k_=>P0_2_ k_∨P0_3_ k_)) hg (by repeat (first|(with_reducible first|exact HK.out|apply Kept.alloc|apply Kept.drewN|apply Kept.drew|refine Kept.setCell ?_ (.inr GW274.out) _|refine Kept.setCell ?_ (.inr GW275.out) _|refine Kept.setCell ?_ (.inr GW276.out) _|refine Kept.setCell ?_ (.inr GW277.out) _)|exact HK.out)) (fun k_ e_=>(HO294.out.1 k_ e_).1.1.1.1))
         have HO297:=a_ (ho)
         clear HO294
         clear ho hb hg hat
         refine hK.out _ _ ⟨(bC_ BK274.out 0).trans rfl,(bC_ BK274.out 1).trans rfl,(bC_ BK274.out 2).trans rfl,(bC_ BK274.out 3).trans rfl,(bC_ BK274.out 4).trans rfl,(bC_ BK274.out 5).trans rfl,(bC_ BK277.out 0).trans rfl,(bC_ BK277.out 1).trans rfl,(bC_ BK277.out 2).trans rfl,(bC_ BK277.out 3).trans rfl,(bC_ BK277.out 4).trans rfl,(bC_ BK277.out 5).trans rfl,(bC_ BK277.out 6).trans rfl⟩ (fun hHeld=>?_)
         clear hK K
         refine no_ 48 ?_
         exact norm_ (by simp only [putAll,Act.put,List.setIfInBounds_toArray,List.set_cons_zero,List.set_cons_succ]) (hCont (v293,v296,v299) _ ⟨hHeld,(by (with_reducible repeat (first|apply Kd.R_alloc|apply Kd.R_drewN|apply Kd.R_drew));exact Kd.R_mono HO297.out (fun _ hk=>⟨hk.1,⟨hk.2.2.1,⟨hk.2.1,hk.2.2.2⟩⟩⟩)),(by (with_reducible repeat (first|apply Kd.R_alloc|apply Kd.R_drewN|apply Kd.R_drew));exact Kd.R_mono HO300.out (fun _ hk=>⟨hk.1.1,⟨hk.2,⟨hk.1.2.1,hk.1.2.2⟩⟩⟩)),(rp_ HO_275002.out),(by (with_reducible repeat (first|apply Kd.R_alloc|apply Kd.R_drewN|apply Kd.R_drew));exact Kd.R_mono HO_275003.out (fun _ hk=>⟨hk.1.1,⟨hk.2,⟨hk.1.2.1,hk.1.2.2⟩⟩⟩)),(bp_ BK274.out),(bp_ BK275.out),(bp_ BK276.out),(bp_ BK277.out),(by repeat (first|(with_reducible first|exact HK.out|apply Kept.alloc|apply Kept.drewN|apply Kept.drew|refine Kept.setCell ?_ (.inr GW274.out) _|refine Kept.setCell ?_ (.inr GW275.out) _|refine Kept.setCell ?_ (.inr GW276.out) _|refine Kept.setCell ?_ (.inr GW277.out) _)|exact HK.out)),(bel_)⟩)
       rintro ⟨v293,v296,v299⟩ w77 ⟨hS_,h0_,h1_,h2_,h3_,h4_,h5_,h6_,h7_,h8_,h9_⟩
       have HO297:Aside0 (Kd.R k44 44 w77 w0.heap.size (fun k_=>((P0_2_ k_∨P0_3_ k_)∨w.heap.size≤k_)∧some k_≠(v299:Value).ownBlock∧some k_≠(.slice Ao5 l0_3.length co5:Value).ownBlock∧k_≠gb277) v296 y295):=⟨h0_⟩
       have HO300:Aside0 (Kd.R k44 44 w77 w0.heap.size (fun k_=>((P0_2_ k_∨P0_3_ k_)∨w.heap.size≤k_)∧some k_≠(v296:Value).ownBlock∧some k_≠(.slice Ao5 l0_3.length co5:Value).ownBlock∧k_≠gb277) v299 y298):=⟨h1_⟩
       replace HO_275002:Aside0 (Kd.R k69 69 w77 w0.heap.size (fun k_=>((P0_2_ k_∨P0_3_ k_)∨w.heap.size≤k_)) (.slice Ao4 l0_2.length co4) l0_2):=⟨h2_⟩
       replace HO_275003:Aside0 (Kd.R k44 44 w77 w0.heap.size (fun k_=>((P0_2_ k_∨P0_3_ k_)∨w.heap.size≤k_)∧some k_≠(v296:Value).ownBlock∧some k_≠(v299:Value).ownBlock∧k_≠gb277) (.slice Ao5 l0_3.length co5) l0_3):=⟨h3_⟩
       replace BK274:Aside0 (w77.heap[gb274]?=some (.cells #[.int .i64 a0_0,.int .i64 a0_1,.slice Ao4 l0_2.length co4,.slice Ao5 l0_3.length co5,.int .i64 a0_4,.int .i64 a0_5] 77 (0,0))):=⟨h4_⟩
       replace BK275:Aside0 (w77.heap[gb275]?=some (.cells #[.int .i64 a1_0,.int .i64 a1_1,.int .i64 a1_2,.int .i64 a1_3,.string a1_4] 42 (0,0))):=⟨h5_⟩
       replace BK276:Aside0 (w77.heap[gb276]?=some (.cells #[.int .i64 0,.int .i64 0,.slice none 0 0,.slice none 0 0,.int .i64 0,.int .i64 0] 77 (0,0))):=⟨h6_⟩
       replace BK277:Aside0 (w77.heap[gb277]?=some (.cells #[.int .i64 a0_0,.int .i64 (wrap64 ((wrap64 (a0_4+(l0_3.length:Int)))+1)),.int .i64 a1_0,.int .i64 a1_1,.int .i64 a1_2,.int .i64 a1_3,.string a1_4] 44 (0,0))):=⟨h7_⟩
       replace HK:Aside0 (Kept w w77 (fun k_=>P0_2_ k_∨P0_3_ k_)):=⟨h8_⟩
       replace HB:Aside0 (Below w0.heap.size w0 w77):=⟨h9_⟩
       clear h0_ h1_ h2_ h3_ h4_ h5_ h6_ h7_ h8_ h9_
       have hHeld:w77.cell? ⟨gb274,0,none⟩=some (.int .i64 a0_0)∧w77.cell? ⟨gb274,1,none⟩=some (.int .i64 a0_1)∧w77.cell? ⟨gb274,2,none⟩=some (.slice Ao4 l0_2.length co4)∧w77.cell? ⟨gb274,3,none⟩=some (.slice Ao5 l0_3.length co5)∧w77.cell? ⟨gb274,4,none⟩=some (.int .i64 a0_4)∧w77.cell? ⟨gb274,5,none⟩=some (.int .i64 a0_5)∧w77.cell? ⟨gb277,0,none⟩=some (.int .i64 a0_0)∧w77.cell? ⟨gb277,1,none⟩=some (.int .i64 (wrap64 ((wrap64 (a0_4+(l0_3.length:Int)))+1)))∧w77.cell? ⟨gb277,2,none⟩=some (.int .i64 a1_0)∧w77.cell? ⟨gb277,3,none⟩=some (.int .i64 a1_1)∧w77.cell? ⟨gb277,4,none⟩=some (.int .i64 a1_2)∧w77.cell? ⟨gb277,5,none⟩=some (.int .i64 a1_3)∧w77.cell? ⟨gb277,6,none⟩=some (.string a1_4):=hS_
       obtain ⟨Ao79,co79,eo79⟩:=Kd.R_slice HO300.out
       (first|subst eo79|(injection eo79 with f1_ f2_ f3_;have f4_:=f1_.symm;have f5_:=f3_.symm;clear f1_ f2_ f3_;subst f4_;subst f5_))
       refine norm_ (a':=?_) ?_ ?_
       rotate_left
       ·simp only [putAll,Act.put,List.setIfInBounds_toArray,List.set_cons_zero,List.set_cons_succ]
        rfl
       refine on_ 6 51 (fun K hK=>?_)
       refine Kd.R_append_rows_step k44 (w0:=w0) w0.heap.size (by rfl) (.tmp 48) (.tmp 50) 23 44 (.agg #[(.int .i64 0),(.int .i64 0),(.int .i64 0),(.int .i64 0),(.int .i64 0),(.int .i64 0),(.string ⟨#[]⟩)]) 64 rfl Tryd.underlying23 info44 rfl (by decide) (by omega) v296 y295 y298 _ _ _ (fun k_=>((P0_2_ k_∨P0_3_ k_)∨w.heap.size≤k_)∧some k_≠(.slice Ao5 l0_3.length co5:Value).ownBlock∧some k_≠(.slice Ao79 y298.length co79:Value).ownBlock∧k_≠gb277) (fun _=>False) rfl rfl ?aO ?aR (fun _ _ h=>h) (fun _ h=>h.elim) ?aF ?aB ?aS ?aL ?_
       (case aR=>exact cx_ (Kd.R_reads' HO300.out).2.2)
       (case aB=>exact (bel_))
       (case aF=>exact (fun k_ hk=>⟨(.inr (Nat.le_trans (by first|exact HK.out.1|exact (show Kept w _ (fun k_=>P0_2_ k_∨P0_3_ k_) from by repeat (first|(with_reducible first|exact HK.out|apply Kept.alloc|apply Kept.drewN|apply Kept.drew|refine Kept.setCell ?_ (.inr GW274.out) _|refine Kept.setCell ?_ (.inr GW275.out) _|refine Kept.setCell ?_ (.inr GW276.out) _|refine Kept.setCell ?_ (.inr GW277.out) _)|exact HK.out)).1) hk)),Kd.fresh' (Kd.R_lt (rp_ HO_275003.out)) k_ hk,Kd.fresh' (Kd.R_lt (rp_ HO300.out)) k_ hk,Kd.freshB (g:=gb277) (o:=.cells #[.int .i64 a0_0,.int .i64 (wrap64 ((wrap64 (a0_4+(l0_3.length:Int)))+1)),.int .i64 a1_0,.int .i64 a1_1,.int .i64 a1_2,.int .i64 a1_3,.string a1_4] 44 (0,0)) (bp_ BK277.out) k_ hk⟩))
       (case aO=>exact (by (with_reducible repeat (first|apply Kd.R_alloc|apply Kd.R_drewN|apply Kd.R_drew));exact Kd.R_mono HO297.out (fun _ hk=>⟨hk.1,⟨hk.2.2.1,⟨hk.2.1,hk.2.2.2⟩⟩⟩)))
       (case aS=>exact (below_size (bel_)))
       (case aL=>have:=LMc66.out;omega)
       intro v302 w78 ho hb hg hat
       rw [←Ny301.out] at ho
       replace HO_275002:=a_ (Kd.R_over' (rp_ HO_275002.out) (Kd.R_typed (rp_ HO297.out)) (by decide) hg)
       replace HO_275003:=a_ (Kd.R_after (ok:=(fun k_=>((P0_2_ k_∨P0_3_ k_)∨w.heap.size≤k_)∧some k_≠(.slice Ao79 y298.length co79:Value).ownBlock∧k_≠gb277)) (by (with_reducible repeat (first|apply Kd.R_alloc|apply Kd.R_drewN|apply Kd.R_drew));exact Kd.R_mono HO_275003.out (fun _ hk=>⟨⟨hk.1,⟨hk.2.2.1,hk.2.2.2⟩⟩,hk.2.1⟩)) hg hat)
       replace BK274:=a_ (blk_grown (g:=gb274) (o:=.cells #[.int .i64 a0_0,.int .i64 a0_1,.slice Ao4 l0_2.length co4,.slice Ao5 l0_3.length co5,.int .i64 a0_4,.int .i64 a0_5] 77 (0,0)) (bp_ BK274.out) hg (Kd.R_ne HO297.out BK274.out (by decide)))
       replace BK275:=a_ (blk_grown (g:=gb275) (o:=.cells #[.int .i64 a1_0,.int .i64 a1_1,.int .i64 a1_2,.int .i64 a1_3,.string a1_4] 42 (0,0)) (bp_ BK275.out) hg (Kd.R_ne HO297.out BK275.out (by decide)))
       replace BK276:=a_ (blk_grown (g:=gb276) (o:=.cells #[.int .i64 0,.int .i64 0,.slice none 0 0,.slice none 0 0,.int .i64 0,.int .i64 0] 77 (0,0)) (bp_ BK276.out) hg (Kd.R_ne HO297.out BK276.out (by decide)))
       replace BK277:=a_ (blk_grown (g:=gb277) (o:=.cells #[.int .i64 a0_0,.int .i64 (wrap64 ((wrap64 (a0_4+(l0_3.length:Int)))+1)),.int .i64 a1_0,.int .i64 a1_1,.int .i64 a1_2,.int .i64 a1_3,.string a1_4] 44 (0,0)) (bp_ BK277.out) hg (Kd.R_away HO297.out (fun _ hk=>hk.2.2.2)))
       replace HO300:=a_ (Kd.R_after (ok:=(fun k_=>((P0_2_ k_∨P0_3_ k_)∨w.heap.size≤k_)∧some k_≠(.slice Ao5 l0_3.length co5:Value).ownBlock∧k_≠gb277)) (by (with_reducible repeat (first|apply Kd.R_alloc|apply Kd.R_drewN|apply Kd.R_drew));exact Kd.R_mono HO300.out (fun _ hk=>⟨⟨hk.1,⟨hk.2.2.1,hk.2.2.2⟩⟩,hk.2.1⟩)) hg hat)
       replace HB:=a_ (hb)
       replace HK:=a_ (Kept.of_grown (S:=(fun k_=>P0_2_ k_∨P0_3_ k_)) hg (by repeat (first|(with_reducible first|exact HK.out|apply Kept.alloc|apply Kept.drewN|apply Kept.drew|refine Kept.setCell ?_ (.inr GW274.out) _|refine Kept.setCell ?_ (.inr GW275.out) _|refine Kept.setCell ?_ (.inr GW276.out) _|refine Kept.setCell ?_ (.inr GW277.out) _)|exact HK.out)) (fun k_ e_=>(HO297.out.1 k_ e_).1))
       have HO303:=a_ (ho)
       clear HO297
       clear ho hb hg hat
       obtain ⟨Ao80,co80,eo80⟩:=Kd.R_slice HO303.out
       (first|subst eo80|(injection eo80 with f1_ f2_ f3_;have f4_:=f1_.symm;have f5_:=f3_.symm;clear f1_ f2_ f3_;subst f4_;subst f5_))
       refine hK.out _ _ ⟨(bC_ BK274.out 0).trans rfl,(bC_ BK274.out 1).trans rfl,(bC_ BK274.out 2).trans rfl,(bC_ BK274.out 3).trans rfl,(bC_ BK274.out 4).trans rfl,(bC_ BK274.out 5).trans rfl,(bC_ BK277.out 0).trans rfl,(bC_ BK277.out 1).trans rfl,(bC_ BK277.out 2).trans rfl,(bC_ BK277.out 3).trans rfl,(bC_ BK277.out 4).trans rfl,(bC_ BK277.out 5).trans rfl,(bC_ BK277.out 6).trans rfl⟩ (fun hHeld=>?_)
       clear hK K
       refine no_ 51 ?_
       refine pa_ 7 52 ?_
       refine last_ (i:=8) (N:=none) #[true,true,true,true,true,true,true,true,true] rfl rfl (one_of HT_.out (by kernel_rfl)) (by decide) (fun K hK=>?_)
       have hs81:w78.cell? ⟨gb274,3,none⟩=some (.slice Ao5 l0_3.length co5):=(bC_ BK274.out 3).trans rfl
       have hfs81:=bF_ BK274.out 3
       have hns81_1:=NB275_274.out
       have hns81_2:=NB276_274.out
       have hns81_3:=NB277_274.out
       have hms81_1:=NB274_275.out
       have hms81_2:=NB274_276.out
       have hms81_3:=NB274_277.out
       refine skip_ (w1:=?_) (by rfl) rfl ?_ ?_
       rotate_left
       ·go_simp
        rfl
       refine hK.out _ _ ?_
       clear hK K
       refine done_ (done_of HT_.out (by kernel_rfl)) ?_
       have hnb82:=NB274_276.out
       have hnc82:=NB276_274.out
       have hnb83:=NB274_277.out
       have hnc83:=NB277_274.out
       obtain ⟨Z84_0,Z84_1,Z84_2,Z84_3,Z84_4,Z84_5,Y84_0,Y84_1,Y84_2,Y84_3,Y84_4,Y84_5⟩:=op6_ BK274.out
       have hnb85:=NB276_277.out
       have hnc85:=NB277_276.out
       obtain ⟨Z86_0,Z86_1,Z86_2,Z86_3,Z86_4,Z86_5,Y86_0,Y86_1,Y86_2,Y86_3,Y86_4,Y86_5⟩:=op6_ BK276.out
       try go_wp2
       refine bodyPost_ret (results_ct rfl _ _ gb276 77 #[.int .i64 a0_0,.int .i64 a0_1,.slice Ao4 l0_2.length co4,.slice Ao80 y301.length co80,.int .i64 a0_4,.int .i64 a0_5] (0,0) _ rfl (k6p1_ NB276_274.out BK276.out) Tryd.underlying77 rfl (by kernel_rfl)) rfl ?_
       exact ⟨_,_,fi_,by (with_reducible repeat (first|apply Kd.R_alloc|apply Kd.R_drewN|apply Kd.R_drew));exact Kd.R_mono (rf6_ (g:=gb276) (Kd.R_far (p:=⟨gb274,3,none⟩) (Kd.R_types (Kd.R_types HO_275002.out BK274.out (by decide)) BK276.out (by decide)) (fun _ hk=>hk.1.2) (.slice Ao80 y301.length co80)) (fun _ hk=>hk.2) (.int .i64 a0_0) (.int .i64 a0_1) (.slice Ao4 l0_2.length co4) (.slice Ao80 y301.length co80) (.int .i64 a0_4) (.int .i64 a0_5)) (fun _ hk=>hk.1.1),by (with_reducible repeat (first|apply Kd.R_alloc|apply Kd.R_drewN|apply Kd.R_drew));exact Kd.R_mono (rf6_ (g:=gb276) (Kd.R_far (p:=⟨gb274,3,none⟩) (Kd.R_types (Kd.R_types HO303.out BK274.out (by decide)) BK276.out (by decide)) (fun _ hk=>hk.1.2) (.slice Ao80 y301.length co80)) (fun _ hk=>hk.2) (.int .i64 a0_0) (.int .i64 a0_1) (.slice Ao4 l0_2.length co4) (.slice Ao80 y301.length co80) (.int .i64 a0_4) (.int .i64 a0_5)) (fun _ hk=>hk.1.1.1),bel_,by repeat (first|(with_reducible first|exact HK.out|apply Kept.alloc|apply Kept.drewN|apply Kept.drew|refine Kept.setCell ?_ (.inr GW274.out) _|refine Kept.setCell ?_ (.inr GW275.out) _|refine Kept.setCell ?_ (.inr GW276.out) _|refine Kept.setCell ?_ (.inr GW277.out) _)|exact HK.out)⟩
      ·rw [if_neg c66] at H
       exact absurd H (by simp)
     ·rw [if_neg c65] at H
      exact absurd H (by simp)

end Go.Proofs.YtdpklbomhdpimaaDoor.P
