/- Joined by a program (wip/shake.py): the declarations that 'YtdpklbomhdpimaaDoorCardFnHearAgain' reaches. -/
import Derived.Test.YtdpklbomhdpimaaDoorHb6
set_option linter.unusedVariables false
set_option linter.unusedSimpArgs false
set_option linter.unusedSectionVars false
set_option maxHeartbeats 8000000
set_option maxRecDepth 100000
namespace Go.Proofs.YtdpklbomhdpimaaDoor.P
open Go.RowKit Go.Proofs.YtdpklbomhdpimaaDoorW.PrintWords Go.Proofs.YtdpklbomhdpimaaDoorW.PrintLast Go.Proofs.YtdpklbomhdpimaaDoorW.PrintMore
def impl_ServerSync.f (k:Nat) (l0_0:List S44) (a0_1:Int) (a0_2:Bool):Option (List S44×Int×Bool×Bool) :=
 (impl_ServerOk.f k l0_0 a0_1 a0_2).bind fun t=>if t=true then (if l0_0.length < 2199023255552 then (if a0_2=true then some (l0_0,(l0_0.length:Int),true,true) else some (l0_0,a0_1,false,false)) else none) else some ([],0,false,false)
theorem impl_ServerSync.mono (l0_0:List S44) (a0_1:Int) (a0_2:Bool) (k:Nat):LeO (impl_ServerSync.f k l0_0 a0_1 a0_2) (impl_ServerSync.f (k+1) l0_0 a0_1 a0_2):=by
 unfold impl_ServerSync.f
 exact LeO.bind (impl_ServerOk.mono _ _ _ _) (fun _=>LeO.refl _)
theorem Mach.below {w w':World} {base g:Nat} {l:List S44} {q:Value} {s:Int} {u:Bool} (h:Mach w base g l q s u) (hb:Below w.heap.size w w'):Mach w' base g l q s u:=by
 obtain ⟨A,c,h1,h2,h3⟩:=h
 exact ⟨A,c,blk_below h1 hb,Kd.R_below h2 hb,h3⟩
theorem Mach.set_safe {w:World} {base g:Nat} {l:List S44} {q:Value} {s:Int} {u:Bool} (h:Mach w base g l q s u) (x:Int):Mach (w.setCell ⟨g,2,none⟩ (.int .i64 x)) base g l q x u:=by
 obtain ⟨A,c,h1,h2,h3⟩:=h
 exact ⟨A,c,(blk_set h1 2 _).trans rfl,Kd.R_far h2 (p:=⟨g,2,none⟩) (fun _ hk=>hk) _,h3⟩
theorem impl_ServerSync.calls (k:Nat) (A0_0:Option Addr) (c0_0:Nat) (l0_0:List S44) (a0_1:Int) (a0_2:Bool) (r1:List S44) (r2:Int) (r3:Bool) (r4:Bool) (w:World) (hr0_0:Kd.C k44 w A0_0 l0_0.length l0_0) (hc0_0:l0_0.length≤c0_0) (h:impl_ServerSync.f k l0_0 a0_1 a0_2=some (r1,r2,r3,r4)) (hG:Glob w) :
  Calls Tryd.prog 34 #[.agg #[.slice A0_0 l0_0.length c0_0,.int .i64 a0_1,.bool a0_2]] w fun e w'=>∃ v0_:Value,e=.returned (.tuple #[.agg #[v0_,.int .i64 r2,.bool r3],.bool r4])∧Kd.R k44 44 w' w.heap.size (fun _=>True) v0_ r1∧Below w.heap.size w w':=by
 have HR0:=a_ hr0_0
 have HC0:=a_ hc0_0
 have HG:=a_ hG
 clear hr0_0 hc0_0 hG
 have hu1:=Tryd.underlying25
 have hu2:=Tryd.underlying107
 have hu3:=Tryd.underlying103
 unfold impl_ServerSync.f at h
 obtain ⟨t,ht,h⟩:=Option.bind_eq_some_iff.1 h
 have HT:=a_ ht
 clear ht
 cases t with
 | false =>
  simp only [Bool.false_eq_true,if_false,Option.some.injEq,Prod.mk.injEq] at h
  obtain ⟨rfl,rfl,rfl,rfl⟩:=h
  go_enter Tryd.func34,Tryd.ntmps34
  go_wp2_with (first|((with_reducible refine gD_ (N:=1) rfl ?_);refine bx_ 1 (#[.slice A0_0 l0_0.length c0_0,.int .i64 a0_1,.bool a0_2]) 25 ?_;intro g1 hg1 w1 hbox1 hb1;have HB1:=a_ hb1;have BK1:=a_ hbox1;clear hb1 hbox1 hg1)|((with_reducible refine gD_ (N:=2) rfl ?_);refine bx_ 2 (#[.slice none 0 0,.int .i64 0,.bool false]) 25 ?_;intro g2 hg2 w2 hbox2 hb2;have BK12:=a_ (blk_below BK1.out hb2);have HB2:=a_ (bS_ HB1.out hb2);have BK2:=a_ hbox2;have GE2:=a_ (show w.heap.size≤g2 by rw [hg2];exact HB1.out.size);have LT2:=a_ (blk_lt hbox2);clear hb2 hbox2 hg2;have hx0:w2.cell? ⟨g1,0,none⟩=some (.slice A0_0 l0_0.length c0_0):=(bC_ BK12.out 0).trans rfl;have hx1:w2.cell? ⟨g1,1,none⟩=some (.int .i64 a0_1):=(bC_ BK12.out 1).trans rfl;have hx2:w2.cell? ⟨g1,2,none⟩=some (.bool a0_2):=(bC_ BK12.out 2).trans rfl)|(go_at_call 16;refine (impl_ServerOk.calls k _ _ l0_0 a0_1 a0_2 false _ (Kd.C_below HR0.out HB2.out) HC0.out HT.out (HG.out.below HB2.out)).mono ?_;rintro e w3 ⟨rfl,hb3⟩;have BK13:=a_ (blk_below BK12.out hb3);have BK23:=a_ (blk_below BK2.out hb3);have HB3:=a_ (bS_ HB2.out hb3);have LT3:=a_ (Nat.lt_of_lt_of_le LT2.out hb3.size);clear hb3;have hy0:w3.cell? ⟨g1,0,none⟩=some (.slice A0_0 l0_0.length c0_0):=(bC_ BK13.out 0).trans rfl;have hy1:w3.cell? ⟨g1,1,none⟩=some (.int .i64 a0_1):=(bC_ BK13.out 1).trans rfl;have hy2:w3.cell? ⟨g1,2,none⟩=some (.bool a0_2):=(bC_ BK13.out 2).trans rfl;have hz0:w3.cell? ⟨g2,0,none⟩=some (.slice none 0 0):=(bC_ BK23.out 0).trans rfl;have hz1:w3.cell? ⟨g2,1,none⟩=some (.int .i64 0):=(bC_ BK23.out 1).trans rfl;have hz2:w3.cell? ⟨g2,2,none⟩=some (.bool false):=(bC_ BK23.out 2).trans rfl;have hzf0:=bF_ BK23.out 0;have hzf1:=bF_ BK23.out 1;have hzf2:=bF_ BK23.out 2))
  (try simp only [Exit.inBlock,Exit.then])
  refine bodyPost_ret (results_ct rfl _ _ g2 25 #[.slice none 0 0,.int .i64 0,.bool false] (0,0) _ rfl ((blk_set (blk_set (blk_set BK23.out 0 _) 1 _) 2 _).trans rfl) Tryd.underlying25 rfl (by kernel_rfl)) rfl ?_
  exact ⟨_,rfl,Kd.R_nil _ _ _ _ _,wS_ (wS_ (wS_ HB3.out GE2.out) GE2.out) GE2.out⟩
 | true =>
  rw [if_pos rfl] at h
  by_cases hl:l0_0.length < 2199023255552
  ·rw [if_pos hl] at h
   have LM:=a_ hl
   clear hl
   cases a0_2 with
   | false =>
    simp only [Bool.false_eq_true,if_true,if_false,Option.some.injEq,Prod.mk.injEq] at h
    obtain ⟨rfl,rfl,rfl,rfl⟩:=h
    go_enter Tryd.func34,Tryd.ntmps34
    go_wp2_with (first|((with_reducible refine gD_ (N:=1) rfl ?_);refine bx_ 1 (#[.slice A0_0 l0_0.length c0_0,.int .i64 a0_1,.bool false]) 25 ?_;intro g1 hg1 w1 hbox1 hb1;have HB1:=a_ hb1;have BK1:=a_ hbox1;clear hb1 hbox1 hg1)|((with_reducible refine gD_ (N:=2) rfl ?_);refine bx_ 2 (#[.slice none 0 0,.int .i64 0,.bool false]) 25 ?_;intro g2 hg2 w2 hbox2 hb2;have BK12:=a_ (blk_below BK1.out hb2);have HB2:=a_ (bS_ HB1.out hb2);have BK2:=a_ hbox2;have GE2:=a_ (show w.heap.size≤g2 by rw [hg2];exact HB1.out.size);have LT2:=a_ (blk_lt hbox2);clear hb2 hbox2 hg2;have hx0:w2.cell? ⟨g1,0,none⟩=some (.slice A0_0 l0_0.length c0_0):=(bC_ BK12.out 0).trans rfl;have hx1:w2.cell? ⟨g1,1,none⟩=some (.int .i64 a0_1):=(bC_ BK12.out 1).trans rfl;have hx2:w2.cell? ⟨g1,2,none⟩=some (.bool false):=(bC_ BK12.out 2).trans rfl)|(go_at_call 16;refine (impl_ServerOk.calls k _ _ l0_0 a0_1 false true _ (Kd.C_below HR0.out HB2.out) HC0.out HT.out (HG.out.below HB2.out)).mono ?_;rintro e w3 ⟨rfl,hb3⟩;have BK13:=a_ (blk_below BK12.out hb3);have BK23:=a_ (blk_below BK2.out hb3);have HB3:=a_ (bS_ HB2.out hb3);have LT3:=a_ (Nat.lt_of_lt_of_le LT2.out hb3.size);clear hb3;have hy0:w3.cell? ⟨g1,0,none⟩=some (.slice A0_0 l0_0.length c0_0):=(bC_ BK13.out 0).trans rfl;have hy1:w3.cell? ⟨g1,1,none⟩=some (.int .i64 a0_1):=(bC_ BK13.out 1).trans rfl;have hy2:w3.cell? ⟨g1,2,none⟩=some (.bool false):=(bC_ BK13.out 2).trans rfl;have hz0:w3.cell? ⟨g2,0,none⟩=some (.slice none 0 0):=(bC_ BK23.out 0).trans rfl;have hz1:w3.cell? ⟨g2,1,none⟩=some (.int .i64 0):=(bC_ BK23.out 1).trans rfl;have hz2:w3.cell? ⟨g2,2,none⟩=some (.bool false):=(bC_ BK23.out 2).trans rfl;have hzf0:=bF_ BK23.out 0;have hzf1:=bF_ BK23.out 1;have hzf2:=bF_ BK23.out 2)|(go_at_call 79;refine (impl_machineOf.calls _ _ l0_0 a0_1 false _ (Kd.C_below HR0.out HB3.out) HC0.out LM.out).mono ?_;rintro e w4 ⟨g,rfl,⟨A4,c4,hk4,hr4,hge4⟩,hb4⟩;have HK4:=a_ hk4;have HRR4:=a_ hr4;have GE4:=a_ (Nat.le_trans HB3.out.size hge4);have NE4:=a_ (show g2≠g by have:=LT3.out;omega);have BK24:=a_ (blk_below BK23.out hb4);have HB4:=a_ (bS_ HB3.out hb4);clear hb4 hk4 hr4 hge4;have hm0:w4.cell? ⟨g,0,none⟩=some (.slice A4 l0_0.length c4):=(bC_ HK4.out 0).trans rfl;have hm2:w4.cell? ⟨g,2,none⟩=some (.int .i64 a0_1):=(bC_ HK4.out 2).trans rfl;have hm3:w4.cell? ⟨g,3,none⟩=some (.bool false):=(bC_ HK4.out 3).trans rfl;have hmf:=bF_ HK4.out 2))
    have HM5:=a_ (show Mach w4 0 g l0_0 (.slice none 0 0) a0_1 false from ⟨A4,c4,HK4.out,Kd.R_lower HRR4.out (Nat.zero_le _),Nat.zero_le _⟩)
    have BK25:=BK24
    have HB5:=HB4
    generalize w4=W5 at HM5 BK25 HB5 ⊢
    have HMd:=a_ (HM5.out.below (below_drew1 (Below.refl _ _)))
    have BKd:=a_ (bD_ BK25.out)
    have HBd:=a_ (below_drew1 HB5.out)
    have hup5:W5.cell? ⟨g,3,none⟩=some (.bool false):=by
     obtain ⟨A7,c7,h7,_,_⟩:=HM5.out
     exact (bC_ h7 3).trans rfl
    go_region_with (go_at_call 82;refine (impl_mserver.calls 0 g l0_0 _ a0_1 false _ HMd.out LM.out).mono ?_;rintro e w6 ⟨v6,rfl,ho6,hb6⟩;obtain ⟨A6,c6,rfl⟩:=Kd.R_slice ho6;have HO6:=a_ (Kd.R_newB ho6 BKd.out);have HB6:=a_ (bS_ HBd.out hb6);have BK6:=a_ (blk_below BKd.out hb6);have HM6:=a_ (HMd.out.below hb6);clear ho6 hb6;have hz0:w6.cell? ⟨g2,0,none⟩=some (.slice none 0 0):=(bC_ BK6.out 0).trans rfl;have hz1:w6.cell? ⟨g2,1,none⟩=some (.int .i64 0):=(bC_ BK6.out 1).trans rfl;have hz2:w6.cell? ⟨g2,2,none⟩=some (.bool false):=(bC_ BK6.out 2).trans rfl;have hzf0:=bF_ BK6.out 0;have hzf1:=bF_ BK6.out 1;have hzf2:=bF_ BK6.out 2;have hup6:w6.cell? ⟨g,3,none⟩=some (.bool false):=(by obtain ⟨A7,c7,h7,_,_⟩:=HM6.out;exact (bC_ h7 3).trans rfl))
    all_goals go_wp2
    all_goals (try simp only [Exit.inBlock,Exit.then])
    all_goals refine bodyPost_ret (results_ct rfl _ _ g2 25 #[.slice A6 l0_0.length c6,.int .i64 a0_1,.bool false] (0,0) _ rfl ((blk_set (blk_set (blk_set BK6.out 0 _) 1 _) 2 _).trans rfl) Tryd.underlying25 rfl (by kernel_rfl)) rfl ?_
    all_goals refine ⟨_,rfl,?_,wS_ (wS_ (wS_ HB6.out GE2.out) GE2.out) GE2.out⟩
    all_goals exact Kd.R_mono (Kd.R_far (Kd.R_far (Kd.R_far (Kd.R_lower HO6.out HBd.out.size) (p:=⟨g2,0,none⟩) (fun _ hk=>hk.2) _) (p:=⟨g2,1,none⟩) (fun _ hk=>hk.2) _) (p:=⟨g2,2,none⟩) (fun _ hk=>hk.2) _) (fun _ _=>trivial)
   | true =>
    simp only [Bool.false_eq_true,if_true,if_false,Option.some.injEq,Prod.mk.injEq] at h
    obtain ⟨rfl,rfl,rfl,rfl⟩:=h
    go_enter Tryd.func34,Tryd.ntmps34
    go_wp2_with (first|((with_reducible refine gD_ (N:=1) rfl ?_);refine bx_ 1 (#[.slice A0_0 l0_0.length c0_0,.int .i64 a0_1,.bool true]) 25 ?_;intro g1 hg1 w1 hbox1 hb1;have HB1:=a_ hb1;have BK1:=a_ hbox1;clear hb1 hbox1 hg1)|((with_reducible refine gD_ (N:=2) rfl ?_);refine bx_ 2 (#[.slice none 0 0,.int .i64 0,.bool false]) 25 ?_;intro g2 hg2 w2 hbox2 hb2;have BK12:=a_ (blk_below BK1.out hb2);have HB2:=a_ (bS_ HB1.out hb2);have BK2:=a_ hbox2;have GE2:=a_ (show w.heap.size≤g2 by rw [hg2];exact HB1.out.size);have LT2:=a_ (blk_lt hbox2);clear hb2 hbox2 hg2;have hx0:w2.cell? ⟨g1,0,none⟩=some (.slice A0_0 l0_0.length c0_0):=(bC_ BK12.out 0).trans rfl;have hx1:w2.cell? ⟨g1,1,none⟩=some (.int .i64 a0_1):=(bC_ BK12.out 1).trans rfl;have hx2:w2.cell? ⟨g1,2,none⟩=some (.bool true):=(bC_ BK12.out 2).trans rfl)|(go_at_call 16;refine (impl_ServerOk.calls k _ _ l0_0 a0_1 true true _ (Kd.C_below HR0.out HB2.out) HC0.out HT.out (HG.out.below HB2.out)).mono ?_;rintro e w3 ⟨rfl,hb3⟩;have BK13:=a_ (blk_below BK12.out hb3);have BK23:=a_ (blk_below BK2.out hb3);have HB3:=a_ (bS_ HB2.out hb3);have LT3:=a_ (Nat.lt_of_lt_of_le LT2.out hb3.size);clear hb3;have hy0:w3.cell? ⟨g1,0,none⟩=some (.slice A0_0 l0_0.length c0_0):=(bC_ BK13.out 0).trans rfl;have hy1:w3.cell? ⟨g1,1,none⟩=some (.int .i64 a0_1):=(bC_ BK13.out 1).trans rfl;have hy2:w3.cell? ⟨g1,2,none⟩=some (.bool true):=(bC_ BK13.out 2).trans rfl;have hz0:w3.cell? ⟨g2,0,none⟩=some (.slice none 0 0):=(bC_ BK23.out 0).trans rfl;have hz1:w3.cell? ⟨g2,1,none⟩=some (.int .i64 0):=(bC_ BK23.out 1).trans rfl;have hz2:w3.cell? ⟨g2,2,none⟩=some (.bool false):=(bC_ BK23.out 2).trans rfl;have hzf0:=bF_ BK23.out 0;have hzf1:=bF_ BK23.out 1;have hzf2:=bF_ BK23.out 2)|(go_at_call 79;refine (impl_machineOf.calls _ _ l0_0 a0_1 true _ (Kd.C_below HR0.out HB3.out) HC0.out LM.out).mono ?_;rintro e w4 ⟨g,rfl,⟨A4,c4,hk4,hr4,hge4⟩,hb4⟩;have HK4:=a_ hk4;have HRR4:=a_ hr4;have GE4:=a_ (Nat.le_trans HB3.out.size hge4);have NE4:=a_ (show g2≠g by have:=LT3.out;omega);have BK24:=a_ (blk_below BK23.out hb4);have HB4:=a_ (bS_ HB3.out hb4);clear hb4 hk4 hr4 hge4;have hm0:w4.cell? ⟨g,0,none⟩=some (.slice A4 l0_0.length c4):=(bC_ HK4.out 0).trans rfl;have hm2:w4.cell? ⟨g,2,none⟩=some (.int .i64 a0_1):=(bC_ HK4.out 2).trans rfl;have hm3:w4.cell? ⟨g,3,none⟩=some (.bool true):=(bC_ HK4.out 3).trans rfl;have hmf:=bF_ HK4.out 2))
    have HM5:=a_ (Mach.set_safe (show Mach w4 0 g l0_0 (.slice none 0 0) a0_1 true from ⟨A4,c4,HK4.out,Kd.R_lower HRR4.out (Nat.zero_le _),Nat.zero_le _⟩) (l0_0.length:Int))
    have BK25:=a_ (blk_far BK24.out (p:=⟨g,2,none⟩) NE4.out (.int .i64 (l0_0.length:Int)))
    have HB5:=a_ (wS_ (j:=2) (v:=.int .i64 (l0_0.length:Int)) HB4.out GE4.out)
    generalize w4.setCell ⟨g,2,none⟩ (.int .i64 (l0_0.length:Int))=W5 at HM5 BK25 HB5 ⊢
    have HMd:=a_ (HM5.out.below (below_drew1 (Below.refl _ _)))
    have BKd:=a_ (bD_ BK25.out)
    have HBd:=a_ (below_drew1 HB5.out)
    have hup5:W5.cell? ⟨g,3,none⟩=some (.bool true):=by
     obtain ⟨A7,c7,h7,_,_⟩:=HM5.out
     exact (bC_ h7 3).trans rfl
    go_region_with (go_at_call 82;refine (impl_mserver.calls 0 g l0_0 _ (l0_0.length:Int) true _ HMd.out LM.out).mono ?_;rintro e w6 ⟨v6,rfl,ho6,hb6⟩;obtain ⟨A6,c6,rfl⟩:=Kd.R_slice ho6;have HO6:=a_ (Kd.R_newB ho6 BKd.out);have HB6:=a_ (bS_ HBd.out hb6);have BK6:=a_ (blk_below BKd.out hb6);have HM6:=a_ (HMd.out.below hb6);clear ho6 hb6;have hz0:w6.cell? ⟨g2,0,none⟩=some (.slice none 0 0):=(bC_ BK6.out 0).trans rfl;have hz1:w6.cell? ⟨g2,1,none⟩=some (.int .i64 0):=(bC_ BK6.out 1).trans rfl;have hz2:w6.cell? ⟨g2,2,none⟩=some (.bool false):=(bC_ BK6.out 2).trans rfl;have hzf0:=bF_ BK6.out 0;have hzf1:=bF_ BK6.out 1;have hzf2:=bF_ BK6.out 2;have hup6:w6.cell? ⟨g,3,none⟩=some (.bool true):=(by obtain ⟨A7,c7,h7,_,_⟩:=HM6.out;exact (bC_ h7 3).trans rfl))
    all_goals go_wp2
    all_goals (try simp only [Exit.inBlock,Exit.then])
    all_goals refine bodyPost_ret (results_ct rfl _ _ g2 25 #[.slice A6 l0_0.length c6,.int .i64 (l0_0.length:Int),.bool true] (0,0) _ rfl ((blk_set (blk_set (blk_set BK6.out 0 _) 1 _) 2 _).trans rfl) Tryd.underlying25 rfl (by kernel_rfl)) rfl ?_
    all_goals refine ⟨_,rfl,?_,wS_ (wS_ (wS_ HB6.out GE2.out) GE2.out) GE2.out⟩
    all_goals exact Kd.R_mono (Kd.R_far (Kd.R_far (Kd.R_far (Kd.R_lower HO6.out HBd.out.size) (p:=⟨g2,0,none⟩) (fun _ hk=>hk.2) _) (p:=⟨g2,1,none⟩) (fun _ hk=>hk.2) _) (p:=⟨g2,2,none⟩) (fun _ hk=>hk.2) _) (fun _ _=>trivial)
  ·rw [if_neg hl] at h
   cases h
end Go.Proofs.YtdpklbomhdpimaaDoor.P
namespace Go.Proofs.YtdpklbomhdpimaaDoor.P
open Go.RowKit Go.Proofs.YtdpklbomhdpimaaDoorW.PrintWords Go.Proofs.YtdpklbomhdpimaaDoorW.PrintLast
def laws_FnHearAgain.f (k:Nat) (l0:List Int):Option (Bool):=if (l0.length:Int) > 1048576 then (some true) else ((spec_DrawServerHear.f k l0).bind fun bt763=>((spec_ServerHear.f k bt763.1 bt763.2.1 bt763.2.2.1 bt763.2.2.2.1 bt763.2.2.2.2.1 bt763.2.2.2.2.2.1 bt763.2.2.2.2.2.2.1 bt763.2.2.2.2.2.2.2.1 bt763.2.2.2.2.2.2.2.2.1 bt763.2.2.2.2.2.2.2.2.2).bind fun bt777=>((impl_ServerHear.f k bt763.1 bt763.2.1 bt763.2.2.1 bt763.2.2.2.1 bt763.2.2.2.2.1 bt763.2.2.2.2.2.1 bt763.2.2.2.2.2.2.1 bt763.2.2.2.2.2.2.2.1 bt763.2.2.2.2.2.2.2.2.1 bt763.2.2.2.2.2.2.2.2.2).bind fun bt784=>(if (bt784.2.2.2 != bt777.2.2.2)=true then (none) else ((laws_lpServer.f k bt784.1 bt784.2.1 bt784.2.2.1 bt777.1 bt777.2.1 bt777.2.2.1).bind fun t791=>(if t791=true then (if bt784.2.2.2=true then ((impl_ServerHear.f k bt784.1 bt784.2.1 bt784.2.2.1 bt763.2.2.2.1 bt763.2.2.2.2.1 bt763.2.2.2.2.2.1 bt763.2.2.2.2.2.2.1 bt763.2.2.2.2.2.2.2.1 bt763.2.2.2.2.2.2.2.2.1 bt763.2.2.2.2.2.2.2.2.2).bind fun bt793=>((impl_ServerSync.f k bt784.1 bt784.2.1 bt784.2.2.1).bind fun bt800=>((impl_ServerFall.f k bt800.1 bt800.2.1 bt800.2.2.1 0).bind fun bt807=>((impl_ServerHear.f k bt807.1 bt807.2.1 bt807.2.2 bt763.2.2.2.1 bt763.2.2.2.2.1 bt763.2.2.2.2.2.1 bt763.2.2.2.2.2.2.1 bt763.2.2.2.2.2.2.2.1 bt763.2.2.2.2.2.2.2.2.1 bt763.2.2.2.2.2.2.2.2.2).bind fun bt812=>(if bt793.2.2.2=true then (none) else ((laws_lpServer.f k bt793.1 bt793.2.1 bt793.2.2.1 bt784.1 bt784.2.1 bt784.2.2.1).bind fun t819=>(if t819=true then (if bt812.2.2.2=true then (none) else ((laws_lpLog.f k bt812.1 bt784.1).bind fun t820=>(some t820))) else (none)))))))) else (if (bt784.2.2.2==bt777.2.2.2)=true then ((laws_lpServer.f k bt784.1 bt784.2.1 bt784.2.2.1 bt777.1 bt777.2.1 bt777.2.2.1).bind fun t792=>(some t792)) else (none))) else (none)))))))
theorem laws_FnHearAgain.mono:∀ a0 k,LeO (laws_FnHearAgain.f k a0) (laws_FnHearAgain.f (k+1) a0):=by
 intro a0 k
 unfold laws_FnHearAgain.f
 repeat' first
   | (with_reducible exact impl_ServerFall.mono _ _ _ _ _)
   | (with_reducible exact impl_ServerHear.mono _ _ _ _ _ _ _ _ _ _ _)
   | (with_reducible exact impl_ServerSync.mono _ _ _ _)
   | (with_reducible exact laws_lpLog.mono _ _ _)
   | (with_reducible exact laws_lpServer.mono _ _ _ _ _ _ _)
   | (with_reducible exact spec_DrawServerHear.mono _ _)
   | (with_reducible exact spec_ServerHear.mono _ _ _ _ _ _ _ _ _ _ _)
   | (with_reducible exact LeO.refl _)
   | (with_reducible exact LeO.none _)
   | (with_reducible refine LeO.ite ?_ ?_)
   | (with_reducible refine LeO.bind ?_ (fun _=>?_))
def laws_FnHearAgain.T10:Bool×List (List Nat×List Nat):=(true,[([],[]),([0],[0]),([],[]),([1,2,1],[1,2]),([3],[3]),([4],[4]),([4],[4]),([],[]),([7,5,3,0,1,2,3,4,5,7],[5,7]),([6,8,0,1,2,3,4,5,6,7,8],[6])])
def laws_FnHearAgain.B10:List Nat:=[0,1,0,7,15,31,31,0,191,511]
theorem laws_FnHearAgain.tab10:rtab .any (opsOf Tryd.f7 10)=laws_FnHearAgain.T10:=by kernel_rfl
theorem laws_FnHearAgain.bits10:waitsOk laws_FnHearAgain.T10.2 laws_FnHearAgain.B10=true:=by kernel_rfl
end Go.Proofs.YtdpklbomhdpimaaDoor.P
