/- Joined by a program (wip/shake.py): the declarations that 'YtdpklbomhdpimaaDoorCardFnExactClientDo' reaches. -/
import Derived.Test.YtdpklbomhdpimaaDoorZLm4
set_option linter.unusedVariables false
set_option linter.unusedSimpArgs false
set_option linter.unusedSectionVars false
set_option maxHeartbeats 8000000
set_option maxRecDepth 100000
namespace Go.Proofs.YtdpklbomhdpimaaDoor.P
open Go.RowKit Go.Proofs.YtdpklbomhdpimaaDoorW.PrintWords Go.Proofs.YtdpklbomhdpimaaDoorW.PrintLast
def spec_l21Copy.f (a0_0:Int) (a0_1:Int) (l0_2:List (S69)) (l0_3:List (S44)) (a0_4:Int) (a0_5:Int):Option (Int×Int×(List (S69))×(List (S44))×Int×Int):=(some (([]:List (S69)):List (S69))).bind fun y306=>(if y306.length+l0_2.length < 4398046511104 then ((some (([]:List (S44)):List (S44))).bind fun y312=>(if y312.length+l0_3.length < 2199023255552 then (some (a0_0,a0_1,(y306++l0_2),(y312++l0_3),a0_4,a0_5)) else (none))) else (none))
theorem spec_l21Copy.calls (a0_0:Int) (a0_1:Int) (A0_2:Option Addr) (c0_2:Nat) (l0_2:List (S69)) (A0_3:Option Addr) (c0_3:Nat) (l0_3:List (S44)) (a0_4:Int) (a0_5:Int) (r1:Int) (r2:Int) (r3:List (S69)) (r4:List (S44)) (r5:Int) (r6:Int) (w:World) (hr0_2:Kd.C k69 w A0_2 l0_2.length l0_2) (hc0_2:l0_2.length≤c0_2) (hr0_3:Kd.C k44 w A0_3 l0_3.length l0_3) (hc0_3:l0_3.length≤c0_3) (h:spec_l21Copy.f a0_0 a0_1 l0_2 l0_3 a0_4 a0_5=some (r1,r2,r3,r4,r5,r6)) :
  Calls Tryd.prog 113 #[.agg #[.int .i64 a0_0,.int .i64 a0_1,.slice A0_2 l0_2.length c0_2,.slice A0_3 l0_3.length c0_3,.int .i64 a0_4,.int .i64 a0_5]] w fun e w'=>∃ v2_ v3_:Value,e=.returned (.agg #[.int .i64 r1,.int .i64 r2,v2_,v3_,.int .i64 r5,.int .i64 r6])∧Kd.R k69 69 w' w.heap.size (fun _=>True) v2_ r3∧Kd.R k44 44 w' w.heap.size (fun _=>True) v3_ r4∧Below w.heap.size w w':=by
 have hu77:=Tryd.underlying77
 have HR0_2:=a_ hr0_2
 have HC0_2:=a_ hc0_2
 clear hr0_2 hc0_2
 have HR0_3:=a_ hr0_3
 have HC0_3:=a_ hc0_3
 clear hr0_3 hc0_3
 have HB:=a_ (Below.refl w.heap.size w)
 unfold spec_l21Copy.f at h
 have H:=h
 clear h
 obtain ⟨y306,hy306⟩:∃ y_:List (S69),y_=(([]:List (S69))):=⟨_,rfl⟩
 replace H:(if y306.length+l0_2.length < 4398046511104 then ((some (([]:List (S44)):List (S44))).bind fun y312=>(if y312.length+l0_3.length < 2199023255552 then (some (a0_0,a0_1,(y306++l0_2),(y312++l0_3),a0_4,a0_5)) else (none))) else (none))=some (r1,r2,r3,r4,r5,r6):=by first|(rw [hy306];with_reducible exact H)|(have H2_:=(Option.bind_some _ _).symm.trans H;rw [hy306];with_reducible exact H2_)|(have H2_:=(Option.bind_some _ _).symm.trans H;with_reducible exact H2_)|with_reducible exact H|(rw [hy306];exact H)|exact H
 have Ny306:=a_ hy306
 clear hy306
 by_cases c2:y306.length+l0_2.length < 4398046511104
 ·rw [if_pos c2] at H
  have LMc2:=a_ c2
  clear c2
  obtain ⟨y309,hy309⟩:∃ y_:List (S69),y_=(y306++l0_2):=⟨_,rfl⟩
  replace H:((some (([]:List (S44)):List (S44))).bind fun y312=>(if y312.length+l0_3.length < 2199023255552 then (some (a0_0,a0_1,y309,(y312++l0_3),a0_4,a0_5)) else (none)))=some (r1,r2,r3,r4,r5,r6):=by first|(rw [hy309];with_reducible exact H)|(have H2_:=(Option.bind_some _ _).symm.trans H;rw [hy309];with_reducible exact H2_)|(have H2_:=(Option.bind_some _ _).symm.trans H;with_reducible exact H2_)|with_reducible exact H|(rw [hy309];exact H)|exact H
  have Ny309:=a_ hy309
  clear hy309
  obtain ⟨y312,hy312⟩:∃ y_:List (S44),y_=(([]:List (S44))):=⟨_,rfl⟩
  replace H:(if y312.length+l0_3.length < 2199023255552 then (some (a0_0,a0_1,y309,(y312++l0_3),a0_4,a0_5)) else (none))=some (r1,r2,r3,r4,r5,r6):=by first|(rw [hy312];with_reducible exact H)|(have H2_:=(Option.bind_some _ _).symm.trans H;rw [hy312];with_reducible exact H2_)|(have H2_:=(Option.bind_some _ _).symm.trans H;with_reducible exact H2_)|with_reducible exact H|(rw [hy312];exact H)|exact H
  have Ny312:=a_ hy312
  clear hy312
  by_cases c3:y312.length+l0_3.length < 2199023255552
  ·rw [if_pos c3] at H
   have LMc3:=a_ c3
   clear c3
   obtain ⟨y315,hy315⟩:∃ y_:List (S44),y_=(y312++l0_3):=⟨_,rfl⟩
   replace H:(some (a0_0,a0_1,y309,y315,a0_4,a0_5))=some (r1,r2,r3,r4,r5,r6):=by first|(rw [hy315];with_reducible exact H)|(have H2_:=(Option.bind_some _ _).symm.trans H;rw [hy315];with_reducible exact H2_)|(have H2_:=(Option.bind_some _ _).symm.trans H;with_reducible exact H2_)|with_reducible exact H|(rw [hy315];exact H)|exact H
   have Ny315:=a_ hy315
   clear hy315
   simp only [Option.some.injEq,Prod.mk.injEq] at H
   obtain ⟨rfl,rfl,rfl,rfl,rfl,rfl⟩:=H
   go_enter Tryd.func113,Tryd.ntmps113
   go_wp2_with (first|((with_reducible refine gD_ (N:=1) rfl ?_);refine bx_ 1 (#[.int .i64 a0_0,.int .i64 a0_1,.slice A0_2 l0_2.length c0_2,.slice A0_3 l0_3.length c0_3,.int .i64 a0_4,.int .i64 a0_5]) 77 ?_;intro gb304 hg w4 hbox hb;have n0_:=a_ (bS_ (bel_) hb);have n1_:=a_ (hbox);have n2_:=a_ ((by rw [hg];exact (below_size (bel_)):w.heap.size≤gb304));have n3_:=a_ ((by rw [hg];exact (below_size (bel_)):w.heap.size≤gb304));clear HB;have HB:=n0_;have BK304:=n1_;have GW304:=n2_;have GE304:=n3_;clear n0_ n1_ n2_ n3_;clear hb hbox hg)|((with_reducible refine gD_ (N:=2) rfl ?_);refine bx_ 2 (#[.int .i64 0,.int .i64 0,.slice none 0 0,.slice none 0 0,.int .i64 0,.int .i64 0]) 77 ?_;intro gb305 hg w5 hbox hb;have n0_:=a_ (bb_ BK304.out hb);have n1_:=a_ (bS_ (bel_) hb);have n2_:=a_ (hbox);have n3_:=a_ ((by rw [hg];exact (below_size (bel_)):w.heap.size≤gb305));have n4_:=a_ ((by rw [hg];exact (below_size (bel_)):w.heap.size≤gb305));have n5_:=a_ ((by rw [hg];exact Nat.ne_of_lt (blk_lt (g:=gb304) (o:=.cells #[.int .i64 a0_0,.int .i64 a0_1,.slice A0_2 l0_2.length c0_2,.slice A0_3 l0_3.length c0_3,.int .i64 a0_4,.int .i64 a0_5] 77 (0,0)) (bp_ BK304.out)):gb304≠gb305));have n6_:=a_ ((by rw [hg];exact Nat.ne_of_gt (blk_lt (g:=gb304) (o:=.cells #[.int .i64 a0_0,.int .i64 a0_1,.slice A0_2 l0_2.length c0_2,.slice A0_3 l0_3.length c0_3,.int .i64 a0_4,.int .i64 a0_5] 77 (0,0)) (bp_ BK304.out)):gb305≠gb304));clear BK304;clear HB;have BK304:=n0_;have HB:=n1_;have BK305:=n2_;have GW305:=n3_;have GE305:=n4_;have NB304_305:=n5_;have NB305_304:=n6_;clear n0_ n1_ n2_ n3_ n4_ n5_ n6_;clear hb hbox hg)|((with_reducible refine gD_ (N:=3) rfl ?_);refine Kd.R_lit k69 _ 69 ?hg (N:=3) ?hd (xs:=([]:List (S69))) (inner:=[]) (ok:=fun _=>True) (okp:=fun _=>True) ?hr ?hp (fun _ hk=>hk) trivial (Below.refl _ _) (Nat.le_refl _) (by simp) ?_;(case hd=>rfl);(case hg=>rfl);(case hr=>first|(go_simp;done)|(go_simp;rfl));(case hp=>exact (Reps.none _ _));intro v307 w6 ho7 hb hg_ hnew_;clear hg_ hnew_;(first|rw [←Ny306.out] at ho7|(simp only [Int.reduceToNat] at ho7;rw [←Ny306.out] at ho7));have HO308:=a_ (Kd.R_lower ho7 (below_size (bel_)));replace HB:=a_ (bS_ (bel_) hb);replace BK304:=a_ (bb_ BK304.out hb);replace BK305:=a_ (bb_ BK305.out hb);clear hb ho7;have hnb8:=NB304_305.out;have hnc8:=NB305_304.out;obtain ⟨Z9_0,Z9_1,Z9_2,Z9_3,Z9_4,Z9_5,Y9_0,Y9_1,Y9_2,Y9_3,Y9_4,Y9_5⟩:=op6_ BK304.out)|((with_reducible refine gate_builtin (b:=.append) (xs:=#[.tmp 3,.tmp 5]) rfl ?_);at_builtin;refine Kd.R_append_rows k69 (w0:=w) w.heap.size rfl (.tmp 3) (.tmp 5) 62 69 (.agg #[(.int .i64 0),(.int .i64 0),(.string ⟨#[]⟩)]) 32 rfl Tryd.underlying62 info69 rfl (by decide) (by omega) v307 y306 l0_2 _ _ _ (fun _=>True) (fun _=>False) rfl rfl ?aO ?aR (fun _ _ h=>h) (fun _ h=>h.elim) ?aF ?aB ?aS ?aL ?_;(case aR=>exact cx_ (Kd.C_below HR0_2.out HB.out));(case aB=>exact (bel_));(case aF=>exact (fun _ _=>trivial));(case aO=>exact (rp_ HO308.out));(case aS=>exact (below_size (bel_)));(case aL=>have:=LMc2.out;omega);intro v310 w10 ho hb hg hat;rw [←Ny309.out] at ho;replace BK304:=a_ (blk_grown (g:=gb304) (o:=.cells #[.int .i64 a0_0,.int .i64 a0_1,.slice A0_2 l0_2.length c0_2,.slice A0_3 l0_3.length c0_3,.int .i64 a0_4,.int .i64 a0_5] 77 (0,0)) (bp_ BK304.out) hg (Kd.R_ne HO308.out BK304.out (by decide)));replace BK305:=a_ (blk_grown (g:=gb305) (o:=.cells #[.int .i64 0,.int .i64 0,.slice none 0 0,.slice none 0 0,.int .i64 0,.int .i64 0] 77 (0,0)) (bp_ BK305.out) hg (Kd.R_ne HO308.out BK305.out (by decide)));replace HB:=a_ (hb);have HO311:=a_ (ho);clear HO308;clear ho hb hg hat;obtain ⟨Ao11,co11,eo11⟩:=Kd.R_slice HO311.out;subst eo11;obtain ⟨Z12_0,Z12_1,Z12_2,Z12_3,Z12_4,Z12_5,Y12_0,Y12_1,Y12_2,Y12_3,Y12_4,Y12_5⟩:=op6_ BK304.out)|((with_reducible refine gD_ (N:=8) rfl ?_);refine Kd.R_lit k44 _ 44 ?hg (N:=8) ?hd (xs:=([]:List (S44))) (inner:=[]) (ok:=fun _=>True) (okp:=fun _=>True) ?hr ?hp (fun _ hk=>hk) trivial (Below.refl _ _) (Nat.le_refl _) (by simp) ?_;(case hd=>rfl);(case hg=>rfl);(case hr=>first|(go_simp;done)|(go_simp;rfl));(case hp=>exact (Reps.none _ _));intro v313 w13 ho14 hb hg_ hnew_;clear hg_ hnew_;(first|rw [←Ny312.out] at ho14|(simp only [Int.reduceToNat] at ho14;rw [←Ny312.out] at ho14));have n0_:=a_ (Kd.R_below (by (with_reducible repeat (first|apply Kd.R_alloc|apply Kd.R_drewN|apply Kd.R_drew));exact (Kd.R_mono (Kd.R_far (p:=⟨gb304,2,none⟩) (Kd.R_types HO311.out BK304.out (by decide)) (fun _ hk=>hk.2) (.slice Ao11 y309.length co11)) (fun _ h_=>h_.1))) hb);have n1_:=a_ (Kd.R_lower ho14 (below_size (bel_)));have n2_:=a_ (blk_below (g:=gb304) (o:=.cells #[.int .i64 a0_0,.int .i64 a0_1,.slice Ao11 y309.length co11,.slice A0_3 l0_3.length c0_3,.int .i64 a0_4,.int .i64 a0_5] 77 (0,0)) (by (with_reducible repeat (first|refine bN_ ?_ _|refine bD_ ?_|refine bA_ ?_ _));refine blk_put (cs:=#[.int .i64 a0_0,.int .i64 a0_1,.slice A0_2 l0_2.length c0_2,.slice A0_3 l0_3.length c0_3,.int .i64 a0_4,.int .i64 a0_5]) ?_ 2 _ rfl;(with_reducible repeat (first|refine bN_ ?_ _|refine bD_ ?_|refine bA_ ?_ _));exact BK304.out) hb);have n3_:=a_ (blk_below (g:=gb305) (o:=.cells #[.int .i64 0,.int .i64 0,.slice none 0 0,.slice none 0 0,.int .i64 0,.int .i64 0] 77 (0,0)) (fp1_ NB305_304.out BK305.out) hb);have n4_:=a_ (bS_ (bel_) hb);clear HO311;clear BK304;clear BK305;clear HB;have HO311:=n0_;have HO314:=n1_;have BK304:=n2_;have BK305:=n3_;have HB:=n4_;clear n0_ n1_ n2_ n3_ n4_;clear hb ho14;obtain ⟨Z15_0,Z15_1,Z15_2,Z15_3,Z15_4,Z15_5,Y15_0,Y15_1,Y15_2,Y15_3,Y15_4,Y15_5⟩:=op6_ BK304.out)|((with_reducible refine gate_builtin (b:=.append) (xs:=#[.tmp 8,.tmp 10]) rfl ?_);at_builtin;refine Kd.R_append_rows k44 (w0:=w) w.heap.size rfl (.tmp 8) (.tmp 10) 23 44 (.agg #[(.int .i64 0),(.int .i64 0),(.int .i64 0),(.int .i64 0),(.int .i64 0),(.int .i64 0),(.string ⟨#[]⟩)]) 64 rfl Tryd.underlying23 info44 rfl (by decide) (by omega) v313 y312 l0_3 _ _ _ (fun _=>True) (fun _=>False) rfl rfl ?aO ?aR (fun _ _ h=>h) (fun _ h=>h.elim) ?aF ?aB ?aS ?aL ?_;(case aR=>exact cx_ (Kd.C_below HR0_3.out HB.out));(case aB=>exact (bel_));(case aF=>exact (fun _ _=>trivial));(case aO=>exact (rp_ HO314.out));(case aS=>exact (below_size (bel_)));(case aL=>have:=LMc3.out;omega);intro v316 w16 ho hb hg hat;rw [←Ny315.out] at ho;replace BK304:=a_ (blk_grown (g:=gb304) (o:=.cells #[.int .i64 a0_0,.int .i64 a0_1,.slice Ao11 y309.length co11,.slice A0_3 l0_3.length c0_3,.int .i64 a0_4,.int .i64 a0_5] 77 (0,0)) (bp_ BK304.out) hg (Kd.R_ne HO314.out BK304.out (by decide)));replace BK305:=a_ (blk_grown (g:=gb305) (o:=.cells #[.int .i64 0,.int .i64 0,.slice none 0 0,.slice none 0 0,.int .i64 0,.int .i64 0] 77 (0,0)) (bp_ BK305.out) hg (Kd.R_ne HO314.out BK305.out (by decide)));replace HO311:=a_ (Kd.R_over' (rp_ HO311.out) (Kd.R_typed (rp_ HO314.out)) (by decide) hg);replace HB:=a_ (hb);have HO317:=a_ (ho);clear HO314;clear ho hb hg hat;obtain ⟨Ao17,co17,eo17⟩:=Kd.R_slice HO317.out;subst eo17;obtain ⟨Z18_0,Z18_1,Z18_2,Z18_3,Z18_4,Z18_5,Y18_0,Y18_1,Y18_2,Y18_3,Y18_4,Y18_5⟩:=op6_ BK304.out;obtain ⟨Z19_0,Z19_1,Z19_2,Z19_3,Z19_4,Z19_5,Y19_0,Y19_1,Y19_2,Y19_3,Y19_4,Y19_5⟩:=op6_ BK305.out))
   refine bodyPost_ret (results_cell_row rfl _ _ gb305 77 #[.int .i64 a0_0,.int .i64 a0_1,.slice Ao11 y309.length co11,.slice Ao17 y315.length co17,.int .i64 a0_4,.int .i64 a0_5] (0,0) _ rfl (k6p1_ NB305_304.out BK305.out) Tryd.underlying77 rfl (by kernel_rfl)) rfl ?_
   exact ⟨_,_,fi_,by (with_reducible repeat (first|apply Kd.R_alloc|apply Kd.R_drewN|apply Kd.R_drew));exact Kd.R_mono (rf6_ (g:=gb305) (Kd.R_far (p:=⟨gb304,3,none⟩) (Kd.R_types (Kd.R_types HO311.out BK304.out (by decide)) BK305.out (by decide)) (fun _ hk=>hk.1.2) (.slice Ao17 y315.length co17)) (fun _ hk=>hk.2) (.int .i64 a0_0) (.int .i64 a0_1) (.slice Ao11 y309.length co11) (.slice Ao17 y315.length co17) (.int .i64 a0_4) (.int .i64 a0_5)) (fun _ hk=>trivial),by (with_reducible repeat (first|apply Kd.R_alloc|apply Kd.R_drewN|apply Kd.R_drew));exact Kd.R_mono (rf6_ (g:=gb305) (Kd.R_far (p:=⟨gb304,3,none⟩) (Kd.R_types (Kd.R_types HO317.out BK304.out (by decide)) BK305.out (by decide)) (fun _ hk=>hk.1.2) (.slice Ao17 y315.length co17)) (fun _ hk=>hk.2) (.int .i64 a0_0) (.int .i64 a0_1) (.slice Ao11 y309.length co11) (.slice Ao17 y315.length co17) (.int .i64 a0_4) (.int .i64 a0_5)) (fun _ hk=>trivial),bel_⟩
  ·rw [if_neg c3] at H
   exact absurd H (by simp)
 ·rw [if_neg c2] at H
  exact absurd H (by simp)

def spec_ClientDo.f (k:Nat) (a0_0:Int) (a0_1:Int) (l0_2:List (S69)) (l0_3:List (S44)) (a0_4:Int) (a0_5:Int) (a1_0:Int) (a1_1:Int) (a1_2:Int) (a1_3:Int) (a1_4:ByteArray):Option (Int×Int×(List (S69))×(List (S44))×Int×Int×Bool):=(spec_ClientOk.f k a0_0 a0_1 l0_2 l0_3 a0_4 a0_5).bind fun t321=>(if t321=true then ((spec_l21Copy.f a0_0 a0_1 l0_2 l0_3 a0_4 a0_5).bind fun bt322=>((spec_l21Do.f k bt322.1 bt322.2.1 bt322.2.2.1 bt322.2.2.2.1 bt322.2.2.2.2.1 bt322.2.2.2.2.2 a1_0 a1_1 a1_2 a1_3 a1_4).bind fun bt332=>(some (bt332.1,bt332.2.1,bt332.2.2.1,bt332.2.2.2.1,bt332.2.2.2.2.1,bt332.2.2.2.2.2.1,bt332.2.2.2.2.2.2)))) else (some (0,0,([]:List (S69)),([]:List (S44)),0,0,false)))
def spec_ClientDo.T3:Bool×List (List Nat×List Nat):=(true,[([],[]),([0],[0]),([],[]),([1,2,1],[1,2]),([3],[3]),([3],[3]),([4,3,0,1,2,3,4,5],[4]),([5,6,0,1,2,3,4,5,6],[5])])
def spec_ClientDo.B3:List Nat:=[0,1,0,7,15,15,63,127]
theorem spec_ClientDo.tab3:rtab .any (opsOf Tryd.f67 3)=spec_ClientDo.T3:=by kernel_rfl
theorem spec_ClientDo.bits3:waitsOk spec_ClientDo.T3.2 spec_ClientDo.B3=true:=by kernel_rfl
theorem spec_ClientDo.calls (k:Nat) (a0_0:Int) (a0_1:Int) (A0_2:Option Addr) (c0_2:Nat) (l0_2:List (S69)) (A0_3:Option Addr) (c0_3:Nat) (l0_3:List (S44)) (a0_4:Int) (a0_5:Int) (a1_0:Int) (a1_1:Int) (a1_2:Int) (a1_3:Int) (a1_4:ByteArray) (r1:Int) (r2:Int) (r3:List (S69)) (r4:List (S44)) (r5:Int) (r6:Int) (r7:Bool) (w:World) (hr0_2:Kd.C k69 w A0_2 l0_2.length l0_2) (hc0_2:l0_2.length≤c0_2) (hr0_3:Kd.C k44 w A0_3 l0_3.length l0_3) (hc0_3:l0_3.length≤c0_3) (h:spec_ClientDo.f k a0_0 a0_1 l0_2 l0_3 a0_4 a0_5 a1_0 a1_1 a1_2 a1_3 a1_4=some (r1,r2,r3,r4,r5,r6,r7)) :
  Calls Tryd.prog 67 #[.agg #[.int .i64 a0_0,.int .i64 a0_1,.slice A0_2 l0_2.length c0_2,.slice A0_3 l0_3.length c0_3,.int .i64 a0_4,.int .i64 a0_5],.agg #[.int .i64 a1_0,.int .i64 a1_1,.int .i64 a1_2,.int .i64 a1_3,.string a1_4]] w fun e w'=>∃ v2_ v3_:Value,e=.returned (.tuple #[.agg #[.int .i64 r1,.int .i64 r2,v2_,v3_,.int .i64 r5,.int .i64 r6],.bool r7])∧Kd.R k69 69 w' w.heap.size (fun _=>True) v2_ r3∧Kd.R k44 44 w' w.heap.size (fun _=>True) v3_ r4∧Below w.heap.size w w':=by
 have hu77:=Tryd.underlying77
 have hu42:=Tryd.underlying42
 have HR0_2:=a_ hr0_2
 have HC0_2:=a_ hc0_2
 clear hr0_2 hc0_2
 have HR0_3:=a_ hr0_3
 have HC0_3:=a_ hc0_3
 clear hr0_3 hc0_3
 have HB:=a_ (Below.refl w.heap.size w)
 unfold spec_ClientDo.f at h
 have H:=h
 clear h
 replace H:=bs_ H
 obtain ⟨t321,A30,H⟩:=H
 try dsimp only at H
 have A3:=a_ A30
 clear A30
 by_cases c4:t321=true
 ·subst c4
  have H1:((spec_l21Copy.f a0_0 a0_1 l0_2 l0_3 a0_4 a0_5).bind fun bt322=>((spec_l21Do.f k bt322.1 bt322.2.1 bt322.2.2.1 bt322.2.2.2.1 bt322.2.2.2.2.1 bt322.2.2.2.2.2 a1_0 a1_1 a1_2 a1_3 a1_4).bind fun bt332=>(some (bt332.1,bt332.2.1,bt332.2.2.1,bt332.2.2.2.1,bt332.2.2.2.2.1,bt332.2.2.2.2.2.1,bt332.2.2.2.2.2.2))))=some (r1,r2,r3,r4,r5,r6,r7):=by rw [if_pos rfl] at H;exact H
  clear H
  have H:=H1
  clear H1
  replace H:=bs_ H
  obtain ⟨⟨t322,t323,t324,t327,t330,t331⟩,A50,H⟩:=H
  try dsimp only at H
  have A5:=a_ A50
  clear A50
  replace H:=bs_ H
  obtain ⟨⟨t332,t333,t334,t337,t340,t341,t342⟩,A60,H⟩:=H
  try dsimp only at H
  have A6:=a_ A60
  clear A60
  simp only [Option.some.injEq,Prod.mk.injEq] at H
  obtain ⟨rfl,rfl,rfl,rfl,rfl,rfl,rfl⟩:=H
  go_enter Tryd.func67,Tryd.ntmps67
  try go_wp2_with (first|((with_reducible refine gD_ (N:=2) rfl ?_);refine bx_ 2 (#[.int .i64 a0_0,.int .i64 a0_1,.slice A0_2 l0_2.length c0_2,.slice A0_3 l0_3.length c0_3,.int .i64 a0_4,.int .i64 a0_5]) 77 ?_;intro gb318 hg w7 hbox hb;have n0_:=a_ (bS_ (bel_) hb);have n1_:=a_ (hbox);have n2_:=a_ ((by rw [hg];exact (below_size (bel_)):w.heap.size≤gb318));have n3_:=a_ ((by rw [hg];exact (below_size (bel_)):w.heap.size≤gb318));clear HB;have HB:=n0_;have BK318:=n1_;have GW318:=n2_;have GE318:=n3_;clear n0_ n1_ n2_ n3_;clear hb hbox hg)|((with_reducible refine gD_ (N:=3) rfl ?_);refine bx_ 3 (#[.int .i64 a1_0,.int .i64 a1_1,.int .i64 a1_2,.int .i64 a1_3,.string a1_4]) 42 ?_;intro gb319 hg w8 hbox hb;have n0_:=a_ (bb_ BK318.out hb);have n1_:=a_ (bS_ (bel_) hb);have n2_:=a_ (hbox);have n3_:=a_ ((by rw [hg];exact (below_size (bel_)):w.heap.size≤gb319));have n4_:=a_ ((by rw [hg];exact (below_size (bel_)):w.heap.size≤gb319));have n5_:=a_ ((by rw [hg];exact Nat.ne_of_lt (blk_lt (g:=gb318) (o:=.cells #[.int .i64 a0_0,.int .i64 a0_1,.slice A0_2 l0_2.length c0_2,.slice A0_3 l0_3.length c0_3,.int .i64 a0_4,.int .i64 a0_5] 77 (0,0)) (bp_ BK318.out)):gb318≠gb319));have n6_:=a_ ((by rw [hg];exact Nat.ne_of_gt (blk_lt (g:=gb318) (o:=.cells #[.int .i64 a0_0,.int .i64 a0_1,.slice A0_2 l0_2.length c0_2,.slice A0_3 l0_3.length c0_3,.int .i64 a0_4,.int .i64 a0_5] 77 (0,0)) (bp_ BK318.out)):gb319≠gb318));clear BK318;clear HB;have BK318:=n0_;have HB:=n1_;have BK319:=n2_;have GW319:=n3_;have GE319:=n4_;have NB318_319:=n5_;have NB319_318:=n6_;clear n0_ n1_ n2_ n3_ n4_ n5_ n6_;clear hb hbox hg)|((with_reducible refine gD_ (N:=4) rfl ?_);refine bx_ 4 (#[.int .i64 0,.int .i64 0,.slice none 0 0,.slice none 0 0,.int .i64 0,.int .i64 0]) 77 ?_;intro gb320 hg w9 hbox hb;have n0_:=a_ (bb_ BK318.out hb);have n1_:=a_ (bb_ BK319.out hb);have n2_:=a_ (bS_ (bel_) hb);have n3_:=a_ (hbox);have n4_:=a_ ((by rw [hg];exact (below_size (bel_)):w.heap.size≤gb320));have n5_:=a_ ((by rw [hg];exact (below_size (bel_)):w.heap.size≤gb320));have n6_:=a_ ((by rw [hg];exact Nat.ne_of_lt (blk_lt (g:=gb318) (o:=.cells #[.int .i64 a0_0,.int .i64 a0_1,.slice A0_2 l0_2.length c0_2,.slice A0_3 l0_3.length c0_3,.int .i64 a0_4,.int .i64 a0_5] 77 (0,0)) (bp_ BK318.out)):gb318≠gb320));have n7_:=a_ ((by rw [hg];exact Nat.ne_of_gt (blk_lt (g:=gb318) (o:=.cells #[.int .i64 a0_0,.int .i64 a0_1,.slice A0_2 l0_2.length c0_2,.slice A0_3 l0_3.length c0_3,.int .i64 a0_4,.int .i64 a0_5] 77 (0,0)) (bp_ BK318.out)):gb320≠gb318));have n8_:=a_ ((by rw [hg];exact Nat.ne_of_lt (blk_lt (g:=gb319) (o:=.cells #[.int .i64 a1_0,.int .i64 a1_1,.int .i64 a1_2,.int .i64 a1_3,.string a1_4] 42 (0,0)) (bp_ BK319.out)):gb319≠gb320));have n9_:=a_ ((by rw [hg];exact Nat.ne_of_gt (blk_lt (g:=gb319) (o:=.cells #[.int .i64 a1_0,.int .i64 a1_1,.int .i64 a1_2,.int .i64 a1_3,.string a1_4] 42 (0,0)) (bp_ BK319.out)):gb320≠gb319));clear BK318;clear BK319;clear HB;have BK318:=n0_;have BK319:=n1_;have HB:=n2_;have BK320:=n3_;have GW320:=n4_;have GE320:=n5_;have NB318_320:=n6_;have NB320_318:=n7_;have NB319_320:=n8_;have NB320_319:=n9_;clear n0_ n1_ n2_ n3_ n4_ n5_ n6_ n7_ n8_ n9_;clear hb hbox hg;have hnb10:=NB318_319.out;have hnc10:=NB319_318.out;have hnb11:=NB318_320.out;have hnc11:=NB320_318.out;obtain ⟨Z12_0,Z12_1,Z12_2,Z12_3,Z12_4,Z12_5,Y12_0,Y12_1,Y12_2,Y12_3,Y12_4,Y12_5⟩:=op6_ BK318.out)|((with_reducible refine gC_ (f:=63) rfl ?_);refine gl_ 7 Tryd.func63 #[.agg #[.int .i64 a0_0,.int .i64 a0_1,.slice A0_2 l0_2.length c0_2,.slice A0_3 l0_3.length c0_3,.int .i64 a0_4,.int .i64 a0_5]] ?_;(with_reducible refine (spec_ClientOk.calls k a0_0 a0_1 _ _ l0_2 _ _ l0_3 a0_4 a0_5 true _ ?side1 ?side2 ?side3 ?side4 A3.out).mono ?_);(case side1=>exact cp_ HR0_2.out);(case side2=>exact HC0_2.out);(case side3=>exact cx_ (Kd.C_below HR0_3.out HB.out));(case side4=>exact HC0_3.out);rintro e w13 ⟨rfl,hb⟩;refine ⟨_,rfl,?_⟩;replace HB:=a_ (bS_ (bel_) hb);replace BK318:=a_ (bb_ BK318.out hb);replace BK319:=a_ (bb_ BK319.out hb);replace BK320:=a_ (bb_ BK320.out hb);(try clear hb)))
  replace BK318:=a_ (bD_ BK318.out)
  replace BK319:=a_ (bD_ BK319.out)
  replace BK320:=a_ (bD_ BK320.out)
  replace HB:=a_ (below_drew1 HB.out)
  refine start_ (n:=8) (S:=fun w'=>w'.cell? ⟨gb318,0,none⟩=some (.int .i64 a0_0)∧w'.cell? ⟨gb318,1,none⟩=some (.int .i64 a0_1)∧w'.cell? ⟨gb318,2,none⟩=some (.slice A0_2 l0_2.length c0_2)∧w'.cell? ⟨gb318,3,none⟩=some (.slice A0_3 l0_3.length c0_3)∧w'.cell? ⟨gb318,4,none⟩=some (.int .i64 a0_4)∧w'.cell? ⟨gb318,5,none⟩=some (.int .i64 a0_5)∧w'.cell? ⟨gb319,0,none⟩=some (.int .i64 a1_0)∧w'.cell? ⟨gb319,1,none⟩=some (.int .i64 a1_1)∧w'.cell? ⟨gb319,2,none⟩=some (.int .i64 a1_2)∧w'.cell? ⟨gb319,3,none⟩=some (.int .i64 a1_3)∧w'.cell? ⟨gb319,4,none⟩=some (.string a1_4)) (ds:=[]) #[false,false,false,false,false,false,false,false] (by kernel_rfl) rfl rfl ⟨(bC_ BK318.out 0).trans rfl,(bC_ BK318.out 1).trans rfl,(bC_ BK318.out 2).trans rfl,(bC_ BK318.out 3).trans rfl,(bC_ BK318.out 4).trans rfl,(bC_ BK318.out 5).trans rfl,(bC_ BK319.out 0).trans rfl,(bC_ BK319.out 1).trans rfl,(bC_ BK319.out 2).trans rfl,(bC_ BK319.out 3).trans rfl,(bC_ BK319.out 4).trans rfl⟩ (fun hHeld=>?_);refine with_tabW spec_ClientDo.tab3 spec_ClientDo.bits3 (fun HT_ HW_=>?_)
  generalize w13.drew=w14 at BK318 BK319 BK320 HB hHeld ⊢
  refine ta11_ 0 10 hHeld ?_
  refine ta11_ 2 12 hHeld ?_
  refine on_ 1 11 (fun K hK=>?_)
  refine goes_ Tryd.func113 (by kernel_rfl) rfl #[.agg #[.int .i64 a0_0,.int .i64 a0_1,.slice A0_2 l0_2.length c0_2,.slice A0_3 l0_3.length c0_3,.int .i64 a0_4,.int .i64 a0_5]] (by rfl) rfl rfl ar_ ?_
  with_reducible refine (spec_l21Copy.calls a0_0 a0_1 _ _ l0_2 _ _ l0_3 a0_4 a0_5 t322 t323 t324 t327 t330 t331 _ ?side1 ?side2 ?side3 ?side4 A5.out).mono ?_
  (case side1=>exact cp_ HR0_2.out)
  (case side2=>exact HC0_2.out)
  (case side3=>exact cx_ (Kd.C_below HR0_3.out HB.out))
  (case side4=>exact HC0_3.out)
  rintro e w15 ⟨v325,v328,rfl,ho0,ho1,hb⟩
  refine ⟨_,rfl,?_⟩
  have HO326:=a_ (Kd.R_lower ho0 (below_size (bel_)))
  have HO329:=a_ (Kd.R_lower ho1 (below_size (bel_)))
  replace HB:=a_ (bS_ (bel_) hb)
  replace BK318:=a_ (bb_ BK318.out hb)
  replace BK319:=a_ (bb_ BK319.out hb)
  replace BK320:=a_ (bb_ BK320.out hb)
  try clear hb ho0 ho1
  obtain ⟨Ao16,co16,eo16⟩:=Kd.R_slice HO326.out
  (first|subst eo16|(injection eo16 with f1_ f2_ f3_;have f4_:=f1_.symm;have f5_:=f3_.symm;clear f1_ f2_ f3_;subst f4_;subst f5_))
  obtain ⟨Ao17,co17,eo17⟩:=Kd.R_slice HO329.out
  (first|subst eo17|(injection eo17 with f1_ f2_ f3_;have f4_:=f1_.symm;have f5_:=f3_.symm;clear f1_ f2_ f3_;subst f4_;subst f5_))
  refine hK.out _ _ ⟨(bC_ BK318.out 0).trans rfl,(bC_ BK318.out 1).trans rfl,(bC_ BK318.out 2).trans rfl,(bC_ BK318.out 3).trans rfl,(bC_ BK318.out 4).trans rfl,(bC_ BK318.out 5).trans rfl,(bC_ BK319.out 0).trans rfl,(bC_ BK319.out 1).trans rfl,(bC_ BK319.out 2).trans rfl,(bC_ BK319.out 3).trans rfl,(bC_ BK319.out 4).trans rfl⟩ (fun hHeld=>?_)
  clear hK K
  refine no_ 11 ?_
  refine on_ 3 13 (fun K hK=>?_)
  refine goes_ Tryd.func112 (by kernel_rfl) rfl #[.agg #[.int .i64 t322,.int .i64 t323,.slice Ao16 t324.length co16,.slice Ao17 t327.length co17,.int .i64 t330,.int .i64 t331],.agg #[.int .i64 a1_0,.int .i64 a1_1,.int .i64 a1_2,.int .i64 a1_3,.string a1_4]] (by rfl) rfl rfl ar_ ?_
  with_reducible refine (spec_l21Do.calls k t322 t323 (fun k_=>some k_=(.slice Ao16 t324.length co16:Value).ownBlock) (.slice Ao16 t324.length co16) t324 (fun k_=>some k_=(.slice Ao17 t327.length co17:Value).ownBlock) (.slice Ao17 t327.length co17) t327 t330 t331 a1_0 a1_1 a1_2 a1_3 a1_4 t332 t333 t334 t337 t340 t341 t342 w _ ?side1 ?side2 ?side3 A6.out).mono ?_
  (case side1=>exact bel_)
  (case side2=>exact Kd.R_tight rfl HO326.out)
  (case side3=>exact Kd.R_tight rfl HO329.out)
  rintro e w18 ⟨v335,v338,rfl,ho0,ho1,hb,hkp⟩
  refine ⟨_,rfl,?_⟩
  replace BK318:=a_ (blk_kept (bp_ BK318.out) hkp (fun hs_=>Or.elim hs_ (fun e_=>(fun e_=>(Kd.R_ne HO326.out BK318.out (by decide)) e_) e_) (fun e_=>(fun e_=>(Kd.R_ne HO329.out BK318.out (by decide)) e_) e_)))
  replace BK319:=a_ (blk_kept (bp_ BK319.out) hkp (fun hs_=>Or.elim hs_ (fun e_=>(fun e_=>(Kd.R_ne HO326.out BK319.out (by decide)) e_) e_) (fun e_=>(fun e_=>(Kd.R_ne HO329.out BK319.out (by decide)) e_) e_)))
  replace BK320:=a_ (blk_kept (bp_ BK320.out) hkp (fun hs_=>Or.elim hs_ (fun e_=>(fun e_=>(Kd.R_ne HO326.out BK320.out (by decide)) e_) e_) (fun e_=>(fun e_=>(Kd.R_ne HO329.out BK320.out (by decide)) e_) e_)))
  have HO336:=a_ (Kd.R_mono (ok':=fun k_=>True) ho0 (fun k_ hk_=>trivial))
  have HO339:=a_ (Kd.R_mono (ok':=fun k_=>True) ho1 (fun k_ hk_=>trivial))
  replace HB:=a_ (hb)
  clear HO326 HO329
  try clear hb hkp ho0 ho1
  obtain ⟨Ao21,co21,eo21⟩:=Kd.R_slice HO336.out
  (first|subst eo21|(injection eo21 with f1_ f2_ f3_;have f4_:=f1_.symm;have f5_:=f3_.symm;clear f1_ f2_ f3_;subst f4_;subst f5_))
  obtain ⟨Ao23,co23,eo23⟩:=Kd.R_slice HO339.out
  (first|subst eo23|(injection eo23 with f1_ f2_ f3_;have f4_:=f1_.symm;have f5_:=f3_.symm;clear f1_ f2_ f3_;subst f4_;subst f5_))
  refine hK.out _ _ ⟨(bC_ BK318.out 0).trans rfl,(bC_ BK318.out 1).trans rfl,(bC_ BK318.out 2).trans rfl,(bC_ BK318.out 3).trans rfl,(bC_ BK318.out 4).trans rfl,(bC_ BK318.out 5).trans rfl,(bC_ BK319.out 0).trans rfl,(bC_ BK319.out 1).trans rfl,(bC_ BK319.out 2).trans rfl,(bC_ BK319.out 3).trans rfl,(bC_ BK319.out 4).trans rfl⟩ (fun hHeld=>?_)
  clear hK K
  refine no_ 13 ?_
  refine pa_ 4 14 ?_
  refine pa_ 5 15 ?_
  refine one_ (i:=6) (N:=none) #[true,true,true,true,true,true,true,false] rfl rfl (one_of HT_.out (by kernel_rfl)) (by decide) (fun K hK=>?_)
  have hs19:w18.cell? ⟨gb320,0,none⟩=some (.int .i64 0):=(bC_ BK320.out 0).trans rfl
  have hfs19:=bF_ BK320.out 0
  have hns19_0:=NB318_320.out
  have hns19_1:=NB319_320.out
  have hms19_0:=NB320_318.out
  have hms19_1:=NB320_319.out
  have hs20:w18.cell? ⟨gb320,1,none⟩=some (.int .i64 0):=(bC_ BK320.out 1).trans rfl
  have hfs20:=bF_ BK320.out 1
  have hns20_0:=NB318_320.out
  have hns20_1:=NB319_320.out
  have hms20_0:=NB320_318.out
  have hms20_1:=NB320_319.out
  have hs22:w18.cell? ⟨gb320,2,none⟩=some (.slice none 0 0):=(bC_ BK320.out 2).trans rfl
  have hfs22:=bF_ BK320.out 2
  have hns22_0:=NB318_320.out
  have hns22_1:=NB319_320.out
  have hms22_0:=NB320_318.out
  have hms22_1:=NB320_319.out
  have hs24:w18.cell? ⟨gb320,3,none⟩=some (.slice none 0 0):=(bC_ BK320.out 3).trans rfl
  have hfs24:=bF_ BK320.out 3
  have hns24_0:=NB318_320.out
  have hns24_1:=NB319_320.out
  have hms24_0:=NB320_318.out
  have hms24_1:=NB320_319.out
  have hs25:w18.cell? ⟨gb320,4,none⟩=some (.int .i64 0):=(bC_ BK320.out 4).trans rfl
  have hfs25:=bF_ BK320.out 4
  have hns25_0:=NB318_320.out
  have hns25_1:=NB319_320.out
  have hms25_0:=NB320_318.out
  have hms25_1:=NB320_319.out
  have hs26:w18.cell? ⟨gb320,5,none⟩=some (.int .i64 0):=(bC_ BK320.out 5).trans rfl
  have hfs26:=bF_ BK320.out 5
  have hns26_0:=NB318_320.out
  have hns26_1:=NB319_320.out
  have hms26_0:=NB320_318.out
  have hms26_1:=NB320_319.out
  refine skip_ (w1:=?_) (by rfl) rfl ?_ ?_
  rotate_left
  ·go_simp
   rfl
  refine hK.out _ _ ⟨(cf6_ (g:=gb320) NB318_320.out (hHeld.1)),(cf6_ (g:=gb320) NB318_320.out (hHeld.2.1)),(cf6_ (g:=gb320) NB318_320.out (hHeld.2.2.1)),(cf6_ (g:=gb320) NB318_320.out (hHeld.2.2.2.1)),(cf6_ (g:=gb320) NB318_320.out (hHeld.2.2.2.2.1)),(cf6_ (g:=gb320) NB318_320.out (hHeld.2.2.2.2.2.1)),(cf6_ (g:=gb320) NB319_320.out (hHeld.2.2.2.2.2.2.1)),(cf6_ (g:=gb320) NB319_320.out (hHeld.2.2.2.2.2.2.2.1)),(cf6_ (g:=gb320) NB319_320.out (hHeld.2.2.2.2.2.2.2.2.1)),(cf6_ (g:=gb320) NB319_320.out (hHeld.2.2.2.2.2.2.2.2.2.1)),(cf6_ (g:=gb320) NB319_320.out (hHeld.2.2.2.2.2.2.2.2.2.2))⟩ (fun hHeld=>?_)
  clear hK K
  refine pa_ 7 5 ?_
  refine done_ (done_of HT_.out (by kernel_rfl)) ?_
  try go_wp2
  refine bodyPost_ret (results_ct rfl _ _ gb320 77 #[.int .i64 t332,.int .i64 t333,.slice Ao21 t334.length co21,.slice Ao23 t337.length co23,.int .i64 t340,.int .i64 t341] (0,0) _ rfl (k6p_ BK320.out) Tryd.underlying77 rfl (by kernel_rfl)) rfl ?_
  exact ⟨_,_,fi_,by (with_reducible repeat (first|apply Kd.R_alloc|apply Kd.R_drewN|apply Kd.R_drew));exact Kd.R_mono (rf6_ (g:=gb320) (Kd.R_types HO336.out BK320.out (by decide)) (fun _ hk=>hk.2) (.int .i64 t332) (.int .i64 t333) (.slice Ao21 t334.length co21) (.slice Ao23 t337.length co23) (.int .i64 t340) (.int .i64 t341)) (fun _ hk=>trivial),by (with_reducible repeat (first|apply Kd.R_alloc|apply Kd.R_drewN|apply Kd.R_drew));exact Kd.R_mono (rf6_ (g:=gb320) (Kd.R_types HO339.out BK320.out (by decide)) (fun _ hk=>hk.2) (.int .i64 t332) (.int .i64 t333) (.slice Ao21 t334.length co21) (.slice Ao23 t337.length co23) (.int .i64 t340) (.int .i64 t341)) (fun _ hk=>trivial),bel_⟩
 ·replace c4:=Bool.eq_false_iff.mpr c4
  subst c4
  have H1:(some (0,0,([]:List (S69)),([]:List (S44)),0,0,false))=some (r1,r2,r3,r4,r5,r6,r7):=by rw [if_neg (show ¬ (false=true) by decide)] at H;exact H
  clear H
  have H:=H1
  clear H1
  simp only [Option.some.injEq,Prod.mk.injEq] at H
  obtain ⟨rfl,rfl,rfl,rfl,rfl,rfl,rfl⟩:=H
  go_enter Tryd.func67,Tryd.ntmps67
  go_wp2_with (first|((with_reducible refine gD_ (N:=2) rfl ?_);refine bx_ 2 (#[.int .i64 a0_0,.int .i64 a0_1,.slice A0_2 l0_2.length c0_2,.slice A0_3 l0_3.length c0_3,.int .i64 a0_4,.int .i64 a0_5]) 77 ?_;intro gb318 hg w27 hbox hb;have n0_:=a_ (bS_ (bel_) hb);have n1_:=a_ (hbox);have n2_:=a_ ((by rw [hg];exact (below_size (bel_)):w.heap.size≤gb318));have n3_:=a_ ((by rw [hg];exact (below_size (bel_)):w.heap.size≤gb318));clear HB;have HB:=n0_;have BK318:=n1_;have GW318:=n2_;have GE318:=n3_;clear n0_ n1_ n2_ n3_;clear hb hbox hg)|((with_reducible refine gD_ (N:=3) rfl ?_);refine bx_ 3 (#[.int .i64 a1_0,.int .i64 a1_1,.int .i64 a1_2,.int .i64 a1_3,.string a1_4]) 42 ?_;intro gb319 hg w28 hbox hb;have n0_:=a_ (bb_ BK318.out hb);have n1_:=a_ (bS_ (bel_) hb);have n2_:=a_ (hbox);have n3_:=a_ ((by rw [hg];exact (below_size (bel_)):w.heap.size≤gb319));have n4_:=a_ ((by rw [hg];exact (below_size (bel_)):w.heap.size≤gb319));have n5_:=a_ ((by rw [hg];exact Nat.ne_of_lt (blk_lt (g:=gb318) (o:=.cells #[.int .i64 a0_0,.int .i64 a0_1,.slice A0_2 l0_2.length c0_2,.slice A0_3 l0_3.length c0_3,.int .i64 a0_4,.int .i64 a0_5] 77 (0,0)) (bp_ BK318.out)):gb318≠gb319));have n6_:=a_ ((by rw [hg];exact Nat.ne_of_gt (blk_lt (g:=gb318) (o:=.cells #[.int .i64 a0_0,.int .i64 a0_1,.slice A0_2 l0_2.length c0_2,.slice A0_3 l0_3.length c0_3,.int .i64 a0_4,.int .i64 a0_5] 77 (0,0)) (bp_ BK318.out)):gb319≠gb318));clear BK318;clear HB;have BK318:=n0_;have HB:=n1_;have BK319:=n2_;have GW319:=n3_;have GE319:=n4_;have NB318_319:=n5_;have NB319_318:=n6_;clear n0_ n1_ n2_ n3_ n4_ n5_ n6_;clear hb hbox hg)|((with_reducible refine gD_ (N:=4) rfl ?_);refine bx_ 4 (#[.int .i64 0,.int .i64 0,.slice none 0 0,.slice none 0 0,.int .i64 0,.int .i64 0]) 77 ?_;intro gb320 hg w29 hbox hb;have n0_:=a_ (bb_ BK318.out hb);have n1_:=a_ (bb_ BK319.out hb);have n2_:=a_ (bS_ (bel_) hb);have n3_:=a_ (hbox);have n4_:=a_ ((by rw [hg];exact (below_size (bel_)):w.heap.size≤gb320));have n5_:=a_ ((by rw [hg];exact (below_size (bel_)):w.heap.size≤gb320));have n6_:=a_ ((by rw [hg];exact Nat.ne_of_lt (blk_lt (g:=gb318) (o:=.cells #[.int .i64 a0_0,.int .i64 a0_1,.slice A0_2 l0_2.length c0_2,.slice A0_3 l0_3.length c0_3,.int .i64 a0_4,.int .i64 a0_5] 77 (0,0)) (bp_ BK318.out)):gb318≠gb320));have n7_:=a_ ((by rw [hg];exact Nat.ne_of_gt (blk_lt (g:=gb318) (o:=.cells #[.int .i64 a0_0,.int .i64 a0_1,.slice A0_2 l0_2.length c0_2,.slice A0_3 l0_3.length c0_3,.int .i64 a0_4,.int .i64 a0_5] 77 (0,0)) (bp_ BK318.out)):gb320≠gb318));have n8_:=a_ ((by rw [hg];exact Nat.ne_of_lt (blk_lt (g:=gb319) (o:=.cells #[.int .i64 a1_0,.int .i64 a1_1,.int .i64 a1_2,.int .i64 a1_3,.string a1_4] 42 (0,0)) (bp_ BK319.out)):gb319≠gb320));have n9_:=a_ ((by rw [hg];exact Nat.ne_of_gt (blk_lt (g:=gb319) (o:=.cells #[.int .i64 a1_0,.int .i64 a1_1,.int .i64 a1_2,.int .i64 a1_3,.string a1_4] 42 (0,0)) (bp_ BK319.out)):gb320≠gb319));clear BK318;clear BK319;clear HB;have BK318:=n0_;have BK319:=n1_;have HB:=n2_;have BK320:=n3_;have GW320:=n4_;have GE320:=n5_;have NB318_320:=n6_;have NB320_318:=n7_;have NB319_320:=n8_;have NB320_319:=n9_;clear n0_ n1_ n2_ n3_ n4_ n5_ n6_ n7_ n8_ n9_;clear hb hbox hg;have hnb30:=NB318_319.out;have hnc30:=NB319_318.out;have hnb31:=NB318_320.out;have hnc31:=NB320_318.out;obtain ⟨Z32_0,Z32_1,Z32_2,Z32_3,Z32_4,Z32_5,Y32_0,Y32_1,Y32_2,Y32_3,Y32_4,Y32_5⟩:=op6_ BK318.out)|((with_reducible refine gC_ (f:=63) rfl ?_);refine gl_ 7 Tryd.func63 #[.agg #[.int .i64 a0_0,.int .i64 a0_1,.slice A0_2 l0_2.length c0_2,.slice A0_3 l0_3.length c0_3,.int .i64 a0_4,.int .i64 a0_5]] ?_;(with_reducible refine (spec_ClientOk.calls k a0_0 a0_1 _ _ l0_2 _ _ l0_3 a0_4 a0_5 false _ ?side1 ?side2 ?side3 ?side4 A3.out).mono ?_);(case side1=>exact cp_ HR0_2.out);(case side2=>exact HC0_2.out);(case side3=>exact cx_ (Kd.C_below HR0_3.out HB.out));(case side4=>exact HC0_3.out);rintro e w33 ⟨rfl,hb⟩;refine ⟨_,rfl,?_⟩;replace HB:=a_ (bS_ (bel_) hb);replace BK318:=a_ (bb_ BK318.out hb);replace BK319:=a_ (bb_ BK319.out hb);replace BK320:=a_ (bb_ BK320.out hb);(try clear hb);have hnb34:=NB320_319.out;have hnc34:=NB319_320.out;obtain ⟨Z35_0,Z35_1,Z35_2,Z35_3,Z35_4,Z35_5,Y35_0,Y35_1,Y35_2,Y35_3,Y35_4,Y35_5⟩:=op6_ BK320.out))
  refine bodyPost_ret (results_ct rfl _ _ gb320 77 #[.int .i64 0,.int .i64 0,.slice none 0 0,.slice none 0 0,.int .i64 0,.int .i64 0] (0,0) _ rfl (k6p_ BK320.out) Tryd.underlying77 rfl (by kernel_rfl)) rfl ?_
  exact ⟨_,_,fi_,by first|exact Kd.R_nil _ _ _ _ _|exact Kd.N_nil _ _ _ _ _|exact Kd.V_nil _ _ _ _ _|exact Kd.Q_nil _ _ _ _ _|exact Kd.S_nil _ _ _ _ _,by first|exact Kd.R_nil _ _ _ _ _|exact Kd.N_nil _ _ _ _ _|exact Kd.V_nil _ _ _ _ _|exact Kd.Q_nil _ _ _ _ _|exact Kd.S_nil _ _ _ _ _,bel_⟩

end Go.Proofs.YtdpklbomhdpimaaDoor.P
namespace Go.Proofs.YtdpklbomhdpimaaDoor.P
open Go.RowKit Go.Proofs.YtdpklbomhdpimaaDoorW.PrintWords Go.Proofs.YtdpklbomhdpimaaDoorW.PrintLast Go.Proofs.YtdpklbomhdpimaaDoorW.PrintMore
def impl_Entry_85.f (l0:List S44):Option (List S44):=if l0.length < 2199023255552 then some l0 else none
theorem impl_Entry_85.calls (A0:Option Addr) (c0:Nat) (l0:List S44) (r:List S44) (w:World) (hr0:Kd.C k44 w A0 l0.length l0) (hc0:l0.length≤c0)
  (h:impl_Entry_85.f l0=some r) :
  Calls Tryd.prog 85 #[.slice A0 l0.length c0] w fun e w'=>∃ v0_:Value,e=.returned (v0_)∧Kd.R k44 44 w' w.heap.size (fun _=>True) v0_ r∧Below w.heap.size w w':=by
 unfold impl_Entry_85.f at h
 by_cases hlim:l0.length < 2199023255552
 ·rw [if_pos hlim] at h
  obtain rfl:=sj_ h
  clear h
  cases A0 with
  | none =>
   have hl:l0=[]:=by
    rcases Nat.eq_zero_or_pos l0.length with h0|h0
    ·exact List.length_eq_zero_iff.1 h0
    ·obtain ⟨ad,e,_⟩:=hr0.2.2 h0
     cases e
   subst hl
   simp only [List.length_nil]
   have hne:=fun (W:World)=>Lib.run_eql_slice_nil (P:=Tryd.prog) W 23 44 none 0 c0 0 0 Tryd.underlying23
   simp only [Option.isNone_none] at hne
   clear hr0 hlim hc0
   go_enter Tryd.func85,Tryd.ntmps85
   go_wp2
   go_ret
   exact ⟨_,rfl,Kd.R_nil _ _ _ _ _,Below.refl _ _⟩
  | some a =>
   have hne:=fun (W:World)=>Lib.run_eql_slice_nil (P:=Tryd.prog) W 23 44 (some a) l0.length c0 0 0 Tryd.underlying23
   simp only [Option.isNone_some] at hne
   have HR0:=a_ hr0
   have LM:=a_ hlim
   clear hr0 hlim
   have HB:=a_ (Below.refl w.heap.size w)
   go_enter Tryd.func85,Tryd.ntmps85
   go_wp2_with (first
    | ((with_reducible refine gD_ (N:=5) rfl ?_);refine Kd.R_lit k44 _ 44 ?hg (N:=5) ?hd (xs:=([]:List S44)) (inner:=[]) (ok:=fun _=>True) (okp:=fun _=>True) ?hr ?hp (fun _ hk=>hk) trivial (Below.refl _ _) (Nat.le_refl _) (by simp) ?_;(case hd=>rfl);(case hg=>rfl);(case hr=>first|(go_simp;done)|(go_simp;rfl));(case hp=>exact (Reps.none _ _));intro v200 w5 ho6 hb hg_ hnew_;clear hg_ hnew_;have HO:=a_ ho6;replace HB:=a_ (bS_ HB.out hb);clear hb ho6)
    | ((with_reducible refine gate_builtin (b:=.append) (xs:=#[.tmp 5,.tmp 6]) rfl ?_);at_builtin;refine Kd.R_append_rows k44 (w0:=w) w.heap.size rfl (.tmp 5) (.tmp 6) 23 44 (.agg #[(.int .i64 0),(.int .i64 0),(.int .i64 0),(.int .i64 0),(.int .i64 0),(.int .i64 0),(.string ⟨#[]⟩)]) 64 rfl Tryd.underlying23 info44 rfl (by decide) (by omega) _ ([]:List S44) l0 _ _ _ (fun _=>True) (fun _=>False) rfl rfl ?aO ?aR (fun _ _ h=>h) (fun _ h=>h.elim) ?aF ?aB ?aS ?aL ?_;(case aR=>exact Kd.C_below HR0.out HB.out);(case aB=>exact HB.out);(case aF=>exact (fun _ _=>trivial));(case aO=>exact HO.out);(case aS=>exact below_size HB.out);(case aL=>have:=LM.out;simp;omega);intro v203 w9 ho hb hg hat;clear HB HO;have HB:=a_ hb;have HO:=a_ ho;clear ho hb hg hat;obtain ⟨Ao10,co10,eo10⟩:=Kd.R_slice HO.out;subst eo10))
   go_ret
   exact ⟨_,rfl,HO.out,HB.out⟩
 ·rw [if_neg hlim] at h
  cases h
def impl_cloneR.f (l0:List S69):Option (List S69):=if l0.length < 4398046511104 then some l0 else none
theorem impl_cloneR.calls (A0:Option Addr) (c0:Nat) (l0:List S69) (r:List S69) (w:World) (hr0:Kd.C k69 w A0 l0.length l0) (hc0:l0.length≤c0)
  (h:impl_cloneR.f l0=some r) :
  Calls Tryd.prog 105 #[.slice A0 l0.length c0] w fun e w'=>∃ v0_:Value,e=.returned (v0_)∧Kd.R k69 69 w' w.heap.size (fun _=>True) v0_ r∧Below w.heap.size w w':=by
 unfold impl_cloneR.f at h
 by_cases hlim:l0.length < 4398046511104
 ·rw [if_pos hlim] at h
  obtain rfl:=sj_ h
  clear h
  cases A0 with
  | none =>
   have hl:l0=[]:=by
    rcases Nat.eq_zero_or_pos l0.length with h0|h0
    ·exact List.length_eq_zero_iff.1 h0
    ·obtain ⟨ad,e,_⟩:=hr0.2.2 h0
     cases e
   subst hl
   simp only [List.length_nil]
   have hne:=fun (W:World)=>Lib.run_eql_slice_nil (P:=Tryd.prog) W 62 69 none 0 c0 0 0 Tryd.underlying62
   simp only [Option.isNone_none] at hne
   clear hr0 hlim hc0
   go_enter Tryd.func105,Tryd.ntmps105
   go_wp2
   go_ret
   exact ⟨_,rfl,Kd.R_nil _ _ _ _ _,Below.refl _ _⟩
  | some a =>
   have hne:=fun (W:World)=>Lib.run_eql_slice_nil (P:=Tryd.prog) W 62 69 (some a) l0.length c0 0 0 Tryd.underlying62
   simp only [Option.isNone_some] at hne
   have HR0:=a_ hr0
   have LM:=a_ hlim
   clear hr0 hlim
   have HB:=a_ (Below.refl w.heap.size w)
   go_enter Tryd.func105,Tryd.ntmps105
   go_wp2_with (first
    | ((with_reducible refine gD_ (N:=5) rfl ?_);refine Kd.R_lit k69 _ 69 ?hg (N:=5) ?hd (xs:=([]:List S69)) (inner:=[]) (ok:=fun _=>True) (okp:=fun _=>True) ?hr ?hp (fun _ hk=>hk) trivial (Below.refl _ _) (Nat.le_refl _) (by simp) ?_;(case hd=>rfl);(case hg=>rfl);(case hr=>first|(go_simp;done)|(go_simp;rfl));(case hp=>exact (Reps.none _ _));intro v200 w5 ho6 hb hg_ hnew_;clear hg_ hnew_;have HO:=a_ ho6;replace HB:=a_ (bS_ HB.out hb);clear hb ho6)
    | ((with_reducible refine gate_builtin (b:=.append) (xs:=#[.tmp 5,.tmp 6]) rfl ?_);at_builtin;refine Kd.R_append_rows k69 (w0:=w) w.heap.size rfl (.tmp 5) (.tmp 6) 62 69 (.agg #[(.int .i64 0),(.int .i64 0),(.string ⟨#[]⟩)]) 32 rfl Tryd.underlying62 info69 rfl (by decide) (by omega) _ ([]:List S69) l0 _ _ _ (fun _=>True) (fun _=>False) rfl rfl ?aO ?aR (fun _ _ h=>h) (fun _ h=>h.elim) ?aF ?aB ?aS ?aL ?_;(case aR=>exact Kd.C_below HR0.out HB.out);(case aB=>exact HB.out);(case aF=>exact (fun _ _=>trivial));(case aO=>exact HO.out);(case aS=>exact below_size HB.out);(case aL=>have:=LM.out;simp;omega);intro v203 w9 ho hb hg hat;clear HB HO;have HB:=a_ hb;have HO:=a_ ho;clear ho hb hg hat;obtain ⟨Ao10,co10,eo10⟩:=Kd.R_slice HO.out;subst eo10))
   go_ret
   exact ⟨_,rfl,HO.out,HB.out⟩
 ·rw [if_neg hlim] at h
  cases h
end Go.Proofs.YtdpklbomhdpimaaDoor.P
namespace Go.Proofs.YtdpklbomhdpimaaDoor.P
open Go.RowKit Go.Proofs.YtdpklbomhdpimaaDoorW.PrintWords Go.Proofs.YtdpklbomhdpimaaDoorW.PrintLast
def impl_copyClient.f (a0_0:Int) (a0_1:Int) (l0_2:List (S69)) (l0_3:List (S44)) (a0_4:Int) (a0_5:Int):Option (Int×Int×(List (S69))×(List (S44))×Int×Int):=(impl_cloneR.f l0_2).bind fun t345=>((impl_Entry_85.f l0_3).bind fun t348=>(some (a0_0,a0_1,t345,t348,a0_4,a0_5)))
theorem impl_copyClient.calls (a0_0:Int) (a0_1:Int) (A0_2:Option Addr) (c0_2:Nat) (l0_2:List (S69)) (A0_3:Option Addr) (c0_3:Nat) (l0_3:List (S44)) (a0_4:Int) (a0_5:Int) (r1:Int) (r2:Int) (r3:List (S69)) (r4:List (S44)) (r5:Int) (r6:Int) (w:World) (hr0_2:Kd.C k69 w A0_2 l0_2.length l0_2) (hc0_2:l0_2.length≤c0_2) (hr0_3:Kd.C k44 w A0_3 l0_3.length l0_3) (hc0_3:l0_3.length≤c0_3) (h:impl_copyClient.f a0_0 a0_1 l0_2 l0_3 a0_4 a0_5=some (r1,r2,r3,r4,r5,r6)) :
  Calls Tryd.prog 114 #[.agg #[.int .i64 a0_0,.int .i64 a0_1,.slice A0_2 l0_2.length c0_2,.slice A0_3 l0_3.length c0_3,.int .i64 a0_4,.int .i64 a0_5]] w fun e w'=>∃ v2_ v3_:Value,e=.returned (.agg #[.int .i64 r1,.int .i64 r2,v2_,v3_,.int .i64 r5,.int .i64 r6])∧Kd.R k69 69 w' w.heap.size (fun _=>True) v2_ r3∧Kd.R k44 44 w' w.heap.size (fun _=>True) v3_ r4∧Below w.heap.size w w':=by
 have hu77:=Tryd.underlying77
 have HR0_2:=a_ hr0_2
 have HC0_2:=a_ hc0_2
 clear hr0_2 hc0_2
 have HR0_3:=a_ hr0_3
 have HC0_3:=a_ hc0_3
 clear hr0_3 hc0_3
 have HB:=a_ (Below.refl w.heap.size w)
 unfold impl_copyClient.f at h
 have H:=h
 clear h
 replace H:=bs_ H
 obtain ⟨t345,A20,H⟩:=H
 try dsimp only at H
 have A2:=a_ A20
 clear A20
 replace H:=bs_ H
 obtain ⟨t348,A30,H⟩:=H
 try dsimp only at H
 have A3:=a_ A30
 clear A30
 simp only [Option.some.injEq,Prod.mk.injEq] at H
 obtain ⟨rfl,rfl,rfl,rfl,rfl,rfl⟩:=H
 go_enter Tryd.func114,Tryd.ntmps114
 go_wp2_with (first|((with_reducible refine gD_ (N:=1) rfl ?_);refine bx_ 1 (#[.int .i64 a0_0,.int .i64 a0_1,.slice A0_2 l0_2.length c0_2,.slice A0_3 l0_3.length c0_3,.int .i64 a0_4,.int .i64 a0_5]) 77 ?_;intro gb343 hg w4 hbox hb;have n0_:=a_ (bS_ (bel_) hb);have n1_:=a_ (hbox);have n2_:=a_ ((by rw [hg];exact (below_size (bel_)):w.heap.size≤gb343));have n3_:=a_ ((by rw [hg];exact (below_size (bel_)):w.heap.size≤gb343));clear HB;have HB:=n0_;have BK343:=n1_;have GW343:=n2_;have GE343:=n3_;clear n0_ n1_ n2_ n3_;clear hb hbox hg)|((with_reducible refine gD_ (N:=2) rfl ?_);refine bx_ 2 (#[.int .i64 0,.int .i64 0,.slice none 0 0,.slice none 0 0,.int .i64 0,.int .i64 0]) 77 ?_;intro gb344 hg w5 hbox hb;have n0_:=a_ (bb_ BK343.out hb);have n1_:=a_ (bS_ (bel_) hb);have n2_:=a_ (hbox);have n3_:=a_ ((by rw [hg];exact (below_size (bel_)):w.heap.size≤gb344));have n4_:=a_ ((by rw [hg];exact (below_size (bel_)):w.heap.size≤gb344));have n5_:=a_ ((by rw [hg];exact Nat.ne_of_lt (blk_lt (g:=gb343) (o:=.cells #[.int .i64 a0_0,.int .i64 a0_1,.slice A0_2 l0_2.length c0_2,.slice A0_3 l0_3.length c0_3,.int .i64 a0_4,.int .i64 a0_5] 77 (0,0)) (bp_ BK343.out)):gb343≠gb344));have n6_:=a_ ((by rw [hg];exact Nat.ne_of_gt (blk_lt (g:=gb343) (o:=.cells #[.int .i64 a0_0,.int .i64 a0_1,.slice A0_2 l0_2.length c0_2,.slice A0_3 l0_3.length c0_3,.int .i64 a0_4,.int .i64 a0_5] 77 (0,0)) (bp_ BK343.out)):gb344≠gb343));clear BK343;clear HB;have BK343:=n0_;have HB:=n1_;have BK344:=n2_;have GW344:=n3_;have GE344:=n4_;have NB343_344:=n5_;have NB344_343:=n6_;clear n0_ n1_ n2_ n3_ n4_ n5_ n6_;clear hb hbox hg;have hnb6:=NB343_344.out;have hnc6:=NB344_343.out;obtain ⟨Z7_0,Z7_1,Z7_2,Z7_3,Z7_4,Z7_5,Y7_0,Y7_1,Y7_2,Y7_3,Y7_4,Y7_5⟩:=op6_ BK343.out)|((with_reducible refine gC_ (f:=105) rfl ?_);refine gl_ 5 Tryd.func105 #[.slice A0_2 l0_2.length c0_2] ?_;(with_reducible refine (impl_cloneR.calls _ _ l0_2 t345 _ ?side1 ?side2 A2.out).mono ?_);(case side1=>exact cp_ HR0_2.out);(case side2=>exact HC0_2.out);rintro e w8 ⟨v346,rfl,ho0,hb⟩;refine ⟨_,rfl,?_⟩;have HO347:=a_ (Kd.R_lower ho0 (below_size (bel_)));replace HB:=a_ (bS_ (bel_) hb);replace BK343:=a_ (bb_ BK343.out hb);replace BK344:=a_ (bb_ BK344.out hb);(try clear hb ho0);obtain ⟨Ao9,co9,eo9⟩:=Kd.R_slice HO347.out;subst eo9;obtain ⟨Z10_0,Z10_1,Z10_2,Z10_3,Z10_4,Z10_5,Y10_0,Y10_1,Y10_2,Y10_3,Y10_4,Y10_5⟩:=op6_ BK343.out)|((with_reducible refine gC_ (f:=85) rfl ?_);refine gl_ 9 Tryd.func85 #[.slice A0_3 l0_3.length c0_3] ?_;(with_reducible refine (impl_Entry_85.calls _ _ l0_3 t348 _ ?side1 ?side2 A3.out).mono ?_);(case side1=>exact Kd.C_below HR0_3.out (bel_));(case side2=>exact HC0_3.out);rintro e w11 ⟨v349,rfl,ho0,hb⟩;refine ⟨_,rfl,?_⟩;have n0_:=a_ (Kd.R_below (by (with_reducible repeat (first|apply Kd.R_alloc|apply Kd.R_drewN|apply Kd.R_drew));exact (Kd.R_mono (Kd.R_far (p:=⟨gb343,2,none⟩) (Kd.R_types HO347.out BK343.out (by decide)) (fun _ hk=>hk.2) (.slice Ao9 t345.length co9)) (fun _ h_=>h_.1))) hb);have n1_:=a_ (Kd.R_lower ho0 (below_size (bel_)));have n2_:=a_ (blk_below (g:=gb343) (o:=.cells #[.int .i64 a0_0,.int .i64 a0_1,.slice Ao9 t345.length co9,.slice A0_3 l0_3.length c0_3,.int .i64 a0_4,.int .i64 a0_5] 77 (0,0)) (by (with_reducible repeat (first|refine bN_ ?_ _|refine bD_ ?_|refine bA_ ?_ _));refine blk_put (cs:=#[.int .i64 a0_0,.int .i64 a0_1,.slice A0_2 l0_2.length c0_2,.slice A0_3 l0_3.length c0_3,.int .i64 a0_4,.int .i64 a0_5]) ?_ 2 _ rfl;(with_reducible repeat (first|refine bN_ ?_ _|refine bD_ ?_|refine bA_ ?_ _));exact BK343.out) hb);have n3_:=a_ (blk_below (g:=gb344) (o:=.cells #[.int .i64 0,.int .i64 0,.slice none 0 0,.slice none 0 0,.int .i64 0,.int .i64 0] 77 (0,0)) (fp1_ NB344_343.out BK344.out) hb);have n4_:=a_ (bS_ (bel_) hb);clear HO347;clear BK343;clear BK344;clear HB;have HO347:=n0_;have HO350:=n1_;have BK343:=n2_;have BK344:=n3_;have HB:=n4_;clear n0_ n1_ n2_ n3_ n4_;(try clear hb ho0);obtain ⟨Ao12,co12,eo12⟩:=Kd.R_slice HO350.out;subst eo12;obtain ⟨Z13_0,Z13_1,Z13_2,Z13_3,Z13_4,Z13_5,Y13_0,Y13_1,Y13_2,Y13_3,Y13_4,Y13_5⟩:=op6_ BK343.out;obtain ⟨Z14_0,Z14_1,Z14_2,Z14_3,Z14_4,Z14_5,Y14_0,Y14_1,Y14_2,Y14_3,Y14_4,Y14_5⟩:=op6_ BK344.out))
 refine bodyPost_ret (results_cell_row rfl _ _ gb344 77 #[.int .i64 a0_0,.int .i64 a0_1,.slice Ao9 t345.length co9,.slice Ao12 t348.length co12,.int .i64 a0_4,.int .i64 a0_5] (0,0) _ rfl (k6p1_ NB344_343.out BK344.out) Tryd.underlying77 rfl (by kernel_rfl)) rfl ?_
 exact ⟨_,_,fi_,by (with_reducible repeat (first|apply Kd.R_alloc|apply Kd.R_drewN|apply Kd.R_drew));exact Kd.R_mono (rf6_ (g:=gb344) (Kd.R_far (p:=⟨gb343,3,none⟩) (Kd.R_types (Kd.R_types HO347.out BK343.out (by decide)) BK344.out (by decide)) (fun _ hk=>hk.1.2) (.slice Ao12 t348.length co12)) (fun _ hk=>hk.2) (.int .i64 a0_0) (.int .i64 a0_1) (.slice Ao9 t345.length co9) (.slice Ao12 t348.length co12) (.int .i64 a0_4) (.int .i64 a0_5)) (fun _ hk=>trivial),by (with_reducible repeat (first|apply Kd.R_alloc|apply Kd.R_drewN|apply Kd.R_drew));exact Kd.R_mono (rf6_ (g:=gb344) (Kd.R_far (p:=⟨gb343,3,none⟩) (Kd.R_types (Kd.R_types HO350.out BK343.out (by decide)) BK344.out (by decide)) (fun _ hk=>hk.1.2) (.slice Ao12 t348.length co12)) (fun _ hk=>hk.2) (.int .i64 a0_0) (.int .i64 a0_1) (.slice Ao9 t345.length co9) (.slice Ao12 t348.length co12) (.int .i64 a0_4) (.int .i64 a0_5)) (fun _ hk=>trivial),bel_⟩

def impl_RowMade.f (a0:Int) (a1:Int):Option (Int):=(impl_whoOk.f a0).bind fun t351=>(if t351=true then (if a1 < 1 then (some 0) else (if a1 > 6 then (some 0) else (some (wrap64 ((wrap64 (10 * a0))+a1))))) else (some 0))
theorem impl_RowMade.calls (a0:Int) (a1:Int) (r:Int) (w:World) (h:impl_RowMade.f a0 a1=some r) :
  Calls Tryd.prog 115 #[.int .i64 a0,.int .i64 a1] w fun e w'=>e=.returned (.int .i64 r)∧Drawn0 w w':=by
 unfold impl_RowMade.f at h
 have H:=h
 clear h
 replace H:=bs_ H
 obtain ⟨t351,A30,H⟩:=H
 try dsimp only at H
 have A3:=a_ A30
 clear A30
 by_cases c4:t351=true
 ·subst c4
  have H1:(if a1 < 1 then (some 0) else (if a1 > 6 then (some 0) else (some (wrap64 ((wrap64 (10 * a0))+a1)))))=some r:=by rw [if_pos rfl] at H;exact H
  clear H
  have H:=H1
  clear H1
  by_cases c5:a1 < 1
  ·rw [if_pos c5] at H
   have c5b0:decide (a1 < 1)=true:=dt_ c5
   clear c5
   obtain rfl:=sj_ H
   go_enter Tryd.func115,Tryd.ntmps115
   go_wp2_with (first|((with_reducible refine gC_ (f:=104) rfl ?_);refine gl_ 6 Tryd.func104 #[.int .i64 a0] ?_;(with_reducible refine (impl_whoOk.calls a0 true _ A3.out).mono ?_);rintro e w' ⟨rfl,⟨nd,rfl⟩⟩;refine ⟨_,rfl,?_⟩))
   go_ret
   exact ⟨si_,by repeat (first|exact Drawn0.refl _|apply Drawn0.step)⟩
  ·rw [if_neg c5] at H
   have c5b0:decide (a1 < 1)=false:=df_ c5
   clear c5
   by_cases c6:a1 > 6
   ·rw [if_pos c6] at H
    have c6b0:decide (6 < a1)=true:=dt_ c6
    clear c6
    obtain rfl:=sj_ H
    go_enter Tryd.func115,Tryd.ntmps115
    go_wp2_with (first|((with_reducible refine gC_ (f:=104) rfl ?_);refine gl_ 6 Tryd.func104 #[.int .i64 a0] ?_;(with_reducible refine (impl_whoOk.calls a0 true _ A3.out).mono ?_);rintro e w' ⟨rfl,⟨nd,rfl⟩⟩;refine ⟨_,rfl,?_⟩))
    go_ret
    exact ⟨si_,by repeat (first|exact Drawn0.refl _|apply Drawn0.step)⟩
   ·rw [if_neg c6] at H
    have c6b0:decide (6 < a1)=false:=df_ c6
    clear c6
    obtain rfl:=sj_ H
    go_enter Tryd.func115,Tryd.ntmps115
    go_wp2_with (first|((with_reducible refine gC_ (f:=104) rfl ?_);refine gl_ 6 Tryd.func104 #[.int .i64 a0] ?_;(with_reducible refine (impl_whoOk.calls a0 true _ A3.out).mono ?_);rintro e w' ⟨rfl,⟨nd,rfl⟩⟩;refine ⟨_,rfl,?_⟩))
    go_ret
    exact ⟨si_,by repeat (first|exact Drawn0.refl _|apply Drawn0.step)⟩
 ·replace c4:=Bool.eq_false_iff.mpr c4
  subst c4
  have H1:(some 0)=some r:=by rw [if_neg (show ¬ (false=true) by decide)] at H;exact H
  clear H
  have H:=H1
  clear H1
  obtain rfl:=sj_ H
  go_enter Tryd.func115,Tryd.ntmps115
  go_wp2_with (first|((with_reducible refine gC_ (f:=104) rfl ?_);refine gl_ 6 Tryd.func104 #[.int .i64 a0] ?_;(with_reducible refine (impl_whoOk.calls a0 false _ A3.out).mono ?_);rintro e w' ⟨rfl,⟨nd,rfl⟩⟩;refine ⟨_,rfl,?_⟩))
  go_ret
  exact ⟨si_,by repeat (first|exact Drawn0.refl _|apply Drawn0.step)⟩

def impl_ClientDo.j0:Nat→Bool→Int→Int→List (S69)→List (S44)→Int→Int→Int→Int→Int→Int→ByteArray→Int→Int→Int→Int→Int→Int→ByteArray→Option (Int×Int×(List (S69))×(List (S44))×Int×Int×Bool)
 | 0,_,_,_,_,_,_,_,_,_,_,_,_,_,_,_,_,_,_,_=>none
 | k+1,x42,x353000,x353001,x353002,x353003,x353004,x353005,x354000,x354001,x354002,x354003,x354004,x367000,x367001,x367002,x367003,x367004,x367005,x367006=>if x42=true then (some (x353000,x353001,x353002,x353003,x353004,x353005,false)) else (if x353003.length < 2199023255552 then ((some (x353003++[(⟨x367000,x367001,(⟨x367002,x367003,x367004,x367005,x367006⟩:S42)⟩:S44)]:List (S44))).bind fun y369=>(if x354000=1 then (some (x353000,x353001,x353002,y369,x353004,wrap64 (x353005+1),true)) else (some (x353000,x353001,x353002,y369,x353004,x353005,true)))) else (none))
def impl_ClientDo.f (k:Nat) (a0_0:Int) (a0_1:Int) (l0_2:List (S69)) (l0_3:List (S44)) (a0_4:Int) (a0_5:Int) (a1_0:Int) (a1_1:Int) (a1_2:Int) (a1_3:Int) (a1_4:ByteArray):Option (Int×Int×(List (S69))×(List (S44))×Int×Int×Bool):=(impl_ClientOk.f k a0_0 a0_1 l0_2 l0_3 a0_4 a0_5).bind fun t355=>(if t355=true then ((impl_copyClient.f a0_0 a0_1 l0_2 l0_3 a0_4 a0_5).bind fun bt356=>((impl_EntryOk.f k bt356.1 (wrap64 ((wrap64 (bt356.2.2.2.2.1+(bt356.2.2.2.1.length:Int)))+1)) a1_0 a1_1 a1_2 a1_3 a1_4).bind fun t367=>(if t367=true then (if a1_0=1 then ((impl_RowMade.f bt356.1 (wrap64 (bt356.2.2.2.2.2+1))).bind fun t368=>(impl_ClientDo.j0 k (a1_1 != t368) bt356.1 bt356.2.1 bt356.2.2.1 bt356.2.2.2.1 bt356.2.2.2.2.1 bt356.2.2.2.2.2 a1_0 a1_1 a1_2 a1_3 a1_4 bt356.1 (wrap64 ((wrap64 (bt356.2.2.2.2.1+(bt356.2.2.2.1.length:Int)))+1)) a1_0 a1_1 a1_2 a1_3 a1_4)) else (impl_ClientDo.j0 k false bt356.1 bt356.2.1 bt356.2.2.1 bt356.2.2.2.1 bt356.2.2.2.2.1 bt356.2.2.2.2.2 a1_0 a1_1 a1_2 a1_3 a1_4 bt356.1 (wrap64 ((wrap64 (bt356.2.2.2.2.1+(bt356.2.2.2.1.length:Int)))+1)) a1_0 a1_1 a1_2 a1_3 a1_4)) else (impl_ClientDo.j0 k true bt356.1 bt356.2.1 bt356.2.2.1 bt356.2.2.2.1 bt356.2.2.2.2.1 bt356.2.2.2.2.2 a1_0 a1_1 a1_2 a1_3 a1_4 bt356.1 (wrap64 ((wrap64 (bt356.2.2.2.2.1+(bt356.2.2.2.1.length:Int)))+1)) a1_0 a1_1 a1_2 a1_3 a1_4)))) else (some (0,0,([]:List (S69)),([]:List (S44)),0,0,false)))
def impl_ClientDo.T5:Bool×List (List Nat×List Nat):=(true,[([],[]),([0],[0]),([1],[1]),([2,1],[2]),([3],[3]),([4,3],[3,4]),([5,3],[3,5]),([6,3,3],[3,6]),([7],[7]),([8,7],[7,8]),([7],[7]),([10,7],[7,10]),([7],[7]),([12,7],[7,12]),([13,7],[7,13]),([11,14,7,7],[7,11,14]),([9,15,7],[7,9,15]),([7,16,3],[3,7,16]),([3,17],[3,17])])
def impl_ClientDo.B5:List Nat:=[0,1,3,7,15,31,63,127,255,511,255,1279,255,4351,12543,31999,65535,131071,262143]
theorem impl_ClientDo.tab5:rtab .any (opsOf Tryd.f69 5)=impl_ClientDo.T5:=by kernel_rfl
theorem impl_ClientDo.bits5:waitsOk impl_ClientDo.T5.2 impl_ClientDo.B5=true:=by kernel_rfl
end Go.Proofs.YtdpklbomhdpimaaDoor.P
