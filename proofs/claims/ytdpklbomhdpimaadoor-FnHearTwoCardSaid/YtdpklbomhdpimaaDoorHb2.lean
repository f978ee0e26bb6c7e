/- Joined by a program (wip/shake.py): the declarations that 'YtdpklbomhdpimaaDoorCardFnHearAgain' reaches. -/
import Derived.Test.YtdpklbomhdpimaaDoorHb1
set_option linter.unusedVariables false
set_option linter.unusedSimpArgs false
set_option linter.unusedSectionVars false
set_option maxHeartbeats 8000000
set_option maxRecDepth 100000
namespace Go.Proofs.YtdpklbomhdpimaaDoor.P
open Go.RowKit Go.Proofs.YtdpklbomhdpimaaDoorW.PrintWords Go.Proofs.YtdpklbomhdpimaaDoorW.PrintLast
theorem spec_l3Do.calls (k:Nat) (A0:Option Addr) (c0:Nat) (l0:List (S69)) (a1_0:Int) (a1_1:Int) (a1_2:Int) (a1_3:Int) (a1_4:ByteArray) (r:List (S69)) (w:World) (hr0:Kd.C k69 w A0 l0.length l0) (hc0:l0.length≤c0) (h:spec_l3Do.f k l0 a1_0 a1_1 a1_2 a1_3 a1_4=some r) :
  Calls Tryd.prog 125 #[.slice A0 l0.length c0,.agg #[.int .i64 a1_0,.int .i64 a1_1,.int .i64 a1_2,.int .i64 a1_3,.string a1_4]] w fun e w'=>∃ v0_:Value,e=.returned (v0_)∧Kd.R k69 69 w' w.heap.size (fun _=>True) v0_ r∧Below w.heap.size w w':=by
 have hu42:=Tryd.underlying42
 have hu69:=Tryd.underlying69
 have HR0:=a_ hr0
 have HC0:=a_ hc0
 clear hr0 hc0
 have HB:=a_ (Below.refl w.heap.size w)
 unfold spec_l3Do.f at h
 have H:=h
 clear h
 replace H:=bs_ H
 obtain ⟨t258,A30,H⟩:=H
 try dsimp only at H
 have A3:=a_ A30
 clear A30
 by_cases c4:a1_0=2
 ·rw [if_pos c4] at H
  have c4b0:(a1_0==2)=true:=beq_iff_eq.mpr c4
  have c4b1:(a1_0 != 2)=false:=be_ c4
  clear c4
  obtain ⟨y259,hy259⟩:∃ y_:List (S69),y_=(([]:List (S69))):=⟨_,rfl⟩
  replace H:(if y259.length+l0.length < 4398046511104 then ((some (y259++l0:List (S69))).bind fun y262=>(if t258≥0 then (if 0≤t258 then (if t258 < (y262.length:Int) then (some (y262.set (t258:Int).toNat (⟨(rd_T69 y262 t258).f0,(rd_T69 y262 t258).f1,a1_4⟩:S69))) else (none)) else (none)) else (some y262))) else (none))=some r:=by first|(rw [hy259];with_reducible exact H)|(have H2_:=(Option.bind_some _ _).symm.trans H;rw [hy259];with_reducible exact H2_)|(have H2_:=(Option.bind_some _ _).symm.trans H;with_reducible exact H2_)|with_reducible exact H|(rw [hy259];exact H)|exact H
  have Ny259:=a_ hy259
  clear hy259
  by_cases c5:y259.length+l0.length < 4398046511104
  ·rw [if_pos c5] at H
   have LMc5:=a_ c5
   clear c5
   obtain ⟨y262,hy262⟩:∃ y_:List (S69),y_=(y259++l0):=⟨_,rfl⟩
   replace H:(if t258≥0 then (if 0≤t258 then (if t258 < (y262.length:Int) then (some (y262.set (t258:Int).toNat (⟨(rd_T69 y262 t258).f0,(rd_T69 y262 t258).f1,a1_4⟩:S69))) else (none)) else (none)) else (some y262))=some r:=by first|(rw [hy262];with_reducible exact H)|(have H2_:=(Option.bind_some _ _).symm.trans H;rw [hy262];with_reducible exact H2_)|(have H2_:=(Option.bind_some _ _).symm.trans H;with_reducible exact H2_)|with_reducible exact H|(rw [hy262];exact H)|exact H
   have Ny262:=a_ hy262
   clear hy262
   by_cases c6:t258≥0
   ·rw [if_pos c6] at H
    have c6b0:decide (0≤t258)=true:=dt_ c6
    clear c6
    by_cases c7:0≤t258
    ·rw [if_pos c7] at H
     have c7b0:decide (0≤t258)=true:=dt_ c7
     clear c7
     by_cases c8:t258 < (y262.length:Int)
     ·rw [if_pos c8] at H
      have c8b0:decide (t258 < (y262.length:Int))=true:=dt_ c8
      clear c8
      obtain ⟨y265,hy265⟩:∃ y_:List (S69),y_=(y262.set (t258:Int).toNat (⟨(rd_T69 y262 t258).f0,(rd_T69 y262 t258).f1,a1_4⟩:S69)):=⟨_,rfl⟩
      replace H:(some y265)=some r:=by first|(rw [hy265];with_reducible exact H)|(have H2_:=(Option.bind_some _ _).symm.trans H;rw [hy265];with_reducible exact H2_)|(have H2_:=(Option.bind_some _ _).symm.trans H;with_reducible exact H2_)|with_reducible exact H|(rw [hy265];exact H)|exact H
      have Ny265:=a_ hy265
      clear hy265
      obtain rfl:=sj_ H
      go_enter Tryd.func125,Tryd.ntmps125
      go_wp2_with (first|((with_reducible refine gD_ (N:=3) rfl ?_);refine bx_ 3 (#[.int .i64 a1_0,.int .i64 a1_1,.int .i64 a1_2,.int .i64 a1_3,.string a1_4]) 42 ?_;intro gb257 hg w10 hbox hb;have n0_:=a_ (bS_ (bel_) hb);have n1_:=a_ (hbox);have n2_:=a_ ((by rw [hg];exact (below_size (bel_)):w.heap.size≤gb257));have n3_:=a_ ((by rw [hg];exact (below_size (bel_)):w.heap.size≤gb257));clear HB;have HB:=n0_;have BK257:=n1_;have GW257:=n2_;have GE257:=n3_;clear n0_ n1_ n2_ n3_;clear hb hbox hg;obtain ⟨Z11_0,Z11_1,Z11_2,Z11_3,Z11_4,Y11_0,Y11_1,Y11_2,Y11_3,Y11_4⟩:=op5_ BK257.out)|((with_reducible refine gC_ (f:=145) rfl ?_);refine gl_ 16 Tryd.func145 #[.slice A0 l0.length c0,.int .i64 a1_1] ?_;(with_reducible refine (spec_l2At.calls k _ _ l0 a1_1 t258 _ ?side1 ?side2 A3.out).mono ?_);(case side1=>exact cp_ HR0.out);(case side2=>exact HC0.out);rintro e w' ⟨rfl,⟨nd,rfl⟩⟩;refine ⟨_,rfl,?_⟩;(try (rw [drewN_self w10];generalize hq_:World.drewN w10 _=w10;have n0_:Aside0 (w10.heap[gb257]?=some (.cells #[.int .i64 a1_0,.int .i64 a1_1,.int .i64 a1_2,.int .i64 a1_3,.string a1_4] 42 (0,0))):=⟨by rw [←hq_];exact (bp_ BK257.out)⟩;have n1_:Aside0 (Below w.heap.size w w10):=⟨by rw [←hq_];exact (bel_)⟩;clear BK257 HB hq_;have BK257:=n0_;have HB:=n1_;clear n0_ n1_;obtain ⟨Zy257_0,Zy257_1,Zy257_2,Zy257_3,Zy257_4,Yy257_0,Yy257_1,Yy257_2,Yy257_3,Yy257_4⟩:=op5_ BK257.out)))|((with_reducible refine gD_ (N:=20) rfl ?_);refine Kd.R_lit k69 _ 69 ?hg (N:=20) ?hd (xs:=([]:List (S69))) (inner:=[]) (ok:=fun _=>True) (okp:=fun _=>True) ?hr ?hp (fun _ hk=>hk) trivial (Below.refl _ _) (Nat.le_refl _) (by simp) ?_;(case hd=>rfl);(case hg=>rfl);(case hr=>first|(go_simp;done)|(go_simp;rfl));(case hp=>exact (Reps.none _ _));intro v260 w12 ho13 hb hg_ hnew_;clear hg_ hnew_;(first|rw [←Ny259.out] at ho13|(simp only [Int.reduceToNat] at ho13;rw [←Ny259.out] at ho13));have HO261:=a_ (Kd.R_lower ho13 (below_size (bel_)));replace HB:=a_ (bS_ (bel_) hb);replace BK257:=a_ (bb_ BK257.out hb);clear hb ho13)|((with_reducible refine gate_builtin (b:=.append) (xs:=#[.tmp 20,.tmp 21]) rfl ?_);at_builtin;refine Kd.R_append_rows k69 (w0:=w) w.heap.size rfl (.tmp 20) (.tmp 21) 62 69 (.agg #[(.int .i64 0),(.int .i64 0),(.string ⟨#[]⟩)]) 32 rfl Tryd.underlying62 info69 rfl (by decide) (by omega) v260 y259 l0 _ _ _ (fun _=>True) (fun _=>False) rfl rfl ?aO ?aR (fun _ _ h=>h) (fun _ h=>h.elim) ?aF ?aB ?aS ?aL ?_;(case aR=>exact cx_ (Kd.C_below HR0.out HB.out));(case aB=>exact (bel_));(case aF=>exact (fun _ _=>trivial));(case aO=>exact (rp_ HO261.out));(case aS=>exact (below_size (bel_)));(case aL=>have:=LMc5.out;omega);intro v263 w14 ho hb hg hat;rw [←Ny262.out] at ho;replace BK257:=a_ (blk_grown (g:=gb257) (o:=.cells #[.int .i64 a1_0,.int .i64 a1_1,.int .i64 a1_2,.int .i64 a1_3,.string a1_4] 42 (0,0)) (bp_ BK257.out) hg (Kd.R_ne HO261.out BK257.out (by decide)));replace HB:=a_ (hb);have HO264:=a_ (ho);clear HO261;clear ho hb hg hat;obtain ⟨Z15_0,Z15_1,Z15_2,Z15_3,Z15_4,Y15_0,Y15_1,Y15_2,Y15_3,Y15_4⟩:=op5_ BK257.out;have p9:0≤(t258:Int):=od_;have q9:(t258:Int) < ((y262.length:Int):Int):=od_;obtain ⟨go9,co9,eo9,gb9,gl9,cl9,HG9⟩:=Kd.R_form HO264.out (by omega);(first|cases eo9|(injection eo9 with ea_ en_ ec_;(first|subst ea_|(injection ea_ with ea_;subst ea_));subst ec_;clear en_));have GB9:=a_ gb9;have GG9:=a_ HG9;clear gb9 gl9 HG9;obtain ⟨ce9,hcl9,hM9,hcc9,hfr9⟩:=Kd.R_elem HO264.out z69 (t258:Int) p9 q9;obtain rfl:=k69_openM hM9;have hx9_0:w14.cell? ⟨go9,(t258:Int).toNat * 3,none⟩=some (.int .i64 ((rd_T69 y262 t258).f0)):=hcc9 0 _ rfl;have hx9_1:w14.cell? ⟨go9,(t258:Int).toNat * 3+1,none⟩=some (.int .i64 ((rd_T69 y262 t258).f1)):=hcc9 1 _ rfl;have hx9_2:w14.cell? ⟨go9,(t258:Int).toNat * 3+2,none⟩=some (.string ((rd_T69 y262 t258).f2)):=hcc9 2 _ rfl;have hf9_0:w14.frozen? ⟨go9,(t258:Int).toNat * 3,none⟩=false:=hfr9 0;have hf9_1:w14.frozen? ⟨go9,(t258:Int).toNat * 3+1,none⟩=false:=hfr9 1;have hf9_2:w14.frozen? ⟨go9,(t258:Int).toNat * 3+2,none⟩=false:=hfr9 2;clear hcl9 hcc9 hfr9 hM9;replace p9:=eq_true p9;replace q9:=eq_true q9;have HX16:=a_ (show Kd.R k69 69 w14 w.heap.size (fun _=>True) (.slice (some ⟨go9,0,none⟩) y262.length co9) y262 from (rp_ HO264.out));obtain ⟨ce16,hcl16,hM16,hcc16,hfr16⟩:=Kd.R_elem HX16.out z69 (t258:Int) (od_) (by have h_:(t258:Int) < ((y262.length:Int):Int):=od_;first|exact h_|(have e_:=(Kd.R_reads' HO264.out).1;omega)|simpa using h_);obtain rfl:=k69_openM hM16;have HP16:=Kd.R_seg HX16.out (t258:Int) (od_) (by have h_:(t258:Int) < ((y262.length:Int):Int):=od_;first|exact h_|(have e_:=(Kd.R_reads' HO264.out).1;omega)|simpa using h_) (seg:=[.string a1_4]) (j:=2) hcl16 hcc16 (show 3≤3 from by decide) (x':=(⟨(rd_T69 y262 t258).f0,(rd_T69 y262 t258).f1,a1_4⟩:S69)) (k69_mkM _ _ _ (⟨(rd_T69 y262 t258).f0,(rd_T69 y262 t258).f1,a1_4⟩:S69) ) (fun _ hk=>hk);have hx16_2:=hcc16 2 _ rfl;(try simp only [show (k69).sz=3 from rfl,Nat.mul_one,Nat.add_zero] at hx16_2);have hf16_2:=hfr16 2;(try simp only [show (k69).sz=3 from rfl,Nat.mul_one,Nat.add_zero] at hf16_2);clear hcl16 hcc16 hfr16 hM16)|((with_reducible refine gate_store (t:=9) (p:=30) rfl ?_);refine store_event (t:=9) (p:=30) (v:=?vo_w17) (w1:=(w14.setCell ⟨go9,(t258:Int).toNat * 3+2,none⟩ (.string a1_4))) ?hg ?ho ?hn ?hr ?_;(case ho=>rfl);(case hg=>rfl);(case hn=>rfl);(case hr=>first|(go_simp;done)|(go_simp;rfl));intro w17 hw;have hg:w14.grownBy w17 (some go9):=(by rw [hw];exact HP16.2);have hp_:Kd.R k69 69 w17 w.heap.size (fun _=>True) (.slice (some ⟨go9,0,none⟩) y262.length co9) y265:=(by rw [hw,Ny265.out];exact HP16.1);clear HP16;have n0_:=a_ (blk_grown (g:=gb257) (o:=.cells #[.int .i64 a1_0,.int .i64 a1_1,.int .i64 a1_2,.int .i64 a1_3,.string a1_4] 42 (0,0)) (bp_ BK257.out) hg (Kd.R_ne HO264.out BK257.out (by decide)));have n1_:=a_ (hp_);have n2_:=a_ ((by rw [hw];exact wS_ (HB.out) GB9.out:Below w.heap.size w w17));clear BK257;clear HO264;clear HB;have BK257:=n0_;have HO264:=n1_;have HB:=n2_;clear n0_ n1_ n2_;clear hg hw hp_))
      go_ret
      exact ⟨_,fi_,by (with_reducible repeat (first|apply Kd.R_alloc|apply Kd.R_drewN|apply Kd.R_drew));exact HO264.out,bel_⟩
     ·rw [if_neg c8] at H
      exact absurd H (by simp)
    ·rw [if_neg c7] at H
     exact absurd H (by simp)
   ·rw [if_neg c6] at H
    have c6b0:decide (0≤t258)=false:=df_ c6
    clear c6
    obtain rfl:=sj_ H
    go_enter Tryd.func125,Tryd.ntmps125
    go_wp2_with (first|((with_reducible refine gD_ (N:=3) rfl ?_);refine bx_ 3 (#[.int .i64 a1_0,.int .i64 a1_1,.int .i64 a1_2,.int .i64 a1_3,.string a1_4]) 42 ?_;intro gb257 hg w18 hbox hb;have n0_:=a_ (bS_ (bel_) hb);have n1_:=a_ (hbox);have n2_:=a_ ((by rw [hg];exact (below_size (bel_)):w.heap.size≤gb257));have n3_:=a_ ((by rw [hg];exact (below_size (bel_)):w.heap.size≤gb257));clear HB;have HB:=n0_;have BK257:=n1_;have GW257:=n2_;have GE257:=n3_;clear n0_ n1_ n2_ n3_;clear hb hbox hg;obtain ⟨Z19_0,Z19_1,Z19_2,Z19_3,Z19_4,Y19_0,Y19_1,Y19_2,Y19_3,Y19_4⟩:=op5_ BK257.out)|((with_reducible refine gC_ (f:=145) rfl ?_);refine gl_ 16 Tryd.func145 #[.slice A0 l0.length c0,.int .i64 a1_1] ?_;(with_reducible refine (spec_l2At.calls k _ _ l0 a1_1 t258 _ ?side1 ?side2 A3.out).mono ?_);(case side1=>exact cp_ HR0.out);(case side2=>exact HC0.out);rintro e w' ⟨rfl,⟨nd,rfl⟩⟩;refine ⟨_,rfl,?_⟩)|((with_reducible refine gD_ (N:=20) rfl ?_);refine Kd.R_lit k69 _ 69 ?hg (N:=20) ?hd (xs:=([]:List (S69))) (inner:=[]) (ok:=fun _=>True) (okp:=fun _=>True) ?hr ?hp (fun _ hk=>hk) trivial (Below.refl _ _) (Nat.le_refl _) (by simp) ?_;(case hd=>rfl);(case hg=>rfl);(case hr=>first|(go_simp;done)|(go_simp;rfl));(case hp=>exact (Reps.none _ _));intro v260 w20 ho21 hb hg_ hnew_;clear hg_ hnew_;(first|rw [←Ny259.out] at ho21|(simp only [Int.reduceToNat] at ho21;rw [←Ny259.out] at ho21));have HO261:=a_ (Kd.R_lower ho21 (below_size (bel_)));replace HB:=a_ (bS_ (bel_) hb);replace BK257:=a_ (bb_ BK257.out hb);clear hb ho21)|((with_reducible refine gate_builtin (b:=.append) (xs:=#[.tmp 20,.tmp 21]) rfl ?_);at_builtin;refine Kd.R_append_rows k69 (w0:=w) w.heap.size rfl (.tmp 20) (.tmp 21) 62 69 (.agg #[(.int .i64 0),(.int .i64 0),(.string ⟨#[]⟩)]) 32 rfl Tryd.underlying62 info69 rfl (by decide) (by omega) v260 y259 l0 _ _ _ (fun _=>True) (fun _=>False) rfl rfl ?aO ?aR (fun _ _ h=>h) (fun _ h=>h.elim) ?aF ?aB ?aS ?aL ?_;(case aR=>exact cx_ (Kd.C_below HR0.out HB.out));(case aB=>exact (bel_));(case aF=>exact (fun _ _=>trivial));(case aO=>exact (rp_ HO261.out));(case aS=>exact (below_size (bel_)));(case aL=>have:=LMc5.out;omega);intro v263 w22 ho hb hg hat;rw [←Ny262.out] at ho;replace BK257:=a_ (blk_grown (g:=gb257) (o:=.cells #[.int .i64 a1_0,.int .i64 a1_1,.int .i64 a1_2,.int .i64 a1_3,.string a1_4] 42 (0,0)) (bp_ BK257.out) hg (Kd.R_ne HO261.out BK257.out (by decide)));replace HB:=a_ (hb);have HO264:=a_ (ho);clear HO261;clear ho hb hg hat))
    go_ret
    exact ⟨_,fi_,by (with_reducible repeat (first|apply Kd.R_alloc|apply Kd.R_drewN|apply Kd.R_drew));exact HO264.out,bel_⟩
  ·rw [if_neg c5] at H
   exact absurd H (by simp)
 ·rw [if_neg c4] at H
  have c4b0:(a1_0==2)=false:=bn_ c4
  have c4b1:(a1_0 != 2)=true:=bne_iff_ne.mpr c4
  replace H:=bs_ H
  obtain ⟨⟨t266,t267,t268⟩,A230,H⟩:=H
  try dsimp only at H
  have A23:=a_ A230
  clear A230
  by_cases c24:t268=true
  ·subst c24
   have H1:(if a1_0=1 then ((spec_l3Put.f k l0 (([(⟨a1_1,0,a1_4⟩:S69)]:List (S69))) t266 t267).bind fun t278=>(some t278)) else ((spec_l2End.f k l0 t258).bind fun t281=>((some (([]:List (S69)):List (S69))).bind fun y282=>(if 0≤t258 then (if t258≤t281 then (if t281≤(l0.length:Int) then ((some ((l0.take (t281:Int).toNat).drop (t258:Int).toNat:List (S69))).bind fun y285=>(if y282.length+y285.length < 4398046511104 then ((some (([]:List (S69)):List (S69))).bind fun y292=>(if t258≤(l0.length:Int) then ((some (l0.take (t258:Int).toNat:List (S69))).bind fun y295=>(if y292.length+y295.length < 4398046511104 then ((some (y292++y295:List (S69))).bind fun y299=>(if 0≤t281 then ((some (l0.drop (t281:Int).toNat:List (S69))).bind fun y302=>(if y299.length+y302.length < 4398046511104 then ((spec_l3Put.f k (y299++y302) (y282++y285) t266 t267).bind fun t309=>(some t309)) else (none))) else (none))) else (none))) else (none))) else (none))) else (none)) else (none)) else (none)))))=some r:=by rw [if_pos rfl] at H;exact H
   clear H
   have H:=H1
   clear H1
   by_cases c25:a1_0=1
   ·rw [if_pos c25] at H
    have c25b0:(a1_0==1)=true:=beq_iff_eq.mpr c25
    have c25b1:(a1_0 != 1)=false:=be_ c25
    clear c25
    obtain ⟨y275,hy275⟩:∃ y_:List (S69),y_=(([(⟨a1_1,0,a1_4⟩:S69)]:List (S69))):=⟨_,rfl⟩
    replace H:((spec_l3Put.f k l0 y275 t266 t267).bind fun t278=>(some t278))=some r:=by first|(rw [hy275];with_reducible exact H)|(have H2_:=(Option.bind_some _ _).symm.trans H;rw [hy275];with_reducible exact H2_)|(have H2_:=(Option.bind_some _ _).symm.trans H;with_reducible exact H2_)|with_reducible exact H|(rw [hy275];exact H)|exact H
    have Ny275:=a_ hy275
    clear hy275
    replace H:=bs_ H
    obtain ⟨t278,A260,H⟩:=H
    try dsimp only at H
    have A26:=a_ A260
    clear A260
    obtain rfl:=sj_ H
    go_enter Tryd.func125,Tryd.ntmps125
    go_wp2_with (first|((with_reducible refine gD_ (N:=3) rfl ?_);refine bx_ 3 (#[.int .i64 a1_0,.int .i64 a1_1,.int .i64 a1_2,.int .i64 a1_3,.string a1_4]) 42 ?_;intro gb257 hg w27 hbox hb;have n0_:=a_ (bS_ (bel_) hb);have n1_:=a_ (hbox);have n2_:=a_ ((by rw [hg];exact (below_size (bel_)):w.heap.size≤gb257));have n3_:=a_ ((by rw [hg];exact (below_size (bel_)):w.heap.size≤gb257));clear HB;have HB:=n0_;have BK257:=n1_;have GW257:=n2_;have GE257:=n3_;clear n0_ n1_ n2_ n3_;clear hb hbox hg;obtain ⟨Z28_0,Z28_1,Z28_2,Z28_3,Z28_4,Y28_0,Y28_1,Y28_2,Y28_3,Y28_4⟩:=op5_ BK257.out)|((with_reducible refine gC_ (f:=145) rfl ?_);refine gl_ 16 Tryd.func145 #[.slice A0 l0.length c0,.int .i64 a1_1] ?_;(with_reducible refine (spec_l2At.calls k _ _ l0 a1_1 t258 _ ?side1 ?side2 A3.out).mono ?_);(case side1=>exact cp_ HR0.out);(case side2=>exact HC0.out);rintro e w' ⟨rfl,⟨nd,rfl⟩⟩;refine ⟨_,rfl,?_⟩)|((with_reducible refine gC_ (f:=146) rfl ?_);refine gl_ 35 Tryd.func146 #[.slice A0 l0.length c0,.agg #[.int .i64 a1_0,.int .i64 a1_1,.int .i64 a1_2,.int .i64 a1_3,.string a1_4]] ?_;(with_reducible refine (spec_l3Where.calls k _ _ l0 a1_0 a1_1 a1_2 a1_3 a1_4 t266 t267 true _ ?side1 ?side2 A23.out).mono ?_);(case side1=>repeat (first|exact (Kd.C_below HR0.out (bel_))|(with_reducible refine Kd.C_alloc ?_ _)|(with_reducible refine Kd.C_drewN ?_ _)|(with_reducible refine Kd.C_drew ?_)));(case side2=>exact HC0.out);rintro e w29 ⟨rfl,hb⟩;refine ⟨_,rfl,?_⟩;replace HB:=a_ (bS_ (bel_) hb);replace BK257:=a_ (bb_ BK257.out hb);(try clear hb);obtain ⟨Z30_0,Z30_1,Z30_2,Z30_3,Z30_4,Y30_0,Y30_1,Y30_2,Y30_3,Y30_4⟩:=op5_ BK257.out)|((with_reducible refine gD_ (N:=53) rfl ?_);refine Kd.R_lit k69 _ 69 ?hg (N:=53) ?hd (xs:=([(⟨a1_1,0,a1_4⟩:S69)]:List (S69))) (inner:=[.int .i64 a1_1,.int .i64 0,.string a1_4]) (ok:=fun _=>True) (okp:=fun _=>True) ?hr ?hp (fun _ hk=>hk) trivial (Below.refl _ _) (Nat.le_refl _) (by simp) ?_;(case hd=>rfl);(case hg=>rfl);(case hr=>first|(go_simp;done)|(go_simp;rfl));(case hp=>exact (Reps.c3 (show Kd.M k69 _ _ _ (⟨a1_1,0,a1_4⟩:S69) [.int .i64 a1_1,.int .i64 0,.string a1_4] from (k69_mkM _ _ _ (⟨a1_1,0,a1_4⟩:S69) )) (Reps.none _ _)));intro v276 w31 ho32 hb hg_ hnew_;clear hg_ hnew_;(first|rw [←Ny275.out] at ho32|(simp only [Int.reduceToNat] at ho32;rw [←Ny275.out] at ho32));have HO277:=a_ (Kd.R_lower ho32 (below_size (bel_)));replace HB:=a_ (bS_ (bel_) hb);replace BK257:=a_ (bb_ BK257.out hb);clear hb ho32;obtain ⟨Ao33,co33,eo33⟩:=Kd.R_slice HO277.out;subst eo33)|((with_reducible refine gC_ (f:=147) rfl ?_);refine gl_ 56 Tryd.func147 #[.slice A0 l0.length c0,.slice Ao33 y275.length co33,.int .i64 t266,.int .i64 t267] ?_;(with_reducible refine (spec_l3Put.calls k _ _ l0 _ _ y275 t266 t267 t278 _ ?side1 ?side2 ?side3 ?side4 A26.out).mono ?_);(case side1=>exact cp_ HR0.out);(case side2=>exact HC0.out);(case side3=>exact cx_ (Kd.R_reads' HO277.out).2.2);(case side4=>exact (Kd.R_reads' HO277.out).2.1);rintro e w34 ⟨v279,rfl,ho0,hb⟩;refine ⟨_,rfl,?_⟩;have HO280:=a_ (Kd.R_lower (Kd.R_new' ho0 (Kd.R_lt (rp_ HO277.out))) (below_size (bel_)));replace HO277:=a_ (Kd.R_elder' (rp_ HO277.out) (Kd.R_base ho0) hb);replace HB:=a_ (bS_ (bel_) hb);replace BK257:=a_ (bb_ BK257.out hb);(try clear hb ho0)))
    go_ret
    exact ⟨_,fi_,by (with_reducible repeat (first|apply Kd.R_alloc|apply Kd.R_drewN|apply Kd.R_drew));exact Kd.R_mono HO280.out (fun _ hk=>trivial),bel_⟩
   ·rw [if_neg c25] at H
    have c25b0:(a1_0==1)=false:=bn_ c25
    have c25b1:(a1_0 != 1)=true:=bne_iff_ne.mpr c25
    replace H:=bs_ H
    obtain ⟨t281,A350,H⟩:=H
    try dsimp only at H
    have A35:=a_ A350
    clear A350
    obtain ⟨y282,hy282⟩:∃ y_:List (S69),y_=(([]:List (S69))):=⟨_,rfl⟩
    replace H:(if 0≤t258 then (if t258≤t281 then (if t281≤(l0.length:Int) then ((some ((l0.take (t281:Int).toNat).drop (t258:Int).toNat:List (S69))).bind fun y285=>(if y282.length+y285.length < 4398046511104 then ((some (([]:List (S69)):List (S69))).bind fun y292=>(if t258≤(l0.length:Int) then ((some (l0.take (t258:Int).toNat:List (S69))).bind fun y295=>(if y292.length+y295.length < 4398046511104 then ((some (y292++y295:List (S69))).bind fun y299=>(if 0≤t281 then ((some (l0.drop (t281:Int).toNat:List (S69))).bind fun y302=>(if y299.length+y302.length < 4398046511104 then ((spec_l3Put.f k (y299++y302) (y282++y285) t266 t267).bind fun t309=>(some t309)) else (none))) else (none))) else (none))) else (none))) else (none))) else (none)) else (none)) else (none))=some r:=by first|(rw [hy282];with_reducible exact H)|(have H2_:=(Option.bind_some _ _).symm.trans H;rw [hy282];with_reducible exact H2_)|(have H2_:=(Option.bind_some _ _).symm.trans H;with_reducible exact H2_)|with_reducible exact H|(rw [hy282];exact H)|exact H
    have Ny282:=a_ hy282
    clear hy282
    by_cases c36:0≤t258
    ·rw [if_pos c36] at H
     have c36b0:=eq_true c36
     have c36b1:decide (0≤t258)=true:=dt_ c36
     clear c36
     by_cases c37:t258≤t281
     ·rw [if_pos c37] at H
      have c37b0:=eq_true c37
      have c37b1:decide (t258≤t281)=true:=dt_ c37
      clear c37
      by_cases c38:t281≤(l0.length:Int)
      ·rw [if_pos c38] at H
       have c38b0:=eq_true c38
       have c38b1:decide (t281≤(l0.length:Int))=true:=dt_ c38
       clear c38
       obtain ⟨y285,hy285⟩:∃ y_:List (S69),y_=((l0.take (t281:Int).toNat).drop (t258:Int).toNat):=⟨_,rfl⟩
       replace H:(if y282.length+y285.length < 4398046511104 then ((some (([]:List (S69)):List (S69))).bind fun y292=>(if t258≤(l0.length:Int) then ((some (l0.take (t258:Int).toNat:List (S69))).bind fun y295=>(if y292.length+y295.length < 4398046511104 then ((some (y292++y295:List (S69))).bind fun y299=>(if 0≤t281 then ((some (l0.drop (t281:Int).toNat:List (S69))).bind fun y302=>(if y299.length+y302.length < 4398046511104 then ((spec_l3Put.f k (y299++y302) (y282++y285) t266 t267).bind fun t309=>(some t309)) else (none))) else (none))) else (none))) else (none))) else (none))=some r:=by first|(rw [hy285];with_reducible exact H)|(have H2_:=(Option.bind_some _ _).symm.trans H;rw [hy285];with_reducible exact H2_)|(have H2_:=(Option.bind_some _ _).symm.trans H;with_reducible exact H2_)|with_reducible exact H|(rw [hy285];exact H)|exact H
       have Ny285:=a_ hy285
       clear hy285
       by_cases c39:y282.length+y285.length < 4398046511104
       ·rw [if_pos c39] at H
        have LMc39:=a_ c39
        clear c39
        obtain ⟨y289,hy289⟩:∃ y_:List (S69),y_=(y282++y285):=⟨_,rfl⟩
        replace H:((some (([]:List (S69)):List (S69))).bind fun y292=>(if t258≤(l0.length:Int) then ((some (l0.take (t258:Int).toNat:List (S69))).bind fun y295=>(if y292.length+y295.length < 4398046511104 then ((some (y292++y295:List (S69))).bind fun y299=>(if 0≤t281 then ((some (l0.drop (t281:Int).toNat:List (S69))).bind fun y302=>(if y299.length+y302.length < 4398046511104 then ((spec_l3Put.f k (y299++y302) y289 t266 t267).bind fun t309=>(some t309)) else (none))) else (none))) else (none))) else (none)))=some r:=by first|(rw [hy289];with_reducible exact H)|(have H2_:=(Option.bind_some _ _).symm.trans H;rw [hy289];with_reducible exact H2_)|(have H2_:=(Option.bind_some _ _).symm.trans H;with_reducible exact H2_)|with_reducible exact H|(rw [hy289];exact H)|exact H
        have Ny289:=a_ hy289
        clear hy289
        obtain ⟨y292,hy292⟩:∃ y_:List (S69),y_=(([]:List (S69))):=⟨_,rfl⟩
        replace H:(if t258≤(l0.length:Int) then ((some (l0.take (t258:Int).toNat:List (S69))).bind fun y295=>(if y292.length+y295.length < 4398046511104 then ((some (y292++y295:List (S69))).bind fun y299=>(if 0≤t281 then ((some (l0.drop (t281:Int).toNat:List (S69))).bind fun y302=>(if y299.length+y302.length < 4398046511104 then ((spec_l3Put.f k (y299++y302) y289 t266 t267).bind fun t309=>(some t309)) else (none))) else (none))) else (none))) else (none))=some r:=by first|(rw [hy292];with_reducible exact H)|(have H2_:=(Option.bind_some _ _).symm.trans H;rw [hy292];with_reducible exact H2_)|(have H2_:=(Option.bind_some _ _).symm.trans H;with_reducible exact H2_)|with_reducible exact H|(rw [hy292];exact H)|exact H
        have Ny292:=a_ hy292
        clear hy292
        have c40b0:=eq_true (od_:0≤t258)
        by_cases c41:t258≤(l0.length:Int)
        ·rw [if_pos c41] at H
         have c41b0:=eq_true c41
         have c41b1:decide (t258≤(l0.length:Int))=true:=dt_ c41
         clear c41
         obtain ⟨y295,hy295⟩:∃ y_:List (S69),y_=(l0.take (t258:Int).toNat):=⟨_,rfl⟩
         replace H:(if y292.length+y295.length < 4398046511104 then ((some (y292++y295:List (S69))).bind fun y299=>(if 0≤t281 then ((some (l0.drop (t281:Int).toNat:List (S69))).bind fun y302=>(if y299.length+y302.length < 4398046511104 then ((spec_l3Put.f k (y299++y302) y289 t266 t267).bind fun t309=>(some t309)) else (none))) else (none))) else (none))=some r:=by first|(rw [hy295];with_reducible exact H)|(have H2_:=(Option.bind_some _ _).symm.trans H;rw [hy295];with_reducible exact H2_)|(have H2_:=(Option.bind_some _ _).symm.trans H;with_reducible exact H2_)|with_reducible exact H|(rw [hy295];exact H)|exact H
         have Ny295:=a_ hy295
         clear hy295
         by_cases c42:y292.length+y295.length < 4398046511104
         ·rw [if_pos c42] at H
          have LMc42:=a_ c42
          clear c42
          obtain ⟨y299,hy299⟩:∃ y_:List (S69),y_=(y292++y295):=⟨_,rfl⟩
          replace H:(if 0≤t281 then ((some (l0.drop (t281:Int).toNat:List (S69))).bind fun y302=>(if y299.length+y302.length < 4398046511104 then ((spec_l3Put.f k (y299++y302) y289 t266 t267).bind fun t309=>(some t309)) else (none))) else (none))=some r:=by first|(rw [hy299];with_reducible exact H)|(have H2_:=(Option.bind_some _ _).symm.trans H;rw [hy299];with_reducible exact H2_)|(have H2_:=(Option.bind_some _ _).symm.trans H;with_reducible exact H2_)|with_reducible exact H|(rw [hy299];exact H)|exact H
          have Ny299:=a_ hy299
          clear hy299
          by_cases c43:0≤t281
          ·rw [if_pos c43] at H
           have c43b0:=eq_true c43
           have c43b1:decide (0≤t281)=true:=dt_ c43
           clear c43
           have c44b0:=eq_true (od_:t281≤(l0.length:Int))
           obtain ⟨y302,hy302⟩:∃ y_:List (S69),y_=(l0.drop (t281:Int).toNat):=⟨_,rfl⟩
           replace H:(if y299.length+y302.length < 4398046511104 then ((spec_l3Put.f k (y299++y302) y289 t266 t267).bind fun t309=>(some t309)) else (none))=some r:=by first|(rw [hy302];with_reducible exact H)|(have H2_:=(Option.bind_some _ _).symm.trans H;rw [hy302];with_reducible exact H2_)|(have H2_:=(Option.bind_some _ _).symm.trans H;with_reducible exact H2_)|with_reducible exact H|(rw [hy302];exact H)|exact H
           have Ny302:=a_ hy302
           clear hy302
           by_cases c45:y299.length+y302.length < 4398046511104
           ·rw [if_pos c45] at H
            have LMc45:=a_ c45
            clear c45
            obtain ⟨y306,hy306⟩:∃ y_:List (S69),y_=(y299++y302):=⟨_,rfl⟩
            replace H:((spec_l3Put.f k y306 y289 t266 t267).bind fun t309=>(some t309))=some r:=by first|(rw [hy306];with_reducible exact H)|(have H2_:=(Option.bind_some _ _).symm.trans H;rw [hy306];with_reducible exact H2_)|(have H2_:=(Option.bind_some _ _).symm.trans H;with_reducible exact H2_)|with_reducible exact H|(rw [hy306];exact H)|exact H
            have Ny306:=a_ hy306
            clear hy306
            replace H:=bs_ H
            obtain ⟨t309,A460,H⟩:=H
            try dsimp only at H
            have A46:=a_ A460
            clear A460
            obtain rfl:=sj_ H
            go_enter Tryd.func125,Tryd.ntmps125
            try go_wp2_with (first|((with_reducible refine gD_ (N:=3) rfl ?_);refine bx_ 3 (#[.int .i64 a1_0,.int .i64 a1_1,.int .i64 a1_2,.int .i64 a1_3,.string a1_4]) 42 ?_;intro gb257 hg w47 hbox hb;have n0_:=a_ (bS_ (bel_) hb);have n1_:=a_ (hbox);have n2_:=a_ ((by rw [hg];exact (below_size (bel_)):w.heap.size≤gb257));have n3_:=a_ ((by rw [hg];exact (below_size (bel_)):w.heap.size≤gb257));clear HB;have HB:=n0_;have BK257:=n1_;have GW257:=n2_;have GE257:=n3_;clear n0_ n1_ n2_ n3_;clear hb hbox hg;obtain ⟨Z48_0,Z48_1,Z48_2,Z48_3,Z48_4,Y48_0,Y48_1,Y48_2,Y48_3,Y48_4⟩:=op5_ BK257.out)|((with_reducible refine gC_ (f:=145) rfl ?_);refine gl_ 16 Tryd.func145 #[.slice A0 l0.length c0,.int .i64 a1_1] ?_;(with_reducible refine (spec_l2At.calls k _ _ l0 a1_1 t258 _ ?side1 ?side2 A3.out).mono ?_);(case side1=>exact cp_ HR0.out);(case side2=>exact HC0.out);rintro e w' ⟨rfl,⟨nd,rfl⟩⟩;refine ⟨_,rfl,?_⟩)|((with_reducible refine gC_ (f:=146) rfl ?_);refine gl_ 35 Tryd.func146 #[.slice A0 l0.length c0,.agg #[.int .i64 a1_0,.int .i64 a1_1,.int .i64 a1_2,.int .i64 a1_3,.string a1_4]] ?_;(with_reducible refine (spec_l3Where.calls k _ _ l0 a1_0 a1_1 a1_2 a1_3 a1_4 t266 t267 true _ ?side1 ?side2 A23.out).mono ?_);(case side1=>repeat (first|exact (Kd.C_below HR0.out (bel_))|(with_reducible refine Kd.C_alloc ?_ _)|(with_reducible refine Kd.C_drewN ?_ _)|(with_reducible refine Kd.C_drew ?_)));(case side2=>exact HC0.out);rintro e w49 ⟨rfl,hb⟩;refine ⟨_,rfl,?_⟩;replace HB:=a_ (bS_ (bel_) hb);replace BK257:=a_ (bb_ BK257.out hb);(try clear hb);obtain ⟨Z50_0,Z50_1,Z50_2,Z50_3,Z50_4,Y50_0,Y50_1,Y50_2,Y50_3,Y50_4⟩:=op5_ BK257.out)|((with_reducible refine gC_ (f:=148) rfl ?_);refine gl_ 59 Tryd.func148 #[.slice A0 l0.length c0,.int .i64 t258] ?_;(with_reducible refine (spec_l2End.calls k _ _ l0 t258 t281 _ ?side1 ?side2 A35.out).mono ?_);(case side1=>exact cp_ HR0.out);(case side2=>exact HC0.out);rintro e w' ⟨rfl,⟨nd,rfl⟩⟩;refine ⟨_,rfl,?_⟩)|((with_reducible refine gD_ (N:=60) rfl ?_);refine Kd.R_lit k69 _ 69 ?hg (N:=60) ?hd (xs:=([]:List (S69))) (inner:=[]) (ok:=fun _=>True) (okp:=fun _=>True) ?hr ?hp (fun _ hk=>hk) trivial (Below.refl _ _) (Nat.le_refl _) (by simp) ?_;(case hd=>rfl);(case hg=>rfl);(case hr=>first|(go_simp;done)|(go_simp;rfl));(case hp=>exact (Reps.none _ _));intro v283 w51 ho52 hb hg_ hnew_;clear hg_ hnew_;(first|rw [←Ny282.out] at ho52|(simp only [Int.reduceToNat] at ho52;rw [←Ny282.out] at ho52));have HO284:=a_ (Kd.R_lower ho52 (below_size (bel_)));replace HB:=a_ (bS_ (bel_) hb);replace BK257:=a_ (bb_ BK257.out hb);clear hb ho52;have q53:(t281:Int)≤((l0.length:Int):Int):=od_;obtain ⟨i053,hi053,_,hsz53,_⟩:=info_parts info69;have hroom53:l0.length≤c0:=HC0.out;have hC53:Kd.C k69 _ A0 l0.length l0:=HR0.out;have ql53:(t258:Int)≤(t281:Int):=od_;have q053:(0:Int)≤(t258:Int):=od_;have hcut53:=cut_mid (P:=Tryd.prog) 62 69 .i64 .i64 Tryd.underlying62 hi053 3 hsz53 A0 l0.length c0 t258 t281 q053 ql53 q53 hroom53;have hr53:=Kd.C_mid (lo:=(t258:Int).toNat) (hi:=(t281:Int).toNat) (c:=c0) hC53 (by omega) (by omega) hroom53;obtain ⟨A53,hA53⟩:∃ A1,A1=(if c0=(t258:Int).toNat then A0 else (A0:Option Addr).map (·.add ((t258:Int).toNat * 3))):=⟨_,rfl⟩;obtain ⟨c53,hc53⟩:∃ c1,c1=c0 - (t258:Int).toNat:=⟨_,rfl⟩;have hy53:y285.length=(t281:Int).toNat - (t258:Int).toNat:=(by rw [Ny285.out,List.length_drop,List.length_take] <;> omega);rw [show ((l0).take (t281:Int).toNat).drop (t258:Int).toNat=y285 from Ny285.out.symm] at hr53;replace hr53:Kd.C k69 _ A53 y285.length y285:=(by rw [hA53];exact hr53);rw [←hy53,←hA53,←hc53] at hcut53;have HR288:=a_ hr53;have HC288:=a_ (show y285.length≤c53 from by rw [hy53,hc53];exact Nat.sub_le_sub_right (Nat.le_trans (by omega) hroom53) _);clear hr53 hC53 hroom53 hi053 hsz53 hc53;have KY53:=a_ hy53;have KA53:=a_ hA53;clear hy53 hA53;replace q53:=eq_true q53)|((with_reducible refine gate_builtin (b:=.append) (xs:=#[.tmp 60,.tmp 64]) rfl ?_);at_builtin;refine Kd.R_append_rows k69 (w0:=w) w.heap.size rfl (.tmp 60) (.tmp 64) 62 69 (.agg #[(.int .i64 0),(.int .i64 0),(.string ⟨#[]⟩)]) 32 rfl Tryd.underlying62 info69 rfl (by decide) (by omega) v283 y282 y285 _ _ _ (fun _=>True) (fun _=>False) rfl rfl ?aO ?aR (fun _ _ h=>h) (fun _ h=>h.elim) ?aF ?aB ?aS ?aL ?_;(case aR=>exact cx_ (Kd.C_below HR288.out HB.out));(case aB=>exact (bel_));(case aF=>exact (fun _ _=>trivial));(case aO=>exact (rp_ HO284.out));(case aS=>exact (below_size (bel_)));(case aL=>have:=LMc39.out;omega);intro v290 w54 ho hb hg hat;rw [←Ny289.out] at ho;replace BK257:=a_ (blk_grown (g:=gb257) (o:=.cells #[.int .i64 a1_0,.int .i64 a1_1,.int .i64 a1_2,.int .i64 a1_3,.string a1_4] 42 (0,0)) (bp_ BK257.out) hg (Kd.R_ne HO284.out BK257.out (by decide)));replace HB:=a_ (hb);have HO291:=a_ (ho);clear HO284;clear ho hb hg hat))
            have n0_:=a_ (Kd.R_drew HO291.out)
            have n1_:=a_ (bD_ BK257.out)
            have n2_:=a_ (below_drew1 HB.out)
            clear HO291
            clear BK257
            clear HB
            have HO291:=n0_
            have BK257:=n1_
            have HB:=n2_
            clear n0_ n1_ n2_
            have q56:(t258:Int)≤((l0.length:Int):Int):=od_
            obtain ⟨i056,hi056,_,hsz56,_⟩:=info_parts info69
            have hroom56:l0.length≤c0:=HC0.out
            have hC56:Kd.C k69 _ A0 l0.length l0:=HR0.out
            have hcut56:=cut_to (P:=Tryd.prog) 62 69 .i64 Tryd.underlying62 hi056 A0 l0.length c0 t258 (od_) q56 hroom56
            have hr56:=Kd.C_take (m:=(t258:Int).toNat) hC56 (by omega)
            have hy56:y295.length=(t258:Int).toNat:=(by rw [Ny295.out,List.length_take];omega)
            rw [←Ny295.out] at hr56
            rw [←hy56] at hcut56
            have HR298:=a_ hr56
            have HC298:=a_ (show y295.length≤c0 from by omega)
            clear hr56 hC56 hroom56 hi056 hsz56
            have KY56:=a_ hy56
            clear hy56
            replace q56:=eq_true q56
            have q57:(t281:Int)≤((l0.length:Int):Int):=od_
            obtain ⟨i057,hi057,_,hsz57,_⟩:=info_parts info69
            have hroom57:l0.length≤c0:=HC0.out
            have hC57:Kd.C k69 _ A0 l0.length l0:=HR0.out
            have q057:(0:Int)≤(t281:Int):=od_
            have hcut57:=cut_from (P:=Tryd.prog) 62 69 .i64 Tryd.underlying62 hi057 3 hsz57 A0 l0.length c0 t281 q057 q57
            have hr57:=Kd.C_drop (m:=(t281:Int).toNat) (c:=c0) hC57 (by omega) hroom57
            obtain ⟨A57,hA57⟩:∃ A1,A1=(if c0=(t281:Int).toNat then A0 else (A0:Option Addr).map (·.add ((t281:Int).toNat * 3))):=⟨_,rfl⟩
            obtain ⟨c57,hc57⟩:∃ c1,c1=c0 - (t281:Int).toNat:=⟨_,rfl⟩
            have hy57:y302.length=l0.length - (t281:Int).toNat:=(by rw [Ny302.out,List.length_drop] <;> omega)
            rw [show (l0).drop (t281:Int).toNat=y302 from Ny302.out.symm] at hr57
            replace hr57:Kd.C k69 _ A57 y302.length y302:=(by rw [hA57];exact hr57)
            rw [←hy57,←hA57,←hc57] at hcut57
            have HR305:=a_ hr57
            have HC305:=a_ (show y302.length≤c57 from by rw [hy57,hc57];exact Nat.sub_le_sub_right hroom57 _)
            clear hr57 hC57 hroom57 hi057 hsz57 hc57
            have KY57:=a_ hy57
            have KA57:=a_ hA57
            clear hy57 hA57
            replace q57:=eq_true q57
            refine start_ (n:=10) (S:=fun w'=>True) (ds:=[]) #[false,false,false,false,false,false,false,false,false,false] (by kernel_rfl) rfl rfl trivial (fun hHeld=>?_);refine with_tabW spec_l3Do.tab14 spec_l3Do.bits14 (fun HT_ HW_=>?_)
            generalize w54.drew=w55 at HO291 BK257 HB HR298 HR305 hHeld ⊢
            refine pa_ 1 67 ?_
            refine pa_ 2 68 ?_
            refine pa_ 3 69 ?_
            refine pa_ 5 71 ?_
            refine pa_ 6 72 ?_
            refine pa_ 7 73 ?_
            refine on_ 0 66 (fun K hK=>?_)
            refine Kd.R_lit_step k69 _ 69 ?hg (N:=66) ?hd (xs:=([]:List (S69))) (inner:=[]) (ok:=fun _=>True) (okp:=fun _=>True) ?hr ?hp (fun _ hk=>hk) trivial (Below.refl _ _) (Nat.le_refl _) (by simp) ?_;(case hd=>rfl);(case hg=>rfl);(case hr=>first|(go_simp;done)|(go_simp;rfl));(case hp=>exact (Reps.none _ _))
            intro v293 w58 ho59 hb hg_ hnew_
            clear hg_ hnew_
            (first|rw [←Ny292.out] at ho59|(simp only [Int.reduceToNat] at ho59;rw [←Ny292.out] at ho59))
            have n0_:=a_ (Kd.R_elder' (rp_ HO291.out) (Kd.R_base ho59) hb)
            have n1_:=a_ (Kd.R_lower (Kd.R_new' ho59 (Kd.R_lt (rp_ HO291.out))) (below_size (bel_)))
            have n2_:=a_ (bb_ BK257.out hb)
            have n3_:=a_ (bS_ (bel_) hb)
            clear HO291
            clear BK257
            clear HB
            have HO291:=n0_
            have HO294:=n1_
            have BK257:=n2_
            have HB:=n3_
            clear n0_ n1_ n2_ n3_
            clear hb ho59
            refine hK.out _ _ trivial (fun hHeld=>?_)
            clear hK K
            refine no_ 66 ?_
            refine on_ 4 70 (fun K hK=>?_)
            refine Kd.R_append_rows_step k69 (w0:=w) w.heap.size (by rfl) (.tmp 66) (.tmp 69) 62 69 (.agg #[(.int .i64 0),(.int .i64 0),(.string ⟨#[]⟩)]) 32 rfl Tryd.underlying62 info69 rfl (by decide) (by omega) v293 y292 y295 _ _ _ (fun k_=>some k_≠(v290:Value).ownBlock) (fun _=>False) rfl rfl ?aO ?aR (fun _ _ h=>h) (fun _ h=>h.elim) ?aF ?aB ?aS ?aL ?_
            (case aR=>exact cx_ (Kd.C_below HR298.out HB.out))
            (case aB=>exact (bel_))
            (case aF=>exact (fun k_ hk=>Kd.fresh' (Kd.R_lt (rp_ HO291.out)) k_ hk))
            (case aO=>exact (by (with_reducible repeat (first|apply Kd.R_alloc|apply Kd.R_drewN|apply Kd.R_drew));exact Kd.R_mono HO294.out (fun _ hk=>hk.2)))
            (case aS=>exact (below_size (bel_)))
            (case aL=>have:=LMc42.out;omega)
            intro v300 w60 ho hb hg hat
            rw [←Ny299.out] at ho
            have n0_:=a_ (blk_grown (g:=gb257) (o:=.cells #[.int .i64 a1_0,.int .i64 a1_1,.int .i64 a1_2,.int .i64 a1_3,.string a1_4] 42 (0,0)) (bp_ BK257.out) hg (Kd.R_ne HO294.out BK257.out (by decide)))
            have n1_:=a_ (Kd.R_after (ok:=(fun _=>True)) (rp_ HO291.out) hg hat)
            have n2_:=a_ (hb)
            have n3_:=a_ (ho)
            clear BK257
            clear HO291
            clear HB
            clear HO294
            have BK257:=n0_
            have HO291:=n1_
            have HB:=n2_
            have HO301:=n3_
            clear n0_ n1_ n2_ n3_
            clear ho hb hg hat
            refine hK.out _ _ trivial (fun hHeld=>?_)
            clear hK K
            refine no_ 70 ?_
            refine on_ 8 74 (fun K hK=>?_)
            refine Kd.R_append_rows_step k69 (w0:=w) w.heap.size (by rfl) (.tmp 70) (.tmp 73) 62 69 (.agg #[(.int .i64 0),(.int .i64 0),(.string ⟨#[]⟩)]) 32 rfl Tryd.underlying62 info69 rfl (by decide) (by omega) v300 y299 y302 _ _ _ (fun k_=>some k_≠(v290:Value).ownBlock) (fun _=>False) rfl rfl ?aO ?aR (fun _ _ h=>h) (fun _ h=>h.elim) ?aF ?aB ?aS ?aL ?_
            (case aR=>exact cx_ (Kd.C_below HR305.out HB.out))
            (case aB=>exact (bel_))
            (case aF=>exact (fun k_ hk=>Kd.fresh' (Kd.R_lt (rp_ HO291.out)) k_ hk))
            (case aO=>exact (rp_ HO301.out))
            (case aS=>exact (below_size (bel_)))
            (case aL=>have:=LMc45.out;omega)
            intro v307 w61 ho hb hg hat
            rw [←Ny306.out] at ho
            have n0_:=a_ (blk_grown (g:=gb257) (o:=.cells #[.int .i64 a1_0,.int .i64 a1_1,.int .i64 a1_2,.int .i64 a1_3,.string a1_4] 42 (0,0)) (bp_ BK257.out) hg (Kd.R_ne HO301.out BK257.out (by decide)))
            have n1_:=a_ (Kd.R_after (ok:=(fun _=>True)) (rp_ HO291.out) hg hat)
            have n2_:=a_ (hb)
            have n3_:=a_ (ho)
            clear BK257
            clear HO291
            clear HB
            clear HO301
            have BK257:=n0_
            have HO291:=n1_
            have HB:=n2_
            have HO308:=n3_
            clear n0_ n1_ n2_ n3_
            clear ho hb hg hat
            refine hK.out _ _ trivial (fun hHeld=>?_)
            clear hK K
            refine no_ 74 ?_
            refine pa_ 9 12 ?_
            refine done_ (done_of HT_.out (by kernel_rfl)) ?_
            obtain ⟨Ao62,co62,eo62⟩:=Kd.R_slice HO308.out
            subst eo62
            obtain ⟨Ao63,co63,eo63⟩:=Kd.R_slice HO291.out
            subst eo63
            try go_wp2_with (first|((with_reducible refine gC_ (f:=147) rfl ?_);refine gl_ 79 Tryd.func147 #[.slice Ao62 y306.length co62,.slice Ao63 y289.length co63,.int .i64 t266,.int .i64 t267] ?_;(with_reducible refine (spec_l3Put.calls k _ _ y306 _ _ y289 t266 t267 t309 _ ?side1 ?side2 ?side3 ?side4 A46.out).mono ?_);(case side1=>exact cx_ (Kd.R_reads' HO308.out).2.2);(case side2=>exact (Kd.R_reads' HO308.out).2.1);(case side3=>exact cx_ (Kd.R_reads' HO291.out).2.2);(case side4=>exact (Kd.R_reads' HO291.out).2.1);rintro e w64 ⟨v310,rfl,ho0,hb⟩;refine ⟨_,rfl,?_⟩;have HO311:=a_ (Kd.R_lower (Kd.R_new' (Kd.R_new' ho0 (Kd.R_lt (rp_ HO291.out))) (Kd.R_lt (rp_ HO308.out))) (below_size (bel_)));replace HO291:=a_ (Kd.R_elder' (rp_ HO291.out) (Kd.R_base ho0) hb);replace HO308:=a_ (Kd.R_elder' (rp_ HO308.out) (Kd.R_base ho0) hb);replace HB:=a_ (bS_ (bel_) hb);replace BK257:=a_ (bb_ BK257.out hb);(try clear hb ho0)))
            go_ret
            exact ⟨_,fi_,by (with_reducible repeat (first|apply Kd.R_alloc|apply Kd.R_drewN|apply Kd.R_drew));exact Kd.R_mono HO311.out (fun _ hk=>trivial),bel_⟩
           ·rw [if_neg c45] at H
            exact absurd H (by simp)
          ·rw [if_neg c43] at H
           exact absurd H (by simp)
         ·rw [if_neg c42] at H
          exact absurd H (by simp)
        ·rw [if_neg c41] at H
         exact absurd H (by simp)
       ·rw [if_neg c39] at H
        exact absurd H (by simp)
      ·rw [if_neg c38] at H
       exact absurd H (by simp)
     ·rw [if_neg c37] at H
      exact absurd H (by simp)
    ·rw [if_neg c36] at H
     exact absurd H (by simp)
  ·replace c24:=Bool.eq_false_iff.mpr c24
   subst c24
   have H1:((some (([]:List (S69)):List (S69))).bind fun y269=>(if y269.length+l0.length < 4398046511104 then (some (y269++l0)) else (none)))=some r:=by rw [if_neg (show ¬ (false=true) by decide)] at H;exact H
   clear H
   have H:=H1
   clear H1
   obtain ⟨y269,hy269⟩:∃ y_:List (S69),y_=(([]:List (S69))):=⟨_,rfl⟩
   replace H:(if y269.length+l0.length < 4398046511104 then (some (y269++l0)) else (none))=some r:=by first|(rw [hy269];with_reducible exact H)|(have H2_:=(Option.bind_some _ _).symm.trans H;rw [hy269];with_reducible exact H2_)|(have H2_:=(Option.bind_some _ _).symm.trans H;with_reducible exact H2_)|with_reducible exact H|(rw [hy269];exact H)|exact H
   have Ny269:=a_ hy269
   clear hy269
   by_cases c65:y269.length+l0.length < 4398046511104
   ·rw [if_pos c65] at H
    have LMc65:=a_ c65
    clear c65
    obtain ⟨y272,hy272⟩:∃ y_:List (S69),y_=(y269++l0):=⟨_,rfl⟩
    replace H:(some y272)=some r:=by first|(rw [hy272];with_reducible exact H)|(have H2_:=(Option.bind_some _ _).symm.trans H;rw [hy272];with_reducible exact H2_)|(have H2_:=(Option.bind_some _ _).symm.trans H;with_reducible exact H2_)|with_reducible exact H|(rw [hy272];exact H)|exact H
    have Ny272:=a_ hy272
    clear hy272
    obtain rfl:=sj_ H
    go_enter Tryd.func125,Tryd.ntmps125
    go_wp2_with (first|((with_reducible refine gD_ (N:=3) rfl ?_);refine bx_ 3 (#[.int .i64 a1_0,.int .i64 a1_1,.int .i64 a1_2,.int .i64 a1_3,.string a1_4]) 42 ?_;intro gb257 hg w66 hbox hb;have n0_:=a_ (bS_ (bel_) hb);have n1_:=a_ (hbox);have n2_:=a_ ((by rw [hg];exact (below_size (bel_)):w.heap.size≤gb257));have n3_:=a_ ((by rw [hg];exact (below_size (bel_)):w.heap.size≤gb257));clear HB;have HB:=n0_;have BK257:=n1_;have GW257:=n2_;have GE257:=n3_;clear n0_ n1_ n2_ n3_;clear hb hbox hg;obtain ⟨Z67_0,Z67_1,Z67_2,Z67_3,Z67_4,Y67_0,Y67_1,Y67_2,Y67_3,Y67_4⟩:=op5_ BK257.out)|((with_reducible refine gC_ (f:=145) rfl ?_);refine gl_ 16 Tryd.func145 #[.slice A0 l0.length c0,.int .i64 a1_1] ?_;(with_reducible refine (spec_l2At.calls k _ _ l0 a1_1 t258 _ ?side1 ?side2 A3.out).mono ?_);(case side1=>exact cp_ HR0.out);(case side2=>exact HC0.out);rintro e w' ⟨rfl,⟨nd,rfl⟩⟩;refine ⟨_,rfl,?_⟩)|((with_reducible refine gC_ (f:=146) rfl ?_);refine gl_ 35 Tryd.func146 #[.slice A0 l0.length c0,.agg #[.int .i64 a1_0,.int .i64 a1_1,.int .i64 a1_2,.int .i64 a1_3,.string a1_4]] ?_;(with_reducible refine (spec_l3Where.calls k _ _ l0 a1_0 a1_1 a1_2 a1_3 a1_4 t266 t267 false _ ?side1 ?side2 A23.out).mono ?_);(case side1=>repeat (first|exact (Kd.C_below HR0.out (bel_))|(with_reducible refine Kd.C_alloc ?_ _)|(with_reducible refine Kd.C_drewN ?_ _)|(with_reducible refine Kd.C_drew ?_)));(case side2=>exact HC0.out);rintro e w68 ⟨rfl,hb⟩;refine ⟨_,rfl,?_⟩;replace HB:=a_ (bS_ (bel_) hb);replace BK257:=a_ (bb_ BK257.out hb);(try clear hb))|((with_reducible refine gD_ (N:=41) rfl ?_);refine Kd.R_lit k69 _ 69 ?hg (N:=41) ?hd (xs:=([]:List (S69))) (inner:=[]) (ok:=fun _=>True) (okp:=fun _=>True) ?hr ?hp (fun _ hk=>hk) trivial (Below.refl _ _) (Nat.le_refl _) (by simp) ?_;(case hd=>rfl);(case hg=>rfl);(case hr=>first|(go_simp;done)|(go_simp;rfl));(case hp=>exact (Reps.none _ _));intro v270 w69 ho70 hb hg_ hnew_;clear hg_ hnew_;(first|rw [←Ny269.out] at ho70|(simp only [Int.reduceToNat] at ho70;rw [←Ny269.out] at ho70));have HO271:=a_ (Kd.R_lower ho70 (below_size (bel_)));replace HB:=a_ (bS_ (bel_) hb);replace BK257:=a_ (bb_ BK257.out hb);clear hb ho70)|((with_reducible refine gate_builtin (b:=.append) (xs:=#[.tmp 41,.tmp 42]) rfl ?_);at_builtin;refine Kd.R_append_rows k69 (w0:=w) w.heap.size rfl (.tmp 41) (.tmp 42) 62 69 (.agg #[(.int .i64 0),(.int .i64 0),(.string ⟨#[]⟩)]) 32 rfl Tryd.underlying62 info69 rfl (by decide) (by omega) v270 y269 l0 _ _ _ (fun _=>True) (fun _=>False) rfl rfl ?aO ?aR (fun _ _ h=>h) (fun _ h=>h.elim) ?aF ?aB ?aS ?aL ?_;(case aR=>exact cx_ (Kd.C_below HR0.out HB.out));(case aB=>exact (bel_));(case aF=>exact (fun _ _=>trivial));(case aO=>exact (rp_ HO271.out));(case aS=>exact (below_size (bel_)));(case aL=>have:=LMc65.out;omega);intro v273 w71 ho hb hg hat;rw [←Ny272.out] at ho;replace BK257:=a_ (blk_grown (g:=gb257) (o:=.cells #[.int .i64 a1_0,.int .i64 a1_1,.int .i64 a1_2,.int .i64 a1_3,.string a1_4] 42 (0,0)) (bp_ BK257.out) hg (Kd.R_ne HO271.out BK257.out (by decide)));replace HB:=a_ (hb);have HO274:=a_ (ho);clear HO271;clear ho hb hg hat))
    go_ret
    exact ⟨_,fi_,by (with_reducible repeat (first|apply Kd.R_alloc|apply Kd.R_drewN|apply Kd.R_drew));exact HO274.out,bel_⟩
   ·rw [if_neg c65] at H
    exact absurd H (by simp)

def spec_l72Log.l0:Nat→List (S44)→List (S69)→List Int→Int→List Int→Int→Option ((List (S44))×Int)
 | 0,_,_,_,_,_,_=>none
 | k+1,x3,x4,x5,x6,x1000,x1001=>if x6 > 0 then ((spec_l6Rd_pick.f k x1000 x1001 3).bind fun bt323=>(if 0≤(wrap64 ((wrap64 (1+bt323.1)) - 1)) then (if (wrap64 ((wrap64 (1+bt323.1)) - 1)) < (x5.length:Int) then ((spec_l72Op.f k x1000 bt323.2 x4 (wrap64 (1+bt323.1)) (rd x5 (wrap64 ((wrap64 (1+bt323.1)) - 1)))).bind fun bt326=>(if bt326.1=1 then ((spec_l12Seq.f k x3 (wrap64 (1+bt323.1))).bind fun t335=>(if x3.length < 2199023255552 then ((spec_l3Do.f k x4 bt326.1 bt326.2.1 bt326.2.2.1 bt326.2.2.2.1 bt326.2.2.2.2.1).bind fun t339=>(spec_l72Log.l0 k (x3++[(⟨wrap64 (1+bt323.1),wrap64 (t335+1),(⟨bt326.1,bt326.2.1,bt326.2.2.1,bt326.2.2.2.1,bt326.2.2.2.2.1⟩:S42)⟩:S44)]) t339 (x5.set ((wrap64 ((wrap64 (1+bt323.1)) - 1)):Int).toNat (wrap64 ((rd x5 (wrap64 ((wrap64 (1+bt323.1)) - 1)))+1))) (wrap64 (x6 - 1)) x1000 bt326.2.2.2.2.2)) else (none))) else ((spec_l12Seq.f k x3 (wrap64 (1+bt323.1))).bind fun t342=>(if x3.length < 2199023255552 then ((spec_l3Do.f k x4 bt326.1 bt326.2.1 bt326.2.2.1 bt326.2.2.2.1 bt326.2.2.2.2.1).bind fun t346=>(spec_l72Log.l0 k (x3++[(⟨wrap64 (1+bt323.1),wrap64 (t342+1),(⟨bt326.1,bt326.2.1,bt326.2.2.1,bt326.2.2.2.1,bt326.2.2.2.2.1⟩:S42)⟩:S44)]) t346 x5 (wrap64 (x6 - 1)) x1000 bt326.2.2.2.2.2)) else (none))))) else (none)) else (none))) else ((spec_l6Rd_pick.f k x1000 x1001 24).bind fun bt349=>(if bt349.1=0 then ((spec_l6Rd_pick.f k x1000 bt349.2 3).bind fun bt351=>((spec_l6Rd_pick.f k x1000 bt351.2 4).bind fun bt353=>((spec_l71Op.f k x1000 bt353.2).bind fun bt355=>(if x3.length < 2199023255552 then (some ((x3++[(⟨wrap64 (1+bt351.1),wrap64 (1+bt353.1),(⟨bt355.1,bt355.2.1,bt355.2.2.1,bt355.2.2.2.1,bt355.2.2.2.2.1⟩:S42)⟩:S44)]),bt355.2.2.2.2.2)) else (none))))) else (if bt349.1=1 then (if (x3.length:Int) > 0 then ((spec_l6Rd_pick.f k x1000 bt349.2 (x3.length:Int)).bind fun bt364=>((spec_l6Rd_pick.f k x1000 bt364.2 4).bind fun bt366=>(if 0≤bt364.1 then (if bt364.1 < (x3.length:Int) then (some ((x3.set (bt364.1:Int).toNat (⟨(rd_T44 x3 bt364.1).f0,bt366.1,(⟨(rd_T44 x3 bt364.1).f2.f0,(rd_T44 x3 bt364.1).f2.f1,(rd_T44 x3 bt364.1).f2.f2,(rd_T44 x3 bt364.1).f2.f3,(rd_T44 x3 bt364.1).f2.f4⟩:S42)⟩:S44)),bt366.2)) else (none)) else (none)))) else (some (x3,bt349.2))) else (some (x3,bt349.2)))))
def spec_l72Log.f (k:Nat) (s0_0:List Int) (s0_1:Int):Option ((List (S44))×Int):=(spec_TreeNew.f).bind fun t315=>((spec_l6Rd_pick.f k s0_0 s0_1 14).bind fun bt321=>(spec_l72Log.l0 k (([]:List (S44))) t315 (([0,0,0]:List Int)) bt321.1 s0_0 bt321.2))
theorem spec_l72Log.mono_l:∀ k,(∀ y0 y1 y2 y3 y4 y5,LeO (spec_l72Log.l0 k y0 y1 y2 y3 y4 y5) (spec_l72Log.l0 (k+1) y0 y1 y2 y3 y4 y5))
 | 0=>fun _ _ _ _ _ _ r h=>by simp [spec_l72Log.l0] at h
 | k+1=>by
  have ih0:=spec_l72Log.mono_l k
  ·intro y0 y1 y2 y3 y4 y5
   unfold spec_l72Log.l0
   repeat' first
   | (with_reducible exact ih0 _ _ _ _ _ _)
   | (with_reducible exact spec_l12Seq.mono _ _ _)
   | (with_reducible exact spec_l3Do.mono _ _ _ _ _ _ _)
   | (with_reducible exact spec_l6Rd_pick.mono _ _ _ _)
   | (with_reducible exact spec_l71Op.mono _ _ _)
   | (with_reducible exact spec_l72Op.mono _ _ _ _ _ _)
   | (with_reducible exact LeO.refl _)
   | (with_reducible exact LeO.none _)
   | (with_reducible refine LeO.ite ?_ ?_)
   | (with_reducible refine LeO.bind ?_ (fun _=>?_))
theorem spec_l72Log.mono:∀ a0 a1 k,LeO (spec_l72Log.f k a0 a1) (spec_l72Log.f (k+1) a0 a1):=by
 intro a0 a1 k
 have ih0:=spec_l72Log.mono_l k
 unfold spec_l72Log.f
 repeat' first
   | (with_reducible exact ih0 _ _ _ _ _ _)
   | (with_reducible exact spec_l12Seq.mono _ _ _)
   | (with_reducible exact spec_l3Do.mono _ _ _ _ _ _ _)
   | (with_reducible exact spec_l6Rd_pick.mono _ _ _ _)
   | (with_reducible exact spec_l71Op.mono _ _ _)
   | (with_reducible exact spec_l72Op.mono _ _ _ _ _ _)
   | (with_reducible exact LeO.refl _)
   | (with_reducible exact LeO.none _)
   | (with_reducible refine LeO.ite ?_ ?_)
   | (with_reducible refine LeO.bind ?_ (fun _=>?_))
def spec_l72Log.T11:Bool×List (List Nat×List Nat):=(true,[([],[]),([],[]),([],[]),([],[]),([2,3],[2,3]),([4],[4]),([],[]),([1,5,6],[1,5,6]),([7],[7]),([0,8,4],[0,8]),([9,9,0,1,2,3,4,5,6,7,8,9],[0,2,9])])
def spec_l72Log.B11:List Nat:=[0,0,0,0,12,28,0,126,254,511,1023]
theorem spec_l72Log.tab11:rtab .any (opsOf Tryd.f88 11)=spec_l72Log.T11:=by kernel_rfl
theorem spec_l72Log.bits11:waitsOk spec_l72Log.T11.2 spec_l72Log.B11=true:=by kernel_rfl
theorem spec_l72Log.calls (k:Nat) (g:Nat) (s0_0:List Int) (s0_1:Int) (r1:List (S44)) (r2:Int) (w0 w:World) (hI:IsS145 w0 w g s0_0 s0_1) (hB:Below w0.heap.size w0 w) (h:spec_l72Log.f k s0_0 s0_1=some (r1,r2)) :
  Calls Tryd.prog 88 #[.pointer (some ⟨g,0,none⟩)] w fun e w'=>∃ v0_:Value,e=.returned (v0_)∧Kd.R k44 44 w' w.heap.size (fun _=>True) v0_ r1∧IsS145 w0 w' g s0_0 r2∧Below w0.heap.size w0 w'∧KeepBut w w' g none:=by
 have hu42:=Tryd.underlying42
 have hu44:=Tryd.underlying44
 have HI0:=a_ hI
 have HK:=a_ (KeepBut.refl w g none)
 have HL:=a_ hB.size
 clear hI
 have HW0:=a_ hB.size
 have HB:=a_ hB
 clear hB
 unfold spec_l72Log.f at h
 have H:=h
 clear h
 obtain ⟨y312,hy312⟩:∃ y_:List (S44),y_=(([]:List (S44))):=⟨_,rfl⟩
 replace H:((spec_TreeNew.f).bind fun t315=>((spec_l6Rd_pick.f k s0_0 s0_1 14).bind fun bt321=>(spec_l72Log.l0 k y312 t315 (([0,0,0]:List Int)) bt321.1 s0_0 bt321.2)))=some (r1,r2):=by first|(rw [hy312];with_reducible exact H)|(have H2_:=(Option.bind_some _ _).symm.trans H;rw [hy312];with_reducible exact H2_)|(have H2_:=(Option.bind_some _ _).symm.trans H;with_reducible exact H2_)|with_reducible exact H|(rw [hy312];exact H)|exact H
 have Ny312:=a_ hy312
 clear hy312
 replace H:=bs_ H
 obtain ⟨t315,A20,H⟩:=H
 try dsimp only at H
 have A2:=a_ A20
 clear A20
 obtain ⟨y318,hy318⟩:∃ y_:List Int,y_=(([0,0,0]:List Int)):=⟨_,rfl⟩
 replace H:((spec_l6Rd_pick.f k s0_0 s0_1 14).bind fun bt321=>(spec_l72Log.l0 k y312 t315 y318 bt321.1 s0_0 bt321.2))=some (r1,r2):=by first|(rw [hy318];with_reducible exact H)|(have H2_:=(Option.bind_some _ _).symm.trans H;rw [hy318];with_reducible exact H2_)|(have H2_:=(Option.bind_some _ _).symm.trans H;with_reducible exact H2_)|with_reducible exact H|(rw [hy318];exact H)|exact H
 have Ny318:=a_ hy318
 clear hy318
 replace H:=bs_ H
 obtain ⟨⟨t321,t322⟩,A30,H⟩:=H
 try dsimp only at H
 have A3:=a_ A30
 clear A30
 have H':=a_ H
 clear H
 go_enter Tryd.func88,Tryd.ntmps88
 go_wp2_with (first|((with_reducible refine gD_ (N:=9) rfl ?_);refine Kd.R_lit k44 _ 44 ?hg (N:=9) ?hd (xs:=([]:List (S44))) (inner:=[]) (ok:=fun _=>True) (okp:=fun _=>True) ?hr ?hp (fun _ hk=>hk) trivial (Below.refl _ _) (Nat.le_refl _) (by simp) ?_;(case hd=>rfl);(case hg=>rfl);(case hr=>first|(go_simp;done)|(go_simp;rfl));(case hp=>exact (Reps.none _ _));intro v313 w4 ho5 hb hg_ hnew_;clear hg_ hnew_;(first|rw [←Ny312.out] at ho5|(simp only [Int.reduceToNat] at ho5;rw [←Ny312.out] at ho5));have HO314:=a_ (Kd.R_lower ho5 (keep_size (w:=w) (g:=g) (row:=none) (ke_)));replace HK:=a_ (KeepBut.trans (ke_) (KeepBut.of_below hb g none) (.inl rfl));replace HB:=a_ (bS_ (bel_) hb);replace HI0:=a_ (IsS145.below (is_HI0) hb);clear hb ho5)|((with_reducible refine gC_ (f:=100) rfl ?_);refine gl_ 10 Tryd.func100 #[] ?_;(with_reducible refine (spec_TreeNew.calls  t315 _ A2.out).mono ?_);rintro e w6 ⟨v316,rfl,ho0,hb⟩;refine ⟨_,rfl,?_⟩;replace HO314:=a_ (Kd.R_below (rp_ HO314.out) hb);have HO317:=a_ (Kd.R_lower ho0 (keep_size (w:=w) (g:=g) (row:=none) (ke_)));replace HK:=a_ (KeepBut.trans (ke_) (KeepBut.of_below hb g none) (.inl rfl));replace HB:=a_ (bS_ (bel_) hb);replace HI0:=a_ (IsS145.below (is_HI0) hb);(try clear hb ho0))|((with_reducible refine gD_ (N:=11) rfl ?_);refine Kd.R_lit (Kd.int .i64) _ 3 ?hg (N:=11) ?hd (xs:=([0,0,0]:List Int)) (inner:=[.int .i64 0,.int .i64 0,.int .i64 0]) (ok:=fun _=>True) (okp:=fun _=>True) ?hr ?hp (fun _ hk=>hk) trivial (Below.refl _ _) (Nat.le_refl _) (by simp) ?_;(case hd=>rfl);(case hg=>rfl);(case hr=>first|(go_simp;done)|(go_simp;rfl));(case hp=>exact (Reps.one (show Kd.M (Kd.int .i64) _ _ _ 0 [.int .i64 0] from rfl) (Reps.one (show Kd.M (Kd.int .i64) _ _ _ 0 [.int .i64 0] from rfl) (Reps.one (show Kd.M (Kd.int .i64) _ _ _ 0 [.int .i64 0] from rfl) (Reps.none _ _)))));intro v319 w7 ho8 hb hg_ hnew_;clear hg_ hnew_;(first|rw [←Ny318.out] at ho8|(simp only [Int.reduceToNat] at ho8;rw [←Ny318.out] at ho8));replace HO314:=a_ (Kd.R_below (rp_ HO314.out) hb);replace HO317:=a_ (Kd.R_below (rp_ HO317.out) hb);have HO320:=a_ (Kd.R_lower ho8 (keep_size (w:=w) (g:=g) (row:=none) (ke_)));replace HK:=a_ (KeepBut.trans (ke_) (KeepBut.of_below hb g none) (.inl rfl));replace HB:=a_ (bS_ (bel_) hb);replace HI0:=a_ (IsS145.below (is_HI0) hb);clear hb ho8)|((with_reducible refine gC_ (f:=74) rfl ?_);refine gl_ 13 Tryd.func74 #[.pointer (some ⟨g,0,none⟩),.int .i64 14] ?_;(with_reducible refine (spec_l6Rd_pick.calls k g s0_0 s0_1 14 t321 t322 w0 _ ?side1 ?side2 A3.out).mono ?_);(case side1=>exact is_HI0);(case side2=>exact bel_);rintro e w9 ⟨rfl,hi,hb,hk⟩;refine ⟨_,rfl,?_⟩;replace HO314:=a_ (Kd.R_mono (Kd.R_keep (IsS145.apart (show IsS145 w0 _ g s0_0 s0_1 from is_HI0) (rp_ HO314.out) (by decide)) hk (fun _ h=>h.2)) (fun _ h=>h.1));replace HO317:=a_ (Kd.R_mono (Kd.R_keep (IsS145.apart (show IsS145 w0 _ g s0_0 s0_1 from is_HI0) (rp_ HO317.out) (by decide)) hk (fun _ h=>h.2)) (fun _ h=>h.1));replace HO320:=a_ (Kd.R_mono (Kd.R_keep (IsS145.apart (show IsS145 w0 _ g s0_0 s0_1 from is_HI0) (rp_ HO320.out) (by decide)) hk (fun _ h=>h.2)) (fun _ h=>h.1));replace HK:=a_ (KeepBut.trans (ke_) hk (.inl rfl));replace HB:=a_ (hb);replace HI0:=a_ (hi);(try clear hb hk hi)))
 go_loopg [3,4,6] k (fun kq v3 v4 v6 w'=>∃ (x3_1:List (S44)) (x4_1:List (S69)) (x5_1:List Int) (x6_1:Int) (x1001_1:Int),v6=.int .i64 x6_1∧Aside0 (spec_l72Log.l0 kq x3_1 x4_1 x5_1 x6_1 s0_0 x1001_1=some (r1,r2))∧Aside0 (kq≤k)∧Aside0 (Kd.R k44 44 w' w.heap.size (fun _=>True) v3 x3_1)∧Aside0 (Kd.R k69 69 w' w.heap.size (fun _=>True) v4 x4_1)∧Aside0 (Kd.R (Kd.int .i64) 3 w' w.heap.size (fun _=>True) v319 x5_1)∧Aside0 (IsS145 w0 w' g s0_0 x1001_1)∧Aside0 (KeepBut w w' g none)∧Aside0 (Below w0.heap.size w0 w'))
 case atStart=>exact ⟨(y312),(t315),(y318),(t321),(t322),(si_),H',⟨Nat.le_refl _⟩,⟨by (with_reducible repeat (first|apply Kd.R_alloc|apply Kd.R_drewN|apply Kd.R_drew));exact HO314.out⟩,⟨by (with_reducible repeat (first|apply Kd.R_alloc|apply Kd.R_drewN|apply Kd.R_drew));exact HO317.out⟩,⟨by (with_reducible repeat (first|apply Kd.R_alloc|apply Kd.R_drewN|apply Kd.R_drew));exact HO320.out⟩,⟨is_HI0⟩,⟨ke_⟩,⟨bel_⟩⟩
 case round =>
  clear H'
  try clear c1
  try clear p2
  try clear c7
  try clear c8
  obtain ⟨x3_1,x4_1,x5_1,x6_1,x1001_1,rfl,HA,HK1,HO_3,HO_4,HO_5,HI0,HK,HB⟩:=hrel
  cases gk with
  | zero=>exact absurd HA.out (by simp [spec_l72Log.l0])
  | succ k1 =>
   have H:=HA.out
   clear HA
   simp only [spec_l72Log.l0] at H
   by_cases c10:x6_1 > 0
   ·rw [if_pos c10] at H
    have c10b0:decide (0 < x6_1)=true:=dt_ c10
    clear c10
    replace H:=bs_ H
    obtain ⟨⟨t323,t324⟩,A110,H⟩:=H
    try dsimp only at H
    have A11:=a_ A110
    clear A110
    obtain ⟨ji12,hji12⟩:∃ j_:Int,(wrap64 ((wrap64 (1+t323)) - 1))=j_:=⟨_,rfl⟩
    replace H:(if 0≤(ji12) then (if (ji12) < (x5_1.length:Int) then ((spec_l72Op.f k1 s0_0 t324 x4_1 (wrap64 (1+t323)) (rd x5_1 (ji12))).bind fun bt326=>(if bt326.1=1 then ((spec_l12Seq.f k1 x3_1 (wrap64 (1+t323))).bind fun t335=>(if x3_1.length < 2199023255552 then ((spec_l3Do.f k1 x4_1 bt326.1 bt326.2.1 bt326.2.2.1 bt326.2.2.2.1 bt326.2.2.2.2.1).bind fun t339=>(spec_l72Log.l0 k1 (x3_1++[(⟨wrap64 (1+t323),wrap64 (t335+1),(⟨bt326.1,bt326.2.1,bt326.2.2.1,bt326.2.2.2.1,bt326.2.2.2.2.1⟩:S42)⟩:S44)]) t339 (x5_1.set ((ji12):Int).toNat (wrap64 ((rd x5_1 (ji12))+1))) (wrap64 (x6_1 - 1)) s0_0 bt326.2.2.2.2.2)) else (none))) else ((spec_l12Seq.f k1 x3_1 (wrap64 (1+t323))).bind fun t342=>(if x3_1.length < 2199023255552 then ((spec_l3Do.f k1 x4_1 bt326.1 bt326.2.1 bt326.2.2.1 bt326.2.2.2.1 bt326.2.2.2.2.1).bind fun t346=>(spec_l72Log.l0 k1 (x3_1++[(⟨wrap64 (1+t323),wrap64 (t342+1),(⟨bt326.1,bt326.2.1,bt326.2.2.1,bt326.2.2.2.1,bt326.2.2.2.2.1⟩:S42)⟩:S44)]) t346 x5_1 (wrap64 (x6_1 - 1)) s0_0 bt326.2.2.2.2.2)) else (none))))) else (none)) else (none))=some (r1,r2):=by first|(rw [hji12] at H;exact H)|(simp only [hji12] at H ⊢;exact H)
    (try rw [hji12] at A11)
    have hji12w:(IntKind.i64.wrap ((wrap64 (1+t323)) - 1))=ji12:=(i64_w _).trans hji12
    by_cases c13:0≤(ji12)
    ·rw [if_pos c13] at H
     have c13b0:decide (0≤(ji12))=true:=dt_ c13
     clear c13
     by_cases c14:(ji12) < (x5_1.length:Int)
     ·rw [if_pos c14] at H
      have c14b0:decide ((ji12) < (x5_1.length:Int))=true:=dt_ c14
      clear c14
      replace H:=bs_ H
      obtain ⟨⟨t326,t327,t328,t329,t330,t331⟩,A150,H⟩:=H
      try dsimp only at H
      have A15:=a_ A150
      clear A150
      by_cases c16:t326=1
      ·rw [if_pos c16] at H
       have c16b0:(t326==1)=true:=beq_iff_eq.mpr c16
       have c16b1:(t326 != 1)=false:=be_ c16
       clear c16
       obtain ⟨y334,hy334⟩:∃ y_:List Int,y_=(x5_1.set ((ji12):Int).toNat (wrap64 ((rd x5_1 (ji12))+1))):=⟨_,rfl⟩
       replace H:((spec_l12Seq.f k1 x3_1 (wrap64 (1+t323))).bind fun t335=>(if x3_1.length < 2199023255552 then ((spec_l3Do.f k1 x4_1 t326 t327 t328 t329 t330).bind fun t339=>(spec_l72Log.l0 k1 (x3_1++[(⟨wrap64 (1+t323),wrap64 (t335+1),(⟨t326,t327,t328,t329,t330⟩:S42)⟩:S44)]) t339 y334 (wrap64 (x6_1 - 1)) s0_0 t331)) else (none)))=some (r1,r2):=by first|(rw [hy334];with_reducible exact H)|(have H2_:=(Option.bind_some _ _).symm.trans H;rw [hy334];with_reducible exact H2_)|(have H2_:=(Option.bind_some _ _).symm.trans H;with_reducible exact H2_)|with_reducible exact H|(rw [hy334];exact H)|exact H
       have Ny334:=a_ hy334
       clear hy334
       replace H:=bs_ H
       obtain ⟨t335,A180,H⟩:=H
       try dsimp only at H
       have A18:=a_ A180
       clear A180
       by_cases c19:x3_1.length < 2199023255552
       ·rw [if_pos c19] at H
        have LMc19:=a_ c19
        clear c19
        obtain ⟨y336,hy336⟩:∃ y_:List (S44),y_=(x3_1++[(⟨wrap64 (1+t323),wrap64 (t335+1),(⟨t326,t327,t328,t329,t330⟩:S42)⟩:S44)]):=⟨_,rfl⟩
        replace H:((spec_l3Do.f k1 x4_1 t326 t327 t328 t329 t330).bind fun t339=>(spec_l72Log.l0 k1 y336 t339 y334 (wrap64 (x6_1 - 1)) s0_0 t331))=some (r1,r2):=by first|(rw [hy336];with_reducible exact H)|(have H2_:=(Option.bind_some _ _).symm.trans H;rw [hy336];with_reducible exact H2_)|(have H2_:=(Option.bind_some _ _).symm.trans H;with_reducible exact H2_)|with_reducible exact H|(rw [hy336];exact H)|exact H
        have Ny336:=a_ hy336
        clear hy336
        replace H:=bs_ H
        obtain ⟨t339,A200,H⟩:=H
        try dsimp only at H
        have A20:=a_ A200
        clear A200
        have H':=a_ H
        clear H
        try go_wp2_with (first|((with_reducible refine gC_ (f:=74) rfl ?_);refine gl_ 19 Tryd.func74 #[.pointer (some ⟨g,0,none⟩),.int .i64 3] ?_;(with_reducible refine (spec_l6Rd_pick.calls k1 g s0_0 x1001_1 3 t323 t324 w0 _ ?side1 ?side2 A11.out).mono ?_);(case side1=>exact is_HI0);(case side2=>exact bel_);rintro e w21 ⟨rfl,hi,hb,hk⟩;refine ⟨_,rfl,?_⟩;replace HO_3:=a_ (Kd.R_mono (Kd.R_keep (IsS145.apart (show IsS145 w0 _ g s0_0 x1001_1 from is_HI0) (rp_ HO_3.out) (by decide)) hk (fun _ h=>h.2)) (fun _ h=>h.1));replace HO_4:=a_ (Kd.R_mono (Kd.R_keep (IsS145.apart (show IsS145 w0 _ g s0_0 x1001_1 from is_HI0) (rp_ HO_4.out) (by decide)) hk (fun _ h=>h.2)) (fun _ h=>h.1));replace HO_5:=a_ (Kd.R_mono (Kd.R_keep (IsS145.apart (show IsS145 w0 _ g s0_0 x1001_1 from is_HI0) (rp_ HO_5.out) (by decide)) hk (fun _ h=>h.2)) (fun _ h=>h.1));replace HK:=a_ (KeepBut.trans (ke_) hk (.inl rfl));replace HB:=a_ (hb);replace HI0:=a_ (hi);(try clear hb hk hi);obtain ⟨Ao22,co22,eo22⟩:=Kd.R_slice HO_5.out;subst eo22;have p325:0≤((ji12):Int):=od_;have q325:(ji12) < (x5_1.length:Int):=od_;obtain ⟨ad325,e325,hx325_0⟩:=Kd.at_int (Kd.R_reads' HO_5.out).2.2 (ji12) p325 q325;cases e325;replace p325:=eq_true p325;replace q325:=eq_true q325;obtain ⟨Ao23,co23,eo23⟩:=Kd.R_slice HO_4.out;subst eo23)|((with_reducible refine gC_ (f:=124) rfl ?_);refine goesL_ (some 29) rfl rfl Tryd.func124 (by kernel_rfl) rfl #[.pointer (some ⟨g,0,none⟩),.slice Ao23 x4_1.length co23,.int .i64 (wrap64 (1+t323)),.int .i64 (rd x5_1 (ji12))] rfl (by (try simp only [List.map_toArray,List.map_cons,List.map_nil]);first|done|(simp only [hji12];rfl)|rfl|(simp only [List.length_drop,List.length_take];rfl)) ?_;(with_reducible refine (spec_l72Op.calls k1 g s0_0 t324 _ _ x4_1 (wrap64 (1+t323)) (rd x5_1 (ji12)) t326 t327 t328 t329 t330 t331 w0 _ ?side1 ?side2 ?side3 ?side4 A15.out).mono ?_);(case side1=>exact is_HI0);(case side2=>exact bel_);(case side3=>exact Kd.C_foot_own (IsS145.apart (show IsS145 w0 _ g s0_0 t324 from is_HI0) (rp_ HO_4.out) (by decide)) (fun _ h_=>h_.2));(case side4=>exact (Kd.R_reads' HO_4.out).2.1);rintro e w24 ⟨rfl,hi,hb,hk⟩;refine ⟨_,rfl,?_⟩;replace HO_3:=a_ (Kd.R_mono (Kd.R_keep (IsS145.apart (show IsS145 w0 _ g s0_0 t324 from is_HI0) (rp_ HO_3.out) (by decide)) hk (fun _ h=>h.2)) (fun _ h=>h.1));replace HO_4:=a_ (Kd.R_mono (Kd.R_keep (IsS145.apart (show IsS145 w0 _ g s0_0 t324 from is_HI0) (rp_ HO_4.out) (by decide)) hk (fun _ h=>h.2)) (fun _ h=>h.1));replace HO_5:=a_ (Kd.R_mono (Kd.R_keep (IsS145.apart (show IsS145 w0 _ g s0_0 t324 from is_HI0) (rp_ HO_5.out) (by decide)) hk (fun _ h=>h.2)) (fun _ h=>h.1));replace HK:=a_ (KeepBut.trans (ke_) hk (.inl rfl));replace HB:=a_ (hb);replace HI0:=a_ (hi);(try clear hb hk hi))|((with_reducible refine gD_ (N:=8) rfl ?_);refine bx_ 8 (#[.int .i64 0,.int .i64 0,.int .i64 0,.int .i64 0,.string (⟨#[]⟩:ByteArray)]) 42 ?_;intro gb332 hg w25 hbox hb;have n0_:=a_ (Kd.R_below (rp_ HO_3.out) hb);have n1_:=a_ (Kd.R_below (rp_ HO_4.out) hb);have n2_:=a_ (Kd.R_below (rp_ HO_5.out) hb);have n3_:=a_ (IsS145.below (is_HI0) hb);have n4_:=a_ (KeepBut.trans (ke_) (KeepBut.of_below hb g none) (.inl rfl));have n5_:=a_ (bS_ (bel_) hb);have n6_:=a_ (hbox);have n7_:=a_ ((by rw [hg];exact (keep_size (w:=w) (g:=g) (row:=none) (ke_)):w.heap.size≤gb332));have n8_:=a_ ((Nat.le_trans HW0.out (by rw [hg];exact (keep_size (w:=w) (g:=g) (row:=none) (ke_)):w.heap.size≤gb332):w0.heap.size≤gb332));have n9_:=a_ ((by rw [hg];exact Nat.ne_of_lt (IsS145.lt (show IsS145 w0 _ g s0_0 t331 from is_HI0)):g≠gb332));have n10_:=a_ ((by rw [hg];exact Nat.ne_of_gt (IsS145.lt (show IsS145 w0 _ g s0_0 t331 from is_HI0)):gb332≠g));clear HO_3;clear HO_4;clear HO_5;clear HI0;clear HK;clear HB;have HO_3:=n0_;have HO_4:=n1_;have HO_5:=n2_;have HI0:=n3_;have HK:=n4_;have HB:=n5_;have BK332:=n6_;have GW332:=n7_;have GE332:=n8_;have NB0_332:=n9_;have NB332_0:=n10_;clear n0_ n1_ n2_ n3_ n4_ n5_ n6_ n7_ n8_ n9_ n10_;clear hb hbox hg;have hnb26:=NB332_0.out;have hnc26:=NB0_332.out;obtain ⟨Z27_0,Z27_1,Z27_2,Z27_3,Z27_4,Y27_0,Y27_1,Y27_2,Y27_3,Y27_4⟩:=op5_ BK332.out)|((with_reducible refine gate_store (t:=42) (p:=8) rfl ?_);refine store_event (t:=42) (p:=8) (v:=?vo_w28) (w1:=(((((w25.setCell ⟨gb332,0,none⟩ (.int .i64 t326)).setCell ⟨gb332,1,none⟩ (.int .i64 t327)).setCell ⟨gb332,2,none⟩ (.int .i64 t328)).setCell ⟨gb332,3,none⟩ (.int .i64 t329)).setCell ⟨gb332,4,none⟩ (.string t330))) ?hg ?ho ?hn ?hr ?_;(case ho=>rfl);(case hg=>rfl);(case hn=>rfl);(case hr=>first|(go_simp;done)|(go_simp;rfl));intro w28 hw;have n0_:Aside0 (Kd.R k44 44 w28 w.heap.size (fun _=>True) u3 x3_1):=⟨(by rw [hw];exact (by (with_reducible repeat (first|apply Kd.R_alloc|apply Kd.R_drewN|apply Kd.R_drew));exact Kd.R_mono (rf5_ (g:=gb332) (Kd.R_types HO_3.out BK332.out (by decide)) (fun _ hk=>hk.2) (.int .i64 t326) (.int .i64 t327) (.int .i64 t328) (.int .i64 t329) (.string t330)) (fun _ hk=>trivial)))⟩;have n1_:Aside0 (Kd.R k69 69 w28 w.heap.size (fun _=>True) (.slice Ao23 x4_1.length co23) x4_1):=⟨(by rw [hw];exact (by (with_reducible repeat (first|apply Kd.R_alloc|apply Kd.R_drewN|apply Kd.R_drew));exact Kd.R_mono (rf5_ (g:=gb332) (Kd.R_types HO_4.out BK332.out (by decide)) (fun _ hk=>hk.2) (.int .i64 t326) (.int .i64 t327) (.int .i64 t328) (.int .i64 t329) (.string t330)) (fun _ hk=>trivial)))⟩;have n2_:Aside0 (Kd.R (Kd.int .i64) 3 w28 w.heap.size (fun _=>True) (.slice (some ad325) x5_1.length co22) x5_1):=⟨(by rw [hw];exact (by (with_reducible repeat (first|apply Kd.R_alloc|apply Kd.R_drewN|apply Kd.R_drew));exact Kd.R_mono (rf5_ (g:=gb332) (Kd.R_types HO_5.out BK332.out (by decide)) (fun _ hk=>hk.2) (.int .i64 t326) (.int .i64 t327) (.int .i64 t328) (.int .i64 t329) (.string t330)) (fun _ hk=>trivial)))⟩;have n3_:Aside0 (w28.heap[gb332]?=some (.cells #[.int .i64 t326,.int .i64 t327,.int .i64 t328,.int .i64 t329,.string t330] 42 (0,0))):=⟨(by rw [hw];exact (k5p_ BK332.out))⟩;have n4_:Aside0 (IsS145 w0 w28 g s0_0 t331):=⟨(by rw [hw];exact (is_HI0))⟩;have n5_:Aside0 (KeepBut w w28 g none):=⟨(by rw [hw];exact (kf_ HK.out))⟩;have n6_:Aside0 (Below w0.heap.size w0 w28):=⟨(by rw [hw];exact (bel_))⟩;clear hw;clear HO_3;clear HO_4;clear HO_5;clear BK332;clear HI0;clear HK;clear HB;have HO_3:=n0_;have HO_4:=n1_;have HO_5:=n2_;have BK332:=n3_;have HI0:=n4_;have HK:=n5_;have HB:=n6_;clear n0_ n1_ n2_ n3_ n4_ n5_ n6_;obtain ⟨Z29_0,Z29_1,Z29_2,Z29_3,Z29_4,Y29_0,Y29_1,Y29_2,Y29_3,Y29_4⟩:=op5_ BK332.out;have p333:0≤((ji12):Int):=od_;have q333:(ji12) < (x5_1.length:Int):=od_;obtain ⟨ad333,e333,hx333_0⟩:=Kd.at_int (Kd.R_reads' HO_5.out).2.2 (ji12) p333 q333;obtain rfl:ad325=ad333:=(by injection e333);replace p333:=eq_true p333;replace q333:=eq_true q333;have p17:0≤((ji12):Int):=od_;have q17:((ji12):Int) < ((x5_1.length:Int):Int):=od_;obtain ⟨go17,co17,eo17,gb17,gl17,cl17,HG17⟩:=Kd.R_form HO_5.out (by omega);(first|cases eo17|(injection eo17 with ea_ en_ ec_;(first|subst ea_|(injection ea_ with ea_;subst ea_));subst ec_;clear en_));have GB17:=a_ gb17;have GG17:=a_ HG17;clear gb17 gl17 HG17;(first|simp only [add_plain] at hx325_0|skip);(first|simp only [add_plain] at hx333_0|skip);obtain ⟨hx17_0,hf17_0⟩:=Kd.R_celln 0 HO_5.out ((ji12):Int) p17 q17;replace p17:=eq_true p17;replace q17:=eq_true q17;obtain ⟨hy30_,hz30_⟩:=Kd.R_celln 0 HO_5.out ((ji12):Int) (od_) (od_);have HP30:=Kd.R_putg HO_5.out ((ji12):Int) (wrap64 ((rd x5_1 (ji12))+1)))|((with_reducible refine gate_store (t:=3) (p:=42) rfl ?_);refine store_event (t:=3) (p:=42) (v:=?vo_w31) (w1:=(w28.setCell ⟨go17,((ji12):Int).toNat,none⟩ (.int .i64 (wrap64 ((rd x5_1 (ji12))+1))))) ?hg ?ho ?hn ?hr ?_;(case ho=>rfl);(case hg=>rfl);(case hn=>rfl);(case hr=>first|(go_simp;done)|(go_simp;rfl));intro w31 hw;have hg:w28.grownBy w31 (some go17):=(by rw [hw];exact HP30.2);have hp_:Kd.R (Kd.int .i64) 3 w31 w.heap.size (fun _=>True) (.slice (some ⟨go17,0,none⟩) x5_1.length co22) y334:=(by rw [hw,Ny334.out];exact HP30.1);clear HP30;have n0_:=a_ (Kd.R_over' (v:=(.slice (some ⟨go17,0,none⟩) x5_1.length co22)) (rp_ HO_3.out) (Kd.R_typed HO_5.out) (by decide) hg);have n1_:=a_ (Kd.R_over' (v:=(.slice (some ⟨go17,0,none⟩) x5_1.length co22)) (rp_ HO_4.out) (Kd.R_typed HO_5.out) (by decide) hg);have n2_:=a_ (hp_);have n3_:=a_ (IsS145.grown (is_HI0) hg (IsS145.own_ne HI0.out HO_5.out (by decide)));have n4_:=a_ (blk_grown (g:=gb332) (o:=.cells #[.int .i64 t326,.int .i64 t327,.int .i64 t328,.int .i64 t329,.string t330] 42 (0,0)) (bp_ BK332.out) hg (Kd.R_ne HO_5.out BK332.out (by decide)));have n5_:=a_ ((by rw [hw];exact wS_ (HB.out) (Nat.le_trans HL.out GB17.out):Below w0.heap.size w0 w31));have n6_:=a_ (KeepBut.trans (kf_ HK.out) (KeepBut.of_grown hg g) (Kd.R_base2 HO_5.out));clear HO_3;clear HO_4;clear HO_5;clear HI0;clear BK332;clear HB;clear HK;have HO_3:=n0_;have HO_4:=n1_;have HO_5:=n2_;have HI0:=n3_;have BK332:=n4_;have HB:=n5_;have HK:=n6_;clear n0_ n1_ n2_ n3_ n4_ n5_ n6_;clear hg hw hp_))
        have n0_:=a_ (Kd.R_drew HO_3.out)
        have n1_:=a_ (Kd.R_drew HO_4.out)
        have n2_:=a_ (Kd.R_drew HO_5.out)
        have n3_:=a_ (bD_ BK332.out)
        have n4_:=a_ (IsS145.drew HI0.out)
        have n5_:=a_ (keep_drew HK.out)
        have n6_:=a_ (below_drew1 HB.out)
        clear HO_3
        clear HO_4
        clear HO_5
        clear BK332
        clear HI0
        clear HK
        clear HB
        have HO_3:=n0_
        have HO_4:=n1_
        have HO_5:=n2_
        have BK332:=n3_
        have HI0:=n4_
        have HK:=n5_
        have HB:=n6_
        clear n0_ n1_ n2_ n3_ n4_ n5_ n6_
        obtain ⟨Ao33,co33,eo33⟩:=Kd.R_slice HO_3.out
        (first|subst eo33|(injection eo33 with f1_ f2_ f3_;have f4_:=f1_.symm;have f5_:=f3_.symm;clear f1_ f2_ f3_;subst f4_;subst f5_))
        refine start_ (n:=11) (S:=fun w'=>w'.cell? ⟨gb332,0,none⟩=some (.int .i64 t326)∧w'.cell? ⟨gb332,1,none⟩=some (.int .i64 t327)∧w'.cell? ⟨gb332,2,none⟩=some (.int .i64 t328)∧w'.cell? ⟨gb332,3,none⟩=some (.int .i64 t329)∧w'.cell? ⟨gb332,4,none⟩=some (.string t330)) (ds:=[]) #[false,false,false,false,false,false,false,false,false,false,false] (by kernel_rfl) rfl rfl ⟨(bC_ BK332.out 0).trans rfl,(bC_ BK332.out 1).trans rfl,(bC_ BK332.out 2).trans rfl,(bC_ BK332.out 3).trans rfl,(bC_ BK332.out 4).trans rfl⟩ (fun hHeld=>?_);refine with_tabW spec_l72Log.tab11 spec_l72Log.bits11 (fun HT_ HW_=>?_)
        generalize w31.drew=w32 at HO_3 HO_4 HO_5 BK332 HI0 HK HB hHeld ⊢
        refine pa_ 0 43 ?_
        refine pa_ 1 44 ?_
        refine pa_ 2 45 ?_
        refine pa_ 3 46 ?_
        refine ta5_ 6 49 hHeld ?_
        refine on_ 4 47 (fun K hK=>?_)
        refine goes_ Tryd.func90 (by kernel_rfl) rfl #[.slice Ao33 x3_1.length co33,.int .i64 (wrap64 (1+t323))] (by rfl) rfl rfl ar_ ?_
        with_reducible refine (spec_l12Seq.calls k1 _ _ x3_1 (wrap64 (1+t323)) t335 _ ?side1 ?side2 A18.out).mono ?_
        (case side1=>exact cx_ (Kd.R_reads' HO_3.out).2.2)
        (case side2=>exact (Kd.R_reads' HO_3.out).2.1)
        rintro e w' ⟨rfl,⟨nd,rfl⟩⟩
        refine ⟨_,rfl,?_⟩
        refine hK.out _ _ ⟨(bC_ BK332.out 0).trans rfl,(bC_ BK332.out 1).trans rfl,(bC_ BK332.out 2).trans rfl,(bC_ BK332.out 3).trans rfl,(bC_ BK332.out 4).trans rfl⟩ (fun hHeld=>?_)
        clear hK K
        refine no_ 47 ?_
        refine pa_ 5 48 ?_
        refine pa_ 7 50 ?_
        refine on_ 8 51 (fun K hK=>?_)
        refine value_ (w1:=?_) (v:=?_) (by rfl) rfl ?_ ?_
        rotate_left 2
        ·go_simp
         constructor
         ·rfl
         ·rfl
        refine hK.out _ _ ⟨(bC_ (bA_ BK332.out _) 0).trans rfl,(bC_ (bA_ BK332.out _) 1).trans rfl,(bC_ (bA_ BK332.out _) 2).trans rfl,(bC_ (bA_ BK332.out _) 3).trans rfl,(bC_ (bA_ BK332.out _) 4).trans rfl⟩ (fun hHeld=>?_)
        clear hK K
        refine no_ 51 ?_
        refine on_ 9 52 (fun K hK=>?_)
        refine Kd.R_append_step k44 w.heap.size (by rfl) (.tmp 43) (.tmp 51) 23 44 (.agg #[(.int .i64 0),(.int .i64 0),(.int .i64 0),(.int .i64 0),(.int .i64 0),(.int .i64 0),(.string ⟨#[]⟩)]) 64 rfl Tryd.underlying23 info44 rfl (by decide) (by omega) (.slice Ao33 x3_1.length co33) x3_1 (⟨wrap64 (1+t323),wrap64 (t335+1),(⟨t326,t327,t328,t329,t330⟩:S42)⟩:S44) [.int .i64 (wrap64 (1+t323)),.int .i64 (wrap64 (t335+1)),.int .i64 t326,.int .i64 t327,.int .i64 t328,.int .i64 t329,.string t330] (fun _=>True) (fun _=>False) rfl rfl ?aP (fun _ hk=>hk.elim) ?aF ?aO (Below.refl _ _) ?aS ?aL ?_
        (case aP=>exact k44_mkM _ _ _ (⟨wrap64 (1+t323),wrap64 (t335+1),(⟨t326,t327,t328,t329,t330⟩:S42)⟩:S44))
        (case aF=>exact (fun _ _=>trivial))
        (case aO=>exact (rp_ HO_3.out))
        (case aS=>exact (keep_size (w:=w) (g:=g) (row:=none) (kf_ HK.out)))
        (case aL=>have:=LMc19.out;omega)
        intro v337 w34 ho hb hg hat
        rw [←Ny336.out] at ho
        have n0_:=a_ (Kd.R_over' (rp_ HO_4.out) (Kd.R_typed (rp_ HO_3.out)) (by decide) hg)
        have n1_:=a_ (Kd.R_over' (rp_ HO_5.out) (Kd.R_typed (rp_ HO_3.out)) (by decide) hg)
        have n2_:=a_ (IsS145.grown (is_HI0) hg (IsS145.own_ne HI0.out HO_3.out (by decide)))
        have n3_:=a_ (blk_grown (g:=gb332) (o:=.cells #[.int .i64 t326,.int .i64 t327,.int .i64 t328,.int .i64 t329,.string t330] 42 (0,0)) (bp_ BK332.out) hg (Kd.R_ne HO_3.out BK332.out (by decide)))
        have n4_:=a_ (below_weaken (bel_) HL.out hb)
        have n5_:=a_ (KeepBut.trans (kf_ HK.out) (KeepBut.of_grown hg g) (Kd.R_base2 HO_3.out))
        have n6_:=a_ (ho)
        clear HO_4
        clear HO_5
        clear HI0
        clear BK332
        clear HB
        clear HK
        clear HO_3
        have HO_4:=n0_
        have HO_5:=n1_
        have HI0:=n2_
        have BK332:=n3_
        have HB:=n4_
        have HK:=n5_
        have HO338:=n6_
        clear n0_ n1_ n2_ n3_ n4_ n5_ n6_
        clear ho hb hg hat
        refine hK.out _ _ ⟨(bC_ BK332.out 0).trans rfl,(bC_ BK332.out 1).trans rfl,(bC_ BK332.out 2).trans rfl,(bC_ BK332.out 3).trans rfl,(bC_ BK332.out 4).trans rfl⟩ (fun hHeld=>?_)
        clear hK K
        refine no_ 52 ?_
        refine pa_ 10 3 ?_
        refine done_ (done_of HT_.out (by kernel_rfl)) ?_
        obtain ⟨Z35_0,Z35_1,Z35_2,Z35_3,Z35_4,Y35_0,Y35_1,Y35_2,Y35_3,Y35_4⟩:=op5_ BK332.out
        try go_wp2_with (first|((with_reducible refine gC_ (f:=125) rfl ?_);refine gl_ 55 Tryd.func125 #[.slice Ao23 x4_1.length co23,.agg #[.int .i64 t326,.int .i64 t327,.int .i64 t328,.int .i64 t329,.string t330]] ?_;(with_reducible refine (spec_l3Do.calls k1 _ _ x4_1 t326 t327 t328 t329 t330 t339 _ ?side1 ?side2 A20.out).mono ?_);(case side1=>exact cx_ (Kd.R_reads' HO_4.out).2.2);(case side2=>exact (Kd.R_reads' HO_4.out).2.1);rintro e w36 ⟨v340,rfl,ho0,hb⟩;refine ⟨_,rfl,?_⟩;replace HO_5:=a_ (Kd.R_below (rp_ HO_5.out) hb);replace HO338:=a_ (Kd.R_below (rp_ HO338.out) hb);have HO341:=a_ (Kd.R_lower (Kd.R_new' ho0 (Kd.R_lt (rp_ HO_4.out))) (keep_size (w:=w) (g:=g) (row:=none) (kf_ HK.out)));replace HO_4:=a_ (Kd.R_elder' (rp_ HO_4.out) (Kd.R_base ho0) hb);replace HK:=a_ (KeepBut.trans (kf_ HK.out) (KeepBut.of_below hb g none) (.inl rfl));replace HB:=a_ (bS_ (bel_) hb);replace HI0:=a_ (IsS145.below (is_HI0) hb);replace BK332:=a_ (bb_ BK332.out hb);(try clear hb ho0)))
        go_roundg k1
        case measure=>have:=HK1.out;omega
        case rel=>exact ⟨(y336),(t339),(y334),(wrap64 (x6_1 - 1)),(t331),(si_),H',⟨by have:=HK1.out;omega⟩,⟨by (with_reducible repeat (first|apply Kd.R_alloc|apply Kd.R_drewN|apply Kd.R_drew));exact HO338.out⟩,⟨by (with_reducible repeat (first|apply Kd.R_alloc|apply Kd.R_drewN|apply Kd.R_drew));exact Kd.R_mono HO341.out (fun _ hk=>trivial)⟩,⟨by (with_reducible repeat (first|apply Kd.R_alloc|apply Kd.R_drewN|apply Kd.R_drew));exact HO_5.out⟩,⟨is_HI0⟩,⟨kf_ HK.out⟩,⟨bel_⟩⟩
       ·rw [if_neg c19] at H
        exact absurd H (by simp)
      ·rw [if_neg c16] at H
       have c16b0:(t326==1)=false:=bn_ c16
       have c16b1:(t326 != 1)=true:=bne_iff_ne.mpr c16
       replace H:=bs_ H
       obtain ⟨t342,A370,H⟩:=H
       try dsimp only at H
       have A37:=a_ A370
       clear A370
       by_cases c38:x3_1.length < 2199023255552
       ·rw [if_pos c38] at H
        have LMc38:=a_ c38
        clear c38
        obtain ⟨y343,hy343⟩:∃ y_:List (S44),y_=(x3_1++[(⟨wrap64 (1+t323),wrap64 (t342+1),(⟨t326,t327,t328,t329,t330⟩:S42)⟩:S44)]):=⟨_,rfl⟩
        replace H:((spec_l3Do.f k1 x4_1 t326 t327 t328 t329 t330).bind fun t346=>(spec_l72Log.l0 k1 y343 t346 x5_1 (wrap64 (x6_1 - 1)) s0_0 t331))=some (r1,r2):=by first|(rw [hy343];with_reducible exact H)|(have H2_:=(Option.bind_some _ _).symm.trans H;rw [hy343];with_reducible exact H2_)|(have H2_:=(Option.bind_some _ _).symm.trans H;with_reducible exact H2_)|with_reducible exact H|(rw [hy343];exact H)|exact H
        have Ny343:=a_ hy343
        clear hy343
        replace H:=bs_ H
        obtain ⟨t346,A390,H⟩:=H
        try dsimp only at H
        have A39:=a_ A390
        clear A390
        have H':=a_ H
        clear H
        try go_wp2_with (first|((with_reducible refine gC_ (f:=74) rfl ?_);refine gl_ 19 Tryd.func74 #[.pointer (some ⟨g,0,none⟩),.int .i64 3] ?_;(with_reducible refine (spec_l6Rd_pick.calls k1 g s0_0 x1001_1 3 t323 t324 w0 _ ?side1 ?side2 A11.out).mono ?_);(case side1=>exact is_HI0);(case side2=>exact bel_);rintro e w40 ⟨rfl,hi,hb,hk⟩;refine ⟨_,rfl,?_⟩;replace HO_3:=a_ (Kd.R_mono (Kd.R_keep (IsS145.apart (show IsS145 w0 _ g s0_0 x1001_1 from is_HI0) (rp_ HO_3.out) (by decide)) hk (fun _ h=>h.2)) (fun _ h=>h.1));replace HO_4:=a_ (Kd.R_mono (Kd.R_keep (IsS145.apart (show IsS145 w0 _ g s0_0 x1001_1 from is_HI0) (rp_ HO_4.out) (by decide)) hk (fun _ h=>h.2)) (fun _ h=>h.1));replace HO_5:=a_ (Kd.R_mono (Kd.R_keep (IsS145.apart (show IsS145 w0 _ g s0_0 x1001_1 from is_HI0) (rp_ HO_5.out) (by decide)) hk (fun _ h=>h.2)) (fun _ h=>h.1));replace HK:=a_ (KeepBut.trans (ke_) hk (.inl rfl));replace HB:=a_ (hb);replace HI0:=a_ (hi);(try clear hb hk hi);obtain ⟨Ao41,co41,eo41⟩:=Kd.R_slice HO_5.out;subst eo41;have p325:0≤((ji12):Int):=od_;have q325:(ji12) < (x5_1.length:Int):=od_;obtain ⟨ad325,e325,hx325_0⟩:=Kd.at_int (Kd.R_reads' HO_5.out).2.2 (ji12) p325 q325;cases e325;replace p325:=eq_true p325;replace q325:=eq_true q325;obtain ⟨Ao42,co42,eo42⟩:=Kd.R_slice HO_4.out;subst eo42)|((with_reducible refine gC_ (f:=124) rfl ?_);refine goesL_ (some 29) rfl rfl Tryd.func124 (by kernel_rfl) rfl #[.pointer (some ⟨g,0,none⟩),.slice Ao42 x4_1.length co42,.int .i64 (wrap64 (1+t323)),.int .i64 (rd x5_1 (ji12))] rfl (by (try simp only [List.map_toArray,List.map_cons,List.map_nil]);first|done|(simp only [hji12];rfl)|rfl|(simp only [List.length_drop,List.length_take];rfl)) ?_;(with_reducible refine (spec_l72Op.calls k1 g s0_0 t324 _ _ x4_1 (wrap64 (1+t323)) (rd x5_1 (ji12)) t326 t327 t328 t329 t330 t331 w0 _ ?side1 ?side2 ?side3 ?side4 A15.out).mono ?_);(case side1=>exact is_HI0);(case side2=>exact bel_);(case side3=>exact Kd.C_foot_own (IsS145.apart (show IsS145 w0 _ g s0_0 t324 from is_HI0) (rp_ HO_4.out) (by decide)) (fun _ h_=>h_.2));(case side4=>exact (Kd.R_reads' HO_4.out).2.1);rintro e w43 ⟨rfl,hi,hb,hk⟩;refine ⟨_,rfl,?_⟩;replace HO_3:=a_ (Kd.R_mono (Kd.R_keep (IsS145.apart (show IsS145 w0 _ g s0_0 t324 from is_HI0) (rp_ HO_3.out) (by decide)) hk (fun _ h=>h.2)) (fun _ h=>h.1));replace HO_4:=a_ (Kd.R_mono (Kd.R_keep (IsS145.apart (show IsS145 w0 _ g s0_0 t324 from is_HI0) (rp_ HO_4.out) (by decide)) hk (fun _ h=>h.2)) (fun _ h=>h.1));replace HO_5:=a_ (Kd.R_mono (Kd.R_keep (IsS145.apart (show IsS145 w0 _ g s0_0 t324 from is_HI0) (rp_ HO_5.out) (by decide)) hk (fun _ h=>h.2)) (fun _ h=>h.1));replace HK:=a_ (KeepBut.trans (ke_) hk (.inl rfl));replace HB:=a_ (hb);replace HI0:=a_ (hi);(try clear hb hk hi))|((with_reducible refine gD_ (N:=8) rfl ?_);refine bx_ 8 (#[.int .i64 0,.int .i64 0,.int .i64 0,.int .i64 0,.string (⟨#[]⟩:ByteArray)]) 42 ?_;intro gb332 hg w44 hbox hb;have n0_:=a_ (Kd.R_below (rp_ HO_3.out) hb);have n1_:=a_ (Kd.R_below (rp_ HO_4.out) hb);have n2_:=a_ (Kd.R_below (rp_ HO_5.out) hb);have n3_:=a_ (IsS145.below (is_HI0) hb);have n4_:=a_ (KeepBut.trans (ke_) (KeepBut.of_below hb g none) (.inl rfl));have n5_:=a_ (bS_ (bel_) hb);have n6_:=a_ (hbox);have n7_:=a_ ((by rw [hg];exact (keep_size (w:=w) (g:=g) (row:=none) (ke_)):w.heap.size≤gb332));have n8_:=a_ ((Nat.le_trans HW0.out (by rw [hg];exact (keep_size (w:=w) (g:=g) (row:=none) (ke_)):w.heap.size≤gb332):w0.heap.size≤gb332));have n9_:=a_ ((by rw [hg];exact Nat.ne_of_lt (IsS145.lt (show IsS145 w0 _ g s0_0 t331 from is_HI0)):g≠gb332));have n10_:=a_ ((by rw [hg];exact Nat.ne_of_gt (IsS145.lt (show IsS145 w0 _ g s0_0 t331 from is_HI0)):gb332≠g));clear HO_3;clear HO_4;clear HO_5;clear HI0;clear HK;clear HB;have HO_3:=n0_;have HO_4:=n1_;have HO_5:=n2_;have HI0:=n3_;have HK:=n4_;have HB:=n5_;have BK332:=n6_;have GW332:=n7_;have GE332:=n8_;have NB0_332:=n9_;have NB332_0:=n10_;clear n0_ n1_ n2_ n3_ n4_ n5_ n6_ n7_ n8_ n9_ n10_;clear hb hbox hg;have hnb45:=NB332_0.out;have hnc45:=NB0_332.out;obtain ⟨Z46_0,Z46_1,Z46_2,Z46_3,Z46_4,Y46_0,Y46_1,Y46_2,Y46_3,Y46_4⟩:=op5_ BK332.out))
        have n0_:Aside0 (Kd.R k44 44 (((((w44.setCell ⟨gb332,0,none⟩ (.int .i64 t326)).setCell ⟨gb332,1,none⟩ (.int .i64 t327)).setCell ⟨gb332,2,none⟩ (.int .i64 t328)).setCell ⟨gb332,3,none⟩ (.int .i64 t329)).setCell ⟨gb332,4,none⟩ (.string t330)) w.heap.size (fun _=>True) u3 x3_1):=⟨by (with_reducible repeat (first|apply Kd.R_alloc|apply Kd.R_drewN|apply Kd.R_drew));exact Kd.R_mono (rf5_ (g:=gb332) (Kd.R_types HO_3.out BK332.out (by decide)) (fun _ hk=>hk.2) (.int .i64 t326) (.int .i64 t327) (.int .i64 t328) (.int .i64 t329) (.string t330)) (fun _ hk=>trivial)⟩
        have n1_:Aside0 (Kd.R k69 69 (((((w44.setCell ⟨gb332,0,none⟩ (.int .i64 t326)).setCell ⟨gb332,1,none⟩ (.int .i64 t327)).setCell ⟨gb332,2,none⟩ (.int .i64 t328)).setCell ⟨gb332,3,none⟩ (.int .i64 t329)).setCell ⟨gb332,4,none⟩ (.string t330)) w.heap.size (fun _=>True) (.slice Ao42 x4_1.length co42) x4_1):=⟨by (with_reducible repeat (first|apply Kd.R_alloc|apply Kd.R_drewN|apply Kd.R_drew));exact Kd.R_mono (rf5_ (g:=gb332) (Kd.R_types HO_4.out BK332.out (by decide)) (fun _ hk=>hk.2) (.int .i64 t326) (.int .i64 t327) (.int .i64 t328) (.int .i64 t329) (.string t330)) (fun _ hk=>trivial)⟩
        have n2_:Aside0 (Kd.R (Kd.int .i64) 3 (((((w44.setCell ⟨gb332,0,none⟩ (.int .i64 t326)).setCell ⟨gb332,1,none⟩ (.int .i64 t327)).setCell ⟨gb332,2,none⟩ (.int .i64 t328)).setCell ⟨gb332,3,none⟩ (.int .i64 t329)).setCell ⟨gb332,4,none⟩ (.string t330)) w.heap.size (fun _=>True) (.slice (some ad325) x5_1.length co41) x5_1):=⟨by (with_reducible repeat (first|apply Kd.R_alloc|apply Kd.R_drewN|apply Kd.R_drew));exact Kd.R_mono (rf5_ (g:=gb332) (Kd.R_types HO_5.out BK332.out (by decide)) (fun _ hk=>hk.2) (.int .i64 t326) (.int .i64 t327) (.int .i64 t328) (.int .i64 t329) (.string t330)) (fun _ hk=>trivial)⟩
        have n3_:Aside0 ((((((w44.setCell ⟨gb332,0,none⟩ (.int .i64 t326)).setCell ⟨gb332,1,none⟩ (.int .i64 t327)).setCell ⟨gb332,2,none⟩ (.int .i64 t328)).setCell ⟨gb332,3,none⟩ (.int .i64 t329)).setCell ⟨gb332,4,none⟩ (.string t330)).heap[gb332]?=some (.cells #[.int .i64 t326,.int .i64 t327,.int .i64 t328,.int .i64 t329,.string t330] 42 (0,0))):=⟨k5p_ BK332.out⟩
        have n4_:Aside0 (IsS145 w0 (((((w44.setCell ⟨gb332,0,none⟩ (.int .i64 t326)).setCell ⟨gb332,1,none⟩ (.int .i64 t327)).setCell ⟨gb332,2,none⟩ (.int .i64 t328)).setCell ⟨gb332,3,none⟩ (.int .i64 t329)).setCell ⟨gb332,4,none⟩ (.string t330)) g s0_0 t331):=⟨is_HI0⟩
        have n5_:Aside0 (KeepBut w (((((w44.setCell ⟨gb332,0,none⟩ (.int .i64 t326)).setCell ⟨gb332,1,none⟩ (.int .i64 t327)).setCell ⟨gb332,2,none⟩ (.int .i64 t328)).setCell ⟨gb332,3,none⟩ (.int .i64 t329)).setCell ⟨gb332,4,none⟩ (.string t330)) g none):=⟨kf_ HK.out⟩
        have n6_:Aside0 (Below w0.heap.size w0 (((((w44.setCell ⟨gb332,0,none⟩ (.int .i64 t326)).setCell ⟨gb332,1,none⟩ (.int .i64 t327)).setCell ⟨gb332,2,none⟩ (.int .i64 t328)).setCell ⟨gb332,3,none⟩ (.int .i64 t329)).setCell ⟨gb332,4,none⟩ (.string t330))):=⟨bel_⟩
        (try clear HO_3)
        (try clear HO_4)
        (try clear HO_5)
        (try clear BK332)
        (try clear HI0)
        (try clear HK)
        (try clear HB)
        generalize (((((w44.setCell ⟨gb332,0,none⟩ (.int .i64 t326)).setCell ⟨gb332,1,none⟩ (.int .i64 t327)).setCell ⟨gb332,2,none⟩ (.int .i64 t328)).setCell ⟨gb332,3,none⟩ (.int .i64 t329)).setCell ⟨gb332,4,none⟩ (.string t330))=w47 at n0_ n1_ n2_ n3_ n4_ n5_ n6_ ⊢
        have HO_3:=n0_
        have HO_4:=n1_
        have HO_5:=n2_
        have BK332:=n3_
        have HI0:=n4_
        have HK:=n5_
        have HB:=n6_
        clear n0_ n1_ n2_ n3_ n4_ n5_ n6_
        have n0_:=a_ (Kd.R_drew HO_3.out)
        have n1_:=a_ (Kd.R_drew HO_4.out)
        have n2_:=a_ (Kd.R_drew HO_5.out)
        have n3_:=a_ (bD_ BK332.out)
        have n4_:=a_ (IsS145.drew HI0.out)
        have n5_:=a_ (keep_drew HK.out)
        have n6_:=a_ (below_drew1 HB.out)
        clear HO_3
        clear HO_4
        clear HO_5
        clear BK332
        clear HI0
        clear HK
        clear HB
        have HO_3:=n0_
        have HO_4:=n1_
        have HO_5:=n2_
        have BK332:=n3_
        have HI0:=n4_
        have HK:=n5_
        have HB:=n6_
        clear n0_ n1_ n2_ n3_ n4_ n5_ n6_
        obtain ⟨Ao49,co49,eo49⟩:=Kd.R_slice HO_3.out
        (first|subst eo49|(injection eo49 with f1_ f2_ f3_;have f4_:=f1_.symm;have f5_:=f3_.symm;clear f1_ f2_ f3_;subst f4_;subst f5_))
        refine start_ (n:=11) (S:=fun w'=>w'.cell? ⟨gb332,0,none⟩=some (.int .i64 t326)∧w'.cell? ⟨gb332,1,none⟩=some (.int .i64 t327)∧w'.cell? ⟨gb332,2,none⟩=some (.int .i64 t328)∧w'.cell? ⟨gb332,3,none⟩=some (.int .i64 t329)∧w'.cell? ⟨gb332,4,none⟩=some (.string t330)) (ds:=[]) #[false,false,false,false,false,false,false,false,false,false,false] (by kernel_rfl) rfl rfl ⟨(bC_ BK332.out 0).trans rfl,(bC_ BK332.out 1).trans rfl,(bC_ BK332.out 2).trans rfl,(bC_ BK332.out 3).trans rfl,(bC_ BK332.out 4).trans rfl⟩ (fun hHeld=>?_);refine with_tabW spec_l72Log.tab11 spec_l72Log.bits11 (fun HT_ HW_=>?_)
        generalize w47.drew=w48 at HO_3 HO_4 HO_5 BK332 HI0 HK HB hHeld ⊢
        refine pa_ 0 43 ?_
        refine pa_ 1 44 ?_
        refine pa_ 2 45 ?_
        refine pa_ 3 46 ?_
        refine ta5_ 6 49 hHeld ?_
        refine on_ 4 47 (fun K hK=>?_)
        refine goes_ Tryd.func90 (by kernel_rfl) rfl #[.slice Ao49 x3_1.length co49,.int .i64 (wrap64 (1+t323))] (by rfl) rfl rfl ar_ ?_
        with_reducible refine (spec_l12Seq.calls k1 _ _ x3_1 (wrap64 (1+t323)) t342 _ ?side1 ?side2 A37.out).mono ?_
        (case side1=>exact cx_ (Kd.R_reads' HO_3.out).2.2)
        (case side2=>exact (Kd.R_reads' HO_3.out).2.1)
        rintro e w' ⟨rfl,⟨nd,rfl⟩⟩
        refine ⟨_,rfl,?_⟩
        refine hK.out _ _ ⟨(bC_ BK332.out 0).trans rfl,(bC_ BK332.out 1).trans rfl,(bC_ BK332.out 2).trans rfl,(bC_ BK332.out 3).trans rfl,(bC_ BK332.out 4).trans rfl⟩ (fun hHeld=>?_)
        clear hK K
        refine no_ 47 ?_
        refine pa_ 5 48 ?_
        refine pa_ 7 50 ?_
        refine on_ 8 51 (fun K hK=>?_)
        refine value_ (w1:=?_) (v:=?_) (by rfl) rfl ?_ ?_
        rotate_left 2
        ·go_simp
         constructor
         ·rfl
         ·rfl
        refine hK.out _ _ ⟨(bC_ (bA_ BK332.out _) 0).trans rfl,(bC_ (bA_ BK332.out _) 1).trans rfl,(bC_ (bA_ BK332.out _) 2).trans rfl,(bC_ (bA_ BK332.out _) 3).trans rfl,(bC_ (bA_ BK332.out _) 4).trans rfl⟩ (fun hHeld=>?_)
        clear hK K
        refine no_ 51 ?_
        refine on_ 9 52 (fun K hK=>?_)
        refine Kd.R_append_step k44 w.heap.size (by rfl) (.tmp 43) (.tmp 51) 23 44 (.agg #[(.int .i64 0),(.int .i64 0),(.int .i64 0),(.int .i64 0),(.int .i64 0),(.int .i64 0),(.string ⟨#[]⟩)]) 64 rfl Tryd.underlying23 info44 rfl (by decide) (by omega) (.slice Ao49 x3_1.length co49) x3_1 (⟨wrap64 (1+t323),wrap64 (t342+1),(⟨t326,t327,t328,t329,t330⟩:S42)⟩:S44) [.int .i64 (wrap64 (1+t323)),.int .i64 (wrap64 (t342+1)),.int .i64 t326,.int .i64 t327,.int .i64 t328,.int .i64 t329,.string t330] (fun _=>True) (fun _=>False) rfl rfl ?aP (fun _ hk=>hk.elim) ?aF ?aO (Below.refl _ _) ?aS ?aL ?_
        (case aP=>exact k44_mkM _ _ _ (⟨wrap64 (1+t323),wrap64 (t342+1),(⟨t326,t327,t328,t329,t330⟩:S42)⟩:S44))
        (case aF=>exact (fun _ _=>trivial))
        (case aO=>exact (rp_ HO_3.out))
        (case aS=>exact (keep_size (w:=w) (g:=g) (row:=none) (kf_ HK.out)))
        (case aL=>have:=LMc38.out;omega)
        intro v344 w50 ho hb hg hat
        rw [←Ny343.out] at ho
        have n0_:=a_ (Kd.R_over' (rp_ HO_4.out) (Kd.R_typed (rp_ HO_3.out)) (by decide) hg)
        have n1_:=a_ (Kd.R_over' (rp_ HO_5.out) (Kd.R_typed (rp_ HO_3.out)) (by decide) hg)
        have n2_:=a_ (IsS145.grown (is_HI0) hg (IsS145.own_ne HI0.out HO_3.out (by decide)))
        have n3_:=a_ (blk_grown (g:=gb332) (o:=.cells #[.int .i64 t326,.int .i64 t327,.int .i64 t328,.int .i64 t329,.string t330] 42 (0,0)) (bp_ BK332.out) hg (Kd.R_ne HO_3.out BK332.out (by decide)))
        have n4_:=a_ (below_weaken (bel_) HL.out hb)
        have n5_:=a_ (KeepBut.trans (kf_ HK.out) (KeepBut.of_grown hg g) (Kd.R_base2 HO_3.out))
        have n6_:=a_ (ho)
        clear HO_4
        clear HO_5
        clear HI0
        clear BK332
        clear HB
        clear HK
        clear HO_3
        have HO_4:=n0_
        have HO_5:=n1_
        have HI0:=n2_
        have BK332:=n3_
        have HB:=n4_
        have HK:=n5_
        have HO345:=n6_
        clear n0_ n1_ n2_ n3_ n4_ n5_ n6_
        clear ho hb hg hat
        refine hK.out _ _ ⟨(bC_ BK332.out 0).trans rfl,(bC_ BK332.out 1).trans rfl,(bC_ BK332.out 2).trans rfl,(bC_ BK332.out 3).trans rfl,(bC_ BK332.out 4).trans rfl⟩ (fun hHeld=>?_)
        clear hK K
        refine no_ 52 ?_
        refine pa_ 10 3 ?_
        refine done_ (done_of HT_.out (by kernel_rfl)) ?_
        obtain ⟨Z51_0,Z51_1,Z51_2,Z51_3,Z51_4,Y51_0,Y51_1,Y51_2,Y51_3,Y51_4⟩:=op5_ BK332.out
        try go_wp2_with (first|((with_reducible refine gC_ (f:=125) rfl ?_);refine gl_ 55 Tryd.func125 #[.slice Ao42 x4_1.length co42,.agg #[.int .i64 t326,.int .i64 t327,.int .i64 t328,.int .i64 t329,.string t330]] ?_;(with_reducible refine (spec_l3Do.calls k1 _ _ x4_1 t326 t327 t328 t329 t330 t346 _ ?side1 ?side2 A39.out).mono ?_);(case side1=>exact cx_ (Kd.R_reads' HO_4.out).2.2);(case side2=>exact (Kd.R_reads' HO_4.out).2.1);rintro e w52 ⟨v347,rfl,ho0,hb⟩;refine ⟨_,rfl,?_⟩;replace HO_5:=a_ (Kd.R_below (rp_ HO_5.out) hb);replace HO345:=a_ (Kd.R_below (rp_ HO345.out) hb);have HO348:=a_ (Kd.R_lower (Kd.R_new' ho0 (Kd.R_lt (rp_ HO_4.out))) (keep_size (w:=w) (g:=g) (row:=none) (kf_ HK.out)));replace HO_4:=a_ (Kd.R_elder' (rp_ HO_4.out) (Kd.R_base ho0) hb);replace HK:=a_ (KeepBut.trans (kf_ HK.out) (KeepBut.of_below hb g none) (.inl rfl));replace HB:=a_ (bS_ (bel_) hb);replace HI0:=a_ (IsS145.below (is_HI0) hb);replace BK332:=a_ (bb_ BK332.out hb);(try clear hb ho0)))
        go_roundg k1
        case measure=>have:=HK1.out;omega
        case rel=>exact ⟨(y343),(t346),(x5_1),(wrap64 (x6_1 - 1)),(t331),(si_),H',⟨by have:=HK1.out;omega⟩,⟨by (with_reducible repeat (first|apply Kd.R_alloc|apply Kd.R_drewN|apply Kd.R_drew));exact HO345.out⟩,⟨by (with_reducible repeat (first|apply Kd.R_alloc|apply Kd.R_drewN|apply Kd.R_drew));exact Kd.R_mono HO348.out (fun _ hk=>trivial)⟩,⟨by (with_reducible repeat (first|apply Kd.R_alloc|apply Kd.R_drewN|apply Kd.R_drew));exact HO_5.out⟩,⟨is_HI0⟩,⟨kf_ HK.out⟩,⟨bel_⟩⟩
       ·rw [if_neg c38] at H
        exact absurd H (by simp)
     ·rw [if_neg c14] at H
      exact absurd H (by simp)
    ·rw [if_neg c13] at H
     exact absurd H (by simp)
   ·rw [if_neg c10] at H
    have c10b0:decide (0 < x6_1)=false:=df_ c10
    clear c10
    replace H:=bs_ H
    obtain ⟨⟨t349,t350⟩,A530,H⟩:=H
    try dsimp only at H
    have A53:=a_ A530
    clear A530
    by_cases c54:t349=0
    ·rw [if_pos c54] at H
     have c54b0:(t349==0)=true:=beq_iff_eq.mpr c54
     have c54b1:(t349 != 0)=false:=be_ c54
     clear c54
     replace H:=bs_ H
     obtain ⟨⟨t351,t352⟩,A550,H⟩:=H
     try dsimp only at H
     have A55:=a_ A550
     clear A550
     replace H:=bs_ H
     obtain ⟨⟨t353,t354⟩,A560,H⟩:=H
     try dsimp only at H
     have A56:=a_ A560
     clear A560
     replace H:=bs_ H
     obtain ⟨⟨t355,t356,t357,t358,t359,t360⟩,A570,H⟩:=H
     try dsimp only at H
     have A57:=a_ A570
     clear A570
     by_cases c58:x3_1.length < 2199023255552
     ·rw [if_pos c58] at H
      have LMc58:=a_ c58
      clear c58
      obtain ⟨y361,hy361⟩:∃ y_:List (S44),y_=(x3_1++[(⟨wrap64 (1+t351),wrap64 (1+t353),(⟨t355,t356,t357,t358,t359⟩:S42)⟩:S44)]):=⟨_,rfl⟩
      replace H:(some (y361,t360))=some (r1,r2):=by first|(rw [hy361];with_reducible exact H)|(have H2_:=(Option.bind_some _ _).symm.trans H;rw [hy361];with_reducible exact H2_)|(have H2_:=(Option.bind_some _ _).symm.trans H;with_reducible exact H2_)|with_reducible exact H|(rw [hy361];exact H)|exact H
      have Ny361:=a_ hy361
      clear hy361
      simp only [Option.some.injEq,Prod.mk.injEq] at H
      obtain ⟨rfl,rfl⟩:=H
      go_wp2_with (first|((with_reducible refine gC_ (f:=74) rfl ?_);refine gl_ 57 Tryd.func74 #[.pointer (some ⟨g,0,none⟩),.int .i64 24] ?_;(with_reducible refine (spec_l6Rd_pick.calls k1 g s0_0 x1001_1 24 t349 t350 w0 _ ?side1 ?side2 A53.out).mono ?_);(case side1=>exact is_HI0);(case side2=>exact bel_);rintro e w59 ⟨rfl,hi,hb,hk⟩;refine ⟨_,rfl,?_⟩;replace HO_3:=a_ (Kd.R_mono (Kd.R_keep (IsS145.apart (show IsS145 w0 _ g s0_0 x1001_1 from is_HI0) (rp_ HO_3.out) (by decide)) hk (fun _ h=>h.2)) (fun _ h=>h.1));replace HO_4:=a_ (Kd.R_mono (Kd.R_keep (IsS145.apart (show IsS145 w0 _ g s0_0 x1001_1 from is_HI0) (rp_ HO_4.out) (by decide)) hk (fun _ h=>h.2)) (fun _ h=>h.1));replace HO_5:=a_ (Kd.R_mono (Kd.R_keep (IsS145.apart (show IsS145 w0 _ g s0_0 x1001_1 from is_HI0) (rp_ HO_5.out) (by decide)) hk (fun _ h=>h.2)) (fun _ h=>h.1));replace HK:=a_ (KeepBut.trans (ke_) hk (.inl rfl));replace HB:=a_ (hb);replace HI0:=a_ (hi);(try clear hb hk hi))|((with_reducible refine gC_ (f:=74) rfl ?_);refine gl_ 62 Tryd.func74 #[.pointer (some ⟨g,0,none⟩),.int .i64 3] ?_;(with_reducible refine (spec_l6Rd_pick.calls k1 g s0_0 t350 3 t351 t352 w0 _ ?side1 ?side2 A55.out).mono ?_);(case side1=>exact is_HI0);(case side2=>exact bel_);rintro e w60 ⟨rfl,hi,hb,hk⟩;refine ⟨_,rfl,?_⟩;replace HO_3:=a_ (Kd.R_mono (Kd.R_keep (IsS145.apart (show IsS145 w0 _ g s0_0 t350 from is_HI0) (rp_ HO_3.out) (by decide)) hk (fun _ h=>h.2)) (fun _ h=>h.1));replace HO_4:=a_ (Kd.R_mono (Kd.R_keep (IsS145.apart (show IsS145 w0 _ g s0_0 t350 from is_HI0) (rp_ HO_4.out) (by decide)) hk (fun _ h=>h.2)) (fun _ h=>h.1));replace HO_5:=a_ (Kd.R_mono (Kd.R_keep (IsS145.apart (show IsS145 w0 _ g s0_0 t350 from is_HI0) (rp_ HO_5.out) (by decide)) hk (fun _ h=>h.2)) (fun _ h=>h.1));replace HK:=a_ (KeepBut.trans (ke_) hk (.inl rfl));replace HB:=a_ (hb);replace HI0:=a_ (hi);(try clear hb hk hi))|((with_reducible refine gC_ (f:=74) rfl ?_);refine gl_ 65 Tryd.func74 #[.pointer (some ⟨g,0,none⟩),.int .i64 4] ?_;(with_reducible refine (spec_l6Rd_pick.calls k1 g s0_0 t352 4 t353 t354 w0 _ ?side1 ?side2 A56.out).mono ?_);(case side1=>exact is_HI0);(case side2=>exact bel_);rintro e w61 ⟨rfl,hi,hb,hk⟩;refine ⟨_,rfl,?_⟩;replace HO_3:=a_ (Kd.R_mono (Kd.R_keep (IsS145.apart (show IsS145 w0 _ g s0_0 t352 from is_HI0) (rp_ HO_3.out) (by decide)) hk (fun _ h=>h.2)) (fun _ h=>h.1));replace HO_4:=a_ (Kd.R_mono (Kd.R_keep (IsS145.apart (show IsS145 w0 _ g s0_0 t352 from is_HI0) (rp_ HO_4.out) (by decide)) hk (fun _ h=>h.2)) (fun _ h=>h.1));replace HO_5:=a_ (Kd.R_mono (Kd.R_keep (IsS145.apart (show IsS145 w0 _ g s0_0 t352 from is_HI0) (rp_ HO_5.out) (by decide)) hk (fun _ h=>h.2)) (fun _ h=>h.1));replace HK:=a_ (KeepBut.trans (ke_) hk (.inl rfl));replace HB:=a_ (hb);replace HI0:=a_ (hi);(try clear hb hk hi))|((with_reducible refine gC_ (f:=96) rfl ?_);refine gl_ 68 Tryd.func96 #[.pointer (some ⟨g,0,none⟩)] ?_;(with_reducible refine (spec_l71Op.calls k1 g s0_0 t354 t355 t356 t357 t358 t359 t360 w0 _ ?side1 ?side2 A57.out).mono ?_);(case side1=>exact is_HI0);(case side2=>exact bel_);rintro e w62 ⟨rfl,hi,hb,hk⟩;refine ⟨_,rfl,?_⟩;replace HO_3:=a_ (Kd.R_mono (Kd.R_keep (IsS145.apart (show IsS145 w0 _ g s0_0 t354 from is_HI0) (rp_ HO_3.out) (by decide)) hk (fun _ h=>h.2)) (fun _ h=>h.1));replace HO_4:=a_ (Kd.R_mono (Kd.R_keep (IsS145.apart (show IsS145 w0 _ g s0_0 t354 from is_HI0) (rp_ HO_4.out) (by decide)) hk (fun _ h=>h.2)) (fun _ h=>h.1));replace HO_5:=a_ (Kd.R_mono (Kd.R_keep (IsS145.apart (show IsS145 w0 _ g s0_0 t354 from is_HI0) (rp_ HO_5.out) (by decide)) hk (fun _ h=>h.2)) (fun _ h=>h.1));replace HK:=a_ (KeepBut.trans (ke_) hk (.inl rfl));replace HB:=a_ (hb);replace HI0:=a_ (hi);(try clear hb hk hi))|((with_reducible refine gate_builtin (b:=.append) (xs:=#[.tmp 60,.tmp 70]) rfl ?_);at_builtin;refine Kd.R_append k44 w.heap.size rfl (.tmp 60) (.tmp 70) 23 44 (.agg #[(.int .i64 0),(.int .i64 0),(.int .i64 0),(.int .i64 0),(.int .i64 0),(.int .i64 0),(.string ⟨#[]⟩)]) 64 rfl Tryd.underlying23 info44 rfl (by decide) (by omega) u3 x3_1 (⟨wrap64 (1+t351),wrap64 (1+t353),(⟨t355,t356,t357,t358,t359⟩:S42)⟩:S44) [.int .i64 (wrap64 (1+t351)),.int .i64 (wrap64 (1+t353)),.int .i64 t355,.int .i64 t356,.int .i64 t357,.int .i64 t358,.string t359] (fun _=>True) (fun _=>False) rfl rfl ?aP (fun _ hk=>hk.elim) ?aF ?aO (Below.refl _ _) ?aS ?aL ?_;(case aP=>exact k44_mkM _ _ _ (⟨wrap64 (1+t351),wrap64 (1+t353),(⟨t355,t356,t357,t358,t359⟩:S42)⟩:S44));(case aF=>exact (fun _ _=>trivial));(case aO=>exact (rp_ HO_3.out));(case aS=>exact (keep_size (w:=w) (g:=g) (row:=none) (ke_)));(case aL=>have:=LMc58.out;omega);intro v362 w63 ho hb hg hat;rw [←Ny361.out] at ho;replace HO_4:=a_ (Kd.R_over' (rp_ HO_4.out) (Kd.R_typed (rp_ HO_3.out)) (by decide) hg);replace HO_5:=a_ (Kd.R_over' (rp_ HO_5.out) (Kd.R_typed (rp_ HO_3.out)) (by decide) hg);replace HB:=a_ (below_weaken (bel_) HL.out hb);replace HI0:=a_ (IsS145.grown (is_HI0) hg (IsS145.own_ne HI0.out HO_3.out (by decide)));replace HK:=a_ (KeepBut.trans (ke_) (KeepBut.of_grown hg g) (Kd.R_base2 HO_3.out));have HO363:=a_ (ho);clear HO_3;clear ho hb hg hat))
      go_ret
      exact ⟨_,fi_,by (with_reducible repeat (first|apply Kd.R_alloc|apply Kd.R_drewN|apply Kd.R_drew));exact HO363.out,is_HI0,bel_,ke_⟩
     ·rw [if_neg c58] at H
      exact absurd H (by simp)
    ·rw [if_neg c54] at H
     have c54b0:(t349==0)=false:=bn_ c54
     have c54b1:(t349 != 0)=true:=bne_iff_ne.mpr c54
     by_cases c64:t349=1
     ·rw [if_pos c64] at H
      have c64b0:(t349==1)=true:=beq_iff_eq.mpr c64
      have c64b1:(t349 != 1)=false:=be_ c64
      clear c64
      by_cases c65:(x3_1.length:Int) > 0
      ·rw [if_pos c65] at H
       have c65b0:decide (0 < (x3_1.length:Int))=true:=dt_ c65
       have c65b1:decide (0 < x3_1.length)=true:=dt_ (by omega)
       clear c65
       replace H:=bs_ H
       obtain ⟨⟨t364,t365⟩,A660,H⟩:=H
       try dsimp only at H
       have A66:=a_ A660
       clear A660
       replace H:=bs_ H
       obtain ⟨⟨t366,t367⟩,A670,H⟩:=H
       try dsimp only at H
       have A67:=a_ A670
       clear A670
       by_cases c68:0≤t364
       ·rw [if_pos c68] at H
        have c68b0:decide (0≤t364)=true:=dt_ c68
        clear c68
        by_cases c69:t364 < (x3_1.length:Int)
        ·rw [if_pos c69] at H
         have c69b0:decide (t364 < (x3_1.length:Int))=true:=dt_ c69
         clear c69
         obtain ⟨y368,hy368⟩:∃ y_:List (S44),y_=(x3_1.set (t364:Int).toNat (⟨(rd_T44 x3_1 t364).f0,t366,(⟨(rd_T44 x3_1 t364).f2.f0,(rd_T44 x3_1 t364).f2.f1,(rd_T44 x3_1 t364).f2.f2,(rd_T44 x3_1 t364).f2.f3,(rd_T44 x3_1 t364).f2.f4⟩:S42)⟩:S44)):=⟨_,rfl⟩
         replace H:(some (y368,t367))=some (r1,r2):=by first|(rw [hy368];with_reducible exact H)|(have H2_:=(Option.bind_some _ _).symm.trans H;rw [hy368];with_reducible exact H2_)|(have H2_:=(Option.bind_some _ _).symm.trans H;with_reducible exact H2_)|with_reducible exact H|(rw [hy368];exact H)|exact H
         have Ny368:=a_ hy368
         clear hy368
         simp only [Option.some.injEq,Prod.mk.injEq] at H
         obtain ⟨rfl,rfl⟩:=H
         go_wp2_with (first|((with_reducible refine gC_ (f:=74) rfl ?_);refine gl_ 57 Tryd.func74 #[.pointer (some ⟨g,0,none⟩),.int .i64 24] ?_;(with_reducible refine (spec_l6Rd_pick.calls k1 g s0_0 x1001_1 24 t349 t350 w0 _ ?side1 ?side2 A53.out).mono ?_);(case side1=>exact is_HI0);(case side2=>exact bel_);rintro e w71 ⟨rfl,hi,hb,hk⟩;refine ⟨_,rfl,?_⟩;replace HO_3:=a_ (Kd.R_mono (Kd.R_keep (IsS145.apart (show IsS145 w0 _ g s0_0 x1001_1 from is_HI0) (rp_ HO_3.out) (by decide)) hk (fun _ h=>h.2)) (fun _ h=>h.1));replace HO_4:=a_ (Kd.R_mono (Kd.R_keep (IsS145.apart (show IsS145 w0 _ g s0_0 x1001_1 from is_HI0) (rp_ HO_4.out) (by decide)) hk (fun _ h=>h.2)) (fun _ h=>h.1));replace HO_5:=a_ (Kd.R_mono (Kd.R_keep (IsS145.apart (show IsS145 w0 _ g s0_0 x1001_1 from is_HI0) (rp_ HO_5.out) (by decide)) hk (fun _ h=>h.2)) (fun _ h=>h.1));replace HK:=a_ (KeepBut.trans (ke_) hk (.inl rfl));replace HB:=a_ (hb);replace HI0:=a_ (hi);(try clear hb hk hi);obtain ⟨Ao72,co72,eo72⟩:=Kd.R_slice HO_3.out;subst eo72)|((with_reducible refine gC_ (f:=74) rfl ?_);refine gl_ 81 Tryd.func74 #[.pointer (some ⟨g,0,none⟩),.int .i64 (x3_1.length:Int)] ?_;(with_reducible refine (spec_l6Rd_pick.calls k1 g s0_0 t350 (x3_1.length:Int) t364 t365 w0 _ ?side1 ?side2 A66.out).mono ?_);(case side1=>exact is_HI0);(case side2=>exact bel_);rintro e w73 ⟨rfl,hi,hb,hk⟩;refine ⟨_,rfl,?_⟩;replace HO_3:=a_ (Kd.R_mono (Kd.R_keep (IsS145.apart (show IsS145 w0 _ g s0_0 t350 from is_HI0) (rp_ HO_3.out) (by decide)) hk (fun _ h=>h.2)) (fun _ h=>h.1));replace HO_4:=a_ (Kd.R_mono (Kd.R_keep (IsS145.apart (show IsS145 w0 _ g s0_0 t350 from is_HI0) (rp_ HO_4.out) (by decide)) hk (fun _ h=>h.2)) (fun _ h=>h.1));replace HO_5:=a_ (Kd.R_mono (Kd.R_keep (IsS145.apart (show IsS145 w0 _ g s0_0 t350 from is_HI0) (rp_ HO_5.out) (by decide)) hk (fun _ h=>h.2)) (fun _ h=>h.1));replace HK:=a_ (KeepBut.trans (ke_) hk (.inl rfl));replace HB:=a_ (hb);replace HI0:=a_ (hi);(try clear hb hk hi))|((with_reducible refine gC_ (f:=74) rfl ?_);refine gl_ 83 Tryd.func74 #[.pointer (some ⟨g,0,none⟩),.int .i64 4] ?_;(with_reducible refine (spec_l6Rd_pick.calls k1 g s0_0 t365 4 t366 t367 w0 _ ?side1 ?side2 A67.out).mono ?_);(case side1=>exact is_HI0);(case side2=>exact bel_);rintro e w74 ⟨rfl,hi,hb,hk⟩;refine ⟨_,rfl,?_⟩;replace HO_3:=a_ (Kd.R_mono (Kd.R_keep (IsS145.apart (show IsS145 w0 _ g s0_0 t365 from is_HI0) (rp_ HO_3.out) (by decide)) hk (fun _ h=>h.2)) (fun _ h=>h.1));replace HO_4:=a_ (Kd.R_mono (Kd.R_keep (IsS145.apart (show IsS145 w0 _ g s0_0 t365 from is_HI0) (rp_ HO_4.out) (by decide)) hk (fun _ h=>h.2)) (fun _ h=>h.1));replace HO_5:=a_ (Kd.R_mono (Kd.R_keep (IsS145.apart (show IsS145 w0 _ g s0_0 t365 from is_HI0) (rp_ HO_5.out) (by decide)) hk (fun _ h=>h.2)) (fun _ h=>h.1));replace HK:=a_ (KeepBut.trans (ke_) hk (.inl rfl));replace HB:=a_ (hb);replace HI0:=a_ (hi);(try clear hb hk hi);have p70:0≤(t364:Int):=od_;have q70:(t364:Int) < ((x3_1.length:Int):Int):=od_;obtain ⟨go70,co70,eo70,gb70,gl70,cl70,HG70⟩:=Kd.R_form HO_3.out (by omega);(first|cases eo70|(injection eo70 with ea_ en_ ec_;(first|subst ea_|(injection ea_ with ea_;subst ea_));subst ec_;clear en_));have GB70:=a_ gb70;have GG70:=a_ HG70;clear gb70 gl70 HG70;obtain ⟨ce70,hcl70,hM70,hcc70,hfr70⟩:=Kd.R_elem HO_3.out z44 (t364:Int) p70 q70;obtain rfl:=k44_openM hM70;have hx70_0:w74.cell? ⟨go70,(t364:Int).toNat * 7,none⟩=some (.int .i64 ((rd_T44 x3_1 t364).f0)):=hcc70 0 _ rfl;have hx70_1:w74.cell? ⟨go70,(t364:Int).toNat * 7+1,none⟩=some (.int .i64 ((rd_T44 x3_1 t364).f1)):=hcc70 1 _ rfl;have hx70_2:w74.cell? ⟨go70,(t364:Int).toNat * 7+2,none⟩=some (.int .i64 ((rd_T44 x3_1 t364).f2.f0)):=hcc70 2 _ rfl;have hx70_3:w74.cell? ⟨go70,(t364:Int).toNat * 7+3,none⟩=some (.int .i64 ((rd_T44 x3_1 t364).f2.f1)):=hcc70 3 _ rfl;have hx70_4:w74.cell? ⟨go70,(t364:Int).toNat * 7+4,none⟩=some (.int .i64 ((rd_T44 x3_1 t364).f2.f2)):=hcc70 4 _ rfl;have hx70_5:w74.cell? ⟨go70,(t364:Int).toNat * 7+5,none⟩=some (.int .i64 ((rd_T44 x3_1 t364).f2.f3)):=hcc70 5 _ rfl;have hx70_6:w74.cell? ⟨go70,(t364:Int).toNat * 7+6,none⟩=some (.string ((rd_T44 x3_1 t364).f2.f4)):=hcc70 6 _ rfl;have hf70_0:w74.frozen? ⟨go70,(t364:Int).toNat * 7,none⟩=false:=hfr70 0;have hf70_1:w74.frozen? ⟨go70,(t364:Int).toNat * 7+1,none⟩=false:=hfr70 1;have hf70_2:w74.frozen? ⟨go70,(t364:Int).toNat * 7+2,none⟩=false:=hfr70 2;have hf70_3:w74.frozen? ⟨go70,(t364:Int).toNat * 7+3,none⟩=false:=hfr70 3;have hf70_4:w74.frozen? ⟨go70,(t364:Int).toNat * 7+4,none⟩=false:=hfr70 4;have hf70_5:w74.frozen? ⟨go70,(t364:Int).toNat * 7+5,none⟩=false:=hfr70 5;have hf70_6:w74.frozen? ⟨go70,(t364:Int).toNat * 7+6,none⟩=false:=hfr70 6;clear hcl70 hcc70 hfr70 hM70;replace p70:=eq_true p70;replace q70:=eq_true q70;have HX75:=a_ (show Kd.R k44 44 w74 w.heap.size (fun _=>True) (.slice (some ⟨go70,0,none⟩) x3_1.length co72) x3_1 from (rp_ HO_3.out));obtain ⟨ce75,hcl75,hM75,hcc75,hfr75⟩:=Kd.R_elem HX75.out z44 (t364:Int) (od_) (by have h_:(t364:Int) < ((x3_1.length:Int):Int):=od_;first|exact h_|(have e_:=(Kd.R_reads' HO_3.out).1;omega)|simpa using h_);obtain rfl:=k44_openM hM75;have HP75:=Kd.R_seg HX75.out (t364:Int) (od_) (by have h_:(t364:Int) < ((x3_1.length:Int):Int):=od_;first|exact h_|(have e_:=(Kd.R_reads' HO_3.out).1;omega)|simpa using h_) (seg:=[.int .i64 t366]) (j:=1) hcl75 hcc75 (show 2≤7 from by decide) (x':=(⟨(rd_T44 x3_1 t364).f0,t366,(⟨(rd_T44 x3_1 t364).f2.f0,(rd_T44 x3_1 t364).f2.f1,(rd_T44 x3_1 t364).f2.f2,(rd_T44 x3_1 t364).f2.f3,(rd_T44 x3_1 t364).f2.f4⟩:S42)⟩:S44)) (k44_mkM _ _ _ (⟨(rd_T44 x3_1 t364).f0,t366,(⟨(rd_T44 x3_1 t364).f2.f0,(rd_T44 x3_1 t364).f2.f1,(rd_T44 x3_1 t364).f2.f2,(rd_T44 x3_1 t364).f2.f3,(rd_T44 x3_1 t364).f2.f4⟩:S42)⟩:S44) ) (fun _ hk=>hk);have hx75_1:=hcc75 1 _ rfl;(try simp only [show (k44).sz=7 from rfl,Nat.mul_one,Nat.add_zero] at hx75_1);have hf75_1:=hfr75 1;(try simp only [show (k44).sz=7 from rfl,Nat.mul_one,Nat.add_zero] at hf75_1);clear hcl75 hcc75 hfr75 hM75)|((with_reducible refine gate_store (t:=3) (p:=85) rfl ?_);refine store_event (t:=3) (p:=85) (v:=?vo_w76) (w1:=(w74.setCell ⟨go70,(t364:Int).toNat * 7+1,none⟩ (.int .i64 t366))) ?hg ?ho ?hn ?hr ?_;(case ho=>rfl);(case hg=>rfl);(case hn=>rfl);(case hr=>first|(go_simp;done)|(go_simp;rfl));intro w76 hw;have hg:w74.grownBy w76 (some go70):=(by rw [hw];exact HP75.2);have hp_:Kd.R k44 44 w76 w.heap.size (fun _=>True) (.slice (some ⟨go70,0,none⟩) x3_1.length co72) y368:=(by rw [hw,Ny368.out];exact HP75.1);clear HP75;have n0_:=a_ (hp_);have n1_:=a_ (Kd.R_over' (v:=(.slice (some ⟨go70,0,none⟩) x3_1.length co72)) (rp_ HO_4.out) (Kd.R_typed HO_3.out) (by decide) hg);have n2_:=a_ (Kd.R_over' (v:=(.slice (some ⟨go70,0,none⟩) x3_1.length co72)) (rp_ HO_5.out) (Kd.R_typed HO_3.out) (by decide) hg);have n3_:=a_ (IsS145.grown (is_HI0) hg (IsS145.own_ne HI0.out HO_3.out (by decide)));have n4_:=a_ ((by rw [hw];exact wS_ (HB.out) (Nat.le_trans HL.out GB70.out):Below w0.heap.size w0 w76));have n5_:=a_ (KeepBut.trans (ke_) (KeepBut.of_grown hg g) (Kd.R_base2 HO_3.out));clear HO_3;clear HO_4;clear HO_5;clear HI0;clear HB;clear HK;have HO_3:=n0_;have HO_4:=n1_;have HO_5:=n2_;have HI0:=n3_;have HB:=n4_;have HK:=n5_;clear n0_ n1_ n2_ n3_ n4_ n5_;clear hg hw hp_))
         go_ret
         exact ⟨_,fi_,by (with_reducible repeat (first|apply Kd.R_alloc|apply Kd.R_drewN|apply Kd.R_drew));exact HO_3.out,is_HI0,bel_,ke_⟩
        ·rw [if_neg c69] at H
         exact absurd H (by simp)
       ·rw [if_neg c68] at H
        exact absurd H (by simp)
      ·rw [if_neg c65] at H
       have c65b0:decide (0 < (x3_1.length:Int))=false:=df_ c65
       have c65b1:decide (0 < x3_1.length)=false:=df_ (by omega)
       clear c65
       simp only [Option.some.injEq,Prod.mk.injEq] at H
       obtain ⟨rfl,rfl⟩:=H
       go_wp2_with (first|((with_reducible refine gC_ (f:=74) rfl ?_);refine gl_ 57 Tryd.func74 #[.pointer (some ⟨g,0,none⟩),.int .i64 24] ?_;(with_reducible refine (spec_l6Rd_pick.calls k1 g s0_0 x1001_1 24 t349 t350 w0 _ ?side1 ?side2 A53.out).mono ?_);(case side1=>exact is_HI0);(case side2=>exact bel_);rintro e w77 ⟨rfl,hi,hb,hk⟩;refine ⟨_,rfl,?_⟩;replace HO_3:=a_ (Kd.R_mono (Kd.R_keep (IsS145.apart (show IsS145 w0 _ g s0_0 x1001_1 from is_HI0) (rp_ HO_3.out) (by decide)) hk (fun _ h=>h.2)) (fun _ h=>h.1));replace HO_4:=a_ (Kd.R_mono (Kd.R_keep (IsS145.apart (show IsS145 w0 _ g s0_0 x1001_1 from is_HI0) (rp_ HO_4.out) (by decide)) hk (fun _ h=>h.2)) (fun _ h=>h.1));replace HO_5:=a_ (Kd.R_mono (Kd.R_keep (IsS145.apart (show IsS145 w0 _ g s0_0 x1001_1 from is_HI0) (rp_ HO_5.out) (by decide)) hk (fun _ h=>h.2)) (fun _ h=>h.1));replace HK:=a_ (KeepBut.trans (ke_) hk (.inl rfl));replace HB:=a_ (hb);replace HI0:=a_ (hi);(try clear hb hk hi);obtain ⟨Ao78,co78,eo78⟩:=Kd.R_slice HO_3.out;subst eo78))
       go_ret
       exact ⟨_,fi_,by (with_reducible repeat (first|apply Kd.R_alloc|apply Kd.R_drewN|apply Kd.R_drew));exact HO_3.out,is_HI0,bel_,ke_⟩
     ·rw [if_neg c64] at H
      have c64b0:(t349==1)=false:=bn_ c64
      have c64b1:(t349 != 1)=true:=bne_iff_ne.mpr c64
      simp only [Option.some.injEq,Prod.mk.injEq] at H
      obtain ⟨rfl,rfl⟩:=H
      go_wp2_with (first|((with_reducible refine gC_ (f:=74) rfl ?_);refine gl_ 57 Tryd.func74 #[.pointer (some ⟨g,0,none⟩),.int .i64 24] ?_;(with_reducible refine (spec_l6Rd_pick.calls k1 g s0_0 x1001_1 24 t349 t350 w0 _ ?side1 ?side2 A53.out).mono ?_);(case side1=>exact is_HI0);(case side2=>exact bel_);rintro e w79 ⟨rfl,hi,hb,hk⟩;refine ⟨_,rfl,?_⟩;replace HO_3:=a_ (Kd.R_mono (Kd.R_keep (IsS145.apart (show IsS145 w0 _ g s0_0 x1001_1 from is_HI0) (rp_ HO_3.out) (by decide)) hk (fun _ h=>h.2)) (fun _ h=>h.1));replace HO_4:=a_ (Kd.R_mono (Kd.R_keep (IsS145.apart (show IsS145 w0 _ g s0_0 x1001_1 from is_HI0) (rp_ HO_4.out) (by decide)) hk (fun _ h=>h.2)) (fun _ h=>h.1));replace HO_5:=a_ (Kd.R_mono (Kd.R_keep (IsS145.apart (show IsS145 w0 _ g s0_0 x1001_1 from is_HI0) (rp_ HO_5.out) (by decide)) hk (fun _ h=>h.2)) (fun _ h=>h.1));replace HK:=a_ (KeepBut.trans (ke_) hk (.inl rfl));replace HB:=a_ (hb);replace HI0:=a_ (hi);(try clear hb hk hi)))
      go_ret
      exact ⟨_,fi_,by (with_reducible repeat (first|apply Kd.R_alloc|apply Kd.R_drewN|apply Kd.R_drew));exact HO_3.out,is_HI0,bel_,ke_⟩

def spec_l72Server.f (k:Nat) (s0_0:List Int) (s0_1:Int):Option ((List (S44))×Int×Bool×Int):=(spec_l72Log.f k s0_0 s0_1).bind fun bt370=>((spec_l6Rd_pick.f k s0_0 bt370.2 8).bind fun bt374=>((spec_l6Rd_pick.f k s0_0 bt374.2 (wrap64 ((bt370.1.length:Int)+1))).bind fun bt377=>((spec_l6Rd_pick.f k s0_0 bt377.2 24).bind fun bt379=>(some (bt370.1,wrap64 (bt377.1+(wrap64 (Int.tdiv bt379.1 23))),decide (bt374.1 > 0),bt379.2)))))
theorem spec_l72Server.mono:∀ a0 a1 k,LeO (spec_l72Server.f k a0 a1) (spec_l72Server.f (k+1) a0 a1):=by
 intro a0 a1 k
 unfold spec_l72Server.f
 repeat' first
   | (with_reducible exact spec_l6Rd_pick.mono _ _ _ _)
   | (with_reducible exact spec_l72Log.mono _ _ _)
   | (with_reducible exact LeO.refl _)
   | (with_reducible exact LeO.none _)
   | (with_reducible refine LeO.ite ?_ ?_)
   | (with_reducible refine LeO.bind ?_ (fun _=>?_))
theorem spec_l72Server.calls (k:Nat) (g:Nat) (s0_0:List Int) (s0_1:Int) (r1:List (S44)) (r2:Int) (r3:Bool) (r4:Int) (w0 w:World) (hI:IsS145 w0 w g s0_0 s0_1) (hB:Below w0.heap.size w0 w) (h:spec_l72Server.f k s0_0 s0_1=some (r1,r2,r3,r4)) :
  Calls Tryd.prog 73 #[.pointer (some ⟨g,0,none⟩)] w fun e w'=>∃ v0_:Value,e=.returned (.agg #[v0_,.int .i64 r2,.bool r3])∧Kd.R k44 44 w' w.heap.size (fun _=>True) v0_ r1∧IsS145 w0 w' g s0_0 r4∧Below w0.heap.size w0 w'∧KeepBut w w' g none:=by
 have hu25:=Tryd.underlying25
 have HI0:=a_ hI
 have HK:=a_ (KeepBut.refl w g none)
 have HL:=a_ hB.size
 clear hI
 have HW0:=a_ hB.size
 have HB:=a_ hB
 clear hB
 have H:((spec_l72Log.f k s0_0 s0_1).bind fun bt370=>((spec_l6Rd_pick.f k s0_0 bt370.2 8).bind fun bt374=>((spec_l6Rd_pick.f k s0_0 bt374.2 (wrap64 ((bt370.1.length:Int)+1))).bind fun bt377=>((spec_l6Rd_pick.f k s0_0 bt377.2 24).bind fun bt379=>(some (bt370.1,wrap64 (bt377.1+(wrap64 (Int.tdiv bt379.1 23))),decide (bt374.1 > 0),bt379.2))))))=some (r1,r2,r3,r4):=h
 clear h
 replace H:=bs_ H
 obtain ⟨⟨t370,t373⟩,A20,H⟩:=H
 replace H:((spec_l6Rd_pick.f k s0_0 t373 8).bind fun bt374=>((spec_l6Rd_pick.f k s0_0 bt374.2 (wrap64 ((t370.length:Int)+1))).bind fun bt377=>((spec_l6Rd_pick.f k s0_0 bt377.2 24).bind fun bt379=>(some (t370,wrap64 (bt377.1+(wrap64 (Int.tdiv bt379.1 23))),decide (bt374.1 > 0),bt379.2)))))=some (r1,r2,r3,r4):=H
 have A2:=a_ A20
 clear A20
 replace H:=bs_ H
 obtain ⟨⟨t374,t375⟩,A30,H⟩:=H
 replace H:((spec_l6Rd_pick.f k s0_0 t375 (wrap64 ((t370.length:Int)+1))).bind fun bt377=>((spec_l6Rd_pick.f k s0_0 bt377.2 24).bind fun bt379=>(some (t370,wrap64 (bt377.1+(wrap64 (Int.tdiv bt379.1 23))),decide (t374 > 0),bt379.2))))=some (r1,r2,r3,r4):=H
 have A3:=a_ A30
 clear A30
 replace H:=bs_ H
 obtain ⟨⟨t377,t378⟩,A40,H⟩:=H
 replace H:((spec_l6Rd_pick.f k s0_0 t378 24).bind fun bt379=>(some (t370,wrap64 (t377+(wrap64 (Int.tdiv bt379.1 23))),decide (t374 > 0),bt379.2)))=some (r1,r2,r3,r4):=H
 have A4:=a_ A40
 clear A40
 replace H:=bs_ H
 obtain ⟨⟨t379,t380⟩,A50,H⟩:=H
 replace H:(some (t370,wrap64 (t377+(wrap64 (Int.tdiv t379 23))),decide (t374 > 0),t380))=some (r1,r2,r3,r4):=H
 have A5:=a_ A50
 clear A50
 simp only [Option.some.injEq,Prod.mk.injEq] at H
 obtain ⟨rfl,rfl,rfl,rfl⟩:=H
 go_enter Tryd.func73,Tryd.ntmps73
 go_wp2_with (first|((with_reducible refine gD_ (N:=2) rfl ?_);refine box_event ?hg (N:=2) ?hd (cs:=#[.slice none 0 0,.int .i64 0,.bool false]) (t:=25) ?hr ?_;(case hd=>rfl);(case hg=>rfl);(case hr=>first|(go_simp;done)|(go_simp;rfl));intro gb369 hg w6 hbox hb;have n0_:=a_ (IsS145.below (by repeat (first|(with_reducible first|exact HI0.out|apply IsS145.alloc|apply IsS145.drewN|apply IsS145.drew|apply IsS145.set_1)|exact HI0.out)) hb);have n1_:=a_ (KeepBut.trans (by repeat (first|(with_reducible first|exact HK.out|apply KeepBut.set_|apply keep_drewN|apply keep_drew|apply keep_alloc)|exact HK.out)) (KeepBut.of_below hb g none) (.inl rfl));have n2_:=a_ (bS_ (by repeat (first|(with_reducible first|exact HB.out|apply wA_|apply pw_below_drewN|apply below_drew1|refine wS_ ?_ (IsS145.ge HI0.out))|exact HB.out)) hb);have n3_:=a_ (hbox);have n4_:=a_ ((by rw [hg];exact (keep_size (w:=w) (g:=g) (row:=none) (by repeat (first|(with_reducible first|exact HK.out|apply KeepBut.set_|apply keep_drewN|apply keep_drew|apply keep_alloc)|exact HK.out))):w.heap.size≤gb369));have n5_:=a_ ((Nat.le_trans HW0.out (by rw [hg];exact (keep_size (w:=w) (g:=g) (row:=none) (by repeat (first|(with_reducible first|exact HK.out|apply KeepBut.set_|apply keep_drewN|apply keep_drew|apply keep_alloc)|exact HK.out))):w.heap.size≤gb369):w0.heap.size≤gb369));have n6_:=a_ ((by rw [hg];exact Nat.ne_of_lt (IsS145.lt (show IsS145 w0 _ g s0_0 s0_1 from by repeat (first|(with_reducible first|exact HI0.out|apply IsS145.alloc|apply IsS145.drewN|apply IsS145.drew|apply IsS145.set_1)|exact HI0.out))):g≠gb369));have n7_:=a_ ((by rw [hg];exact Nat.ne_of_gt (IsS145.lt (show IsS145 w0 _ g s0_0 s0_1 from by repeat (first|(with_reducible first|exact HI0.out|apply IsS145.alloc|apply IsS145.drewN|apply IsS145.drew|apply IsS145.set_1)|exact HI0.out))):gb369≠g));clear HI0;clear HK;clear HB;have HI0:=n0_;have HK:=n1_;have HB:=n2_;have BK369:=n3_;have GW369:=n4_;have GE369:=n5_;have NB0_369:=n6_;have NB369_0:=n7_;clear n0_ n1_ n2_ n3_ n4_ n5_ n6_ n7_;clear hb hbox hg)|((with_reducible refine gC_ (f:=88) rfl ?_);refine goesL_ (some 5) rfl rfl Tryd.func88 (by kernel_rfl) rfl #[.pointer (some ⟨g,0,none⟩)] rfl (by (try simp only [List.map_toArray,List.map_cons,List.map_nil]);first|done|rfl|(simp only [List.length_drop,List.length_take];rfl)) ?_;(with_reducible refine (spec_l72Log.calls k g s0_0 s0_1 t370 t373 w0 _ ?side1 ?side2 A2.out).mono ?_);(case side1=>repeat (first|(with_reducible first|exact HI0.out|apply IsS145.alloc|apply IsS145.drewN|apply IsS145.drew|apply IsS145.set_1|refine IsS145.far ?_ NB0_369.out _)|exact HI0.out));(case side2=>repeat (first|(with_reducible first|exact HB.out|apply wA_|apply pw_below_drewN|apply below_drew1|refine wS_ ?_ (IsS145.ge HI0.out)|refine wS_ ?_ GE369.out)|exact HB.out));rintro e w7 ⟨v371,rfl,ho0,hi,hb,hk⟩;refine ⟨_,rfl,?_⟩;have n0_:=a_ (KeepBut.blk hk (g':=gb369) (o:=.cells #[.slice none 0 0,.int .i64 0,.bool false] 25 (0,0)) (bp_ BK369.out) NB369_0.out (by simp));have n1_:=a_ (Kd.R_lower ho0 (keep_size (w:=w) (g:=g) (row:=none) (by repeat (first|(with_reducible first|exact HK.out|apply KeepBut.set_|apply keep_drewN|apply keep_drew|apply keep_alloc|refine keep_far ?_ GW369.out _)|exact HK.out))));have n2_:=a_ (KeepBut.trans (by repeat (first|(with_reducible first|exact HK.out|apply KeepBut.set_|apply keep_drewN|apply keep_drew|apply keep_alloc|refine keep_far ?_ GW369.out _)|exact HK.out)) hk (.inl rfl));have n3_:=a_ (hb);have n4_:=a_ (hi);clear BK369;clear HK;clear HB;clear HI0;have BK369:=n0_;have HO372:=n1_;have HK:=n2_;have HB:=n3_;have HI0:=n4_;clear n0_ n1_ n2_ n3_ n4_;(try clear hb);(try clear hb2);(try clear hk);(try clear hi);(try clear ho0))|((with_reducible refine gC_ (f:=74) rfl ?_);refine goesL_ (some 7) rfl rfl Tryd.func74 (by kernel_rfl) rfl #[.pointer (some ⟨g,0,none⟩),.int .i64 8] rfl (by (try simp only [List.map_toArray,List.map_cons,List.map_nil]);first|done|rfl|(simp only [List.length_drop,List.length_take];rfl)) ?_;(with_reducible refine (spec_l6Rd_pick.calls k g s0_0 t373 8 t374 t375 w0 _ ?side1 ?side2 A3.out).mono ?_);(case side1=>repeat (first|(with_reducible first|exact HI0.out|apply IsS145.alloc|apply IsS145.drewN|apply IsS145.drew|apply IsS145.set_1|refine IsS145.far ?_ NB0_369.out _)|exact HI0.out));(case side2=>repeat (first|(with_reducible first|exact HB.out|apply wA_|apply pw_below_drewN|apply below_drew1|refine wS_ ?_ (IsS145.ge HI0.out)|refine wS_ ?_ GE369.out)|exact HB.out));rintro e w8 ⟨rfl,hi,hb,hk⟩;refine ⟨_,rfl,?_⟩;have n0_:=a_ (KeepBut.blk hk (g':=gb369) (o:=.cells #[.slice none 0 0,.int .i64 0,.bool false] 25 (0,0)) (bp_ BK369.out) NB369_0.out (by simp));have n1_:=a_ (Kd.R_mono (Kd.R_keep (IsS145.apart (show IsS145 w0 _ g s0_0 t373 from by repeat (first|(with_reducible first|exact HI0.out|apply IsS145.alloc|apply IsS145.drewN|apply IsS145.drew|apply IsS145.set_1|refine IsS145.far ?_ NB0_369.out _)|exact HI0.out)) (by (with_reducible repeat (first|apply Kd.R_alloc|apply Kd.R_drewN|apply Kd.R_drew));exact HO372.out) (by decide)) hk (fun _ h=>h.2)) (fun _ h=>h.1));have n2_:=a_ (KeepBut.trans (by repeat (first|(with_reducible first|exact HK.out|apply KeepBut.set_|apply keep_drewN|apply keep_drew|apply keep_alloc|refine keep_far ?_ GW369.out _)|exact HK.out)) hk (.inl rfl));have n3_:=a_ (hb);have n4_:=a_ (hi);clear BK369;clear HO372;clear HK;clear HB;clear HI0;have BK369:=n0_;have HO372:=n1_;have HK:=n2_;have HB:=n3_;have HI0:=n4_;clear n0_ n1_ n2_ n3_ n4_;(try clear hb);(try clear hb2);(try clear hk);(try clear hi);obtain ⟨Ao9,co9,eo9⟩:=Kd.R_slice HO372.out;subst eo9)|((with_reducible refine gD_ (N:=3) rfl ?_);refine box_event ?hg (N:=3) ?hd (cs:=#[.slice none 0 0,.int .i64 0,.bool false]) (t:=25) ?hr ?_;(case hd=>rfl);(case hg=>rfl);(case hr=>first|(go_simp;done)|(go_simp;rfl));intro gb376 hg w10 hbox hb;have n0_:=a_ (Kd.R_below (by (with_reducible repeat (first|apply Kd.R_alloc|apply Kd.R_drewN|apply Kd.R_drew));exact HO372.out) hb);have n1_:=a_ (IsS145.below (by repeat (first|(with_reducible first|exact HI0.out|apply IsS145.alloc|apply IsS145.drewN|apply IsS145.drew|apply IsS145.set_1|refine IsS145.far ?_ NB0_369.out _)|exact HI0.out)) hb);have n2_:=a_ (blk_below (g:=gb369) (o:=.cells #[.slice none 0 0,.int .i64 0,.bool false] 25 (0,0)) (bp_ BK369.out) hb);have n3_:=a_ (KeepBut.trans (by repeat (first|(with_reducible first|exact HK.out|apply KeepBut.set_|apply keep_drewN|apply keep_drew|apply keep_alloc|refine keep_far ?_ GW369.out _)|exact HK.out)) (KeepBut.of_below hb g none) (.inl rfl));have n4_:=a_ (bS_ (by repeat (first|(with_reducible first|exact HB.out|apply wA_|apply pw_below_drewN|apply below_drew1|refine wS_ ?_ (IsS145.ge HI0.out)|refine wS_ ?_ GE369.out)|exact HB.out)) hb);have n5_:=a_ (hbox);have n6_:=a_ ((by rw [hg];exact (keep_size (w:=w) (g:=g) (row:=none) (by repeat (first|(with_reducible first|exact HK.out|apply KeepBut.set_|apply keep_drewN|apply keep_drew|apply keep_alloc|refine keep_far ?_ GW369.out _)|exact HK.out))):w.heap.size≤gb376));have n7_:=a_ ((Nat.le_trans HW0.out (by rw [hg];exact (keep_size (w:=w) (g:=g) (row:=none) (by repeat (first|(with_reducible first|exact HK.out|apply KeepBut.set_|apply keep_drewN|apply keep_drew|apply keep_alloc|refine keep_far ?_ GW369.out _)|exact HK.out))):w.heap.size≤gb376):w0.heap.size≤gb376));have n8_:=a_ ((by rw [hg];exact Nat.ne_of_lt (blk_lt (g:=gb369) (o:=.cells #[.slice none 0 0,.int .i64 0,.bool false] 25 (0,0)) (bp_ BK369.out)):gb369≠gb376));have n9_:=a_ ((by rw [hg];exact Nat.ne_of_gt (blk_lt (g:=gb369) (o:=.cells #[.slice none 0 0,.int .i64 0,.bool false] 25 (0,0)) (bp_ BK369.out)):gb376≠gb369));have n10_:=a_ ((by rw [hg];exact Nat.ne_of_lt (IsS145.lt (show IsS145 w0 _ g s0_0 t375 from by repeat (first|(with_reducible first|exact HI0.out|apply IsS145.alloc|apply IsS145.drewN|apply IsS145.drew|apply IsS145.set_1|refine IsS145.far ?_ NB0_369.out _)|exact HI0.out))):g≠gb376));have n11_:=a_ ((by rw [hg];exact Nat.ne_of_gt (IsS145.lt (show IsS145 w0 _ g s0_0 t375 from by repeat (first|(with_reducible first|exact HI0.out|apply IsS145.alloc|apply IsS145.drewN|apply IsS145.drew|apply IsS145.set_1|refine IsS145.far ?_ NB0_369.out _)|exact HI0.out))):gb376≠g));clear HO372;clear HI0;clear BK369;clear HK;clear HB;have HO372:=n0_;have HI0:=n1_;have BK369:=n2_;have HK:=n3_;have HB:=n4_;have BK376:=n5_;have GW376:=n6_;have GE376:=n7_;have NB369_376:=n8_;have NB376_369:=n9_;have NB0_376:=n10_;have NB376_0:=n11_;clear n0_ n1_ n2_ n3_ n4_ n5_ n6_ n7_ n8_ n9_ n10_ n11_;clear hb hbox hg;have hnb11:=NB376_369.out;have hnc11:=NB369_376.out;have hnb12:=NB376_0.out;have hnc12:=NB0_376.out;have Z13_0:w10.cell? ⟨gb376,0,none⟩=some (.slice none 0 0):=(bC_ BK376.out 0).trans rfl;have Z13_1:w10.cell? ⟨gb376,1,none⟩=some (.int .i64 0):=(bC_ BK376.out 1).trans rfl;have Z13_2:w10.cell? ⟨gb376,2,none⟩=some (.bool false):=(bC_ BK376.out 2).trans rfl;have Y13_0:=bF_ BK376.out 0;have Y13_1:=bF_ BK376.out 1;have Y13_2:=bF_ BK376.out 2)|((with_reducible refine gC_ (f:=74) rfl ?_);refine goesL_ (some 15) rfl rfl Tryd.func74 (by kernel_rfl) rfl #[.pointer (some ⟨g,0,none⟩),.int .i64 (wrap64 ((t370.length:Int)+1))] rfl (by (try simp only [List.map_toArray,List.map_cons,List.map_nil]);first|done|rfl|(simp only [List.length_drop,List.length_take];rfl)) ?_;(with_reducible refine (spec_l6Rd_pick.calls k g s0_0 t375 (wrap64 ((t370.length:Int)+1)) t377 t378 w0 _ ?side1 ?side2 A4.out).mono ?_);(case side1=>repeat (first|(with_reducible first|exact HI0.out|apply IsS145.alloc|apply IsS145.drewN|apply IsS145.drew|apply IsS145.set_1|refine IsS145.far ?_ NB0_369.out _|refine IsS145.far ?_ NB0_376.out _)|exact HI0.out));(case side2=>repeat (first|(with_reducible first|exact HB.out|apply wA_|apply pw_below_drewN|apply below_drew1|refine wS_ ?_ (IsS145.ge HI0.out)|refine wS_ ?_ GE369.out|refine wS_ ?_ GE376.out)|exact HB.out));rintro e w14 ⟨rfl,hi,hb,hk⟩;refine ⟨_,rfl,?_⟩;have n0_:=a_ (KeepBut.blk hk (g':=gb369) (o:=.cells #[.slice none 0 0,.int .i64 0,.bool false] 25 (0,0)) (fp1_ NB369_376.out BK369.out) NB369_0.out (by simp));have n1_:=a_ (Kd.R_mono (Kd.R_keep (IsS145.apart (show IsS145 w0 _ g s0_0 t375 from by repeat (first|(with_reducible first|exact HI0.out|apply IsS145.alloc|apply IsS145.drewN|apply IsS145.drew|apply IsS145.set_1|refine IsS145.far ?_ NB0_369.out _|refine IsS145.far ?_ NB0_376.out _)|exact HI0.out)) (by (with_reducible repeat (first|apply Kd.R_alloc|apply Kd.R_drewN|apply Kd.R_drew));exact (Kd.R_mono (rf3_ (g:=gb376) (Kd.R_types HO372.out BK376.out (by decide)) (fun _ hk=>hk.2) (.slice Ao9 t370.length co9) (.int .i64 0) (.bool (decide (t374 > 0)))) (fun _ h_=>h_.1))) (by decide)) hk (fun _ h=>h.2)) (fun _ h=>h.1));have n2_:=a_ (KeepBut.blk hk (g':=gb376) (o:=.cells #[.slice Ao9 t370.length co9,.int .i64 0,.bool (decide (t374 > 0))] 25 (0,0)) (k3p_ BK376.out) NB376_0.out (by simp));have n3_:=a_ (KeepBut.trans (by repeat (first|(with_reducible first|exact HK.out|apply KeepBut.set_|apply keep_drewN|apply keep_drew|apply keep_alloc|refine keep_far ?_ GW369.out _|refine keep_far ?_ GW376.out _)|exact HK.out)) hk (.inl rfl));have n4_:=a_ (hb);have n5_:=a_ (hi);clear BK369;clear HO372;clear BK376;clear HK;clear HB;clear HI0;have BK369:=n0_;have HO372:=n1_;have BK376:=n2_;have HK:=n3_;have HB:=n4_;have HI0:=n5_;clear n0_ n1_ n2_ n3_ n4_ n5_;(try clear hb);(try clear hb2);(try clear hk);(try clear hi))|((with_reducible refine gC_ (f:=74) rfl ?_);refine goesL_ (some 17) rfl rfl Tryd.func74 (by kernel_rfl) rfl #[.pointer (some ⟨g,0,none⟩),.int .i64 24] rfl (by (try simp only [List.map_toArray,List.map_cons,List.map_nil]);first|done|rfl|(simp only [List.length_drop,List.length_take];rfl)) ?_;(with_reducible refine (spec_l6Rd_pick.calls k g s0_0 t378 24 t379 t380 w0 _ ?side1 ?side2 A5.out).mono ?_);(case side1=>repeat (first|(with_reducible first|exact HI0.out|apply IsS145.alloc|apply IsS145.drewN|apply IsS145.drew|apply IsS145.set_1|refine IsS145.far ?_ NB0_369.out _|refine IsS145.far ?_ NB0_376.out _)|exact HI0.out));(case side2=>repeat (first|(with_reducible first|exact HB.out|apply wA_|apply pw_below_drewN|apply below_drew1|refine wS_ ?_ (IsS145.ge HI0.out)|refine wS_ ?_ GE369.out|refine wS_ ?_ GE376.out)|exact HB.out));rintro e w15 ⟨rfl,hi,hb,hk⟩;refine ⟨_,rfl,?_⟩;have n0_:=a_ (KeepBut.blk hk (g':=gb369) (o:=.cells #[.slice none 0 0,.int .i64 0,.bool false] 25 (0,0)) (bp_ BK369.out) NB369_0.out (by simp));have n1_:=a_ (Kd.R_mono (Kd.R_keep (IsS145.apart (show IsS145 w0 _ g s0_0 t378 from by repeat (first|(with_reducible first|exact HI0.out|apply IsS145.alloc|apply IsS145.drewN|apply IsS145.drew|apply IsS145.set_1|refine IsS145.far ?_ NB0_369.out _|refine IsS145.far ?_ NB0_376.out _)|exact HI0.out)) (by (with_reducible repeat (first|apply Kd.R_alloc|apply Kd.R_drewN|apply Kd.R_drew));exact HO372.out) (by decide)) hk (fun _ h=>h.2)) (fun _ h=>h.1));have n2_:=a_ (KeepBut.blk hk (g':=gb376) (o:=.cells #[.slice Ao9 t370.length co9,.int .i64 0,.bool (decide (t374 > 0))] 25 (0,0)) (bp_ BK376.out) NB376_0.out (by simp));have n3_:=a_ (KeepBut.trans (by repeat (first|(with_reducible first|exact HK.out|apply KeepBut.set_|apply keep_drewN|apply keep_drew|apply keep_alloc|refine keep_far ?_ GW369.out _|refine keep_far ?_ GW376.out _)|exact HK.out)) hk (.inl rfl));have n4_:=a_ (hb);have n5_:=a_ (hi);clear BK369;clear HO372;clear BK376;clear HK;clear HB;clear HI0;have BK369:=n0_;have HO372:=n1_;have BK376:=n2_;have HK:=n3_;have HB:=n4_;have HI0:=n5_;clear n0_ n1_ n2_ n3_ n4_ n5_;(try clear hb);(try clear hb2);(try clear hk);(try clear hi);have Z16_0:w15.cell? ⟨gb376,0,none⟩=some (.slice Ao9 t370.length co9):=(bC_ BK376.out 0).trans rfl;have Z16_1:w15.cell? ⟨gb376,1,none⟩=some (.int .i64 0):=(bC_ BK376.out 1).trans rfl;have Z16_2:w15.cell? ⟨gb376,2,none⟩=some (.bool (decide (t374 > 0))):=(bC_ BK376.out 2).trans rfl;have Y16_0:=bF_ BK376.out 0;have Y16_1:=bF_ BK376.out 1;have Y16_2:=bF_ BK376.out 2;have hnb17:=NB369_0.out;have hnc17:=NB0_369.out;have Z18_0:w15.cell? ⟨gb369,0,none⟩=some (.slice none 0 0):=(bC_ BK369.out 0).trans rfl;have Z18_1:w15.cell? ⟨gb369,1,none⟩=some (.int .i64 0):=(bC_ BK369.out 1).trans rfl;have Z18_2:w15.cell? ⟨gb369,2,none⟩=some (.bool false):=(bC_ BK369.out 2).trans rfl;have Y18_0:=bF_ BK369.out 0;have Y18_1:=bF_ BK369.out 1;have Y18_2:=bF_ BK369.out 2))
 refine bodyPost_ret (results_cell_row rfl _ _ gb369 25 #[.slice Ao9 t370.length co9,.int .i64 (wrap64 (t377+(wrap64 (Int.tdiv t379 23)))),.bool (decide (t374 > 0))] (0,0) _ rfl (k3p1_ NB369_376.out BK369.out) Tryd.underlying25 rfl (by kernel_rfl)) rfl ?_
 exact ⟨_,by first|rfl|(simp [errW_none,errW_some] <;> rfl)|(simp [*,errW_none,errW_some] <;> rfl),by (with_reducible repeat (first|apply Kd.R_alloc|apply Kd.R_drewN|apply Kd.R_drew));exact Kd.R_mono (rf3_ (g:=gb369) (Kd.R_far (p:=⟨gb376,1,none⟩) (Kd.R_types (Kd.R_types HO372.out BK376.out (by decide)) BK369.out (by decide)) (fun _ hk=>hk.1.2) (.int .i64 (wrap64 (t377+(wrap64 (Int.tdiv t379 23)))))) (fun _ hk=>hk.2) (.slice Ao9 t370.length co9) (.int .i64 (wrap64 (t377+(wrap64 (Int.tdiv t379 23))))) (.bool (decide (t374 > 0)))) (fun _ hk=>trivial),by repeat (first|(with_reducible first|exact HI0.out|apply IsS145.alloc|apply IsS145.drewN|apply IsS145.drew|apply IsS145.set_1|refine IsS145.far ?_ NB0_369.out _|refine IsS145.far ?_ NB0_376.out _)|exact HI0.out),by repeat (first|(with_reducible first|exact HB.out|apply wA_|apply pw_below_drewN|apply below_drew1|refine wS_ ?_ (IsS145.ge HI0.out)|refine wS_ ?_ GE369.out|refine wS_ ?_ GE376.out)|exact HB.out),by repeat (first|(with_reducible first|exact HK.out|apply KeepBut.set_|apply keep_drewN|apply keep_drew|apply keep_alloc|refine keep_far ?_ GW369.out _|refine keep_far ?_ GW376.out _)|exact HK.out)⟩

def impl_whoOk.f (a0:Int):Option (Bool):=if a0≥1 then (some (decide (a0≤3))) else (some false)
theorem impl_whoOk.calls (a0:Int) (r:Bool) (w:World) (h:impl_whoOk.f a0=some r) :
  Calls Tryd.prog 104 #[.int .i64 a0] w fun e w'=>e=.returned (.bool r)∧Drawn0 w w':=by
 unfold impl_whoOk.f at h
 have H:=h
 clear h
 by_cases c2:a0≥1
 ·rw [if_pos c2] at H
  have c2b0:decide (1≤a0)=true:=dt_ c2
  clear c2
  obtain rfl:=sj_ H
  go_enter Tryd.func104,Tryd.ntmps104
  go_wp2
  go_ret
  exact ⟨si_,by repeat (first|exact Drawn0.refl _|apply Drawn0.step)⟩
 ·rw [if_neg c2] at H
  have c2b0:decide (1≤a0)=false:=df_ c2
  clear c2
  obtain rfl:=sj_ H
  go_enter Tryd.func104,Tryd.ntmps104
  go_wp2
  go_ret
  exact ⟨si_,by repeat (first|exact Drawn0.refl _|apply Drawn0.step)⟩

end Go.Proofs.YtdpklbomhdpimaaDoor.P
namespace Go.Proofs.YtdpklbomhdpimaaDoor.P
open Go.RowKit Go.Proofs.YtdpklbomhdpimaaDoorW.PrintWords
def impl_RowWho.f (a0:Int):Option (Int×Bool):=some (if ownI a0=0 then (0,false) else (ownI a0 - 1,true))
theorem impl_RowWho.calls (a0:Int) (r1:Int) (r2:Bool) (w:World) (h:impl_RowWho.f a0=some (r1,r2)) (hG:Glob w) :
  Calls Tryd.prog 117 #[.int .i64 a0] w fun e w'=>e=.returned (.tuple #[.int .i64 r1,.bool r2])∧Drawn0 w w':=by
 unfold impl_RowWho.f at h
 by_cases h0:0≤a0
 ·by_cases h1:a0 < 37
  ·have hc:=hG.at_ a0 h0 h1
   have hr:=ownI_range a0
   generalize ownI a0=z at hc hr h
   by_cases hz:z=0
   ·subst hz
    simp only [if_true,Option.some.injEq,Prod.mk.injEq] at h
    obtain ⟨rfl,rfl⟩:=h
    clear hr hG
    go_enter Tryd.func117,Tryd.ntmps117
    go_wp2
    go_ret2
    exact ⟨rfl,Drawn0.refl _⟩
   ·rw [if_neg hz] at h
    simp only [Option.some.injEq,Prod.mk.injEq] at h
    obtain ⟨rfl,rfl⟩:=h
    have hz1:(z==0)=false:=beq_eq_false_iff_ne.2 hz
    have hr1:0≤z:=hr.1
    have hr2:z≤4:=hr.2
    clear hr hG
    go_enter Tryd.func117,Tryd.ntmps117
    go_wp2
    go_ret2
    exact ⟨rfl,Drawn0.refl _⟩
  ·have e:ownI a0=0:=by rw [ownI,if_neg (by omega)]
   rw [if_pos e] at h
   simp only [Option.some.injEq,Prod.mk.injEq] at h
   obtain ⟨rfl,rfl⟩:=h
   clear e hG
   go_enter Tryd.func117,Tryd.ntmps117
   go_wp2
   go_ret2
   exact ⟨rfl,Drawn0.refl _⟩
 ·have e:ownI a0=0:=by rw [ownI,if_neg (by omega)]
  rw [if_pos e] at h
  simp only [Option.some.injEq,Prod.mk.injEq] at h
  obtain ⟨rfl,rfl⟩:=h
  clear e hG
  have hlt:a0 < 0:=by omega
  go_enter Tryd.func117,Tryd.ntmps117
  go_wp2
  go_ret2
  exact ⟨rfl,Drawn0.refl _⟩
end Go.Proofs.YtdpklbomhdpimaaDoor.P
namespace Go.Proofs.YtdpklbomhdpimaaDoor.P
open Go.RowKit Go.Proofs.YtdpklbomhdpimaaDoorW.PrintWords Go.Proofs.YtdpklbomhdpimaaDoorW.PrintLast
def impl_isMade.f (a0:Int):Option (Bool):=(impl_RowWho.f a0).bind fun bt396=>(if bt396.2=true then (some (bt396.1 != 0)) else (some false))
theorem impl_isMade.calls (a0:Int) (r:Bool) (w:World) (h:impl_isMade.f a0=some r) (hG:Glob w) :
  Calls Tryd.prog 127 #[.int .i64 a0] w fun e w'=>e=.returned (.bool r)∧Drawn0 w w':=by
 have HG:=a_ hG
 clear hG
 unfold impl_isMade.f at h
 have H:=h
 clear h
 replace H:=bs_ H
 obtain ⟨⟨t396,t397⟩,A20,H⟩:=H
 try dsimp only at H
 have A2:=a_ A20
 clear A20
 by_cases c3:t397=true
 ·subst c3
  have H1:(some (t396 != 0))=some r:=by rw [if_pos rfl] at H;exact H
  clear H
  have H:=H1
  clear H1
  obtain rfl:=sj_ H
  go_enter Tryd.func127,Tryd.ntmps127
  go_wp2_with (first|((with_reducible refine gC_ (f:=117) rfl ?_);refine gl_ 7 Tryd.func117 #[.int .i64 a0] ?_;(with_reducible refine (impl_RowWho.calls a0 t396 true _ A2.out ?side1).mono ?_);(case side1=>exact hg_);rintro e w' ⟨rfl,⟨nd,rfl⟩⟩;refine ⟨_,rfl,?_⟩))
  go_ret
  exact ⟨si_,by repeat (first|exact Drawn0.refl _|apply Drawn0.step)⟩
 ·replace c3:=Bool.eq_false_iff.mpr c3
  subst c3
  have H1:(some false)=some r:=by rw [if_neg (show ¬ (false=true) by decide)] at H;exact H
  clear H
  have H:=H1
  clear H1
  obtain rfl:=sj_ H
  go_enter Tryd.func127,Tryd.ntmps127
  go_wp2_with (first|((with_reducible refine gC_ (f:=117) rfl ?_);refine gl_ 7 Tryd.func117 #[.int .i64 a0] ?_;(with_reducible refine (impl_RowWho.calls a0 t396 false _ A2.out ?side1).mono ?_);(case side1=>exact hg_);rintro e w' ⟨rfl,⟨nd,rfl⟩⟩;refine ⟨_,rfl,?_⟩))
  go_ret
  exact ⟨si_,by repeat (first|exact Drawn0.refl _|apply Drawn0.step)⟩

def impl_isRoot.f (a0:Int):Option (Bool):=(impl_RowWho.f a0).bind fun bt398=>(if bt398.2=true then (some (bt398.1==0)) else (some false))
theorem impl_isRoot.calls (a0:Int) (r:Bool) (w:World) (h:impl_isRoot.f a0=some r) (hG:Glob w) :
  Calls Tryd.prog 98 #[.int .i64 a0] w fun e w'=>e=.returned (.bool r)∧Drawn0 w w':=by
 have HG:=a_ hG
 clear hG
 unfold impl_isRoot.f at h
 have H:=h
 clear h
 replace H:=bs_ H
 obtain ⟨⟨t398,t399⟩,A20,H⟩:=H
 try dsimp only at H
 have A2:=a_ A20
 clear A20
 by_cases c3:t399=true
 ·subst c3
  have H1:(some (t398==0))=some r:=by rw [if_pos rfl] at H;exact H
  clear H
  have H:=H1
  clear H1
  obtain rfl:=sj_ H
  go_enter Tryd.func98,Tryd.ntmps98
  go_wp2_with (first|((with_reducible refine gC_ (f:=117) rfl ?_);refine gl_ 7 Tryd.func117 #[.int .i64 a0] ?_;(with_reducible refine (impl_RowWho.calls a0 t398 true _ A2.out ?side1).mono ?_);(case side1=>exact hg_);rintro e w' ⟨rfl,⟨nd,rfl⟩⟩;refine ⟨_,rfl,?_⟩))
  go_ret
  exact ⟨si_,by repeat (first|exact Drawn0.refl _|apply Drawn0.step)⟩
 ·replace c3:=Bool.eq_false_iff.mpr c3
  subst c3
  have H1:(some false)=some r:=by rw [if_neg (show ¬ (false=true) by decide)] at H;exact H
  clear H
  have H:=H1
  clear H1
  obtain rfl:=sj_ H
  go_enter Tryd.func98,Tryd.ntmps98
  go_wp2_with (first|((with_reducible refine gC_ (f:=117) rfl ?_);refine gl_ 7 Tryd.func117 #[.int .i64 a0] ?_;(with_reducible refine (impl_RowWho.calls a0 t398 false _ A2.out ?side1).mono ?_);(case side1=>exact hg_);rintro e w' ⟨rfl,⟨nd,rfl⟩⟩;refine ⟨_,rfl,?_⟩))
  go_ret
  exact ⟨si_,by repeat (first|exact Drawn0.refl _|apply Drawn0.step)⟩

def impl_placeOk.f (a0:Int) (a1:Int):Option (Bool):=(impl_isMade.f a0).bind fun t400=>(if t400=true then (if a1=0 then (some true) else ((impl_isMade.f a1).bind fun t401=>(some t401))) else ((impl_isRoot.f a0).bind fun t402=>(if t402=true then (if a1=0 then (some true) else ((impl_isMade.f a1).bind fun t403=>(some t403))) else (some false))))
theorem impl_placeOk.calls (a0:Int) (a1:Int) (r:Bool) (w:World) (h:impl_placeOk.f a0 a1=some r) (hG:Glob w) :
  Calls Tryd.prog 128 #[.int .i64 a0,.int .i64 a1] w fun e w'=>e=.returned (.bool r)∧Drawn0 w w':=by
 have HG:=a_ hG
 clear hG
 unfold impl_placeOk.f at h
 have H:=h
 clear h
 replace H:=bs_ H
 obtain ⟨t400,A30,H⟩:=H
 try dsimp only at H
 have A3:=a_ A30
 clear A30
 by_cases c4:t400=true
 ·subst c4
  have H1:(if a1=0 then (some true) else ((impl_isMade.f a1).bind fun t401=>(some t401)))=some r:=by rw [if_pos rfl] at H;exact H
  clear H
  have H:=H1
  clear H1
  by_cases c5:a1=0
  ·rw [if_pos c5] at H
   have c5b0:(a1==0)=true:=beq_iff_eq.mpr c5
   have c5b1:(a1 != 0)=false:=be_ c5
   clear c5
   obtain rfl:=sj_ H
   go_enter Tryd.func128,Tryd.ntmps128
   go_wp2_with (first|((with_reducible refine gC_ (f:=127) rfl ?_);refine gl_ 6 Tryd.func127 #[.int .i64 a0] ?_;(with_reducible refine (impl_isMade.calls a0 true _ A3.out ?side1).mono ?_);(case side1=>exact hg_);rintro e w' ⟨rfl,⟨nd,rfl⟩⟩;refine ⟨_,rfl,?_⟩))
   go_ret
   exact ⟨si_,by repeat (first|exact Drawn0.refl _|apply Drawn0.step)⟩
  ·rw [if_neg c5] at H
   have c5b0:(a1==0)=false:=bn_ c5
   have c5b1:(a1 != 0)=true:=bne_iff_ne.mpr c5
   replace H:=bs_ H
   obtain ⟨t401,A60,H⟩:=H
   try dsimp only at H
   have A6:=a_ A60
   clear A60
   obtain rfl:=sj_ H
   go_enter Tryd.func128,Tryd.ntmps128
   go_wp2_with (first|((with_reducible refine gC_ (f:=127) rfl ?_);refine gl_ 6 Tryd.func127 #[.int .i64 a0] ?_;(with_reducible refine (impl_isMade.calls a0 true _ A3.out ?side1).mono ?_);(case side1=>exact hg_);rintro e w' ⟨rfl,⟨nd,rfl⟩⟩;refine ⟨_,rfl,?_⟩)|(go_at_call 127;(with_reducible refine (impl_isMade.calls a1 t401 _ A6.out ?side1).mono ?_);(case side1=>exact hg_);rintro e w' ⟨rfl,⟨nd,rfl⟩⟩))
   go_ret
   exact ⟨si_,by repeat (first|exact Drawn0.refl _|apply Drawn0.step)⟩
 ·replace c4:=Bool.eq_false_iff.mpr c4
  subst c4
  have H1:((impl_isRoot.f a0).bind fun t402=>(if t402=true then (if a1=0 then (some true) else ((impl_isMade.f a1).bind fun t403=>(some t403))) else (some false)))=some r:=by rw [if_neg (show ¬ (false=true) by decide)] at H;exact H
  clear H
  have H:=H1
  clear H1
  replace H:=bs_ H
  obtain ⟨t402,A70,H⟩:=H
  try dsimp only at H
  have A7:=a_ A70
  clear A70
  by_cases c8:t402=true
  ·subst c8
   have H1:(if a1=0 then (some true) else ((impl_isMade.f a1).bind fun t403=>(some t403)))=some r:=by rw [if_pos rfl] at H;exact H
   clear H
   have H:=H1
   clear H1
   by_cases c9:a1=0
   ·rw [if_pos c9] at H
    have c9b0:(a1==0)=true:=beq_iff_eq.mpr c9
    have c9b1:(a1 != 0)=false:=be_ c9
    clear c9
    obtain rfl:=sj_ H
    go_enter Tryd.func128,Tryd.ntmps128
    go_wp2_with (first|((with_reducible refine gC_ (f:=127) rfl ?_);refine gl_ 6 Tryd.func127 #[.int .i64 a0] ?_;(with_reducible refine (impl_isMade.calls a0 false _ A3.out ?side1).mono ?_);(case side1=>exact hg_);rintro e w' ⟨rfl,⟨nd,rfl⟩⟩;refine ⟨_,rfl,?_⟩)|(go_at_call 98;(with_reducible refine (impl_isRoot.calls a0 true _ A7.out ?side1).mono ?_);(case side1=>exact hg_);rintro e w' ⟨rfl,⟨nd,rfl⟩⟩))
    go_ret
    exact ⟨si_,by repeat (first|exact Drawn0.refl _|apply Drawn0.step)⟩
   ·rw [if_neg c9] at H
    have c9b0:(a1==0)=false:=bn_ c9
    have c9b1:(a1 != 0)=true:=bne_iff_ne.mpr c9
    replace H:=bs_ H
    obtain ⟨t403,A100,H⟩:=H
    try dsimp only at H
    have A10:=a_ A100
    clear A100
    obtain rfl:=sj_ H
    go_enter Tryd.func128,Tryd.ntmps128
    go_wp2_with (first|((with_reducible refine gC_ (f:=127) rfl ?_);refine gl_ 6 Tryd.func127 #[.int .i64 a0] ?_;(with_reducible refine (impl_isMade.calls a0 false _ A3.out ?side1).mono ?_);(case side1=>exact hg_);rintro e w' ⟨rfl,⟨nd,rfl⟩⟩;refine ⟨_,rfl,?_⟩)|(go_at_call 98;(with_reducible refine (impl_isRoot.calls a0 true _ A7.out ?side1).mono ?_);(case side1=>exact hg_);rintro e w' ⟨rfl,⟨nd,rfl⟩⟩)|(go_at_call 127;(with_reducible refine (impl_isMade.calls a1 t403 _ A10.out ?side1).mono ?_);(case side1=>exact hg_);rintro e w' ⟨rfl,⟨nd,rfl⟩⟩))
    go_ret
    exact ⟨si_,by repeat (first|exact Drawn0.refl _|apply Drawn0.step)⟩
  ·replace c8:=Bool.eq_false_iff.mpr c8
   subst c8
   have H1:(some false)=some r:=by rw [if_neg (show ¬ (false=true) by decide)] at H;exact H
   clear H
   have H:=H1
   clear H1
   obtain rfl:=sj_ H
   go_enter Tryd.func128,Tryd.ntmps128
   go_wp2_with (first|((with_reducible refine gC_ (f:=127) rfl ?_);refine gl_ 6 Tryd.func127 #[.int .i64 a0] ?_;(with_reducible refine (impl_isMade.calls a0 false _ A3.out ?side1).mono ?_);(case side1=>exact hg_);rintro e w' ⟨rfl,⟨nd,rfl⟩⟩;refine ⟨_,rfl,?_⟩)|(go_at_call 98;(with_reducible refine (impl_isRoot.calls a0 false _ A7.out ?side1).mono ?_);(case side1=>exact hg_);rintro e w' ⟨rfl,⟨nd,rfl⟩⟩))
   go_ret
   exact ⟨si_,by repeat (first|exact Drawn0.refl _|apply Drawn0.step)⟩

def impl_textOk.l0:Nat→ByteArray→Int→Option (Bool)
 | 0,_,_=>none
 | k+1,x0,x3=>if x3 < (x0.size:Int) then (if 0≤x3 then (if (bt x0 x3) < 97 then (some false) else (if (bt x0 x3) > 100 then (some false) else (impl_textOk.l0 k x0 (wrap64 (x3+1))))) else (none)) else (some true)
def impl_textOk.f (k:Nat) (a0:ByteArray):Option (Bool):=if (a0.size:Int) > 4 then (some false) else (impl_textOk.l0 k a0 0)
theorem impl_textOk.mono_l:∀ k,(∀ y0 y1,LeO (impl_textOk.l0 k y0 y1) (impl_textOk.l0 (k+1) y0 y1))
 | 0=>fun _ _ r h=>by simp [impl_textOk.l0] at h
 | k+1=>by
  have ih0:=impl_textOk.mono_l k
  ·intro y0 y1
   unfold impl_textOk.l0
   repeat' first
   | (with_reducible exact ih0 _ _)
   | (with_reducible exact LeO.refl _)
   | (with_reducible exact LeO.none _)
   | (with_reducible refine LeO.ite ?_ ?_)
   | (with_reducible refine LeO.bind ?_ (fun _=>?_))
theorem impl_textOk.mono:∀ a0 k,LeO (impl_textOk.f k a0) (impl_textOk.f (k+1) a0):=by
 intro a0 k
 have ih0:=impl_textOk.mono_l k
 unfold impl_textOk.f
 repeat' first
   | (with_reducible exact ih0 _ _)
   | (with_reducible exact LeO.refl _)
   | (with_reducible exact LeO.none _)
   | (with_reducible refine LeO.ite ?_ ?_)
   | (with_reducible refine LeO.bind ?_ (fun _=>?_))
theorem impl_textOk.calls (k:Nat) (a0:ByteArray) (r:Bool) (w:World) (h:impl_textOk.f k a0=some r) :
  Calls Tryd.prog 129 #[.string a0] w fun e w'=>e=.returned (.bool r)∧Drawn0 w w':=by
 unfold impl_textOk.f at h
 have H:=h
 clear h
 by_cases c2:(a0.size:Int) > 4
 ·rw [if_pos c2] at H
  have c2b0:decide (4 < (a0.size:Int))=true:=dt_ c2
  have c2b1:decide (4 < a0.size)=true:=dt_ (by omega)
  clear c2
  obtain rfl:=sj_ H
  go_enter Tryd.func129,Tryd.ntmps129
  go_wp2
  go_ret
  exact ⟨si_,by repeat (first|exact Drawn0.refl _|apply Drawn0.step)⟩
 ·rw [if_neg c2] at H
  have c2b0:decide (4 < (a0.size:Int))=false:=df_ c2
  have c2b1:decide (4 < a0.size)=false:=df_ (by omega)
  clear c2
  have H':=a_ H
  clear H
  go_enter Tryd.func129,Tryd.ntmps129
  go_wp2
  go_loopg [3] k (fun kq v3 w'=>∃ (x3_1:Int),v3=.int .i64 x3_1∧Aside0 (impl_textOk.l0 kq a0 x3_1=some r)∧Aside0 (kq≤k)∧Drawn0 w w')
  case atStart=>exact ⟨(0),(si_),H',⟨Nat.le_refl _⟩,by repeat (first|exact Drawn0.refl _|apply Drawn0.step)⟩
  case round =>
   clear H'
   try clear c1
   try clear c2
   try clear c2b0
   try clear c2b1
   try clear p2
   obtain ⟨x3_1,rfl,HA,HK1,⟨m1,rfl⟩⟩:=hrel
   cases gk with
   | zero=>exact absurd HA.out (by simp [impl_textOk.l0])
   | succ k1 =>
    have H:=HA.out
    clear HA
    simp only [impl_textOk.l0] at H
    by_cases c3:x3_1 < (a0.size:Int)
    ·rw [if_pos c3] at H
     have c3b0:decide (x3_1 < (a0.size:Int))=true:=dt_ c3
     clear c3
     by_cases c4:0≤x3_1
     ·rw [if_pos c4] at H
      have c4b0:decide (0≤x3_1)=true:=dt_ c4
      clear c4
      by_cases c6:(bt a0 x3_1) < 97
      ·rw [if_pos c6] at H
       have c6b0:decide ((bt a0 x3_1) < 97)=true:=dt_ c6
       clear c6
       obtain rfl:=sj_ H
       have p5:0≤(x3_1:Int):=od_
       have q5:x3_1 < (a0.size:Int):=od_
       have hx5:=bt_at a0 x3_1
       replace p5:=eq_true p5
       replace q5:=eq_true q5
       go_wp2
       go_ret
       exact ⟨si_,by repeat (first|exact Drawn0.refl _|apply Drawn0.step)⟩
      ·rw [if_neg c6] at H
       have c6b0:decide ((bt a0 x3_1) < 97)=false:=df_ c6
       clear c6
       by_cases c8:(bt a0 x3_1) > 100
       ·rw [if_pos c8] at H
        have c8b0:decide (100 < (bt a0 x3_1))=true:=dt_ c8
        clear c8
        obtain rfl:=sj_ H
        have p5:0≤(x3_1:Int):=od_
        have q5:x3_1 < (a0.size:Int):=od_
        have hx5:=bt_at a0 x3_1
        replace p5:=eq_true p5
        replace q5:=eq_true q5
        have p7:0≤(x3_1:Int):=od_
        have q7:x3_1 < (a0.size:Int):=od_
        have hx7:=bt_at a0 x3_1
        replace p7:=eq_true p7
        replace q7:=eq_true q7
        go_wp2
        go_ret
        exact ⟨si_,by repeat (first|exact Drawn0.refl _|apply Drawn0.step)⟩
       ·rw [if_neg c8] at H
        have c8b0:decide (100 < (bt a0 x3_1))=false:=df_ c8
        clear c8
        have H':=a_ H
        clear H
        have p5:0≤(x3_1:Int):=od_
        have q5:x3_1 < (a0.size:Int):=od_
        have hx5:=bt_at a0 x3_1
        replace p5:=eq_true p5
        replace q5:=eq_true q5
        have p7:0≤(x3_1:Int):=od_
        have q7:x3_1 < (a0.size:Int):=od_
        have hx7:=bt_at a0 x3_1
        replace p7:=eq_true p7
        replace q7:=eq_true q7
        go_wp2
        go_roundg k1
        case measure=>have:=HK1.out;omega
        case rel=>exact ⟨(wrap64 (x3_1+1)),(si_),H',⟨by have:=HK1.out;omega⟩,by repeat (first|exact Drawn0.refl _|apply Drawn0.step)⟩
     ·rw [if_neg c4] at H
      exact absurd H (by simp)
    ·rw [if_neg c3] at H
     have c3b0:decide (x3_1 < (a0.size:Int))=false:=df_ c3
     clear c3
     obtain rfl:=sj_ H
     go_wp2
     go_ret
     exact ⟨si_,by repeat (first|exact Drawn0.refl _|apply Drawn0.step)⟩


end Go.Proofs.YtdpklbomhdpimaaDoor.P
