/- Joined by a program (wip/shake.py): the declarations that 'YtdpklbomhdpimaaDoorCardFnTreeMore' reaches. -/
import Derived.Test.YtdpklbomhdpimaaDoorZLg0
set_option linter.unusedVariables false
set_option linter.unusedSimpArgs false
set_option linter.unusedSectionVars false
set_option maxHeartbeats 8000000
set_option maxRecDepth 100000
namespace Go.Proofs.YtdpklbomhdpimaaDoor.P
open Go.RowKit Go.Proofs.YtdpklbomhdpimaaDoorW.PrintWords Go.Proofs.YtdpklbomhdpimaaDoorW.PrintLast
theorem spec_l71Op.calls (k:Nat) (g:Nat) (s0_0:List Int) (s0_1:Int) (r1:Int) (r2:Int) (r3:Int) (r4:Int) (r5:ByteArray) (r6:Int) (w0 w:World) (hI:IsS145 w0 w g s0_0 s0_1) (hB:Below w0.heap.size w0 w) (h:spec_l71Op.f k s0_0 s0_1=some (r1,r2,r3,r4,r5,r6)) :
  Calls Tryd.prog 96 #[.pointer (some ⟨g,0,none⟩)] w fun e w'=>e=.returned (.agg #[.int .i64 r1,.int .i64 r2,.int .i64 r3,.int .i64 r4,.string r5])∧IsS145 w0 w' g s0_0 r6∧Below w0.heap.size w0 w'∧KeepBut w w' g none:=by
 have hu42:=Tryd.underlying42
 have HI0:=a_ hI
 have HK:=a_ (KeepBut.refl w g none)
 have HL:=a_ hB.size
 clear hI
 have HW0:=a_ hB.size
 have HB:=a_ hB
 clear hB
 unfold spec_l71Op.f at h
 have H:=h
 clear h
 replace H:=bs_ H
 obtain ⟨⟨t130,t131⟩,A20,H⟩:=H
 try dsimp only at H
 have A2:=a_ A20
 clear A20
 replace H:=bs_ H
 obtain ⟨⟨t132,t133⟩,A30,H⟩:=H
 try dsimp only at H
 have A3:=a_ A30
 clear A30
 replace H:=bs_ H
 obtain ⟨⟨t135,t136⟩,A40,H⟩:=H
 try dsimp only at H
 have A4:=a_ A40
 clear A40
 obtain ⟨y137,hy137⟩:∃ y_:List Int,y_=(([1,1,t135,2,3]:List Int)):=⟨_,rfl⟩
 replace H:((spec_l6Rd_pick.f k s0_0 t136 5).bind fun bt140=>(if 0≤bt140.1 then (if bt140.1 < (y137.length:Int) then ((spec_l71Id.f k s0_0 bt140.2).bind fun bt143=>((some (([0,bt143.1]:List Int):List Int)).bind fun y145=>((spec_l6Rd_pick.f k s0_0 bt143.2 2).bind fun bt148=>(if 0≤bt148.1 then (if bt148.1 < (y145.length:Int) then ((spec_l6Rd_pick.f k s0_0 bt148.2 5).bind fun bt151=>(if bt151.1=0 then (spec_l71Op.j0 k (rd y137 bt140.1) (rd y145 bt148.1) bt151.1 (bt151.1==0) s0_0 bt151.2 2 t130 0 0 t132) else (spec_l71Op.j0 k (rd y137 bt140.1) (rd y145 bt148.1) bt151.1 (bt151.1==1) s0_0 bt151.2 2 t130 0 0 t132))) else (none)) else (none))))) else (none)) else (none)))=some (r1,r2,r3,r4,r5,r6):=by first|(rw [hy137];with_reducible exact H)|(have H2_:=(Option.bind_some _ _).symm.trans H;rw [hy137];with_reducible exact H2_)|(have H2_:=(Option.bind_some _ _).symm.trans H;with_reducible exact H2_)|with_reducible exact H|(rw [hy137];exact H)|exact H
 have Ny137:=a_ hy137
 clear hy137
 replace H:=bs_ H
 obtain ⟨⟨t140,t141⟩,A50,H⟩:=H
 try dsimp only at H
 have A5:=a_ A50
 clear A50
 by_cases c6:0≤t140
 ·rw [if_pos c6] at H
  have c6b0:decide (0≤t140)=true:=dt_ c6
  clear c6
  by_cases c7:t140 < (y137.length:Int)
  ·rw [if_pos c7] at H
   have c7b0:decide (t140 < (y137.length:Int))=true:=dt_ c7
   clear c7
   replace H:=bs_ H
   obtain ⟨⟨t143,t144⟩,A80,H⟩:=H
   try dsimp only at H
   have A8:=a_ A80
   clear A80
   obtain ⟨y145,hy145⟩:∃ y_:List Int,y_=(([0,t143]:List Int)):=⟨_,rfl⟩
   replace H:((spec_l6Rd_pick.f k s0_0 t144 2).bind fun bt148=>(if 0≤bt148.1 then (if bt148.1 < (y145.length:Int) then ((spec_l6Rd_pick.f k s0_0 bt148.2 5).bind fun bt151=>(if bt151.1=0 then (spec_l71Op.j0 k (rd y137 t140) (rd y145 bt148.1) bt151.1 (bt151.1==0) s0_0 bt151.2 2 t130 0 0 t132) else (spec_l71Op.j0 k (rd y137 t140) (rd y145 bt148.1) bt151.1 (bt151.1==1) s0_0 bt151.2 2 t130 0 0 t132))) else (none)) else (none)))=some (r1,r2,r3,r4,r5,r6):=by first|(rw [hy145];with_reducible exact H)|(have H2_:=(Option.bind_some _ _).symm.trans H;rw [hy145];with_reducible exact H2_)|(have H2_:=(Option.bind_some _ _).symm.trans H;with_reducible exact H2_)|with_reducible exact H|(rw [hy145];exact H)|exact H
   have Ny145:=a_ hy145
   clear hy145
   replace H:=bs_ H
   obtain ⟨⟨t148,t149⟩,A90,H⟩:=H
   try dsimp only at H
   have A9:=a_ A90
   clear A90
   by_cases c10:0≤t148
   ·rw [if_pos c10] at H
    have c10b0:decide (0≤t148)=true:=dt_ c10
    clear c10
    by_cases c11:t148 < (y145.length:Int)
    ·rw [if_pos c11] at H
     have c11b0:decide (t148 < (y145.length:Int))=true:=dt_ c11
     clear c11
     replace H:=bs_ H
     obtain ⟨⟨t151,t152⟩,A120,H⟩:=H
     try dsimp only at H
     have A12:=a_ A120
     clear A120
     have HC13:=a_ H
     clear H
     go_enter Tryd.func96,Tryd.ntmps96
     go_upto_block 0 with (first|((with_reducible refine gD_ (N:=2) rfl ?_);refine bx_ 2 (#[.int .i64 0,.int .i64 0,.int .i64 0,.int .i64 0,.string (⟨#[]⟩:ByteArray)]) 42 ?_;intro gb129 hg w14 hbox hb;have n0_:=a_ (IsS145.below (is_HI0) hb);have n1_:=a_ (KeepBut.trans (ke_) (KeepBut.of_below hb g none) (.inl rfl));have n2_:=a_ (bS_ (bel_) hb);have n3_:=a_ (hbox);have n4_:=a_ ((by rw [hg];exact (keep_size (w:=w) (g:=g) (row:=none) (ke_)):w.heap.size≤gb129));have n5_:=a_ ((Nat.le_trans HW0.out (by rw [hg];exact (keep_size (w:=w) (g:=g) (row:=none) (ke_)):w.heap.size≤gb129):w0.heap.size≤gb129));have n6_:=a_ ((by rw [hg];exact Nat.ne_of_lt (IsS145.lt (show IsS145 w0 _ g s0_0 s0_1 from is_HI0)):g≠gb129));have n7_:=a_ ((by rw [hg];exact Nat.ne_of_gt (IsS145.lt (show IsS145 w0 _ g s0_0 s0_1 from is_HI0)):gb129≠g));clear HI0;clear HK;clear HB;have HI0:=n0_;have HK:=n1_;have HB:=n2_;have BK129:=n3_;have GW129:=n4_;have GE129:=n5_;have NB0_129:=n6_;have NB129_0:=n7_;clear n0_ n1_ n2_ n3_ n4_ n5_ n6_ n7_;clear hb hbox hg)|((with_reducible refine gC_ (f:=135) rfl ?_);refine gl_ 7 Tryd.func135 #[.pointer (some ⟨g,0,none⟩)] ?_;(with_reducible refine (spec_l71Id.calls k g s0_0 s0_1 t130 t131 w0 _ ?side1 ?side2 A2.out).mono ?_);(case side1=>exact is_HI0);(case side2=>exact bel_);rintro e w15 ⟨rfl,hi,hb,hk⟩;refine ⟨_,rfl,?_⟩;replace BK129:=a_ (kb_ hk BK129.out NB129_0.out);replace HK:=a_ (KeepBut.trans (kf_ HK.out) hk (.inl rfl));replace HB:=a_ (hb);replace HI0:=a_ (hi);(try clear hb hk hi))|((with_reducible refine gC_ (f:=136) rfl ?_);refine gl_ 9 Tryd.func136 #[.pointer (some ⟨g,0,none⟩)] ?_;(with_reducible refine (spec_l71Text.calls k g s0_0 t131 t132 t133 w0 _ ?side1 ?side2 A3.out).mono ?_);(case side1=>exact is_HI0);(case side2=>exact bel_);rintro e w16 ⟨rfl,hi,hb,hk⟩;refine ⟨_,rfl,?_⟩;replace BK129:=a_ (kb_ hk BK129.out NB129_0.out);replace HK:=a_ (KeepBut.trans (kf_ HK.out) hk (.inl rfl));replace HB:=a_ (hb);replace HI0:=a_ (hi);(try clear hb hk hi))|((with_reducible refine gD_ (N:=3) rfl ?_);refine bx_ 3 (#[.int .i64 0,.int .i64 0,.int .i64 0,.int .i64 0,.string (⟨#[]⟩:ByteArray)]) 42 ?_;intro gb134 hg w17 hbox hb;have n0_:=a_ (IsS145.below (is_HI0) hb);have n1_:=a_ (bb_ BK129.out hb);have n2_:=a_ (KeepBut.trans (kf_ HK.out) (KeepBut.of_below hb g none) (.inl rfl));have n3_:=a_ (bS_ (bel_) hb);have n4_:=a_ (hbox);have n5_:=a_ ((by rw [hg];exact (keep_size (w:=w) (g:=g) (row:=none) (kf_ HK.out)):w.heap.size≤gb134));have n6_:=a_ ((Nat.le_trans HW0.out (by rw [hg];exact (keep_size (w:=w) (g:=g) (row:=none) (kf_ HK.out)):w.heap.size≤gb134):w0.heap.size≤gb134));have n7_:=a_ ((by rw [hg];exact Nat.ne_of_lt (blk_lt (g:=gb129) (o:=.cells #[.int .i64 0,.int .i64 0,.int .i64 0,.int .i64 0,.string (⟨#[]⟩:ByteArray)] 42 (0,0)) (bp_ BK129.out)):gb129≠gb134));have n8_:=a_ ((by rw [hg];exact Nat.ne_of_gt (blk_lt (g:=gb129) (o:=.cells #[.int .i64 0,.int .i64 0,.int .i64 0,.int .i64 0,.string (⟨#[]⟩:ByteArray)] 42 (0,0)) (bp_ BK129.out)):gb134≠gb129));have n9_:=a_ ((by rw [hg];exact Nat.ne_of_lt (IsS145.lt (show IsS145 w0 _ g s0_0 t133 from is_HI0)):g≠gb134));have n10_:=a_ ((by rw [hg];exact Nat.ne_of_gt (IsS145.lt (show IsS145 w0 _ g s0_0 t133 from is_HI0)):gb134≠g));clear HI0;clear BK129;clear HK;clear HB;have HI0:=n0_;have BK129:=n1_;have HK:=n2_;have HB:=n3_;have BK134:=n4_;have GW134:=n5_;have GE134:=n6_;have NB129_134:=n7_;have NB134_129:=n8_;have NB0_134:=n9_;have NB134_0:=n10_;clear n0_ n1_ n2_ n3_ n4_ n5_ n6_ n7_ n8_ n9_ n10_;clear hb hbox hg;have hnb18:=NB134_129.out;have hnc18:=NB129_134.out;have hnb19:=NB134_0.out;have hnc19:=NB0_134.out;obtain ⟨Z20_0,Z20_1,Z20_2,Z20_3,Z20_4,Y20_0,Y20_1,Y20_2,Y20_3,Y20_4⟩:=op5_ BK134.out)|((with_reducible refine gC_ (f:=135) rfl ?_);refine gl_ 12 Tryd.func135 #[.pointer (some ⟨g,0,none⟩)] ?_;(with_reducible refine (spec_l71Id.calls k g s0_0 t133 t135 t136 w0 _ ?side1 ?side2 A4.out).mono ?_);(case side1=>exact is_HI0);(case side2=>exact bel_);rintro e w21 ⟨rfl,hi,hb,hk⟩;refine ⟨_,rfl,?_⟩;have n0_:=a_ (KeepBut.blk hk (g':=gb129) (o:=.cells #[.int .i64 0,.int .i64 0,.int .i64 0,.int .i64 0,.string (⟨#[]⟩:ByteArray)] 42 (0,0)) (by (with_reducible repeat (first|refine bN_ ?_ _|refine bD_ ?_|refine bA_ ?_ _));refine blk_far ?_ NB129_134.out _;(with_reducible repeat (first|refine bN_ ?_ _|refine bD_ ?_|refine bA_ ?_ _));refine blk_far ?_ NB129_134.out _;(with_reducible repeat (first|refine bN_ ?_ _|refine bD_ ?_|refine bA_ ?_ _));refine blk_far ?_ NB129_134.out _;(with_reducible repeat (first|refine bN_ ?_ _|refine bD_ ?_|refine bA_ ?_ _));refine blk_far ?_ NB129_134.out _;(with_reducible repeat (first|refine bN_ ?_ _|refine bD_ ?_|refine bA_ ?_ _));refine blk_far ?_ NB129_134.out _;(with_reducible repeat (first|refine bN_ ?_ _|refine bD_ ?_|refine bA_ ?_ _));exact BK129.out) NB129_0.out (by simp));have n1_:=a_ (KeepBut.blk hk (g':=gb134) (o:=.cells #[.int .i64 2,.int .i64 t130,.int .i64 0,.int .i64 0,.string t132] 42 (0,0)) (by (with_reducible repeat (first|refine bN_ ?_ _|refine bD_ ?_|refine bA_ ?_ _));exact bk5_ (bp_ BK134.out)) NB134_0.out (by simp));have n2_:=a_ (KeepBut.trans (kf_ HK.out) hk (.inl rfl));have n3_:=a_ (hb);have n4_:=a_ (hi);clear BK129;clear BK134;clear HK;clear HB;clear HI0;have BK129:=n0_;have BK134:=n1_;have HK:=n2_;have HB:=n3_;have HI0:=n4_;clear n0_ n1_ n2_ n3_ n4_;(try clear hb hk hi))|((with_reducible refine gD_ (N:=13) rfl ?_);refine Kd.R_lit (Kd.int .i64) _ 3 ?hg (N:=13) ?hd (xs:=([1,1,t135,2,3]:List Int)) (inner:=[.int .i64 1,.int .i64 1,.int .i64 t135,.int .i64 2,.int .i64 3]) (ok:=fun _=>True) (okp:=fun _=>True) ?hr ?hp (fun _ hk=>hk) trivial (Below.refl _ _) (Nat.le_refl _) (by simp) ?_;(case hd=>rfl);(case hg=>rfl);(case hr=>first|(go_simp;done)|(go_simp;rfl));(case hp=>exact (Reps.one (show Kd.M (Kd.int .i64) _ _ _ 1 [.int .i64 1] from rfl) (Reps.one (show Kd.M (Kd.int .i64) _ _ _ 1 [.int .i64 1] from rfl) (Reps.one (show Kd.M (Kd.int .i64) _ _ _ t135 [.int .i64 t135] from rfl) (Reps.one (show Kd.M (Kd.int .i64) _ _ _ 2 [.int .i64 2] from rfl) (Reps.one (show Kd.M (Kd.int .i64) _ _ _ 3 [.int .i64 3] from rfl) (Reps.none _ _)))))));intro v138 w22 ho23 hb hg_ hnew_;clear hg_ hnew_;(first|rw [←Ny137.out] at ho23|(simp only [Int.reduceToNat] at ho23;rw [←Ny137.out] at ho23));have HO139:=a_ (Kd.R_lower ho23 (keep_size (w:=w) (g:=g) (row:=none) (kf_ HK.out)));replace HK:=a_ (KeepBut.trans (kf_ HK.out) (KeepBut.of_below hb g none) (.inl rfl));replace HB:=a_ (bS_ (bel_) hb);replace HI0:=a_ (IsS145.below (is_HI0) hb);replace BK129:=a_ (bb_ BK129.out hb);replace BK134:=a_ (bb_ BK134.out hb);clear hb ho23)|((with_reducible refine gC_ (f:=74) rfl ?_);refine gl_ 15 Tryd.func74 #[.pointer (some ⟨g,0,none⟩),.int .i64 5] ?_;(with_reducible refine (spec_l6Rd_pick.calls k g s0_0 t136 5 t140 t141 w0 _ ?side1 ?side2 A5.out).mono ?_);(case side1=>exact is_HI0);(case side2=>exact bel_);rintro e w24 ⟨rfl,hi,hb,hk⟩;refine ⟨_,rfl,?_⟩;replace BK129:=a_ (kb_ hk BK129.out NB129_0.out);replace BK134:=a_ (kb_ hk BK134.out NB134_0.out);replace HO139:=a_ (Kd.R_mono (Kd.R_keep (IsS145.apart (show IsS145 w0 _ g s0_0 t136 from is_HI0) (rp_ HO139.out) (by decide)) hk (fun _ h=>h.2)) (fun _ h=>h.1));replace HK:=a_ (KeepBut.trans (kf_ HK.out) hk (.inl rfl));replace HB:=a_ (hb);replace HI0:=a_ (hi);(try clear hb hk hi);obtain ⟨Ao25,co25,eo25⟩:=Kd.R_slice HO139.out;subst eo25;have p142:0≤(t140:Int):=od_;have q142:t140 < (y137.length:Int):=od_;obtain ⟨ad142,e142,hx142_0⟩:=Kd.at_int (Kd.R_reads' HO139.out).2.2 t140 p142 q142;cases e142;replace p142:=eq_true p142;replace q142:=eq_true q142)|((with_reducible refine gC_ (f:=135) rfl ?_);refine gl_ 19 Tryd.func135 #[.pointer (some ⟨g,0,none⟩)] ?_;(with_reducible refine (spec_l71Id.calls k g s0_0 t141 t143 t144 w0 _ ?side1 ?side2 A8.out).mono ?_);(case side1=>exact is_HI0);(case side2=>exact bel_);rintro e w26 ⟨rfl,hi,hb,hk⟩;refine ⟨_,rfl,?_⟩;replace BK129:=a_ (kb_ hk BK129.out NB129_0.out);replace BK134:=a_ (kb_ hk BK134.out NB134_0.out);replace HO139:=a_ (Kd.R_mono (Kd.R_keep (IsS145.apart (show IsS145 w0 _ g s0_0 t141 from is_HI0) (rp_ HO139.out) (by decide)) hk (fun _ h=>h.2)) (fun _ h=>h.1));replace HK:=a_ (KeepBut.trans (kf_ HK.out) hk (.inl rfl));replace HB:=a_ (hb);replace HI0:=a_ (hi);(try clear hb hk hi))|((with_reducible refine gD_ (N:=20) rfl ?_);refine Kd.R_lit (Kd.int .i64) _ 3 ?hg (N:=20) ?hd (xs:=([0,t143]:List Int)) (inner:=[.int .i64 0,.int .i64 t143]) (ok:=fun _=>True) (okp:=fun _=>True) ?hr ?hp (fun _ hk=>hk) trivial (Below.refl _ _) (Nat.le_refl _) (by simp) ?_;(case hd=>rfl);(case hg=>rfl);(case hr=>first|(go_simp;done)|(go_simp;rfl));(case hp=>exact (Reps.one (show Kd.M (Kd.int .i64) _ _ _ 0 [.int .i64 0] from rfl) (Reps.one (show Kd.M (Kd.int .i64) _ _ _ t143 [.int .i64 t143] from rfl) (Reps.none _ _))));intro v146 w27 ho28 hb hg_ hnew_;clear hg_ hnew_;(first|rw [←Ny145.out] at ho28|(simp only [Int.reduceToNat] at ho28;rw [←Ny145.out] at ho28));have HO147:=a_ (Kd.R_lower (Kd.R_new' ho28 (Kd.R_lt (rp_ HO139.out))) (keep_size (w:=w) (g:=g) (row:=none) (kf_ HK.out)));replace HO139:=a_ (Kd.R_elder' (rp_ HO139.out) (Kd.R_base ho28) hb);replace HK:=a_ (KeepBut.trans (kf_ HK.out) (KeepBut.of_below hb g none) (.inl rfl));replace HB:=a_ (bS_ (bel_) hb);replace HI0:=a_ (IsS145.below (is_HI0) hb);replace BK129:=a_ (bb_ BK129.out hb);replace BK134:=a_ (bb_ BK134.out hb);clear hb ho28)|((with_reducible refine gC_ (f:=74) rfl ?_);refine gl_ 22 Tryd.func74 #[.pointer (some ⟨g,0,none⟩),.int .i64 2] ?_;(with_reducible refine (spec_l6Rd_pick.calls k g s0_0 t144 2 t148 t149 w0 _ ?side1 ?side2 A9.out).mono ?_);(case side1=>exact is_HI0);(case side2=>exact bel_);rintro e w29 ⟨rfl,hi,hb,hk⟩;refine ⟨_,rfl,?_⟩;replace BK129:=a_ (kb_ hk BK129.out NB129_0.out);replace BK134:=a_ (kb_ hk BK134.out NB134_0.out);replace HO139:=a_ (Kd.R_mono (Kd.R_keep (IsS145.apart (show IsS145 w0 _ g s0_0 t144 from is_HI0) (rp_ HO139.out) (by decide)) hk (fun _ h=>h.2)) (fun _ h=>h.1));replace HO147:=a_ (Kd.R_mono (Kd.R_keep (IsS145.apart (show IsS145 w0 _ g s0_0 t144 from is_HI0) (rp_ HO147.out) (by decide)) hk (fun _ h=>h.2)) (fun _ h=>h.1));replace HK:=a_ (KeepBut.trans (kf_ HK.out) hk (.inl rfl));replace HB:=a_ (hb);replace HI0:=a_ (hi);(try clear hb hk hi);obtain ⟨Ao30,co30,eo30⟩:=Kd.R_slice HO147.out;subst eo30;have p150:0≤(t148:Int):=od_;have q150:t148 < (y145.length:Int):=od_;obtain ⟨ad150,e150,hx150_0⟩:=Kd.at_int (Kd.R_reads' HO147.out).2.2 t148 p150 q150;cases e150;replace p150:=eq_true p150;replace q150:=eq_true q150)|((with_reducible refine gC_ (f:=74) rfl ?_);refine gl_ 26 Tryd.func74 #[.pointer (some ⟨g,0,none⟩),.int .i64 5] ?_;(with_reducible refine (spec_l6Rd_pick.calls k g s0_0 t149 5 t151 t152 w0 _ ?side1 ?side2 A12.out).mono ?_);(case side1=>exact is_HI0);(case side2=>exact bel_);rintro e w31 ⟨rfl,hi,hb,hk⟩;refine ⟨_,rfl,?_⟩;replace BK129:=a_ (kb_ hk BK129.out NB129_0.out);replace BK134:=a_ (kb_ hk BK134.out NB134_0.out);replace HO139:=a_ (Kd.R_mono (Kd.R_keep (IsS145.apart (show IsS145 w0 _ g s0_0 t149 from is_HI0) (rp_ HO139.out) (by decide)) hk (fun _ h=>h.2)) (fun _ h=>h.1));replace HO147:=a_ (Kd.R_mono (Kd.R_keep (IsS145.apart (show IsS145 w0 _ g s0_0 t149 from is_HI0) (rp_ HO147.out) (by decide)) hk (fun _ h=>h.2)) (fun _ h=>h.1));replace HK:=a_ (KeepBut.trans (kf_ HK.out) hk (.inl rfl));replace HB:=a_ (hb);replace HI0:=a_ (hi);(try clear hb hk hi)))
     (try simp only [Act.put,List.setIfInBounds_toArray,List.set_cons_zero,List.set_cons_succ])
     go_cut [] (fun wc=>∃ (kq:Nat) (x135000_12:Int) (x135001_12:Int) (x135002_12:Int) (x135003_12:Int) (x135004_12:ByteArray),Aside0 (spec_l71Op.j1 kq s0_0 t152 x135000_12 x135001_12 x135002_12 x135003_12 x135004_12=some (r1,r2,r3,r4,r5,r6))∧Aside0 (kq≤k)∧Aside0 (wc.heap[gb129]?=some (.cells #[.int .i64 0,.int .i64 0,.int .i64 0,.int .i64 0,.string (⟨#[]⟩:ByteArray)] 42 (0,0)))∧Aside0 (wc.heap[gb134]?=some (.cells #[.int .i64 x135000_12,.int .i64 x135001_12,.int .i64 x135002_12,.int .i64 x135003_12,.string x135004_12] 42 (0,0)))∧Aside0 (IsS145 w0 wc g s0_0 t152)∧Aside0 (KeepBut w wc g none)∧Aside0 (Below w0.heap.size w0 wc))
     case first =>
      have H:=HC13.out
      clear HC13
      have HC32:=a_ H
      clear H
      go_upto_if 27 with (fail)
      go_cut [27] (fun v27 wc=>∃ (kq:Nat) (x27_31:Bool),v27=.bool x27_31∧Aside0 (spec_l71Op.j0 kq (rd y137 t140) (rd y145 t148) t151 x27_31 s0_0 t152 2 t130 0 0 t132=some (r1,r2,r3,r4,r5,r6))∧Aside0 (kq≤k)∧Aside0 (wc.heap[gb129]?=some (.cells #[.int .i64 0,.int .i64 0,.int .i64 0,.int .i64 0,.string (⟨#[]⟩:ByteArray)] 42 (0,0)))∧Aside0 (wc.heap[gb134]?=some (.cells #[.int .i64 2,.int .i64 t130,.int .i64 0,.int .i64 0,.string t132] 42 (0,0)))∧Aside0 (IsS145 w0 wc g s0_0 t152)∧Aside0 (KeepBut w wc g none)∧Aside0 (Below w0.heap.size w0 wc))
      case first =>
       have H:=HC32.out
       clear HC32
       by_cases c33:t151=0
       ·rw [if_pos c33] at H
        have c33b0:(t151==0)=true:=beq_iff_eq.mpr c33
        have c33b1:(t151 != 0)=false:=be_ c33
        clear c33
        (first|rw [c33b0]|(simp only [i64_w,i32_w];rw [c33b0])|skip)
        have H':=a_ H
        clear H
        go_wp2
        go_meet
        case rel=>exact ⟨_,((t151==0)),(si_),H',⟨by first|omega|exact Nat.le_refl _⟩,⟨by (with_reducible repeat (first|refine bN_ ?_ _|refine bD_ ?_|refine bA_ ?_ _));exact BK129.out⟩,⟨by (with_reducible repeat (first|refine bN_ ?_ _|refine bD_ ?_|refine bA_ ?_ _));exact BK134.out⟩,⟨is_HI0⟩,⟨kf_ HK.out⟩,⟨bel_⟩⟩
       ·rw [if_neg c33] at H
        have c33b0:(t151==0)=false:=bn_ c33
        have c33b1:(t151 != 0)=true:=bne_iff_ne.mpr c33
        (first|rw [c33b0]|(simp only [i64_w,i32_w];rw [c33b0])|skip)
        have H':=a_ H
        clear H
        go_wp2
        go_meet
        case rel=>exact ⟨_,((t151==1)),(si_),H',⟨by first|omega|exact Nat.le_refl _⟩,⟨by (with_reducible repeat (first|refine bN_ ?_ _|refine bD_ ?_|refine bA_ ?_ _));exact BK129.out⟩,⟨by (with_reducible repeat (first|refine bN_ ?_ _|refine bD_ ?_|refine bA_ ?_ _));exact BK134.out⟩,⟨is_HI0⟩,⟨kf_ HK.out⟩,⟨bel_⟩⟩
      case rest =>
       clear HC32
       try clear c1
       try clear p1
       try clear q1
       try clear hx1
       try clear p2
       try clear c3
       try clear c6
       try clear c6b0
       try clear c7
       try clear c7b0
       try clear c9
       try clear c10
       try clear c10b0
       try clear c11
       try clear c11b0
       try clear c13
       try clear p14
       try clear q14
       try clear hx14
       try clear p15
       try clear q15
       try clear hx15
       try clear c18
       try clear c19
       try clear c33
       try clear c33b0
       try clear c33b1
       try clear hx142_0
       try clear hx150_0
       try clear p142
       try clear p150
       try clear q142
       try clear q150
       try clear Z20_0 Z20_1 Z20_2 Z20_3 Z20_4 Y20_0 Y20_1 Y20_2 Y20_3 Y20_4
       obtain ⟨kq,x27_31,rfl,HA,HJ31,BK129,BK134,HI0,HK,HB⟩:=hcut
       cases kq with
       | zero=>exact absurd HA.out (by simp [spec_l71Op.j0])
       | succ kj31 =>
        have H:=HA.out
        clear HA
        simp only [spec_l71Op.j0] at H
        by_cases c34:x27_31=true
        ·subst c34
         have H1:(spec_l71Op.j1 kj31 s0_0 t152 1 t130 (rd y137 t140) (rd y145 t148) t132)=some (r1,r2,r3,r4,r5,r6):=by rw [if_pos rfl] at H;exact H
         clear H
         have H:=H1
         clear H1
         have H':=a_ H
         clear H
         have hnb35:=NB134_129.out
         have hnc35:=NB129_134.out
         have hnb36:=NB134_0.out
         have hnc36:=NB0_134.out
         obtain ⟨Z37_0,Z37_1,Z37_2,Z37_3,Z37_4,Y37_0,Y37_1,Y37_2,Y37_3,Y37_4⟩:=op5_ BK134.out
         go_wp2
         go_meet
         case rel=>exact ⟨_,(1),(t130),((rd y137 t140)),((rd y145 t148)),(t132),H',⟨by have:=HJ31.out;first|omega|exact Nat.le_refl _⟩,⟨by (with_reducible repeat (first|refine bN_ ?_ _|refine bD_ ?_|refine bA_ ?_ _));refine blk_far ?_ NB129_134.out _;(with_reducible repeat (first|refine bN_ ?_ _|refine bD_ ?_|refine bA_ ?_ _));refine blk_far ?_ NB129_134.out _;(with_reducible repeat (first|refine bN_ ?_ _|refine bD_ ?_|refine bA_ ?_ _));refine blk_far ?_ NB129_134.out _;(with_reducible repeat (first|refine bN_ ?_ _|refine bD_ ?_|refine bA_ ?_ _));refine blk_far ?_ NB129_134.out _;(with_reducible repeat (first|refine bN_ ?_ _|refine bD_ ?_|refine bA_ ?_ _));refine blk_far ?_ NB129_134.out _;(with_reducible repeat (first|refine bN_ ?_ _|refine bD_ ?_|refine bA_ ?_ _));exact BK129.out⟩,⟨by (with_reducible repeat (first|refine bN_ ?_ _|refine bD_ ?_|refine bA_ ?_ _));exact bk5_ (bp_ BK134.out)⟩,⟨is_HI0⟩,⟨kf_ HK.out⟩,⟨bel_⟩⟩
        ·replace c34:=Bool.eq_false_iff.mpr c34
         subst c34
         have H1:(if t151=2 then (spec_l71Op.j1 kj31 s0_0 t152 3 t130 (rd y137 t140) (rd y145 t148) (⟨#[]⟩:ByteArray)) else (if t151=3 then (spec_l71Op.j1 kj31 s0_0 t152 3 t130 (rd y137 t140) (rd y145 t148) (⟨#[]⟩:ByteArray)) else (spec_l71Op.j1 kj31 s0_0 t152 2 t130 0 0 t132)))=some (r1,r2,r3,r4,r5,r6):=by rw [if_neg (show ¬ (false=true) by decide)] at H;exact H
         clear H
         have H:=H1
         clear H1
         by_cases c38:t151=2
         ·rw [if_pos c38] at H
          have c38b0:(t151==2)=true:=beq_iff_eq.mpr c38
          have c38b1:(t151 != 2)=false:=be_ c38
          clear c38
          have H':=a_ H
          clear H
          have hnb39:=NB134_129.out
          have hnc39:=NB129_134.out
          have hnb40:=NB134_0.out
          have hnc40:=NB0_134.out
          obtain ⟨Z41_0,Z41_1,Z41_2,Z41_3,Z41_4,Y41_0,Y41_1,Y41_2,Y41_3,Y41_4⟩:=op5_ BK134.out
          go_wp2
          go_meet
          case rel=>exact ⟨_,(3),(t130),((rd y137 t140)),((rd y145 t148)),((⟨#[]⟩:ByteArray)),H',⟨by have:=HJ31.out;first|omega|exact Nat.le_refl _⟩,⟨by (with_reducible repeat (first|refine bN_ ?_ _|refine bD_ ?_|refine bA_ ?_ _));refine blk_far ?_ NB129_134.out _;(with_reducible repeat (first|refine bN_ ?_ _|refine bD_ ?_|refine bA_ ?_ _));refine blk_far ?_ NB129_134.out _;(with_reducible repeat (first|refine bN_ ?_ _|refine bD_ ?_|refine bA_ ?_ _));refine blk_far ?_ NB129_134.out _;(with_reducible repeat (first|refine bN_ ?_ _|refine bD_ ?_|refine bA_ ?_ _));refine blk_far ?_ NB129_134.out _;(with_reducible repeat (first|refine bN_ ?_ _|refine bD_ ?_|refine bA_ ?_ _));refine blk_far ?_ NB129_134.out _;(with_reducible repeat (first|refine bN_ ?_ _|refine bD_ ?_|refine bA_ ?_ _));exact BK129.out⟩,⟨by (with_reducible repeat (first|refine bN_ ?_ _|refine bD_ ?_|refine bA_ ?_ _));exact bk5_ (bp_ BK134.out)⟩,⟨is_HI0⟩,⟨kf_ HK.out⟩,⟨bel_⟩⟩
         ·rw [if_neg c38] at H
          have c38b0:(t151==2)=false:=bn_ c38
          have c38b1:(t151 != 2)=true:=bne_iff_ne.mpr c38
          by_cases c42:t151=3
          ·rw [if_pos c42] at H
           have c42b0:(t151==3)=true:=beq_iff_eq.mpr c42
           have c42b1:(t151 != 3)=false:=be_ c42
           clear c42
           have H':=a_ H
           clear H
           have hnb43:=NB134_129.out
           have hnc43:=NB129_134.out
           have hnb44:=NB134_0.out
           have hnc44:=NB0_134.out
           obtain ⟨Z45_0,Z45_1,Z45_2,Z45_3,Z45_4,Y45_0,Y45_1,Y45_2,Y45_3,Y45_4⟩:=op5_ BK134.out
           go_wp2
           go_meet
           case rel=>exact ⟨_,(3),(t130),((rd y137 t140)),((rd y145 t148)),((⟨#[]⟩:ByteArray)),H',⟨by have:=HJ31.out;first|omega|exact Nat.le_refl _⟩,⟨by (with_reducible repeat (first|refine bN_ ?_ _|refine bD_ ?_|refine bA_ ?_ _));refine blk_far ?_ NB129_134.out _;(with_reducible repeat (first|refine bN_ ?_ _|refine bD_ ?_|refine bA_ ?_ _));refine blk_far ?_ NB129_134.out _;(with_reducible repeat (first|refine bN_ ?_ _|refine bD_ ?_|refine bA_ ?_ _));refine blk_far ?_ NB129_134.out _;(with_reducible repeat (first|refine bN_ ?_ _|refine bD_ ?_|refine bA_ ?_ _));refine blk_far ?_ NB129_134.out _;(with_reducible repeat (first|refine bN_ ?_ _|refine bD_ ?_|refine bA_ ?_ _));refine blk_far ?_ NB129_134.out _;(with_reducible repeat (first|refine bN_ ?_ _|refine bD_ ?_|refine bA_ ?_ _));exact BK129.out⟩,⟨by (with_reducible repeat (first|refine bN_ ?_ _|refine bD_ ?_|refine bA_ ?_ _));exact bk5_ (bp_ BK134.out)⟩,⟨is_HI0⟩,⟨kf_ HK.out⟩,⟨bel_⟩⟩
          ·rw [if_neg c42] at H
           have c42b0:(t151==3)=false:=bn_ c42
           have c42b1:(t151 != 3)=true:=bne_iff_ne.mpr c42
           have H':=a_ H
           clear H
           go_wp2
           go_meet
           case rel=>exact ⟨_,(2),(t130),(0),(0),(t132),H',⟨by have:=HJ31.out;first|omega|exact Nat.le_refl _⟩,⟨by (with_reducible repeat (first|refine bN_ ?_ _|refine bD_ ?_|refine bA_ ?_ _));exact BK129.out⟩,⟨by (with_reducible repeat (first|refine bN_ ?_ _|refine bD_ ?_|refine bA_ ?_ _));exact BK134.out⟩,⟨is_HI0⟩,⟨kf_ HK.out⟩,⟨bel_⟩⟩
     case rest =>
      clear HC13
      try clear c1
      try clear p1
      try clear q1
      try clear hx1
      try clear p2
      try clear c3
      try clear c4
      try clear c6
      try clear c6b0
      try clear c7
      try clear c7b0
      try clear c9
      try clear c10
      try clear c10b0
      try clear c11
      try clear c11b0
      try clear c13
      try clear p14
      try clear q14
      try clear hx14
      try clear p15
      try clear q15
      try clear hx15
      try clear c18
      try clear c19
      try clear c33
      try clear c33b0
      try clear c33b1
      try clear c34
      try clear c35
      try clear c36
      try clear c38
      try clear c38b0
      try clear c38b1
      try clear c39
      try clear c40
      try clear c42
      try clear c42b0
      try clear c42b1
      try clear c43
      try clear c44
      try clear hx142_0
      try clear hx150_0
      try clear p1
      try clear p14
      try clear p142
      try clear p15
      try clear p150
      try clear p2
      try clear q1
      try clear q14
      try clear q142
      try clear q15
      try clear q150
      try clear Z20_0 Z20_1 Z20_2 Z20_3 Z20_4 Y20_0 Y20_1 Y20_2 Y20_3 Y20_4
      try clear Z37_0 Z37_1 Z37_2 Z37_3 Z37_4 Y37_0 Y37_1 Y37_2 Y37_3 Y37_4
      try clear Z41_0 Z41_1 Z41_2 Z41_3 Z41_4 Y41_0 Y41_1 Y41_2 Y41_3 Y41_4
      try clear Z45_0 Z45_1 Z45_2 Z45_3 Z45_4 Y45_0 Y45_1 Y45_2 Y45_3 Y45_4
      obtain ⟨kq,x135000_12,x135001_12,x135002_12,x135003_12,x135004_12,HA,HJ12,BK129,BK134,HI0,HK,HB⟩:=hcut
      cases kq with
      | zero=>exact absurd HA.out (by simp [spec_l71Op.j1])
      | succ kj12 =>
       have H:=HA.out
       clear HA
       simp only [spec_l71Op.j1] at H
       replace H:=bs_ H
       obtain ⟨⟨t153,t154⟩,A460,H⟩:=H
       try dsimp only at H
       have A46:=a_ A460
       clear A460
       by_cases c47:t153=0
       ·rw [if_pos c47] at H
        have c47b0:(t153==0)=true:=beq_iff_eq.mpr c47
        have c47b1:(t153 != 0)=false:=be_ c47
        clear c47
        replace H:=bs_ H
        obtain ⟨⟨t155,t156⟩,A480,H⟩:=H
        try dsimp only at H
        have A48:=a_ A480
        clear A480
        simp only [Option.some.injEq,Prod.mk.injEq] at H
        obtain ⟨rfl,rfl,rfl,rfl,rfl,rfl⟩:=H
        go_wp2_with (first|((with_reducible refine gC_ (f:=74) rfl ?_);refine gl_ 46 Tryd.func74 #[.pointer (some ⟨g,0,none⟩),.int .i64 30] ?_;(with_reducible refine (spec_l6Rd_pick.calls kj12 g s0_0 t152 30 t153 t154 w0 _ ?side1 ?side2 A46.out).mono ?_);(case side1=>exact is_HI0);(case side2=>exact bel_);rintro e w49 ⟨rfl,hi,hb,hk⟩;refine ⟨_,rfl,?_⟩;replace BK129:=a_ (kb_ hk BK129.out NB129_0.out);replace BK134:=a_ (kb_ hk BK134.out NB134_0.out);replace HK:=a_ (KeepBut.trans (kf_ HK.out) hk (.inl rfl));replace HB:=a_ (hb);replace HI0:=a_ (hi);(try clear hb hk hi))|((with_reducible refine gC_ (f:=74) rfl ?_);refine gl_ 50 Tryd.func74 #[.pointer (some ⟨g,0,none⟩),.int .i64 5] ?_;(with_reducible refine (spec_l6Rd_pick.calls kj12 g s0_0 t154 5 t155 t156 w0 _ ?side1 ?side2 A48.out).mono ?_);(case side1=>exact is_HI0);(case side2=>exact bel_);rintro e w50 ⟨rfl,hi,hb,hk⟩;refine ⟨_,rfl,?_⟩;replace BK129:=a_ (kb_ hk BK129.out NB129_0.out);replace BK134:=a_ (kb_ hk BK134.out NB134_0.out);replace HK:=a_ (KeepBut.trans (kf_ HK.out) hk (.inl rfl));replace HB:=a_ (hb);replace HI0:=a_ (hi);(try clear hb hk hi);have hnb51:=NB134_129.out;have hnc51:=NB129_134.out;have hnb52:=NB134_0.out;have hnc52:=NB0_134.out;obtain ⟨Z53_0,Z53_1,Z53_2,Z53_3,Z53_4,Y53_0,Y53_1,Y53_2,Y53_3,Y53_4⟩:=op5_ BK134.out;have hnb54:=NB129_0.out;have hnc54:=NB0_129.out;obtain ⟨Z55_0,Z55_1,Z55_2,Z55_3,Z55_4,Y55_0,Y55_1,Y55_2,Y55_3,Y55_4⟩:=op5_ BK129.out))
        refine bodyPost_ret (results_cell_row rfl _ _ gb129 42 #[.int .i64 t155,.int .i64 x135001_12,.int .i64 x135002_12,.int .i64 x135003_12,.string x135004_12] (0,0) _ rfl (by (with_reducible repeat (first|refine bN_ ?_ _|refine bD_ ?_|refine bA_ ?_ _));refine blk_put (cs:=#[.int .i64 t155,.int .i64 x135001_12,.int .i64 x135002_12,.int .i64 x135003_12,.string (⟨#[]⟩:ByteArray)]) ?_ 4 _ rfl;(with_reducible repeat (first|refine bN_ ?_ _|refine bD_ ?_|refine bA_ ?_ _));refine blk_put (cs:=#[.int .i64 t155,.int .i64 x135001_12,.int .i64 x135002_12,.int .i64 0,.string (⟨#[]⟩:ByteArray)]) ?_ 3 _ rfl;(with_reducible repeat (first|refine bN_ ?_ _|refine bD_ ?_|refine bA_ ?_ _));refine blk_put (cs:=#[.int .i64 t155,.int .i64 x135001_12,.int .i64 0,.int .i64 0,.string (⟨#[]⟩:ByteArray)]) ?_ 2 _ rfl;(with_reducible repeat (first|refine bN_ ?_ _|refine bD_ ?_|refine bA_ ?_ _));refine blk_put (cs:=#[.int .i64 t155,.int .i64 0,.int .i64 0,.int .i64 0,.string (⟨#[]⟩:ByteArray)]) ?_ 1 _ rfl;(with_reducible repeat (first|refine bN_ ?_ _|refine bD_ ?_|refine bA_ ?_ _));refine blk_put (cs:=#[.int .i64 0,.int .i64 0,.int .i64 0,.int .i64 0,.string (⟨#[]⟩:ByteArray)]) ?_ 0 _ rfl;(with_reducible repeat (first|refine bN_ ?_ _|refine bD_ ?_|refine bA_ ?_ _));refine blk_far ?_ NB129_134.out _;(with_reducible repeat (first|refine bN_ ?_ _|refine bD_ ?_|refine bA_ ?_ _));exact BK129.out) Tryd.underlying42 rfl (by kernel_rfl)) rfl ?_
        exact ⟨fi_,is_HI0,bel_,kf_ HK.out⟩
       ·rw [if_neg c47] at H
        have c47b0:(t153==0)=false:=bn_ c47
        have c47b1:(t153 != 0)=true:=bne_iff_ne.mpr c47
        by_cases c56:t153=1
        ·rw [if_pos c56] at H
         have c56b0:(t153==1)=true:=beq_iff_eq.mpr c56
         have c56b1:(t153 != 1)=false:=be_ c56
         clear c56
         replace H:=bs_ H
         obtain ⟨⟨t157,t158⟩,A570,H⟩:=H
         try dsimp only at H
         have A57:=a_ A570
         clear A570
         simp only [Option.some.injEq,Prod.mk.injEq] at H
         obtain ⟨rfl,rfl,rfl,rfl,rfl,rfl⟩:=H
         go_wp2_with (first|((with_reducible refine gC_ (f:=74) rfl ?_);refine gl_ 46 Tryd.func74 #[.pointer (some ⟨g,0,none⟩),.int .i64 30] ?_;(with_reducible refine (spec_l6Rd_pick.calls kj12 g s0_0 t152 30 t153 t154 w0 _ ?side1 ?side2 A46.out).mono ?_);(case side1=>exact is_HI0);(case side2=>exact bel_);rintro e w58 ⟨rfl,hi,hb,hk⟩;refine ⟨_,rfl,?_⟩;replace BK129:=a_ (kb_ hk BK129.out NB129_0.out);replace BK134:=a_ (kb_ hk BK134.out NB134_0.out);replace HK:=a_ (KeepBut.trans (kf_ HK.out) hk (.inl rfl));replace HB:=a_ (hb);replace HI0:=a_ (hi);(try clear hb hk hi))|((with_reducible refine gC_ (f:=74) rfl ?_);refine gl_ 55 Tryd.func74 #[.pointer (some ⟨g,0,none⟩),.int .i64 50] ?_;(with_reducible refine (spec_l6Rd_pick.calls kj12 g s0_0 t154 50 t157 t158 w0 _ ?side1 ?side2 A57.out).mono ?_);(case side1=>exact is_HI0);(case side2=>exact bel_);rintro e w59 ⟨rfl,hi,hb,hk⟩;refine ⟨_,rfl,?_⟩;replace BK129:=a_ (kb_ hk BK129.out NB129_0.out);replace BK134:=a_ (kb_ hk BK134.out NB134_0.out);replace HK:=a_ (KeepBut.trans (kf_ HK.out) hk (.inl rfl));replace HB:=a_ (hb);replace HI0:=a_ (hi);(try clear hb hk hi);have hnb60:=NB134_129.out;have hnc60:=NB129_134.out;have hnb61:=NB134_0.out;have hnc61:=NB0_134.out;obtain ⟨Z62_0,Z62_1,Z62_2,Z62_3,Z62_4,Y62_0,Y62_1,Y62_2,Y62_3,Y62_4⟩:=op5_ BK134.out;have hnb63:=NB129_0.out;have hnc63:=NB0_129.out;obtain ⟨Z64_0,Z64_1,Z64_2,Z64_3,Z64_4,Y64_0,Y64_1,Y64_2,Y64_3,Y64_4⟩:=op5_ BK129.out))
         refine bodyPost_ret (results_cell_row rfl _ _ gb129 42 #[.int .i64 x135000_12,.int .i64 t157,.int .i64 x135002_12,.int .i64 x135003_12,.string x135004_12] (0,0) _ rfl (by (with_reducible repeat (first|refine bN_ ?_ _|refine bD_ ?_|refine bA_ ?_ _));refine blk_put (cs:=#[.int .i64 x135000_12,.int .i64 t157,.int .i64 x135002_12,.int .i64 x135003_12,.string (⟨#[]⟩:ByteArray)]) ?_ 4 _ rfl;(with_reducible repeat (first|refine bN_ ?_ _|refine bD_ ?_|refine bA_ ?_ _));refine blk_put (cs:=#[.int .i64 x135000_12,.int .i64 t157,.int .i64 x135002_12,.int .i64 0,.string (⟨#[]⟩:ByteArray)]) ?_ 3 _ rfl;(with_reducible repeat (first|refine bN_ ?_ _|refine bD_ ?_|refine bA_ ?_ _));refine blk_put (cs:=#[.int .i64 x135000_12,.int .i64 t157,.int .i64 0,.int .i64 0,.string (⟨#[]⟩:ByteArray)]) ?_ 2 _ rfl;(with_reducible repeat (first|refine bN_ ?_ _|refine bD_ ?_|refine bA_ ?_ _));refine blk_put (cs:=#[.int .i64 x135000_12,.int .i64 0,.int .i64 0,.int .i64 0,.string (⟨#[]⟩:ByteArray)]) ?_ 1 _ rfl;(with_reducible repeat (first|refine bN_ ?_ _|refine bD_ ?_|refine bA_ ?_ _));refine blk_put (cs:=#[.int .i64 0,.int .i64 0,.int .i64 0,.int .i64 0,.string (⟨#[]⟩:ByteArray)]) ?_ 0 _ rfl;(with_reducible repeat (first|refine bN_ ?_ _|refine bD_ ?_|refine bA_ ?_ _));refine blk_far ?_ NB129_134.out _;(with_reducible repeat (first|refine bN_ ?_ _|refine bD_ ?_|refine bA_ ?_ _));exact BK129.out) Tryd.underlying42 rfl (by kernel_rfl)) rfl ?_
         exact ⟨fi_,is_HI0,bel_,kf_ HK.out⟩
        ·rw [if_neg c56] at H
         have c56b0:(t153==1)=false:=bn_ c56
         have c56b1:(t153 != 1)=true:=bne_iff_ne.mpr c56
         by_cases c65:t153=2
         ·rw [if_pos c65] at H
          have c65b0:(t153==2)=true:=beq_iff_eq.mpr c65
          have c65b1:(t153 != 2)=false:=be_ c65
          clear c65
          replace H:=bs_ H
          obtain ⟨⟨t159,t160⟩,A660,H⟩:=H
          try dsimp only at H
          have A66:=a_ A660
          clear A660
          simp only [Option.some.injEq,Prod.mk.injEq] at H
          obtain ⟨rfl,rfl,rfl,rfl,rfl,rfl⟩:=H
          go_wp2_with (first|((with_reducible refine gC_ (f:=74) rfl ?_);refine gl_ 46 Tryd.func74 #[.pointer (some ⟨g,0,none⟩),.int .i64 30] ?_;(with_reducible refine (spec_l6Rd_pick.calls kj12 g s0_0 t152 30 t153 t154 w0 _ ?side1 ?side2 A46.out).mono ?_);(case side1=>exact is_HI0);(case side2=>exact bel_);rintro e w67 ⟨rfl,hi,hb,hk⟩;refine ⟨_,rfl,?_⟩;replace BK129:=a_ (kb_ hk BK129.out NB129_0.out);replace BK134:=a_ (kb_ hk BK134.out NB134_0.out);replace HK:=a_ (KeepBut.trans (kf_ HK.out) hk (.inl rfl));replace HB:=a_ (hb);replace HI0:=a_ (hi);(try clear hb hk hi))|((with_reducible refine gC_ (f:=74) rfl ?_);refine gl_ 60 Tryd.func74 #[.pointer (some ⟨g,0,none⟩),.int .i64 50] ?_;(with_reducible refine (spec_l6Rd_pick.calls kj12 g s0_0 t154 50 t159 t160 w0 _ ?side1 ?side2 A66.out).mono ?_);(case side1=>exact is_HI0);(case side2=>exact bel_);rintro e w68 ⟨rfl,hi,hb,hk⟩;refine ⟨_,rfl,?_⟩;replace BK129:=a_ (kb_ hk BK129.out NB129_0.out);replace BK134:=a_ (kb_ hk BK134.out NB134_0.out);replace HK:=a_ (KeepBut.trans (kf_ HK.out) hk (.inl rfl));replace HB:=a_ (hb);replace HI0:=a_ (hi);(try clear hb hk hi);have hnb69:=NB134_129.out;have hnc69:=NB129_134.out;have hnb70:=NB134_0.out;have hnc70:=NB0_134.out;obtain ⟨Z71_0,Z71_1,Z71_2,Z71_3,Z71_4,Y71_0,Y71_1,Y71_2,Y71_3,Y71_4⟩:=op5_ BK134.out;have hnb72:=NB129_0.out;have hnc72:=NB0_129.out;obtain ⟨Z73_0,Z73_1,Z73_2,Z73_3,Z73_4,Y73_0,Y73_1,Y73_2,Y73_3,Y73_4⟩:=op5_ BK129.out))
          refine bodyPost_ret (results_cell_row rfl _ _ gb129 42 #[.int .i64 x135000_12,.int .i64 x135001_12,.int .i64 t159,.int .i64 x135003_12,.string x135004_12] (0,0) _ rfl (by (with_reducible repeat (first|refine bN_ ?_ _|refine bD_ ?_|refine bA_ ?_ _));refine blk_put (cs:=#[.int .i64 x135000_12,.int .i64 x135001_12,.int .i64 t159,.int .i64 x135003_12,.string (⟨#[]⟩:ByteArray)]) ?_ 4 _ rfl;(with_reducible repeat (first|refine bN_ ?_ _|refine bD_ ?_|refine bA_ ?_ _));refine blk_put (cs:=#[.int .i64 x135000_12,.int .i64 x135001_12,.int .i64 t159,.int .i64 0,.string (⟨#[]⟩:ByteArray)]) ?_ 3 _ rfl;(with_reducible repeat (first|refine bN_ ?_ _|refine bD_ ?_|refine bA_ ?_ _));refine blk_put (cs:=#[.int .i64 x135000_12,.int .i64 x135001_12,.int .i64 0,.int .i64 0,.string (⟨#[]⟩:ByteArray)]) ?_ 2 _ rfl;(with_reducible repeat (first|refine bN_ ?_ _|refine bD_ ?_|refine bA_ ?_ _));refine blk_put (cs:=#[.int .i64 x135000_12,.int .i64 0,.int .i64 0,.int .i64 0,.string (⟨#[]⟩:ByteArray)]) ?_ 1 _ rfl;(with_reducible repeat (first|refine bN_ ?_ _|refine bD_ ?_|refine bA_ ?_ _));refine blk_put (cs:=#[.int .i64 0,.int .i64 0,.int .i64 0,.int .i64 0,.string (⟨#[]⟩:ByteArray)]) ?_ 0 _ rfl;(with_reducible repeat (first|refine bN_ ?_ _|refine bD_ ?_|refine bA_ ?_ _));refine blk_far ?_ NB129_134.out _;(with_reducible repeat (first|refine bN_ ?_ _|refine bD_ ?_|refine bA_ ?_ _));exact BK129.out) Tryd.underlying42 rfl (by kernel_rfl)) rfl ?_
          exact ⟨fi_,is_HI0,bel_,kf_ HK.out⟩
         ·rw [if_neg c65] at H
          have c65b0:(t153==2)=false:=bn_ c65
          have c65b1:(t153 != 2)=true:=bne_iff_ne.mpr c65
          by_cases c74:t153=3
          ·rw [if_pos c74] at H
           have c74b0:(t153==3)=true:=beq_iff_eq.mpr c74
           have c74b1:(t153 != 3)=false:=be_ c74
           clear c74
           replace H:=bs_ H
           obtain ⟨⟨t161,t162⟩,A750,H⟩:=H
           try dsimp only at H
           have A75:=a_ A750
           clear A750
           simp only [Option.some.injEq,Prod.mk.injEq] at H
           obtain ⟨rfl,rfl,rfl,rfl,rfl,rfl⟩:=H
           go_wp2_with (first|((with_reducible refine gC_ (f:=74) rfl ?_);refine gl_ 46 Tryd.func74 #[.pointer (some ⟨g,0,none⟩),.int .i64 30] ?_;(with_reducible refine (spec_l6Rd_pick.calls kj12 g s0_0 t152 30 t153 t154 w0 _ ?side1 ?side2 A46.out).mono ?_);(case side1=>exact is_HI0);(case side2=>exact bel_);rintro e w76 ⟨rfl,hi,hb,hk⟩;refine ⟨_,rfl,?_⟩;replace BK129:=a_ (kb_ hk BK129.out NB129_0.out);replace BK134:=a_ (kb_ hk BK134.out NB134_0.out);replace HK:=a_ (KeepBut.trans (kf_ HK.out) hk (.inl rfl));replace HB:=a_ (hb);replace HI0:=a_ (hi);(try clear hb hk hi))|((with_reducible refine gC_ (f:=74) rfl ?_);refine gl_ 65 Tryd.func74 #[.pointer (some ⟨g,0,none⟩),.int .i64 50] ?_;(with_reducible refine (spec_l6Rd_pick.calls kj12 g s0_0 t154 50 t161 t162 w0 _ ?side1 ?side2 A75.out).mono ?_);(case side1=>exact is_HI0);(case side2=>exact bel_);rintro e w77 ⟨rfl,hi,hb,hk⟩;refine ⟨_,rfl,?_⟩;replace BK129:=a_ (kb_ hk BK129.out NB129_0.out);replace BK134:=a_ (kb_ hk BK134.out NB134_0.out);replace HK:=a_ (KeepBut.trans (kf_ HK.out) hk (.inl rfl));replace HB:=a_ (hb);replace HI0:=a_ (hi);(try clear hb hk hi);have hnb78:=NB134_129.out;have hnc78:=NB129_134.out;have hnb79:=NB134_0.out;have hnc79:=NB0_134.out;obtain ⟨Z80_0,Z80_1,Z80_2,Z80_3,Z80_4,Y80_0,Y80_1,Y80_2,Y80_3,Y80_4⟩:=op5_ BK134.out;have hnb81:=NB129_0.out;have hnc81:=NB0_129.out;obtain ⟨Z82_0,Z82_1,Z82_2,Z82_3,Z82_4,Y82_0,Y82_1,Y82_2,Y82_3,Y82_4⟩:=op5_ BK129.out))
           refine bodyPost_ret (results_cell_row rfl _ _ gb129 42 #[.int .i64 x135000_12,.int .i64 x135001_12,.int .i64 x135002_12,.int .i64 t161,.string x135004_12] (0,0) _ rfl (by (with_reducible repeat (first|refine bN_ ?_ _|refine bD_ ?_|refine bA_ ?_ _));refine blk_put (cs:=#[.int .i64 x135000_12,.int .i64 x135001_12,.int .i64 x135002_12,.int .i64 t161,.string (⟨#[]⟩:ByteArray)]) ?_ 4 _ rfl;(with_reducible repeat (first|refine bN_ ?_ _|refine bD_ ?_|refine bA_ ?_ _));refine blk_put (cs:=#[.int .i64 x135000_12,.int .i64 x135001_12,.int .i64 x135002_12,.int .i64 0,.string (⟨#[]⟩:ByteArray)]) ?_ 3 _ rfl;(with_reducible repeat (first|refine bN_ ?_ _|refine bD_ ?_|refine bA_ ?_ _));refine blk_put (cs:=#[.int .i64 x135000_12,.int .i64 x135001_12,.int .i64 0,.int .i64 0,.string (⟨#[]⟩:ByteArray)]) ?_ 2 _ rfl;(with_reducible repeat (first|refine bN_ ?_ _|refine bD_ ?_|refine bA_ ?_ _));refine blk_put (cs:=#[.int .i64 x135000_12,.int .i64 0,.int .i64 0,.int .i64 0,.string (⟨#[]⟩:ByteArray)]) ?_ 1 _ rfl;(with_reducible repeat (first|refine bN_ ?_ _|refine bD_ ?_|refine bA_ ?_ _));refine blk_put (cs:=#[.int .i64 0,.int .i64 0,.int .i64 0,.int .i64 0,.string (⟨#[]⟩:ByteArray)]) ?_ 0 _ rfl;(with_reducible repeat (first|refine bN_ ?_ _|refine bD_ ?_|refine bA_ ?_ _));refine blk_far ?_ NB129_134.out _;(with_reducible repeat (first|refine bN_ ?_ _|refine bD_ ?_|refine bA_ ?_ _));exact BK129.out) Tryd.underlying42 rfl (by kernel_rfl)) rfl ?_
           exact ⟨fi_,is_HI0,bel_,kf_ HK.out⟩
          ·rw [if_neg c74] at H
           have c74b0:(t153==3)=false:=bn_ c74
           have c74b1:(t153 != 3)=true:=bne_iff_ne.mpr c74
           simp only [Option.some.injEq,Prod.mk.injEq] at H
           obtain ⟨rfl,rfl,rfl,rfl,rfl,rfl⟩:=H
           go_wp2_with (first|((with_reducible refine gC_ (f:=74) rfl ?_);refine gl_ 46 Tryd.func74 #[.pointer (some ⟨g,0,none⟩),.int .i64 30] ?_;(with_reducible refine (spec_l6Rd_pick.calls kj12 g s0_0 t152 30 t153 t154 w0 _ ?side1 ?side2 A46.out).mono ?_);(case side1=>exact is_HI0);(case side2=>exact bel_);rintro e w83 ⟨rfl,hi,hb,hk⟩;refine ⟨_,rfl,?_⟩;replace BK129:=a_ (kb_ hk BK129.out NB129_0.out);replace BK134:=a_ (kb_ hk BK134.out NB134_0.out);replace HK:=a_ (KeepBut.trans (kf_ HK.out) hk (.inl rfl));replace HB:=a_ (hb);replace HI0:=a_ (hi);(try clear hb hk hi);have hnb84:=NB134_129.out;have hnc84:=NB129_134.out;have hnb85:=NB134_0.out;have hnc85:=NB0_134.out;obtain ⟨Z86_0,Z86_1,Z86_2,Z86_3,Z86_4,Y86_0,Y86_1,Y86_2,Y86_3,Y86_4⟩:=op5_ BK134.out;have hnb87:=NB129_0.out;have hnc87:=NB0_129.out;obtain ⟨Z88_0,Z88_1,Z88_2,Z88_3,Z88_4,Y88_0,Y88_1,Y88_2,Y88_3,Y88_4⟩:=op5_ BK129.out))
           refine bodyPost_ret (results_cell_row rfl _ _ gb129 42 #[.int .i64 x135000_12,.int .i64 x135001_12,.int .i64 x135002_12,.int .i64 x135003_12,.string x135004_12] (0,0) _ rfl (by (with_reducible repeat (first|refine bN_ ?_ _|refine bD_ ?_|refine bA_ ?_ _));exact bk5_ (bp_ BK129.out)) Tryd.underlying42 rfl (by kernel_rfl)) rfl ?_
           exact ⟨fi_,is_HI0,bel_,kf_ HK.out⟩
    ·rw [if_neg c11] at H
     exact absurd H (by simp)
   ·rw [if_neg c10] at H
    exact absurd H (by simp)
  ·rw [if_neg c7] at H
   exact absurd H (by simp)
 ·rw [if_neg c6] at H
  exact absurd H (by simp)

def spec_TreeNew.f  : Option ((List (S69))):=some (([(⟨1,0,(⟨#[]⟩:ByteArray)⟩:S69),(⟨2,0,(⟨#[]⟩:ByteArray)⟩:S69),(⟨3,0,(⟨#[]⟩:ByteArray)⟩:S69)]:List (S69)))
theorem spec_TreeNew.calls  (r:List (S69)) (w:World) (h:spec_TreeNew.f  = some r) :
  Calls Tryd.prog 100 #[] w fun e w'=>∃ v0_:Value,e=.returned (v0_)∧Kd.R k69 69 w' w.heap.size (fun _=>True) v0_ r∧Below w.heap.size w w':=by
 have hu69:=Tryd.underlying69
 have HB:=a_ (Below.refl w.heap.size w)
 unfold spec_TreeNew.f at h
 have H:=h
 clear h
 obtain ⟨y163,hy163⟩:∃ y_:List (S69),y_=(([(⟨1,0,(⟨#[]⟩:ByteArray)⟩:S69),(⟨2,0,(⟨#[]⟩:ByteArray)⟩:S69),(⟨3,0,(⟨#[]⟩:ByteArray)⟩:S69)]:List (S69))):=⟨_,rfl⟩
 replace H:(some y163)=some r:=by first|(rw [hy163];with_reducible exact H)|(have H2_:=(Option.bind_some _ _).symm.trans H;rw [hy163];with_reducible exact H2_)|(have H2_:=(Option.bind_some _ _).symm.trans H;with_reducible exact H2_)|with_reducible exact H|(rw [hy163];exact H)|exact H
 have Ny163:=a_ hy163
 clear hy163
 obtain rfl:=sj_ H
 go_enter Tryd.func100,Tryd.ntmps100
 go_wp2_with (first|((with_reducible refine gD_ (N:=4) rfl ?_);refine Kd.R_lit k69 _ 69 ?hg (N:=4) ?hd (xs:=([(⟨1,0,(⟨#[]⟩:ByteArray)⟩:S69),(⟨2,0,(⟨#[]⟩:ByteArray)⟩:S69),(⟨3,0,(⟨#[]⟩:ByteArray)⟩:S69)]:List (S69))) (inner:=[.int .i64 1,.int .i64 0,.string (⟨#[]⟩:ByteArray),.int .i64 2,.int .i64 0,.string (⟨#[]⟩:ByteArray),.int .i64 3,.int .i64 0,.string (⟨#[]⟩:ByteArray)]) (ok:=fun _=>True) (okp:=fun _=>True) ?hr ?hp (fun _ hk=>hk) trivial (Below.refl _ _) (Nat.le_refl _) (by simp) ?_;(case hd=>rfl);(case hg=>rfl);(case hr=>first|(go_simp;done)|(go_simp;rfl));(case hp=>exact (Reps.c3 (show Kd.M k69 _ _ _ (⟨1,0,(⟨#[]⟩:ByteArray)⟩:S69) [.int .i64 1,.int .i64 0,.string (⟨#[]⟩:ByteArray)] from (k69_mkM _ _ _ (⟨1,0,(⟨#[]⟩:ByteArray)⟩:S69) )) (Reps.c3 (show Kd.M k69 _ _ _ (⟨2,0,(⟨#[]⟩:ByteArray)⟩:S69) [.int .i64 2,.int .i64 0,.string (⟨#[]⟩:ByteArray)] from (k69_mkM _ _ _ (⟨2,0,(⟨#[]⟩:ByteArray)⟩:S69) )) (Reps.c3 (show Kd.M k69 _ _ _ (⟨3,0,(⟨#[]⟩:ByteArray)⟩:S69) [.int .i64 3,.int .i64 0,.string (⟨#[]⟩:ByteArray)] from (k69_mkM _ _ _ (⟨3,0,(⟨#[]⟩:ByteArray)⟩:S69) )) (Reps.none _ _)))));intro v164 w1 ho2 hb hg_ hnew_;clear hg_ hnew_;(first|rw [←Ny163.out] at ho2|(simp only [Int.reduceToNat] at ho2;rw [←Ny163.out] at ho2));have HO165:=a_ (Kd.R_lower ho2 (below_size (bel_)));replace HB:=a_ (bS_ (bel_) hb);clear hb ho2))
 go_ret
 exact ⟨_,fi_,by (with_reducible repeat (first|apply Kd.R_alloc|apply Kd.R_drewN|apply Kd.R_drew));exact HO165.out,bel_⟩

def spec_l6In.f (a0:Int) (a1:Int) (a2:Int):Option (Bool):=if a0≥a1 then (some (decide (a0≤a2))) else (some false)
theorem spec_l6In.calls (a0:Int) (a1:Int) (a2:Int) (r:Bool) (w:World) (h:spec_l6In.f a0 a1 a2=some r) :
  Calls Tryd.prog 75 #[.int .i64 a0,.int .i64 a1,.int .i64 a2] w fun e w'=>e=.returned (.bool r)∧Drawn0 w w':=by
 unfold spec_l6In.f at h
 have H:=h
 clear h
 by_cases c4:a0≥a1
 ·rw [if_pos c4] at H
  have c4b0:decide (a1≤a0)=true:=dt_ c4
  clear c4
  obtain rfl:=sj_ H
  go_enter Tryd.func75,Tryd.ntmps75
  go_wp2
  go_ret
  exact ⟨si_,by repeat (first|exact Drawn0.refl _|apply Drawn0.step)⟩
 ·rw [if_neg c4] at H
  have c4b0:decide (a1≤a0)=false:=df_ c4
  clear c4
  obtain rfl:=sj_ H
  go_enter Tryd.func75,Tryd.ntmps75
  go_wp2
  go_ret
  exact ⟨si_,by repeat (first|exact Drawn0.refl _|apply Drawn0.step)⟩

def spec_l1Made.f (a0:Int):Option (Bool):=(spec_l6In.f (wrap64 (Int.tdiv a0 10)) 1 3).bind fun t166=>(if t166=true then ((spec_l6In.f (Int.tmod a0 10) 1 6).bind fun t167=>(some t167)) else (some false))
theorem spec_l1Made.calls (a0:Int) (r:Bool) (w:World) (h:spec_l1Made.f a0=some r) :
  Calls Tryd.prog 120 #[.int .i64 a0] w fun e w'=>e=.returned (.bool r)∧Drawn0 w w':=by
 unfold spec_l1Made.f at h
 have H:=h
 clear h
 replace H:=bs_ H
 obtain ⟨t166,A20,H⟩:=H
 try dsimp only at H
 have A2:=a_ A20
 clear A20
 by_cases c3:t166=true
 ·subst c3
  have H1:((spec_l6In.f (Int.tmod a0 10) 1 6).bind fun t167=>(some t167))=some r:=by rw [if_pos rfl] at H;exact H
  clear H
  have H:=H1
  clear H1
  replace H:=bs_ H
  obtain ⟨t167,A40,H⟩:=H
  try dsimp only at H
  have A4:=a_ A40
  clear A40
  obtain rfl:=sj_ H
  go_enter Tryd.func120,Tryd.ntmps120
  go_wp2_with (first|((with_reducible refine gC_ (f:=75) rfl ?_);refine gl_ 5 Tryd.func75 #[.int .i64 (wrap64 (Int.tdiv a0 10)),.int .i64 1,.int .i64 3] ?_;(with_reducible refine (spec_l6In.calls (wrap64 (Int.tdiv a0 10)) 1 3 true _ A2.out).mono ?_);rintro e w' ⟨rfl,⟨nd,rfl⟩⟩;refine ⟨_,rfl,?_⟩)|(go_at_call 75;(with_reducible refine (spec_l6In.calls (Int.tmod a0 10) 1 6 t167 _ A4.out).mono ?_);rintro e w' ⟨rfl,⟨nd,rfl⟩⟩))
  go_ret
  exact ⟨si_,by repeat (first|exact Drawn0.refl _|apply Drawn0.step)⟩
 ·replace c3:=Bool.eq_false_iff.mpr c3
  subst c3
  have H1:(some false)=some r:=by rw [if_neg (show ¬ (false=true) by decide)] at H;exact H
  clear H
  have H:=H1
  clear H1
  obtain rfl:=sj_ H
  go_enter Tryd.func120,Tryd.ntmps120
  go_wp2_with (first|((with_reducible refine gC_ (f:=75) rfl ?_);refine gl_ 5 Tryd.func75 #[.int .i64 (wrap64 (Int.tdiv a0 10)),.int .i64 1,.int .i64 3] ?_;(with_reducible refine (spec_l6In.calls (wrap64 (Int.tdiv a0 10)) 1 3 false _ A2.out).mono ?_);rintro e w' ⟨rfl,⟨nd,rfl⟩⟩;refine ⟨_,rfl,?_⟩))
  go_ret
  exact ⟨si_,by repeat (first|exact Drawn0.refl _|apply Drawn0.step)⟩

def spec_l1Text.l0:Nat→ByteArray→Int→Option (Bool)
 | 0,_,_=>none
 | k+1,x0,x3=>if x3 < (x0.size:Int) then (if 0≤x3 then ((spec_l6In.f (wrap64 (bt x0 x3)) 97 100).bind fun t168=>(if t168=true then (spec_l1Text.l0 k x0 (wrap64 (x3+1))) else (some false))) else (none)) else (some (decide ((x0.size:Int)≤4)))
def spec_l1Text.f (k:Nat) (a0:ByteArray):Option (Bool):=spec_l1Text.l0 k a0 0
theorem spec_l1Text.mono_l:∀ k,(∀ y0 y1,LeO (spec_l1Text.l0 k y0 y1) (spec_l1Text.l0 (k+1) y0 y1))
 | 0=>fun _ _ r h=>by simp [spec_l1Text.l0] at h
 | k+1=>by
  have ih0:=spec_l1Text.mono_l k
  ·intro y0 y1
   unfold spec_l1Text.l0
   repeat' first
   | (with_reducible exact ih0 _ _)
   | (with_reducible exact LeO.refl _)
   | (with_reducible exact LeO.none _)
   | (with_reducible refine LeO.ite ?_ ?_)
   | (with_reducible refine LeO.bind ?_ (fun _=>?_))
theorem spec_l1Text.mono:∀ a0 k,LeO (spec_l1Text.f k a0) (spec_l1Text.f (k+1) a0):=by
 intro a0 k
 have ih0:=spec_l1Text.mono_l k
 unfold spec_l1Text.f
 repeat' first
   | (with_reducible exact ih0 _ _)
   | (with_reducible exact LeO.refl _)
   | (with_reducible exact LeO.none _)
   | (with_reducible refine LeO.ite ?_ ?_)
   | (with_reducible refine LeO.bind ?_ (fun _=>?_))
theorem spec_l1Text.calls (k:Nat) (a0:ByteArray) (r:Bool) (w:World) (h:spec_l1Text.f k a0=some r) :
  Calls Tryd.prog 121 #[.string a0] w fun e w'=>e=.returned (.bool r)∧Drawn0 w w':=by
 unfold spec_l1Text.f at h
 have H:=h
 clear h
 have H':=a_ H
 clear H
 go_enter Tryd.func121,Tryd.ntmps121
 go_wp2
 go_loopg [3] k (fun kq v3 w'=>∃ (x3_1:Int),v3=.int .i64 x3_1∧Aside0 (spec_l1Text.l0 kq a0 x3_1=some r)∧Aside0 (kq≤k)∧Drawn0 w w')
 case atStart=>exact ⟨(0),(si_),H',⟨Nat.le_refl _⟩,by repeat (first|exact Drawn0.refl _|apply Drawn0.step)⟩
 case round =>
  clear H'
  try clear c1
  obtain ⟨x3_1,rfl,HA,HK1,⟨m1,rfl⟩⟩:=hrel
  cases gk with
  | zero=>exact absurd HA.out (by simp [spec_l1Text.l0])
  | succ k1 =>
   have H:=HA.out
   clear HA
   simp only [spec_l1Text.l0] at H
   by_cases c2:x3_1 < (a0.size:Int)
   ·rw [if_pos c2] at H
    have c2b0:decide (x3_1 < (a0.size:Int))=true:=dt_ c2
    clear c2
    by_cases c3:0≤x3_1
    ·rw [if_pos c3] at H
     have c3b0:decide (0≤x3_1)=true:=dt_ c3
     clear c3
     replace H:=bs_ H
     obtain ⟨t168,A50,H⟩:=H
     try dsimp only at H
     have A5:=a_ A50
     clear A50
     by_cases c6:t168=true
     ·subst c6
      have H1:(spec_l1Text.l0 k1 a0 (wrap64 (x3_1+1)))=some r:=by rw [if_pos rfl] at H;exact H
      clear H
      have H:=H1
      clear H1
      have H':=a_ H
      clear H
      have p4:0≤(x3_1:Int):=od_
      have q4:x3_1 < (a0.size:Int):=od_
      have hx4:=bt_at a0 x3_1
      replace p4:=eq_true p4
      replace q4:=eq_true q4
      go_wp2_with (first|((with_reducible refine gC_ (f:=75) rfl ?_);refine gl_ 14 Tryd.func75 #[.int .i64 (wrap64 (bt a0 x3_1)),.int .i64 97,.int .i64 100] ?_;(with_reducible refine (spec_l6In.calls (wrap64 (bt a0 x3_1)) 97 100 true _ A5.out).mono ?_);rintro e w' ⟨rfl,⟨nd,rfl⟩⟩;refine ⟨_,rfl,?_⟩))
      go_roundg k1
      case measure=>have:=HK1.out;omega
      case rel=>exact ⟨(wrap64 (x3_1+1)),(si_),H',⟨by have:=HK1.out;omega⟩,by repeat (first|exact Drawn0.refl _|apply Drawn0.step)⟩
     ·replace c6:=Bool.eq_false_iff.mpr c6
      subst c6
      have H1:(some false)=some r:=by rw [if_neg (show ¬ (false=true) by decide)] at H;exact H
      clear H
      have H:=H1
      clear H1
      obtain rfl:=sj_ H
      have p4:0≤(x3_1:Int):=od_
      have q4:x3_1 < (a0.size:Int):=od_
      have hx4:=bt_at a0 x3_1
      replace p4:=eq_true p4
      replace q4:=eq_true q4
      go_wp2_with (first|((with_reducible refine gC_ (f:=75) rfl ?_);refine gl_ 14 Tryd.func75 #[.int .i64 (wrap64 (bt a0 x3_1)),.int .i64 97,.int .i64 100] ?_;(with_reducible refine (spec_l6In.calls (wrap64 (bt a0 x3_1)) 97 100 false _ A5.out).mono ?_);rintro e w' ⟨rfl,⟨nd,rfl⟩⟩;refine ⟨_,rfl,?_⟩))
      go_ret
      exact ⟨si_,by repeat (first|exact Drawn0.refl _|apply Drawn0.step)⟩
    ·rw [if_neg c3] at H
     exact absurd H (by simp)
   ·rw [if_neg c2] at H
    have c2b0:decide (x3_1 < (a0.size:Int))=false:=df_ c2
    clear c2
    obtain rfl:=sj_ H
    go_wp2
    go_ret
    exact ⟨si_,by repeat (first|exact Drawn0.refl _|apply Drawn0.step)⟩

def spec_RowMade.f (a0:Int) (a1:Int):Option (Int):=(spec_l6In.f a0 1 3).bind fun t169=>(if t169=true then ((spec_l6In.f a1 1 6).bind fun t170=>(if t170=true then (some (wrap64 ((wrap64 (10 * a0))+a1))) else (some 0))) else (some 0))
theorem spec_RowMade.calls (a0:Int) (a1:Int) (r:Int) (w:World) (h:spec_RowMade.f a0 a1=some r) :
  Calls Tryd.prog 143 #[.int .i64 a0,.int .i64 a1] w fun e w'=>e=.returned (.int .i64 r)∧Drawn0 w w':=by
 unfold spec_RowMade.f at h
 have H:=h
 clear h
 replace H:=bs_ H
 obtain ⟨t169,A30,H⟩:=H
 try dsimp only at H
 have A3:=a_ A30
 clear A30
 by_cases c4:t169=true
 ·subst c4
  have H1:((spec_l6In.f a1 1 6).bind fun t170=>(if t170=true then (some (wrap64 ((wrap64 (10 * a0))+a1))) else (some 0)))=some r:=by rw [if_pos rfl] at H;exact H
  clear H
  have H:=H1
  clear H1
  replace H:=bs_ H
  obtain ⟨t170,A50,H⟩:=H
  try dsimp only at H
  have A5:=a_ A50
  clear A50
  by_cases c6:t170=true
  ·subst c6
   have H1:(some (wrap64 ((wrap64 (10 * a0))+a1)))=some r:=by rw [if_pos rfl] at H;exact H
   clear H
   have H:=H1
   clear H1
   obtain rfl:=sj_ H
   go_enter Tryd.func143,Tryd.ntmps143
   go_wp2_with (first|((with_reducible refine gC_ (f:=75) rfl ?_);refine gl_ 6 Tryd.func75 #[.int .i64 a0,.int .i64 1,.int .i64 3] ?_;(with_reducible refine (spec_l6In.calls a0 1 3 true _ A3.out).mono ?_);rintro e w' ⟨rfl,⟨nd,rfl⟩⟩;refine ⟨_,rfl,?_⟩)|(go_at_call 75;(with_reducible refine (spec_l6In.calls a1 1 6 true _ A5.out).mono ?_);rintro e w' ⟨rfl,⟨nd,rfl⟩⟩))
   go_ret
   exact ⟨si_,by repeat (first|exact Drawn0.refl _|apply Drawn0.step)⟩
  ·replace c6:=Bool.eq_false_iff.mpr c6
   subst c6
   have H1:(some 0)=some r:=by rw [if_neg (show ¬ (false=true) by decide)] at H;exact H
   clear H
   have H:=H1
   clear H1
   obtain rfl:=sj_ H
   go_enter Tryd.func143,Tryd.ntmps143
   go_wp2_with (first|((with_reducible refine gC_ (f:=75) rfl ?_);refine gl_ 6 Tryd.func75 #[.int .i64 a0,.int .i64 1,.int .i64 3] ?_;(with_reducible refine (spec_l6In.calls a0 1 3 true _ A3.out).mono ?_);rintro e w' ⟨rfl,⟨nd,rfl⟩⟩;refine ⟨_,rfl,?_⟩)|(go_at_call 75;(with_reducible refine (spec_l6In.calls a1 1 6 false _ A5.out).mono ?_);rintro e w' ⟨rfl,⟨nd,rfl⟩⟩))
   go_ret
   exact ⟨si_,by repeat (first|exact Drawn0.refl _|apply Drawn0.step)⟩
 ·replace c4:=Bool.eq_false_iff.mpr c4
  subst c4
  have H1:(some 0)=some r:=by rw [if_neg (show ¬ (false=true) by decide)] at H;exact H
  clear H
  have H:=H1
  clear H1
  obtain rfl:=sj_ H
  go_enter Tryd.func143,Tryd.ntmps143
  go_wp2_with (first|((with_reducible refine gC_ (f:=75) rfl ?_);refine gl_ 6 Tryd.func75 #[.int .i64 a0,.int .i64 1,.int .i64 3] ?_;(with_reducible refine (spec_l6In.calls a0 1 3 false _ A3.out).mono ?_);rintro e w' ⟨rfl,⟨nd,rfl⟩⟩;refine ⟨_,rfl,?_⟩))
  go_ret
  exact ⟨si_,by repeat (first|exact Drawn0.refl _|apply Drawn0.step)⟩

def spec_l2At.l0:Nat→List (S69)→Int→Int→Option (Int)
 | 0,_,_,_=>none
 | k+1,x0,x1,x5=>if x5 < (x0.length:Int) then (if 0≤x5 then (if ((rd_T69 x0 x5).f0)=x1 then (some x5) else (spec_l2At.l0 k x0 x1 (wrap64 (x5+1)))) else (none)) else (some (-1))
def spec_l2At.f (k:Nat) (l0:List (S69)) (a1:Int):Option (Int):=spec_l2At.l0 k l0 a1 0
theorem spec_l2At.mono_l:∀ k,(∀ y0 y1 y2,LeO (spec_l2At.l0 k y0 y1 y2) (spec_l2At.l0 (k+1) y0 y1 y2))
 | 0=>fun _ _ _ r h=>by simp [spec_l2At.l0] at h
 | k+1=>by
  have ih0:=spec_l2At.mono_l k
  ·intro y0 y1 y2
   unfold spec_l2At.l0
   repeat' first
   | (with_reducible exact ih0 _ _ _)
   | (with_reducible exact LeO.refl _)
   | (with_reducible exact LeO.none _)
   | (with_reducible refine LeO.ite ?_ ?_)
   | (with_reducible refine LeO.bind ?_ (fun _=>?_))
theorem spec_l2At.mono:∀ a0 a1 k,LeO (spec_l2At.f k a0 a1) (spec_l2At.f (k+1) a0 a1):=by
 intro a0 a1 k
 have ih0:=spec_l2At.mono_l k
 unfold spec_l2At.f
 repeat' first
   | (with_reducible exact ih0 _ _ _)
   | (with_reducible exact LeO.refl _)
   | (with_reducible exact LeO.none _)
   | (with_reducible refine LeO.ite ?_ ?_)
   | (with_reducible refine LeO.bind ?_ (fun _=>?_))
theorem spec_l2At.calls (k:Nat) (A0:Option Addr) (c0:Nat) (l0:List (S69)) (a1:Int) (r:Int) (w:World) (hr0:Kd.C k69 w A0 l0.length l0) (hc0:l0.length≤c0) (h:spec_l2At.f k l0 a1=some r) :
  Calls Tryd.prog 145 #[.slice A0 l0.length c0,.int .i64 a1] w fun e w'=>e=.returned (.int .i64 r)∧Drawn0 w w':=by
 have HR0:=a_ hr0
 have HC0:=a_ hc0
 clear hr0 hc0
 unfold spec_l2At.f at h
 have H:=h
 clear h
 have H':=a_ H
 clear H
 go_enter Tryd.func145,Tryd.ntmps145
 go_wp2
 go_loopg [5] k (fun kq v5 w'=>∃ (x5_1:Int),v5=.int .i64 x5_1∧Aside0 (spec_l2At.l0 kq l0 a1 x5_1=some r)∧Aside0 (kq≤k)∧Drawn0 w w')
 case atStart=>exact ⟨(0),(si_),H',⟨Nat.le_refl _⟩,by repeat (first|exact Drawn0.refl _|apply Drawn0.step)⟩
 case round =>
  clear H'
  try clear c1
  try clear p2
  obtain ⟨x5_1,rfl,HA,HK1,⟨m1,rfl⟩⟩:=hrel
  cases gk with
  | zero=>exact absurd HA.out (by simp [spec_l2At.l0])
  | succ k1 =>
   have H:=HA.out
   clear HA
   simp only [spec_l2At.l0] at H
   by_cases c3:x5_1 < (l0.length:Int)
   ·rw [if_pos c3] at H
    have c3b0:decide (x5_1 < (l0.length:Int))=true:=dt_ c3
    clear c3
    by_cases c4:0≤x5_1
    ·rw [if_pos c4] at H
     have c4b0:decide (0≤x5_1)=true:=dt_ c4
     clear c4
     by_cases c5:((rd_T69 l0 x5_1).f0)=a1
     ·rw [if_pos c5] at H
      have c5b0:(((rd_T69 l0 x5_1).f0)==a1)=true:=beq_iff_eq.mpr c5
      have c5b1:(((rd_T69 l0 x5_1).f0) != a1)=false:=be_ c5
      clear c5
      obtain rfl:=sj_ H
      have p171:0≤(x5_1:Int):=od_
      have q171:x5_1 < (l0.length:Int):=od_
      obtain ⟨ad171,e171,hx171_0,hx171_1,hx171_2⟩:=at_T69 HR0.out x5_1 p171 q171
      cases e171
      replace p171:=eq_true p171
      replace q171:=eq_true q171
      go_wp2
      go_ret
      exact ⟨si_,by repeat (first|exact Drawn0.refl _|apply Drawn0.step)⟩
     ·rw [if_neg c5] at H
      have c5b0:(((rd_T69 l0 x5_1).f0)==a1)=false:=bn_ c5
      have c5b1:(((rd_T69 l0 x5_1).f0) != a1)=true:=bne_iff_ne.mpr c5
      have H':=a_ H
      clear H
      have p171:0≤(x5_1:Int):=od_
      have q171:x5_1 < (l0.length:Int):=od_
      obtain ⟨ad171,e171,hx171_0,hx171_1,hx171_2⟩:=at_T69 HR0.out x5_1 p171 q171
      cases e171
      replace p171:=eq_true p171
      replace q171:=eq_true q171
      go_wp2
      go_roundg k1
      case measure=>have:=HK1.out;omega
      case rel=>exact ⟨(wrap64 (x5_1+1)),(si_),H',⟨by have:=HK1.out;omega⟩,by repeat (first|exact Drawn0.refl _|apply Drawn0.step)⟩
    ·rw [if_neg c4] at H
     exact absurd H (by simp)
   ·rw [if_neg c3] at H
    have c3b0:decide (x5_1 < (l0.length:Int))=false:=df_ c3
    clear c3
    obtain rfl:=sj_ H
    go_wp2
    go_ret
    exact ⟨si_,by repeat (first|exact Drawn0.refl _|apply Drawn0.step)⟩

def spec_l2End.l0:Nat→List (S69)→Int→Int→Option (Int)
 | 0,_,_,_=>none
 | k+1,x0,x1,x5=>if x5 < (x0.length:Int) then (if 0≤x5 then (if 0≤x1 then (if x1 < (x0.length:Int) then (if ((rd_T69 x0 x5).f1) > ((rd_T69 x0 x1).f1) then (spec_l2End.l0 k x0 x1 (wrap64 (x5+1))) else (some x5)) else (none)) else (none)) else (none)) else (some x5)
def spec_l2End.f (k:Nat) (l0:List (S69)) (a1:Int):Option (Int):=spec_l2End.l0 k l0 a1 (wrap64 (a1+1))
theorem spec_l2End.mono_l:∀ k,(∀ y0 y1 y2,LeO (spec_l2End.l0 k y0 y1 y2) (spec_l2End.l0 (k+1) y0 y1 y2))
 | 0=>fun _ _ _ r h=>by simp [spec_l2End.l0] at h
 | k+1=>by
  have ih0:=spec_l2End.mono_l k
  ·intro y0 y1 y2
   unfold spec_l2End.l0
   repeat' first
   | (with_reducible exact ih0 _ _ _)
   | (with_reducible exact LeO.refl _)
   | (with_reducible exact LeO.none _)
   | (with_reducible refine LeO.ite ?_ ?_)
   | (with_reducible refine LeO.bind ?_ (fun _=>?_))
theorem spec_l2End.mono:∀ a0 a1 k,LeO (spec_l2End.f k a0 a1) (spec_l2End.f (k+1) a0 a1):=by
 intro a0 a1 k
 have ih0:=spec_l2End.mono_l k
 unfold spec_l2End.f
 repeat' first
   | (with_reducible exact ih0 _ _ _)
   | (with_reducible exact LeO.refl _)
   | (with_reducible exact LeO.none _)
   | (with_reducible refine LeO.ite ?_ ?_)
   | (with_reducible refine LeO.bind ?_ (fun _=>?_))
theorem spec_l2End.calls (k:Nat) (A0:Option Addr) (c0:Nat) (l0:List (S69)) (a1:Int) (r:Int) (w:World) (hr0:Kd.C k69 w A0 l0.length l0) (hc0:l0.length≤c0) (h:spec_l2End.f k l0 a1=some r) :
  Calls Tryd.prog 148 #[.slice A0 l0.length c0,.int .i64 a1] w fun e w'=>e=.returned (.int .i64 r)∧Drawn0 w w':=by
 have HR0:=a_ hr0
 have HC0:=a_ hc0
 clear hr0 hc0
 unfold spec_l2End.f at h
 have H:=h
 clear h
 have H':=a_ H
 clear H
 go_enter Tryd.func148,Tryd.ntmps148
 go_wp2
 repeat (go_quiet (fail);try go_wp2)
 go_loopg [5] k (fun kq v5 w'=>∃ (x5_1:Int),v5=.int .i64 x5_1∧Aside0 (spec_l2End.l0 kq l0 a1 x5_1=some r)∧Aside0 (kq≤k)∧Drawn0 w w')
 case atStart=>exact ⟨(wrap64 (a1+1)),(si_),H',⟨Nat.le_refl _⟩,by repeat (first|exact Drawn0.refl _|apply Drawn0.step)⟩
 case round =>
  clear H'
  try clear c1
  try clear p2
  obtain ⟨x5_1,rfl,HA,HK1,⟨m1,rfl⟩⟩:=hrel
  cases gk with
  | zero=>exact absurd HA.out (by simp [spec_l2End.l0])
  | succ k1 =>
   have H:=HA.out
   clear HA
   simp only [spec_l2End.l0] at H
   by_cases c3:x5_1 < (l0.length:Int)
   ·rw [if_pos c3] at H
    have c3b0:decide (x5_1 < (l0.length:Int))=true:=dt_ c3
    clear c3
    by_cases c4:0≤x5_1
    ·rw [if_pos c4] at H
     have c4b0:decide (0≤x5_1)=true:=dt_ c4
     clear c4
     by_cases c5:0≤a1
     ·rw [if_pos c5] at H
      have c5b0:decide (0≤a1)=true:=dt_ c5
      clear c5
      by_cases c6:a1 < (l0.length:Int)
      ·rw [if_pos c6] at H
       have c6b0:decide (a1 < (l0.length:Int))=true:=dt_ c6
       clear c6
       by_cases c7:((rd_T69 l0 x5_1).f1) > ((rd_T69 l0 a1).f1)
       ·rw [if_pos c7] at H
        have c7b0:decide (((rd_T69 l0 a1).f1) < ((rd_T69 l0 x5_1).f1))=true:=dt_ c7
        clear c7
        have H':=a_ H
        clear H
        have p172:0≤(x5_1:Int):=od_
        have q172:x5_1 < (l0.length:Int):=od_
        obtain ⟨ad172,e172,hx172_0,hx172_1,hx172_2⟩:=at_T69 HR0.out x5_1 p172 q172
        cases e172
        replace p172:=eq_true p172
        replace q172:=eq_true q172
        have p173:0≤(a1:Int):=od_
        have q173:a1 < (l0.length:Int):=od_
        obtain ⟨ad173,e173,hx173_0,hx173_1,hx173_2⟩:=at_T69 HR0.out a1 p173 q173
        obtain rfl:ad172=ad173:=(by injection e173)
        replace p173:=eq_true p173
        replace q173:=eq_true q173
        go_wp2
        repeat (go_quiet (fail);try go_wp2)
        go_roundg k1
        case measure=>have:=HK1.out;omega
        case rel=>exact ⟨(wrap64 (x5_1+1)),(si_),H',⟨by have:=HK1.out;omega⟩,by repeat (first|exact Drawn0.refl _|apply Drawn0.step)⟩
       ·rw [if_neg c7] at H
        have c7b0:decide (((rd_T69 l0 a1).f1) < ((rd_T69 l0 x5_1).f1))=false:=df_ c7
        clear c7
        obtain rfl:=sj_ H
        have p172:0≤(x5_1:Int):=od_
        have q172:x5_1 < (l0.length:Int):=od_
        obtain ⟨ad172,e172,hx172_0,hx172_1,hx172_2⟩:=at_T69 HR0.out x5_1 p172 q172
        cases e172
        replace p172:=eq_true p172
        replace q172:=eq_true q172
        have p173:0≤(a1:Int):=od_
        have q173:a1 < (l0.length:Int):=od_
        obtain ⟨ad173,e173,hx173_0,hx173_1,hx173_2⟩:=at_T69 HR0.out a1 p173 q173
        obtain rfl:ad172=ad173:=(by injection e173)
        replace p173:=eq_true p173
        replace q173:=eq_true q173
        go_wp2
        repeat (go_quiet (fail);try go_wp2)
        go_ret
        exact ⟨si_,by repeat (first|exact Drawn0.refl _|apply Drawn0.step)⟩
      ·rw [if_neg c6] at H
       exact absurd H (by simp)
     ·rw [if_neg c5] at H
      exact absurd H (by simp)
    ·rw [if_neg c4] at H
     exact absurd H (by simp)
   ·rw [if_neg c3] at H
    have c3b0:decide (x5_1 < (l0.length:Int))=false:=df_ c3
    clear c3
    obtain rfl:=sj_ H
    go_wp2
    repeat (go_quiet (fail);try go_wp2)
    go_ret
    exact ⟨si_,by repeat (first|exact Drawn0.refl _|apply Drawn0.step)⟩

def spec_l2Kids.l0:Nat→List (S69)→List Int→Int→Int→Option (List Int)
 | 0,_,_,_,_=>none
 | k+1,x0,x5,x6,x7=>(spec_l2End.f k x0 x6).bind fun t178=>(if x7 < t178 then (if 0≤x7 then (if x7 < (x0.length:Int) then (if 0≤x6 then (if x6 < (x0.length:Int) then (if ((rd_T69 x0 x7).f1)=(wrap64 (((rd_T69 x0 x6).f1)+1)) then (if x5.length < 17592186044416 then (spec_l2Kids.l0 k x0 (x5++[(rd_T69 x0 x7).f0]) x6 (wrap64 (x7+1))) else (none)) else (spec_l2Kids.l0 k x0 x5 x6 (wrap64 (x7+1)))) else (none)) else (none)) else (none)) else (none)) else (some x5))
def spec_l2Kids.f (k:Nat) (l0:List (S69)) (a1:Int):Option (List Int):=(some (([]:List Int):List Int)).bind fun y174=>((spec_l2At.f k l0 a1).bind fun t177=>(if t177 < 0 then (some y174) else (spec_l2Kids.l0 k l0 y174 t177 (wrap64 (t177+1)))))
theorem spec_l2Kids.mono_l:∀ k,(∀ y0 y1 y2 y3,LeO (spec_l2Kids.l0 k y0 y1 y2 y3) (spec_l2Kids.l0 (k+1) y0 y1 y2 y3))
 | 0=>fun _ _ _ _ r h=>by simp [spec_l2Kids.l0] at h
 | k+1=>by
  have ih0:=spec_l2Kids.mono_l k
  ·intro y0 y1 y2 y3
   unfold spec_l2Kids.l0
   repeat' first
   | (with_reducible exact ih0 _ _ _ _)
   | (with_reducible exact spec_l2At.mono _ _ _)
   | (with_reducible exact spec_l2End.mono _ _ _)
   | (with_reducible exact LeO.refl _)
   | (with_reducible exact LeO.none _)
   | (with_reducible refine LeO.ite ?_ ?_)
   | (with_reducible refine LeO.bind ?_ (fun _=>?_))
theorem spec_l2Kids.mono:∀ a0 a1 k,LeO (spec_l2Kids.f k a0 a1) (spec_l2Kids.f (k+1) a0 a1):=by
 intro a0 a1 k
 have ih0:=spec_l2Kids.mono_l k
 unfold spec_l2Kids.f
 repeat' first
   | (with_reducible exact ih0 _ _ _ _)
   | (with_reducible exact spec_l2At.mono _ _ _)
   | (with_reducible exact spec_l2End.mono _ _ _)
   | (with_reducible exact LeO.refl _)
   | (with_reducible exact LeO.none _)
   | (with_reducible refine LeO.ite ?_ ?_)
   | (with_reducible refine LeO.bind ?_ (fun _=>?_))
theorem spec_l2Kids.calls (k:Nat) (A0:Option Addr) (c0:Nat) (l0:List (S69)) (a1:Int) (r:List Int) (w:World) (hr0:Kd.C k69 w A0 l0.length l0) (hc0:l0.length≤c0) (h:spec_l2Kids.f k l0 a1=some r) :
  Calls Tryd.prog 144 #[.slice A0 l0.length c0,.int .i64 a1] w fun e w'=>∃ v0_:Value,e=.returned (v0_)∧Kd.R (Kd.int .i64) 3 w' w.heap.size (fun _=>True) v0_ r∧Below w.heap.size w w':=by
 have HR0:=a_ hr0
 have HC0:=a_ hc0
 clear hr0 hc0
 have HB:=a_ (Below.refl w.heap.size w)
 unfold spec_l2Kids.f at h
 have H:=h
 clear h
 obtain ⟨y174,hy174⟩:∃ y_:List Int,y_=(([]:List Int)):=⟨_,rfl⟩
 replace H:((spec_l2At.f k l0 a1).bind fun t177=>(if t177 < 0 then (some y174) else (spec_l2Kids.l0 k l0 y174 t177 (wrap64 (t177+1)))))=some r:=by first|(rw [hy174];with_reducible exact H)|(have H2_:=(Option.bind_some _ _).symm.trans H;rw [hy174];with_reducible exact H2_)|(have H2_:=(Option.bind_some _ _).symm.trans H;with_reducible exact H2_)|with_reducible exact H|(rw [hy174];exact H)|exact H
 have Ny174:=a_ hy174
 clear hy174
 replace H:=bs_ H
 obtain ⟨t177,A30,H⟩:=H
 try dsimp only at H
 have A3:=a_ A30
 clear A30
 by_cases c4:t177 < 0
 ·rw [if_pos c4] at H
  have c4b0:decide (t177 < 0)=true:=dt_ c4
  clear c4
  obtain rfl:=sj_ H
  go_enter Tryd.func144,Tryd.ntmps144
  go_wp2_with (first|((with_reducible refine gD_ (N:=8) rfl ?_);refine Kd.R_lit (Kd.int .i64) _ 3 ?hg (N:=8) ?hd (xs:=([]:List Int)) (inner:=[]) (ok:=fun _=>True) (okp:=fun _=>True) ?hr ?hp (fun _ hk=>hk) trivial (Below.refl _ _) (Nat.le_refl _) (by simp) ?_;(case hd=>rfl);(case hg=>rfl);(case hr=>first|(go_simp;done)|(go_simp;rfl));(case hp=>exact (Reps.none _ _));intro v175 w5 ho6 hb hg_ hnew_;clear hg_ hnew_;(first|rw [←Ny174.out] at ho6|(simp only [Int.reduceToNat] at ho6;rw [←Ny174.out] at ho6));have HO176:=a_ (Kd.R_lower ho6 (below_size (bel_)));replace HB:=a_ (bS_ (bel_) hb);clear hb ho6)|(go_at_call 145;(with_reducible refine (spec_l2At.calls k _ _ l0 a1 t177 _ ?side1 ?side2 A3.out).mono ?_);(case side1=>exact cp_ HR0.out);(case side2=>exact HC0.out);rintro e w' ⟨rfl,⟨nd,rfl⟩⟩;(try first|exact ⟨rfl,_,World.drewN_drewN _ _ _⟩|exact ⟨rfl,_,Eq.trans (World.drewN_drewN _ _ _) (congrArg (World.drewN _) (Nat.add_assoc _ _ _))⟩)))
  go_ret
  exact ⟨_,fi_,by (with_reducible repeat (first|apply Kd.R_alloc|apply Kd.R_drewN|apply Kd.R_drew));exact HO176.out,bel_⟩
 ·rw [if_neg c4] at H
  have c4b0:decide (t177 < 0)=false:=df_ c4
  clear c4
  have H':=a_ H
  clear H
  go_enter Tryd.func144,Tryd.ntmps144
  go_wp2_with (first|((with_reducible refine gD_ (N:=8) rfl ?_);refine Kd.R_lit (Kd.int .i64) _ 3 ?hg (N:=8) ?hd (xs:=([]:List Int)) (inner:=[]) (ok:=fun _=>True) (okp:=fun _=>True) ?hr ?hp (fun _ hk=>hk) trivial (Below.refl _ _) (Nat.le_refl _) (by simp) ?_;(case hd=>rfl);(case hg=>rfl);(case hr=>first|(go_simp;done)|(go_simp;rfl));(case hp=>exact (Reps.none _ _));intro v175 w7 ho8 hb hg_ hnew_;clear hg_ hnew_;(first|rw [←Ny174.out] at ho8|(simp only [Int.reduceToNat] at ho8;rw [←Ny174.out] at ho8));have HO176:=a_ (Kd.R_lower ho8 (below_size (bel_)));replace HB:=a_ (bS_ (bel_) hb);clear hb ho8)|(go_at_call 145;(with_reducible refine (spec_l2At.calls k _ _ l0 a1 t177 _ ?side1 ?side2 A3.out).mono ?_);(case side1=>exact cp_ HR0.out);(case side2=>exact HC0.out);rintro e w' ⟨rfl,⟨nd,rfl⟩⟩;(try first|exact ⟨rfl,_,World.drewN_drewN _ _ _⟩|exact ⟨rfl,_,Eq.trans (World.drewN_drewN _ _ _) (congrArg (World.drewN _) (Nat.add_assoc _ _ _))⟩)))
  go_loopg [5,7] k (fun kq v5 v7 w'=>∃ (x5_1:List Int) (x7_1:Int),v7=.int .i64 x7_1∧Aside0 (spec_l2Kids.l0 kq l0 x5_1 t177 x7_1=some r)∧Aside0 (kq≤k)∧Aside0 (Kd.R (Kd.int .i64) 3 w' w.heap.size (fun _=>True) v5 x5_1)∧Aside0 (Below w.heap.size w w'))
  case atStart=>exact ⟨(y174),(wrap64 (t177+1)),(si_),H',⟨Nat.le_refl _⟩,⟨by (with_reducible repeat (first|apply Kd.R_alloc|apply Kd.R_drewN|apply Kd.R_drew));exact HO176.out⟩,⟨bel_⟩⟩
  case round =>
   clear H'
   try clear c1
   try clear p2
   try clear c4
   try clear c4b0
   try clear p6
   obtain ⟨x5_1,x7_1,rfl,HA,HK1,HO_5,HB⟩:=hrel
   cases gk with
   | zero=>exact absurd HA.out (by simp [spec_l2Kids.l0])
   | succ k1 =>
    have H:=HA.out
    clear HA
    simp only [spec_l2Kids.l0] at H
    replace H:=bs_ H
    obtain ⟨t178,A90,H⟩:=H
    try dsimp only at H
    have A9:=a_ A90
    clear A90
    by_cases c10:x7_1 < t178
    ·rw [if_pos c10] at H
     have c10b0:decide (x7_1 < t178)=true:=dt_ c10
     clear c10
     by_cases c11:0≤x7_1
     ·rw [if_pos c11] at H
      have c11b0:decide (0≤x7_1)=true:=dt_ c11
      clear c11
      by_cases c12:x7_1 < (l0.length:Int)
      ·rw [if_pos c12] at H
       have c12b0:decide (x7_1 < (l0.length:Int))=true:=dt_ c12
       clear c12
       by_cases c13:0≤t177
       ·rw [if_pos c13] at H
        have c13b0:decide (0≤t177)=true:=dt_ c13
        clear c13
        by_cases c14:t177 < (l0.length:Int)
        ·rw [if_pos c14] at H
         have c14b0:decide (t177 < (l0.length:Int))=true:=dt_ c14
         clear c14
         by_cases c15:((rd_T69 l0 x7_1).f1)=(wrap64 (((rd_T69 l0 t177).f1)+1))
         ·rw [if_pos c15] at H
          have c15b0:(((rd_T69 l0 x7_1).f1)==(wrap64 (((rd_T69 l0 t177).f1)+1)))=true:=beq_iff_eq.mpr c15
          have c15b1:(((rd_T69 l0 x7_1).f1) != (wrap64 (((rd_T69 l0 t177).f1)+1)))=false:=be_ c15
          clear c15
          by_cases c16:x5_1.length < 17592186044416
          ·rw [if_pos c16] at H
           have LMc16:=a_ c16
           clear c16
           obtain ⟨y182,hy182⟩:∃ y_:List Int,y_=(x5_1++[(rd_T69 l0 x7_1).f0]):=⟨_,rfl⟩
           replace H:(spec_l2Kids.l0 k1 l0 y182 t177 (wrap64 (x7_1+1)))=some r:=by first|(rw [hy182];with_reducible exact H)|(have H2_:=(Option.bind_some _ _).symm.trans H;rw [hy182];with_reducible exact H2_)|(have H2_:=(Option.bind_some _ _).symm.trans H;with_reducible exact H2_)|with_reducible exact H|(rw [hy182];exact H)|exact H
           have Ny182:=a_ hy182
           clear hy182
           have H':=a_ H
           clear H
           go_wp2_with (first|(go_at_call 148;(with_reducible refine (spec_l2End.calls k1 _ _ l0 t177 t178 _ ?side1 ?side2 A9.out).mono ?_);(case side1=>exact cp_ HR0.out);(case side2=>exact HC0.out);rintro e w' ⟨rfl,⟨nd,rfl⟩⟩;(try first|exact ⟨rfl,_,World.drewN_drewN _ _ _⟩|exact ⟨rfl,_,Eq.trans (World.drewN_drewN _ _ _) (congrArg (World.drewN _) (Nat.add_assoc _ _ _))⟩);have p179:0≤(x7_1:Int):=od_;have q179:x7_1 < (l0.length:Int):=od_;obtain ⟨ad179,e179,hx179_0,hx179_1,hx179_2⟩:=at_T69 HR0.out x7_1 p179 q179;cases e179;replace hx179_0:=(cb_ HB.out hx179_0 :);replace hx179_1:=(cb_ HB.out hx179_1 :);replace hx179_2:=(cb_ HB.out hx179_2 :);replace p179:=eq_true p179;replace q179:=eq_true q179;have p180:0≤(t177:Int):=od_;have q180:t177 < (l0.length:Int):=od_;obtain ⟨ad180,e180,hx180_0,hx180_1,hx180_2⟩:=at_T69 HR0.out t177 p180 q180;obtain rfl:ad179=ad180:=(by injection e180);replace hx180_0:=(cb_ HB.out hx180_0 :);replace hx180_1:=(cb_ HB.out hx180_1 :);replace hx180_2:=(cb_ HB.out hx180_2 :);replace p180:=eq_true p180;replace q180:=eq_true q180;have p181:0≤(x7_1:Int):=od_;have q181:x7_1 < (l0.length:Int):=od_;obtain ⟨ad181,e181,hx181_0,hx181_1,hx181_2⟩:=at_T69 HR0.out x7_1 p181 q181;obtain rfl:ad179=ad181:=(by injection e181);replace hx181_0:=(cb_ HB.out hx181_0 :);replace hx181_1:=(cb_ HB.out hx181_1 :);replace hx181_2:=(cb_ HB.out hx181_2 :);replace p181:=eq_true p181;replace q181:=eq_true q181)|((with_reducible refine gate_builtin (b:=.append) (xs:=#[.tmp 36,.tmp 42]) rfl ?_);at_builtin;refine Kd.R_append (Kd.int .i64) (w0:=w) w.heap.size rfl (.tmp 36) (.tmp 42) 153 3 (.int .i64 0) 8 rfl Tryd.underlying153 info3 rfl (by decide) (by omega) u5 x5_1 ((rd_T69 l0 x7_1).f0) [.int .i64 ((rd_T69 l0 x7_1).f0)] (fun _=>True) (fun _=>False) rfl rfl ?aP (fun _ hk=>hk.elim) ?aF ?aO ?aB ?aS ?aL ?_;(case aP=>exact rfl);(case aB=>exact (bel_));(case aF=>exact (fun _ _=>trivial));(case aO=>exact (rp_ HO_5.out));(case aS=>exact (below_size (bel_)));(case aL=>have:=LMc16.out;omega);intro v183 w17 ho hb hg hat;rw [←Ny182.out] at ho;replace HB:=a_ (hb);have HO184:=a_ (ho);clear HO_5;clear ho hb hg hat))
           repeat (go_quiet (first|(go_at_call 148;(with_reducible refine (spec_l2End.calls k1 _ _ l0 t177 t178 _ ?side1 ?side2 A9.out).mono ?_);(case side1=>exact cp_ HR0.out);(case side2=>exact HC0.out);rintro e w' ⟨rfl,⟨nd,rfl⟩⟩;(try first|exact ⟨rfl,_,World.drewN_drewN _ _ _⟩|exact ⟨rfl,_,Eq.trans (World.drewN_drewN _ _ _) (congrArg (World.drewN _) (Nat.add_assoc _ _ _))⟩);have p179:0≤(x7_1:Int):=od_;have q179:x7_1 < (l0.length:Int):=od_;obtain ⟨ad179,e179,hx179_0,hx179_1,hx179_2⟩:=at_T69 HR0.out x7_1 p179 q179;cases e179;replace hx179_0:=(cb_ HB.out hx179_0 :);replace hx179_1:=(cb_ HB.out hx179_1 :);replace hx179_2:=(cb_ HB.out hx179_2 :);replace p179:=eq_true p179;replace q179:=eq_true q179;have p180:0≤(t177:Int):=od_;have q180:t177 < (l0.length:Int):=od_;obtain ⟨ad180,e180,hx180_0,hx180_1,hx180_2⟩:=at_T69 HR0.out t177 p180 q180;obtain rfl:ad179=ad180:=(by injection e180);replace hx180_0:=(cb_ HB.out hx180_0 :);replace hx180_1:=(cb_ HB.out hx180_1 :);replace hx180_2:=(cb_ HB.out hx180_2 :);replace p180:=eq_true p180;replace q180:=eq_true q180;have p181:0≤(x7_1:Int):=od_;have q181:x7_1 < (l0.length:Int):=od_;obtain ⟨ad181,e181,hx181_0,hx181_1,hx181_2⟩:=at_T69 HR0.out x7_1 p181 q181;obtain rfl:ad179=ad181:=(by injection e181);replace hx181_0:=(cb_ HB.out hx181_0 :);replace hx181_1:=(cb_ HB.out hx181_1 :);replace hx181_2:=(cb_ HB.out hx181_2 :);replace p181:=eq_true p181;replace q181:=eq_true q181)|((with_reducible refine gate_builtin (b:=.append) (xs:=#[.tmp 36,.tmp 42]) rfl ?_);at_builtin;refine Kd.R_append (Kd.int .i64) (w0:=w) w.heap.size rfl (.tmp 36) (.tmp 42) 153 3 (.int .i64 0) 8 rfl Tryd.underlying153 info3 rfl (by decide) (by omega) u5 x5_1 ((rd_T69 l0 x7_1).f0) [.int .i64 ((rd_T69 l0 x7_1).f0)] (fun _=>True) (fun _=>False) rfl rfl ?aP (fun _ hk=>hk.elim) ?aF ?aO ?aB ?aS ?aL ?_;(case aP=>exact rfl);(case aB=>exact (bel_));(case aF=>exact (fun _ _=>trivial));(case aO=>exact (rp_ HO_5.out));(case aS=>exact (below_size (bel_)));(case aL=>have:=LMc16.out;omega);intro v183 w17 ho hb hg hat;rw [←Ny182.out] at ho;replace HB:=a_ (hb);have HO184:=a_ (ho);clear HO_5;clear ho hb hg hat));try go_wp2_with (first|(go_at_call 148;(with_reducible refine (spec_l2End.calls k1 _ _ l0 t177 t178 _ ?side1 ?side2 A9.out).mono ?_);(case side1=>exact cp_ HR0.out);(case side2=>exact HC0.out);rintro e w' ⟨rfl,⟨nd,rfl⟩⟩;(try first|exact ⟨rfl,_,World.drewN_drewN _ _ _⟩|exact ⟨rfl,_,Eq.trans (World.drewN_drewN _ _ _) (congrArg (World.drewN _) (Nat.add_assoc _ _ _))⟩);have p179:0≤(x7_1:Int):=od_;have q179:x7_1 < (l0.length:Int):=od_;obtain ⟨ad179,e179,hx179_0,hx179_1,hx179_2⟩:=at_T69 HR0.out x7_1 p179 q179;cases e179;replace hx179_0:=(cb_ HB.out hx179_0 :);replace hx179_1:=(cb_ HB.out hx179_1 :);replace hx179_2:=(cb_ HB.out hx179_2 :);replace p179:=eq_true p179;replace q179:=eq_true q179;have p180:0≤(t177:Int):=od_;have q180:t177 < (l0.length:Int):=od_;obtain ⟨ad180,e180,hx180_0,hx180_1,hx180_2⟩:=at_T69 HR0.out t177 p180 q180;obtain rfl:ad179=ad180:=(by injection e180);replace hx180_0:=(cb_ HB.out hx180_0 :);replace hx180_1:=(cb_ HB.out hx180_1 :);replace hx180_2:=(cb_ HB.out hx180_2 :);replace p180:=eq_true p180;replace q180:=eq_true q180;have p181:0≤(x7_1:Int):=od_;have q181:x7_1 < (l0.length:Int):=od_;obtain ⟨ad181,e181,hx181_0,hx181_1,hx181_2⟩:=at_T69 HR0.out x7_1 p181 q181;obtain rfl:ad179=ad181:=(by injection e181);replace hx181_0:=(cb_ HB.out hx181_0 :);replace hx181_1:=(cb_ HB.out hx181_1 :);replace hx181_2:=(cb_ HB.out hx181_2 :);replace p181:=eq_true p181;replace q181:=eq_true q181)|((with_reducible refine gate_builtin (b:=.append) (xs:=#[.tmp 36,.tmp 42]) rfl ?_);at_builtin;refine Kd.R_append (Kd.int .i64) (w0:=w) w.heap.size rfl (.tmp 36) (.tmp 42) 153 3 (.int .i64 0) 8 rfl Tryd.underlying153 info3 rfl (by decide) (by omega) u5 x5_1 ((rd_T69 l0 x7_1).f0) [.int .i64 ((rd_T69 l0 x7_1).f0)] (fun _=>True) (fun _=>False) rfl rfl ?aP (fun _ hk=>hk.elim) ?aF ?aO ?aB ?aS ?aL ?_;(case aP=>exact rfl);(case aB=>exact (bel_));(case aF=>exact (fun _ _=>trivial));(case aO=>exact (rp_ HO_5.out));(case aS=>exact (below_size (bel_)));(case aL=>have:=LMc16.out;omega);intro v183 w17 ho hb hg hat;rw [←Ny182.out] at ho;replace HB:=a_ (hb);have HO184:=a_ (ho);clear HO_5;clear ho hb hg hat)))
           go_roundg k1
           case measure=>have:=HK1.out;omega
           case rel=>exact ⟨(y182),(wrap64 (x7_1+1)),(si_),H',⟨by have:=HK1.out;omega⟩,⟨by (with_reducible repeat (first|apply Kd.R_alloc|apply Kd.R_drewN|apply Kd.R_drew));exact HO184.out⟩,⟨bel_⟩⟩
          ·rw [if_neg c16] at H
           exact absurd H (by simp)
         ·rw [if_neg c15] at H
          have c15b0:(((rd_T69 l0 x7_1).f1)==(wrap64 (((rd_T69 l0 t177).f1)+1)))=false:=bn_ c15
          have c15b1:(((rd_T69 l0 x7_1).f1) != (wrap64 (((rd_T69 l0 t177).f1)+1)))=true:=bne_iff_ne.mpr c15
          have H':=a_ H
          clear H
          go_wp2_with (first|(go_at_call 148;(with_reducible refine (spec_l2End.calls k1 _ _ l0 t177 t178 _ ?side1 ?side2 A9.out).mono ?_);(case side1=>exact cp_ HR0.out);(case side2=>exact HC0.out);rintro e w' ⟨rfl,⟨nd,rfl⟩⟩;(try first|exact ⟨rfl,_,World.drewN_drewN _ _ _⟩|exact ⟨rfl,_,Eq.trans (World.drewN_drewN _ _ _) (congrArg (World.drewN _) (Nat.add_assoc _ _ _))⟩);have p179:0≤(x7_1:Int):=od_;have q179:x7_1 < (l0.length:Int):=od_;obtain ⟨ad179,e179,hx179_0,hx179_1,hx179_2⟩:=at_T69 HR0.out x7_1 p179 q179;cases e179;replace hx179_0:=(cb_ HB.out hx179_0 :);replace hx179_1:=(cb_ HB.out hx179_1 :);replace hx179_2:=(cb_ HB.out hx179_2 :);replace p179:=eq_true p179;replace q179:=eq_true q179;have p180:0≤(t177:Int):=od_;have q180:t177 < (l0.length:Int):=od_;obtain ⟨ad180,e180,hx180_0,hx180_1,hx180_2⟩:=at_T69 HR0.out t177 p180 q180;obtain rfl:ad179=ad180:=(by injection e180);replace hx180_0:=(cb_ HB.out hx180_0 :);replace hx180_1:=(cb_ HB.out hx180_1 :);replace hx180_2:=(cb_ HB.out hx180_2 :);replace p180:=eq_true p180;replace q180:=eq_true q180))
          repeat (go_quiet (first|(go_at_call 148;(with_reducible refine (spec_l2End.calls k1 _ _ l0 t177 t178 _ ?side1 ?side2 A9.out).mono ?_);(case side1=>exact cp_ HR0.out);(case side2=>exact HC0.out);rintro e w' ⟨rfl,⟨nd,rfl⟩⟩;(try first|exact ⟨rfl,_,World.drewN_drewN _ _ _⟩|exact ⟨rfl,_,Eq.trans (World.drewN_drewN _ _ _) (congrArg (World.drewN _) (Nat.add_assoc _ _ _))⟩);have p179:0≤(x7_1:Int):=od_;have q179:x7_1 < (l0.length:Int):=od_;obtain ⟨ad179,e179,hx179_0,hx179_1,hx179_2⟩:=at_T69 HR0.out x7_1 p179 q179;cases e179;replace hx179_0:=(cb_ HB.out hx179_0 :);replace hx179_1:=(cb_ HB.out hx179_1 :);replace hx179_2:=(cb_ HB.out hx179_2 :);replace p179:=eq_true p179;replace q179:=eq_true q179;have p180:0≤(t177:Int):=od_;have q180:t177 < (l0.length:Int):=od_;obtain ⟨ad180,e180,hx180_0,hx180_1,hx180_2⟩:=at_T69 HR0.out t177 p180 q180;obtain rfl:ad179=ad180:=(by injection e180);replace hx180_0:=(cb_ HB.out hx180_0 :);replace hx180_1:=(cb_ HB.out hx180_1 :);replace hx180_2:=(cb_ HB.out hx180_2 :);replace p180:=eq_true p180;replace q180:=eq_true q180));try go_wp2_with (first|(go_at_call 148;(with_reducible refine (spec_l2End.calls k1 _ _ l0 t177 t178 _ ?side1 ?side2 A9.out).mono ?_);(case side1=>exact cp_ HR0.out);(case side2=>exact HC0.out);rintro e w' ⟨rfl,⟨nd,rfl⟩⟩;(try first|exact ⟨rfl,_,World.drewN_drewN _ _ _⟩|exact ⟨rfl,_,Eq.trans (World.drewN_drewN _ _ _) (congrArg (World.drewN _) (Nat.add_assoc _ _ _))⟩);have p179:0≤(x7_1:Int):=od_;have q179:x7_1 < (l0.length:Int):=od_;obtain ⟨ad179,e179,hx179_0,hx179_1,hx179_2⟩:=at_T69 HR0.out x7_1 p179 q179;cases e179;replace hx179_0:=(cb_ HB.out hx179_0 :);replace hx179_1:=(cb_ HB.out hx179_1 :);replace hx179_2:=(cb_ HB.out hx179_2 :);replace p179:=eq_true p179;replace q179:=eq_true q179;have p180:0≤(t177:Int):=od_;have q180:t177 < (l0.length:Int):=od_;obtain ⟨ad180,e180,hx180_0,hx180_1,hx180_2⟩:=at_T69 HR0.out t177 p180 q180;obtain rfl:ad179=ad180:=(by injection e180);replace hx180_0:=(cb_ HB.out hx180_0 :);replace hx180_1:=(cb_ HB.out hx180_1 :);replace hx180_2:=(cb_ HB.out hx180_2 :);replace p180:=eq_true p180;replace q180:=eq_true q180)))
          go_roundg k1
          case measure=>have:=HK1.out;omega
          case rel=>exact ⟨(x5_1),(wrap64 (x7_1+1)),(si_),H',⟨by have:=HK1.out;omega⟩,⟨by (with_reducible repeat (first|apply Kd.R_alloc|apply Kd.R_drewN|apply Kd.R_drew));exact HO_5.out⟩,⟨bel_⟩⟩
        ·rw [if_neg c14] at H
         exact absurd H (by simp)
       ·rw [if_neg c13] at H
        exact absurd H (by simp)
      ·rw [if_neg c12] at H
       exact absurd H (by simp)
     ·rw [if_neg c11] at H
      exact absurd H (by simp)
    ·rw [if_neg c10] at H
     have c10b0:decide (x7_1 < t178)=false:=df_ c10
     clear c10
     obtain rfl:=sj_ H
     go_wp2_with (first|(go_at_call 148;(with_reducible refine (spec_l2End.calls k1 _ _ l0 t177 t178 _ ?side1 ?side2 A9.out).mono ?_);(case side1=>exact cp_ HR0.out);(case side2=>exact HC0.out);rintro e w' ⟨rfl,⟨nd,rfl⟩⟩;(try first|exact ⟨rfl,_,World.drewN_drewN _ _ _⟩|exact ⟨rfl,_,Eq.trans (World.drewN_drewN _ _ _) (congrArg (World.drewN _) (Nat.add_assoc _ _ _))⟩)))
     go_ret
     exact ⟨_,fi_,by (with_reducible repeat (first|apply Kd.R_alloc|apply Kd.R_drewN|apply Kd.R_drew));exact HO_5.out,bel_⟩

mutual
def spec_l72Op.j0:Nat→Int→Int→Int→Int→List Int→Int→Bool→List Int→Int→Option (Int×Int×Int×Int×ByteArray×Int)
 | 0,_,_,_,_,_,_,_,_,_=>none
 | k+1,x2,x3,x9,x10,x11,x12,x40,x1000,x1001=>if x40=true then ((spec_l6Rd_pick.f k x1000 x1001 (x11.length:Int)).bind fun bt197=>(if 0≤bt197.1 then (if bt197.1 < (x11.length:Int) then (spec_l72Op.j1 k x2 x3 x9 x10 (rd x11 bt197.1) x1000 bt197.2) else (none)) else (none))) else (spec_l72Op.j1 k x2 x3 x9 x10 x12 x1000 x1001)
def spec_l72Op.j1:Nat→Int→Int→Int→Int→Int→List Int→Int→Option (Int×Int×Int×Int×ByteArray×Int)
 | 0,_,_,_,_,_,_,_=>none
 | k+1,x2,x3,x9,x10,x12,x1000,x1001=>(spec_l71Text.f k x1000 x1001).bind fun bt200=>((spec_l1Text.f k bt200.1).bind fun t202=>(if t202=true then (spec_l72Op.j2 k x2 x3 x9 x10 x12 bt200.1 x1000 bt200.2) else (spec_l72Op.j2 k x2 x3 x9 x10 x12 (⟨#[97]⟩:ByteArray) x1000 bt200.2)))
def spec_l72Op.j2:Nat→Int→Int→Int→Int→Int→ByteArray→List Int→Int→Option (Int×Int×Int×Int×ByteArray×Int)
 | 0,_,_,_,_,_,_,_,_=>none
 | k+1,x2,x3,x9,x10,x12,x13,x1000,x1001=>(spec_l6Rd_pick.f k x1000 x1001 6).bind fun bt203=>(if bt203.1=0 then ((spec_l71Id.f k x1000 bt203.2).bind fun bt205=>(spec_l72Op.j3 k x2 x3 x9 bt205.1 x12 x13 x1000 bt205.2)) else (spec_l72Op.j3 k x2 x3 x9 x10 x12 x13 x1000 bt203.2))
def spec_l72Op.j3:Nat→Int→Int→Int→Int→Int→ByteArray→List Int→Int→Option (Int×Int×Int×Int×ByteArray×Int)
 | 0,_,_,_,_,_,_,_,_=>none
 | k+1,x2,x3,x9,x10,x12,x13,x1000,x1001=>if x3 < 6 then ((spec_l6Rd_pick.f k x1000 x1001 3).bind fun bt207=>(if bt207.1=0 then (spec_l72Op.j4 k x2 x3 x9 x10 x12 x13 true x1000 bt207.2) else ((spec_l1Made.f x9).bind fun t209=>(spec_l72Op.j4 k x2 x3 x9 x10 x12 x13 (!t209) x1000 bt207.2)))) else (spec_l72Op.j4 k x2 x3 x9 x10 x12 x13 false x1000 x1001)
def spec_l72Op.j4:Nat→Int→Int→Int→Int→Int→ByteArray→Bool→List Int→Int→Option (Int×Int×Int×Int×ByteArray×Int)
 | 0,_,_,_,_,_,_,_,_,_=>none
 | k+1,x2,x3,x9,x10,x12,x13,x69,x1000,x1001=>if x69=true then ((spec_RowMade.f x2 (wrap64 (x3+1))).bind fun t210=>(some (1,t210,x10,x12,x13,x1001))) else ((spec_l1Made.f x9).bind fun t211=>(if t211=true then ((spec_l6Rd_pick.f k x1000 x1001 3).bind fun bt212=>(if bt212.1=0 then (some (2,x9,0,0,x13,bt212.2)) else (some (3,x9,x10,x12,(⟨#[]⟩:ByteArray),bt212.2)))) else ((spec_l71Id.f k x1000 x1001).bind fun bt214=>((spec_l6Rd_pick.f k x1000 bt214.2 3).bind fun bt216=>(if bt216.1=0 then (some (2,bt214.1,0,0,x13,bt216.2)) else (some (3,bt214.1,x10,x12,(⟨#[]⟩:ByteArray),bt216.2)))))))
end
def spec_l72Op.f (k:Nat) (s0_0:List Int) (s0_1:Int) (l1:List (S69)) (a2:Int) (a3:Int):Option (Int×Int×Int×Int×ByteArray×Int):=(spec_l6Rd_pick.f k s0_0 s0_1 (l1.length:Int)).bind fun bt186=>(if 0≤bt186.1 then (if bt186.1 < (l1.length:Int) then ((spec_l6Rd_pick.f k s0_0 bt186.2 (l1.length:Int)).bind fun bt189=>(if 0≤bt189.1 then (if bt189.1 < (l1.length:Int) then ((spec_l2Kids.f k l1 ((rd_T69 l1 bt189.1).f0)).bind fun t192=>(if (t192.length:Int) > 0 then ((spec_l6Rd_pick.f k s0_0 bt189.2 2).bind fun bt195=>(spec_l72Op.j0 k a2 a3 ((rd_T69 l1 bt186.1).f0) ((rd_T69 l1 bt189.1).f0) t192 0 (bt195.1==0) s0_0 bt195.2)) else (spec_l72Op.j0 k a2 a3 ((rd_T69 l1 bt186.1).f0) ((rd_T69 l1 bt189.1).f0) t192 0 false s0_0 bt189.2))) else (none)) else (none))) else (none)) else (none))
theorem spec_l72Op.mono_l:∀ k,(∀ y0 y1 y2 y3 y4 y5 y6 y7 y8,LeO (spec_l72Op.j0 k y0 y1 y2 y3 y4 y5 y6 y7 y8) (spec_l72Op.j0 (k+1) y0 y1 y2 y3 y4 y5 y6 y7 y8))∧(∀ y0 y1 y2 y3 y4 y5 y6,LeO (spec_l72Op.j1 k y0 y1 y2 y3 y4 y5 y6) (spec_l72Op.j1 (k+1) y0 y1 y2 y3 y4 y5 y6))∧(∀ y0 y1 y2 y3 y4 y5 y6 y7,LeO (spec_l72Op.j2 k y0 y1 y2 y3 y4 y5 y6 y7) (spec_l72Op.j2 (k+1) y0 y1 y2 y3 y4 y5 y6 y7))∧(∀ y0 y1 y2 y3 y4 y5 y6 y7,LeO (spec_l72Op.j3 k y0 y1 y2 y3 y4 y5 y6 y7) (spec_l72Op.j3 (k+1) y0 y1 y2 y3 y4 y5 y6 y7))∧(∀ y0 y1 y2 y3 y4 y5 y6 y7 y8,LeO (spec_l72Op.j4 k y0 y1 y2 y3 y4 y5 y6 y7 y8) (spec_l72Op.j4 (k+1) y0 y1 y2 y3 y4 y5 y6 y7 y8))
 | 0=>⟨fun _ _ _ _ _ _ _ _ _ r h=>by simp [spec_l72Op.j0] at h,fun _ _ _ _ _ _ _ r h=>by simp [spec_l72Op.j1] at h,fun _ _ _ _ _ _ _ _ r h=>by simp [spec_l72Op.j2] at h,fun _ _ _ _ _ _ _ _ r h=>by simp [spec_l72Op.j3] at h,fun _ _ _ _ _ _ _ _ _ r h=>by simp [spec_l72Op.j4] at h⟩
 | k+1=>by
  obtain ⟨ih0,ih1,ih2,ih3,ih4⟩:=spec_l72Op.mono_l k
  refine ⟨?_,?_,?_,?_,?_⟩
  all_goals intros
  all_goals first|unfold spec_l72Op.j0|unfold spec_l72Op.j1|unfold spec_l72Op.j2|unfold spec_l72Op.j3|unfold spec_l72Op.j4
  all_goals repeat' first
  | (with_reducible exact ih0 _ _ _ _ _ _ _ _ _)
  | (with_reducible exact ih1 _ _ _ _ _ _ _)
  | (with_reducible exact ih2 _ _ _ _ _ _ _ _)
  | (with_reducible exact ih3 _ _ _ _ _ _ _ _)
  | (with_reducible exact ih4 _ _ _ _ _ _ _ _ _)
  | (with_reducible exact spec_l1Text.mono _ _)
  | (with_reducible exact spec_l2Kids.mono _ _ _)
  | (with_reducible exact spec_l6Rd_pick.mono _ _ _ _)
  | (with_reducible exact spec_l71Id.mono _ _ _)
  | (with_reducible exact spec_l71Text.mono _ _ _)
  | (with_reducible exact LeO.refl _)
  | (with_reducible exact LeO.none _)
  | (with_reducible refine LeO.ite ?_ ?_)
  | (with_reducible refine LeO.bind ?_ (fun _=>?_))
theorem spec_l72Op.mono:∀ a0 a1 a2 a3 a4 k,LeO (spec_l72Op.f k a0 a1 a2 a3 a4) (spec_l72Op.f (k+1) a0 a1 a2 a3 a4):=by
 intro a0 a1 a2 a3 a4 k
 obtain ⟨ih0,ih1,ih2,ih3,ih4⟩:=spec_l72Op.mono_l k
 unfold spec_l72Op.f
 repeat' first
   | (with_reducible exact ih0 _ _ _ _ _ _ _ _ _)
   | (with_reducible exact ih1 _ _ _ _ _ _ _)
   | (with_reducible exact ih2 _ _ _ _ _ _ _ _)
   | (with_reducible exact ih3 _ _ _ _ _ _ _ _)
   | (with_reducible exact ih4 _ _ _ _ _ _ _ _ _)
   | (with_reducible exact spec_l1Text.mono _ _)
   | (with_reducible exact spec_l2Kids.mono _ _ _)
   | (with_reducible exact spec_l6Rd_pick.mono _ _ _ _)
   | (with_reducible exact spec_l71Id.mono _ _ _)
   | (with_reducible exact spec_l71Text.mono _ _ _)
   | (with_reducible exact LeO.refl _)
   | (with_reducible exact LeO.none _)
   | (with_reducible refine LeO.ite ?_ ?_)
   | (with_reducible refine LeO.bind ?_ (fun _=>?_))
theorem spec_l72Op.calls (k:Nat) (g:Nat) (s0_0:List Int) (s0_1:Int) (A1:Option Addr) (c1:Nat) (l1:List (S69)) (a2:Int) (a3:Int) (r1:Int) (r2:Int) (r3:Int) (r4:Int) (r5:ByteArray) (r6:Int) (w0 w:World) (hI:IsS145 w0 w g s0_0 s0_1) (hB:Below w0.heap.size w0 w) (hr1:∀ W_,KeepBut w W_ g none→Kd.C k69 W_ A1 l1.length l1) (hc1:l1.length≤c1) (h:spec_l72Op.f k s0_0 s0_1 l1 a2 a3=some (r1,r2,r3,r4,r5,r6)) :
  Calls Tryd.prog 124 #[.pointer (some ⟨g,0,none⟩),.slice A1 l1.length c1,.int .i64 a2,.int .i64 a3] w fun e w'=>e=.returned (.agg #[.int .i64 r1,.int .i64 r2,.int .i64 r3,.int .i64 r4,.string r5])∧IsS145 w0 w' g s0_0 r6∧Below w0.heap.size w0 w'∧KeepBut w w' g none:=by
 have hu42:=Tryd.underlying42
 have HR1:=a_ hr1
 have HC1:=a_ hc1
 clear hr1 hc1
 have HI0:=a_ hI
 have HK:=a_ (KeepBut.refl w g none)
 have HL:=a_ hB.size
 clear hI
 have HW0:=a_ hB.size
 have HB:=a_ hB
 clear hB
 unfold spec_l72Op.f at h
 have H:=h
 clear h
 replace H:=bs_ H
 obtain ⟨⟨t186,t187⟩,A50,H⟩:=H
 try dsimp only at H
 have A5:=a_ A50
 clear A50
 by_cases c6:0≤t186
 ·rw [if_pos c6] at H
  have c6b0:decide (0≤t186)=true:=dt_ c6
  clear c6
  by_cases c7:t186 < (l1.length:Int)
  ·rw [if_pos c7] at H
   have c7b0:decide (t186 < (l1.length:Int))=true:=dt_ c7
   clear c7
   replace H:=bs_ H
   obtain ⟨⟨t189,t190⟩,A80,H⟩:=H
   try dsimp only at H
   have A8:=a_ A80
   clear A80
   by_cases c9:0≤t189
   ·rw [if_pos c9] at H
    have c9b0:decide (0≤t189)=true:=dt_ c9
    clear c9
    by_cases c10:t189 < (l1.length:Int)
    ·rw [if_pos c10] at H
     have c10b0:decide (t189 < (l1.length:Int))=true:=dt_ c10
     clear c10
     replace H:=bs_ H
     obtain ⟨t192,A110,H⟩:=H
     try dsimp only at H
     have A11:=a_ A110
     clear A110
     have HC12:=a_ H
     clear H
     go_enter Tryd.func124,Tryd.ntmps124
     go_upto_region 5 with (first|((with_reducible refine gD_ (N:=8) rfl ?_);refine bx_ 8 (#[.int .i64 0,.int .i64 0,.int .i64 0,.int .i64 0,.string (⟨#[]⟩:ByteArray)]) 42 ?_;intro gb185 hg w13 hbox hb;have n0_:=a_ (IsS145.below (is_HI0) hb);have n1_:=a_ (KeepBut.trans (ke_) (KeepBut.of_below hb g none) (.inl rfl));have n2_:=a_ (bS_ (bel_) hb);have n3_:=a_ (hbox);have n4_:=a_ ((by rw [hg];exact (keep_size (w:=w) (g:=g) (row:=none) (ke_)):w.heap.size≤gb185));have n5_:=a_ ((Nat.le_trans HW0.out (by rw [hg];exact (keep_size (w:=w) (g:=g) (row:=none) (ke_)):w.heap.size≤gb185):w0.heap.size≤gb185));have n6_:=a_ ((by rw [hg];exact Nat.ne_of_lt (IsS145.lt (show IsS145 w0 _ g s0_0 s0_1 from is_HI0)):g≠gb185));have n7_:=a_ ((by rw [hg];exact Nat.ne_of_gt (IsS145.lt (show IsS145 w0 _ g s0_0 s0_1 from is_HI0)):gb185≠g));clear HI0;clear HK;clear HB;have HI0:=n0_;have HK:=n1_;have HB:=n2_;have BK185:=n3_;have GW185:=n4_;have GE185:=n5_;have NB0_185:=n6_;have NB185_0:=n7_;clear n0_ n1_ n2_ n3_ n4_ n5_ n6_ n7_;clear hb hbox hg)|((with_reducible refine gC_ (f:=74) rfl ?_);refine gl_ 18 Tryd.func74 #[.pointer (some ⟨g,0,none⟩),.int .i64 (l1.length:Int)] ?_;(with_reducible refine (spec_l6Rd_pick.calls k g s0_0 s0_1 (l1.length:Int) t186 t187 w0 _ ?side1 ?side2 A5.out).mono ?_);(case side1=>exact is_HI0);(case side2=>exact bel_);rintro e w14 ⟨rfl,hi,hb,hk⟩;refine ⟨_,rfl,?_⟩;replace BK185:=a_ (kb_ hk BK185.out NB185_0.out);replace HK:=a_ (KeepBut.trans (kf_ HK.out) hk (.inl rfl));replace HB:=a_ (hb);replace HI0:=a_ (hi);(try clear hb hk hi);have p188:0≤(t186:Int):=od_;have q188:t186 < (l1.length:Int):=od_;obtain ⟨ad188,e188,hx188_0,hx188_1,hx188_2⟩:=at_T69 (Kd.C_foot_now HR1.out HK.out) t186 p188 q188;cases e188;replace p188:=eq_true p188;replace q188:=eq_true q188)|((with_reducible refine gC_ (f:=74) rfl ?_);refine gl_ 26 Tryd.func74 #[.pointer (some ⟨g,0,none⟩),.int .i64 (l1.length:Int)] ?_;(with_reducible refine (spec_l6Rd_pick.calls k g s0_0 t187 (l1.length:Int) t189 t190 w0 _ ?side1 ?side2 A8.out).mono ?_);(case side1=>exact is_HI0);(case side2=>exact bel_);rintro e w15 ⟨rfl,hi,hb,hk⟩;refine ⟨_,rfl,?_⟩;replace BK185:=a_ (kb_ hk BK185.out NB185_0.out);replace HK:=a_ (KeepBut.trans (kf_ HK.out) hk (.inl rfl));replace HB:=a_ (hb);replace HI0:=a_ (hi);(try clear hb hk hi);have p191:0≤(t189:Int):=od_;have q191:t189 < (l1.length:Int):=od_;obtain ⟨ad191,e191,hx191_0,hx191_1,hx191_2⟩:=at_T69 (Kd.C_foot_now HR1.out HK.out) t189 p191 q191;obtain rfl:ad188=ad191:=(by injection e191);replace p191:=eq_true p191;replace q191:=eq_true q191)|((with_reducible refine gC_ (f:=144) rfl ?_);refine gl_ 32 Tryd.func144 #[.slice (some ad188) l1.length c1,.int .i64 ((rd_T69 l1 t189).f0)] ?_;(with_reducible refine (spec_l2Kids.calls k _ _ l1 ((rd_T69 l1 t189).f0) t192 _ ?side1 ?side2 A11.out).mono ?_);(case side1=>exact Kd.C_foot_now HR1.out (kf_ HK.out));(case side2=>exact HC1.out);rintro e w16 ⟨v193,rfl,ho0,hb⟩;refine ⟨_,rfl,?_⟩;have HO194:=a_ (Kd.R_lower ho0 (keep_size (w:=w) (g:=g) (row:=none) (kf_ HK.out)));replace HK:=a_ (KeepBut.trans (kf_ HK.out) (KeepBut.of_below hb g none) (.inl rfl));replace HB:=a_ (bS_ (bel_) hb);replace HI0:=a_ (IsS145.below (is_HI0) hb);replace BK185:=a_ (bb_ BK185.out hb);(try clear hb ho0)))
     (try simp only [Act.put,List.setIfInBounds_toArray,List.set_cons_zero,List.set_cons_succ])
     go_cut [40] (fun v40 wc=>∃ (kq:Nat) (x40_11:Bool) (x1001_11:Int),v40=.bool x40_11∧Aside0 (spec_l72Op.j0 kq a2 a3 ((rd_T69 l1 t186).f0) ((rd_T69 l1 t189).f0) t192 0 x40_11 s0_0 x1001_11=some (r1,r2,r3,r4,r5,r6))∧Aside0 (kq≤k)∧Aside0 (Kd.R (Kd.int .i64) 3 wc w.heap.size (fun _=>True) v193 t192)∧Aside0 (wc.heap[gb185]?=some (.cells #[.int .i64 0,.int .i64 0,.int .i64 0,.int .i64 0,.string (⟨#[]⟩:ByteArray)] 42 (0,0)))∧Aside0 (IsS145 w0 wc g s0_0 x1001_11)∧Aside0 (KeepBut w wc g none)∧Aside0 (Below w0.heap.size w0 wc))
     case first =>
      have H:=HC12.out
      clear HC12
      by_cases c17:(t192.length:Int) > 0
      ·rw [if_pos c17] at H
       have c17b0:decide (0 < (t192.length:Int))=true:=dt_ c17
       have c17b1:decide (0 < t192.length)=true:=dt_ (by omega)
       clear c17
       (first|rw [c17b0]|(simp only [i64_w,i32_w];rw [c17b0])|skip)
       replace H:=bs_ H
       obtain ⟨⟨t195,t196⟩,A180,H⟩:=H
       try dsimp only at H
       have A18:=a_ A180
       clear A180
       have H':=a_ H
       clear H
       obtain ⟨Ao19,co19,eo19⟩:=Kd.R_slice HO194.out
       subst eo19
       go_wp2_with (first|(go_at_call 74;(with_reducible refine (spec_l6Rd_pick.calls k g s0_0 t190 2 t195 t196 w0 _ ?side1 ?side2 A18.out).mono ?_);(case side1=>exact is_HI0);(case side2=>exact bel_);rintro e w20 ⟨rfl,hi,hb,hk⟩;replace BK185:=a_ (kb_ hk BK185.out NB185_0.out);replace HO194:=a_ (Kd.R_mono (Kd.R_keep (IsS145.apart (show IsS145 w0 _ g s0_0 t190 from is_HI0) (rp_ HO194.out) (by decide)) hk (fun _ h=>h.2)) (fun _ h=>h.1));replace HK:=a_ (KeepBut.trans (kf_ HK.out) hk (.inl rfl));replace HB:=a_ (hb);replace HI0:=a_ (hi);(try clear hb hk hi)))
       go_meet
       case rel=>exact ⟨_,((t195==0)),(t196),(si_),H',⟨by first|omega|exact Nat.le_refl _⟩,⟨by (with_reducible repeat (first|apply Kd.R_alloc|apply Kd.R_drewN|apply Kd.R_drew));exact HO194.out⟩,⟨by (with_reducible repeat (first|refine bN_ ?_ _|refine bD_ ?_|refine bA_ ?_ _));exact BK185.out⟩,⟨is_HI0⟩,⟨kf_ HK.out⟩,⟨bel_⟩⟩
      ·rw [if_neg c17] at H
       have c17b0:decide (0 < (t192.length:Int))=false:=df_ c17
       have c17b1:decide (0 < t192.length)=false:=df_ (by omega)
       clear c17
       (first|rw [c17b0]|(simp only [i64_w,i32_w];rw [c17b0])|skip)
       have H':=a_ H
       clear H
       obtain ⟨Ao21,co21,eo21⟩:=Kd.R_slice HO194.out
       subst eo21
       go_wp2
       go_meet
       case rel=>exact ⟨_,(false),(t190),(si_),H',⟨by first|omega|exact Nat.le_refl _⟩,⟨by (with_reducible repeat (first|apply Kd.R_alloc|apply Kd.R_drewN|apply Kd.R_drew));exact HO194.out⟩,⟨by (with_reducible repeat (first|refine bN_ ?_ _|refine bD_ ?_|refine bA_ ?_ _));exact BK185.out⟩,⟨is_HI0⟩,⟨kf_ HK.out⟩,⟨bel_⟩⟩
     case rest =>
      clear HC12
      try clear c1
      try clear p1
      try clear q1
      try clear hx1
      try clear p2
      try clear c6
      try clear c6b0
      try clear c7
      try clear c7b0
      try clear c9
      try clear c9b0
      try clear c10
      try clear c10b0
      try clear c12
      try clear c14
      try clear c17
      try clear c17b0
      try clear c17b1
      try clear p18
      try clear q18
      try clear hx18
      try clear p19
      try clear q19
      try clear hx19
      try clear hx188_0
      try clear hx188_1
      try clear hx188_2
      try clear hx191_0
      try clear hx191_1
      try clear hx191_2
      try clear p188
      try clear p191
      try clear q188
      try clear q191
      obtain ⟨kq,x40_11,x1001_11,rfl,HA,HJ11,HO_11,BK185,HI0,HK,HB⟩:=hcut
      cases kq with
      | zero=>exact absurd HA.out (by simp [spec_l72Op.j0])
      | succ kj11 =>
       have H:=HA.out
       clear HA
       simp only [spec_l72Op.j0] at H
       have HC22:=a_ H
       clear H
       go_upto_if 40 with (fail)
       go_cut [12] (fun v12 wc=>∃ (kq:Nat) (x12_21:Int) (x1001_21:Int),v12=.int .i64 x12_21∧Aside0 (spec_l72Op.j1 kq a2 a3 ((rd_T69 l1 t186).f0) ((rd_T69 l1 t189).f0) x12_21 s0_0 x1001_21=some (r1,r2,r3,r4,r5,r6))∧Aside0 (kq≤kj11)∧Aside0 (wc.heap[gb185]?=some (.cells #[.int .i64 0,.int .i64 0,.int .i64 0,.int .i64 0,.string (⟨#[]⟩:ByteArray)] 42 (0,0)))∧Aside0 (IsS145 w0 wc g s0_0 x1001_21)∧Aside0 (KeepBut w wc g none)∧Aside0 (Below w0.heap.size w0 wc))
       case first =>
        have H:=HC22.out
        clear HC22
        by_cases c23:x40_11=true
        ·subst c23
         have H1:((spec_l6Rd_pick.f kj11 s0_0 x1001_11 (t192.length:Int)).bind fun bt197=>(if 0≤bt197.1 then (if bt197.1 < (t192.length:Int) then (spec_l72Op.j1 kj11 a2 a3 ((rd_T69 l1 t186).f0) ((rd_T69 l1 t189).f0) (rd t192 bt197.1) s0_0 bt197.2) else (none)) else (none)))=some (r1,r2,r3,r4,r5,r6):=by rw [if_pos rfl] at H;exact H
         clear H
         have H:=H1
         clear H1
         replace H:=bs_ H
         obtain ⟨⟨t197,t198⟩,A240,H⟩:=H
         try dsimp only at H
         have A24:=a_ A240
         clear A240
         by_cases c25:0≤t197
         ·rw [if_pos c25] at H
          have c25b0:decide (0≤t197)=true:=dt_ c25
          clear c25
          (first|rw [c25b0]|(simp only [i64_w,i32_w];rw [c25b0])|skip)
          by_cases c26:t197 < (t192.length:Int)
          ·rw [if_pos c26] at H
           have c26b0:decide (t197 < (t192.length:Int))=true:=dt_ c26
           clear c26
           have H':=a_ H
           clear H
           obtain ⟨Ao27,co27,eo27⟩:=Kd.R_slice HO_11.out
           subst eo27
           go_wp2_with (first|((with_reducible refine gC_ (f:=74) rfl ?_);refine gl_ 45 Tryd.func74 #[.pointer (some ⟨g,0,none⟩),.int .i64 (t192.length:Int)] ?_;(with_reducible refine (spec_l6Rd_pick.calls kj11 g s0_0 x1001_11 (t192.length:Int) t197 t198 w0 _ ?side1 ?side2 A24.out).mono ?_);(case side1=>exact is_HI0);(case side2=>exact bel_);rintro e w28 ⟨rfl,hi,hb,hk⟩;refine ⟨_,rfl,?_⟩;replace HO_11:=a_ (Kd.R_mono (Kd.R_keep (IsS145.apart (show IsS145 w0 _ g s0_0 x1001_11 from is_HI0) (rp_ HO_11.out) (by decide)) hk (fun _ h=>h.2)) (fun _ h=>h.1));replace BK185:=a_ (kb_ hk BK185.out NB185_0.out);replace HK:=a_ (KeepBut.trans (kf_ HK.out) hk (.inl rfl));replace HB:=a_ (hb);replace HI0:=a_ (hi);(try clear hb hk hi);have p199:0≤(t197:Int):=od_;have q199:t197 < (t192.length:Int):=od_;obtain ⟨ad199,e199,hx199_0⟩:=Kd.at_int (Kd.R_reads' HO_11.out).2.2 t197 p199 q199;cases e199;replace p199:=eq_true p199;replace q199:=eq_true q199))
           go_meet
           case rel=>exact ⟨_,(rd t192 t197),(t198),(si_),H',⟨by have:=HJ11.out;first|omega|exact Nat.le_refl _⟩,⟨by (with_reducible repeat (first|refine bN_ ?_ _|refine bD_ ?_|refine bA_ ?_ _));exact BK185.out⟩,⟨is_HI0⟩,⟨kf_ HK.out⟩,⟨bel_⟩⟩
          ·rw [if_neg c26] at H
           exact absurd H (by simp)
         ·rw [if_neg c25] at H
          exact absurd H (by simp)
        ·replace c23:=Bool.eq_false_iff.mpr c23
         subst c23
         have H1:(spec_l72Op.j1 kj11 a2 a3 ((rd_T69 l1 t186).f0) ((rd_T69 l1 t189).f0) 0 s0_0 x1001_11)=some (r1,r2,r3,r4,r5,r6):=by rw [if_neg (show ¬ (false=true) by decide)] at H;exact H
         clear H
         have H:=H1
         clear H1
         have H':=a_ H
         clear H
         go_wp2
         go_meet
         case rel=>exact ⟨_,(0),(x1001_11),(si_),H',⟨by have:=HJ11.out;first|omega|exact Nat.le_refl _⟩,⟨by (with_reducible repeat (first|refine bN_ ?_ _|refine bD_ ?_|refine bA_ ?_ _));exact BK185.out⟩,⟨is_HI0⟩,⟨kf_ HK.out⟩,⟨bel_⟩⟩
       case rest =>
        clear HC22
        try clear c1
        try clear p1
        try clear q1
        try clear hx1
        try clear c2
        try clear p2
        try clear c6
        try clear c6b0
        try clear c7
        try clear c7b0
        try clear c9
        try clear c9b0
        try clear c10
        try clear c10b0
        try clear c12
        try clear c14
        try clear c17
        try clear c17b0
        try clear c17b1
        try clear p18
        try clear q18
        try clear hx18
        try clear p19
        try clear q19
        try clear hx19
        try clear c23
        try clear c25
        try clear c25b0
        try clear c26
        try clear c26b0
        try clear hx188_0
        try clear hx188_1
        try clear hx188_2
        try clear hx191_0
        try clear hx191_1
        try clear hx191_2
        try clear hx199_0
        try clear p1
        try clear p18
        try clear p188
        try clear p19
        try clear p191
        try clear p199
        try clear p2
        try clear q1
        try clear q18
        try clear q188
        try clear q19
        try clear q191
        try clear q199
        obtain ⟨kq,x12_21,x1001_21,rfl,HA,HJ21,BK185,HI0,HK,HB⟩:=hcut
        cases kq with
        | zero=>exact absurd HA.out (by simp [spec_l72Op.j1])
        | succ kj21 =>
         have H:=HA.out
         clear HA
         simp only [spec_l72Op.j1] at H
         replace H:=bs_ H
         obtain ⟨⟨t200,t201⟩,A290,H⟩:=H
         try dsimp only at H
         have A29:=a_ A290
         clear A290
         replace H:=bs_ H
         obtain ⟨t202,A300,H⟩:=H
         try dsimp only at H
         have A30:=a_ A300
         clear A300
         have HC31:=a_ H
         clear H
         go_upto_if 52 with (first|((with_reducible refine gC_ (f:=136) rfl ?_);refine gl_ 49 Tryd.func136 #[.pointer (some ⟨g,0,none⟩)] ?_;(with_reducible refine (spec_l71Text.calls kj21 g s0_0 x1001_21 t200 t201 w0 _ ?side1 ?side2 A29.out).mono ?_);(case side1=>exact is_HI0);(case side2=>exact bel_);rintro e w32 ⟨rfl,hi,hb,hk⟩;refine ⟨_,rfl,?_⟩;replace BK185:=a_ (kb_ hk BK185.out NB185_0.out);replace HK:=a_ (KeepBut.trans (kf_ HK.out) hk (.inl rfl));replace HB:=a_ (hb);replace HI0:=a_ (hi);(try clear hb hk hi))|((with_reducible refine gC_ (f:=121) rfl ?_);refine gl_ 51 Tryd.func121 #[.string t200] ?_;(with_reducible refine (spec_l1Text.calls kj21 t200 t202 _ A30.out).mono ?_);rintro e w' ⟨rfl,⟨nd,rfl⟩⟩;refine ⟨_,rfl,?_⟩))
         (try simp only [Act.put,List.setIfInBounds_toArray,List.set_cons_zero,List.set_cons_succ])
         go_cut [13] (fun v13 wc=>∃ (kq:Nat) (x13_30:ByteArray),v13=.string x13_30∧Aside0 (spec_l72Op.j2 kq a2 a3 ((rd_T69 l1 t186).f0) ((rd_T69 l1 t189).f0) x12_21 x13_30 s0_0 t201=some (r1,r2,r3,r4,r5,r6))∧Aside0 (kq≤kj21)∧Aside0 (wc.heap[gb185]?=some (.cells #[.int .i64 0,.int .i64 0,.int .i64 0,.int .i64 0,.string (⟨#[]⟩:ByteArray)] 42 (0,0)))∧Aside0 (IsS145 w0 wc g s0_0 t201)∧Aside0 (KeepBut w wc g none)∧Aside0 (Below w0.heap.size w0 wc))
         case first =>
          have H:=HC31.out
          clear HC31
          by_cases c33:t202=true
          ·subst c33
           have H1:(spec_l72Op.j2 kj21 a2 a3 ((rd_T69 l1 t186).f0) ((rd_T69 l1 t189).f0) x12_21 t200 s0_0 t201)=some (r1,r2,r3,r4,r5,r6):=by rw [if_pos rfl] at H;exact H
           clear H
           have H:=H1
           clear H1
           have H':=a_ H
           clear H
           go_wp2
           go_meet
           case rel=>exact ⟨_,(t200),(si_),H',⟨by have:=HJ11.out;have:=HJ21.out;first|omega|exact Nat.le_refl _⟩,⟨by (with_reducible repeat (first|refine bN_ ?_ _|refine bD_ ?_|refine bA_ ?_ _));exact BK185.out⟩,⟨is_HI0⟩,⟨kf_ HK.out⟩,⟨bel_⟩⟩
          ·replace c33:=Bool.eq_false_iff.mpr c33
           subst c33
           have H1:(spec_l72Op.j2 kj21 a2 a3 ((rd_T69 l1 t186).f0) ((rd_T69 l1 t189).f0) x12_21 (⟨#[97]⟩:ByteArray) s0_0 t201)=some (r1,r2,r3,r4,r5,r6):=by rw [if_neg (show ¬ (false=true) by decide)] at H;exact H
           clear H
           have H:=H1
           clear H1
           have H':=a_ H
           clear H
           go_wp2
           go_meet
           case rel=>exact ⟨_,((⟨#[97]⟩:ByteArray)),(si_),H',⟨by have:=HJ11.out;have:=HJ21.out;first|omega|exact Nat.le_refl _⟩,⟨by (with_reducible repeat (first|refine bN_ ?_ _|refine bD_ ?_|refine bA_ ?_ _));exact BK185.out⟩,⟨is_HI0⟩,⟨kf_ HK.out⟩,⟨bel_⟩⟩
         case rest =>
          clear HC31
          try clear c1
          try clear p1
          try clear q1
          try clear hx1
          try clear c2
          try clear p2
          try clear c3
          try clear c6
          try clear c6b0
          try clear c7
          try clear c7b0
          try clear c9
          try clear c9b0
          try clear c10
          try clear c10b0
          try clear c12
          try clear c13
          try clear c14
          try clear c17
          try clear c17b0
          try clear c17b1
          try clear p18
          try clear q18
          try clear hx18
          try clear p19
          try clear q19
          try clear hx19
          try clear c23
          try clear c25
          try clear c25b0
          try clear c26
          try clear c26b0
          try clear c33
          try clear hx188_0
          try clear hx188_1
          try clear hx188_2
          try clear hx191_0
          try clear hx191_1
          try clear hx191_2
          try clear hx199_0
          try clear p1
          try clear p18
          try clear p188
          try clear p19
          try clear p191
          try clear p199
          try clear p2
          try clear q1
          try clear q18
          try clear q188
          try clear q19
          try clear q191
          try clear q199
          obtain ⟨kq,x13_30,rfl,HA,HJ30,BK185,HI0,HK,HB⟩:=hcut
          cases kq with
          | zero=>exact absurd HA.out (by simp [spec_l72Op.j2])
          | succ kj30 =>
           have H:=HA.out
           clear HA
           simp only [spec_l72Op.j2] at H
           replace H:=bs_ H
           obtain ⟨⟨t203,t204⟩,A340,H⟩:=H
           try dsimp only at H
           have A34:=a_ A340
           clear A340
           have HC35:=a_ H
           clear H
           go_upto_if 55 with (first|((with_reducible refine gC_ (f:=74) rfl ?_);refine gl_ 54 Tryd.func74 #[.pointer (some ⟨g,0,none⟩),.int .i64 6] ?_;(with_reducible refine (spec_l6Rd_pick.calls kj30 g s0_0 t201 6 t203 t204 w0 _ ?side1 ?side2 A34.out).mono ?_);(case side1=>exact is_HI0);(case side2=>exact bel_);rintro e w36 ⟨rfl,hi,hb,hk⟩;refine ⟨_,rfl,?_⟩;replace BK185:=a_ (kb_ hk BK185.out NB185_0.out);replace HK:=a_ (KeepBut.trans (kf_ HK.out) hk (.inl rfl));replace HB:=a_ (hb);replace HI0:=a_ (hi);(try clear hb hk hi)))
           (try simp only [Act.put,List.setIfInBounds_toArray,List.set_cons_zero,List.set_cons_succ])
           go_cut [10] (fun v10 wc=>∃ (kq:Nat) (x10_34:Int) (x1001_34:Int),v10=.int .i64 x10_34∧Aside0 (spec_l72Op.j3 kq a2 a3 ((rd_T69 l1 t186).f0) x10_34 x12_21 x13_30 s0_0 x1001_34=some (r1,r2,r3,r4,r5,r6))∧Aside0 (kq≤kj30)∧Aside0 (wc.heap[gb185]?=some (.cells #[.int .i64 0,.int .i64 0,.int .i64 0,.int .i64 0,.string (⟨#[]⟩:ByteArray)] 42 (0,0)))∧Aside0 (IsS145 w0 wc g s0_0 x1001_34)∧Aside0 (KeepBut w wc g none)∧Aside0 (Below w0.heap.size w0 wc))
           case first =>
            have H:=HC35.out
            clear HC35
            by_cases c37:t203=0
            ·rw [if_pos c37] at H
             have c37b0:(t203==0)=true:=beq_iff_eq.mpr c37
             have c37b1:(t203 != 0)=false:=be_ c37
             clear c37
             (first|rw [c37b0]|(simp only [i64_w,i32_w];rw [c37b0])|skip)
             replace H:=bs_ H
             obtain ⟨⟨t205,t206⟩,A380,H⟩:=H
             try dsimp only at H
             have A38:=a_ A380
             clear A380
             have H':=a_ H
             clear H
             go_wp2_with (first|((with_reducible refine gC_ (f:=135) rfl ?_);refine gl_ 57 Tryd.func135 #[.pointer (some ⟨g,0,none⟩)] ?_;(with_reducible refine (spec_l71Id.calls kj30 g s0_0 t204 t205 t206 w0 _ ?side1 ?side2 A38.out).mono ?_);(case side1=>exact is_HI0);(case side2=>exact bel_);rintro e w39 ⟨rfl,hi,hb,hk⟩;refine ⟨_,rfl,?_⟩;replace BK185:=a_ (kb_ hk BK185.out NB185_0.out);replace HK:=a_ (KeepBut.trans (kf_ HK.out) hk (.inl rfl));replace HB:=a_ (hb);replace HI0:=a_ (hi);(try clear hb hk hi)))
             go_meet
             case rel=>exact ⟨_,(t205),(t206),(si_),H',⟨by have:=HJ11.out;have:=HJ21.out;have:=HJ30.out;first|omega|exact Nat.le_refl _⟩,⟨by (with_reducible repeat (first|refine bN_ ?_ _|refine bD_ ?_|refine bA_ ?_ _));exact BK185.out⟩,⟨is_HI0⟩,⟨kf_ HK.out⟩,⟨bel_⟩⟩
            ·rw [if_neg c37] at H
             have c37b0:(t203==0)=false:=bn_ c37
             have c37b1:(t203 != 0)=true:=bne_iff_ne.mpr c37
             (first|rw [c37b0]|(simp only [i64_w,i32_w];rw [c37b0])|skip)
             have H':=a_ H
             clear H
             go_wp2
             go_meet
             case rel=>exact ⟨_,(((rd_T69 l1 t189).f0)),(t204),(si_),H',⟨by have:=HJ11.out;have:=HJ21.out;have:=HJ30.out;first|omega|exact Nat.le_refl _⟩,⟨by (with_reducible repeat (first|refine bN_ ?_ _|refine bD_ ?_|refine bA_ ?_ _));exact BK185.out⟩,⟨is_HI0⟩,⟨kf_ HK.out⟩,⟨bel_⟩⟩
           case rest =>
            clear HC35
            try clear c1
            try clear p1
            try clear q1
            try clear hx1
            try clear c2
            try clear p2
            try clear c3
            try clear c6
            try clear c6b0
            try clear c7
            try clear c7b0
            try clear c9
            try clear c9b0
            try clear c10
            try clear c10b0
            try clear c12
            try clear c13
            try clear c14
            try clear c17
            try clear c17b0
            try clear c17b1
            try clear p18
            try clear q18
            try clear hx18
            try clear p19
            try clear q19
            try clear hx19
            try clear c23
            try clear c25
            try clear c25b0
            try clear c26
            try clear c26b0
            try clear c33
            try clear c37
            try clear c37b0
            try clear c37b1
            try clear hx188_0
            try clear hx188_1
            try clear hx188_2
            try clear hx191_0
            try clear hx191_1
            try clear hx191_2
            try clear hx199_0
            try clear p1
            try clear p18
            try clear p188
            try clear p19
            try clear p191
            try clear p199
            try clear p2
            try clear q1
            try clear q18
            try clear q188
            try clear q19
            try clear q191
            try clear q199
            obtain ⟨kq,x10_34,x1001_34,rfl,HA,HJ34,BK185,HI0,HK,HB⟩:=hcut
            cases kq with
            | zero=>exact absurd HA.out (by simp [spec_l72Op.j3])
            | succ kj34 =>
             have H:=HA.out
             clear HA
             simp only [spec_l72Op.j3] at H
             have HC40:=a_ H
             clear H
             go_upto_region 12 with (fail)
             go_cut [69] (fun v69 wc=>∃ (kq:Nat) (x69_39:Bool) (x1001_39:Int),v69=.bool x69_39∧Aside0 (spec_l72Op.j4 kq a2 a3 ((rd_T69 l1 t186).f0) x10_34 x12_21 x13_30 x69_39 s0_0 x1001_39=some (r1,r2,r3,r4,r5,r6))∧Aside0 (kq≤kj34)∧Aside0 (wc.heap[gb185]?=some (.cells #[.int .i64 0,.int .i64 0,.int .i64 0,.int .i64 0,.string (⟨#[]⟩:ByteArray)] 42 (0,0)))∧Aside0 (IsS145 w0 wc g s0_0 x1001_39)∧Aside0 (KeepBut w wc g none)∧Aside0 (Below w0.heap.size w0 wc))
             case first =>
              have H:=HC40.out
              clear HC40
              by_cases c41:a3 < 6
              ·rw [if_pos c41] at H
               have c41b0:decide (a3 < 6)=true:=dt_ c41
               clear c41
               (first|rw [c41b0]|(simp only [i64_w,i32_w];rw [c41b0])|skip)
               replace H:=bs_ H
               obtain ⟨⟨t207,t208⟩,A420,H⟩:=H
               try dsimp only at H
               have A42:=a_ A420
               clear A420
               by_cases c43:t207=0
               ·rw [if_pos c43] at H
                have c43b0:(t207==0)=true:=beq_iff_eq.mpr c43
                have c43b1:(t207 != 0)=false:=be_ c43
                clear c43
                have H':=a_ H
                clear H
                go_wp2_with (first|(go_at_call 74;(with_reducible refine (spec_l6Rd_pick.calls kj34 g s0_0 x1001_34 3 t207 t208 w0 _ ?side1 ?side2 A42.out).mono ?_);(case side1=>exact is_HI0);(case side2=>exact bel_);rintro e w44 ⟨rfl,hi,hb,hk⟩;replace BK185:=a_ (kb_ hk BK185.out NB185_0.out);replace HK:=a_ (KeepBut.trans (kf_ HK.out) hk (.inl rfl));replace HB:=a_ (hb);replace HI0:=a_ (hi);(try clear hb hk hi)))
                go_meet
                case rel=>exact ⟨_,(true),(t208),(si_),H',⟨by have:=HJ11.out;have:=HJ21.out;have:=HJ30.out;have:=HJ34.out;first|omega|exact Nat.le_refl _⟩,⟨by (with_reducible repeat (first|refine bN_ ?_ _|refine bD_ ?_|refine bA_ ?_ _));exact BK185.out⟩,⟨is_HI0⟩,⟨kf_ HK.out⟩,⟨bel_⟩⟩
               ·rw [if_neg c43] at H
                have c43b0:(t207==0)=false:=bn_ c43
                have c43b1:(t207 != 0)=true:=bne_iff_ne.mpr c43
                replace H:=bs_ H
                obtain ⟨t209,A450,H⟩:=H
                try dsimp only at H
                have A45:=a_ A450
                clear A450
                have H':=a_ H
                clear H
                go_wp2_with (first|(go_at_call 74;(with_reducible refine (spec_l6Rd_pick.calls kj34 g s0_0 x1001_34 3 t207 t208 w0 _ ?side1 ?side2 A42.out).mono ?_);(case side1=>exact is_HI0);(case side2=>exact bel_);rintro e w46 ⟨rfl,hi,hb,hk⟩;replace BK185:=a_ (kb_ hk BK185.out NB185_0.out);replace HK:=a_ (KeepBut.trans (kf_ HK.out) hk (.inl rfl));replace HB:=a_ (hb);replace HI0:=a_ (hi);(try clear hb hk hi))|(go_at_call 120;(with_reducible refine (spec_l1Made.calls ((rd_T69 l1 t186).f0) t209 _ A45.out).mono ?_);rintro e w' ⟨rfl,⟨nd,rfl⟩⟩))
                go_meet
                case rel=>exact ⟨_,(!t209),(t208),(si_),H',⟨by have:=HJ11.out;have:=HJ21.out;have:=HJ30.out;have:=HJ34.out;first|omega|exact Nat.le_refl _⟩,⟨by (with_reducible repeat (first|refine bN_ ?_ _|refine bD_ ?_|refine bA_ ?_ _));exact BK185.out⟩,⟨is_HI0⟩,⟨kf_ HK.out⟩,⟨bel_⟩⟩
              ·rw [if_neg c41] at H
               have c41b0:decide (a3 < 6)=false:=df_ c41
               clear c41
               (first|rw [c41b0]|(simp only [i64_w,i32_w];rw [c41b0])|skip)
               have H':=a_ H
               clear H
               go_wp2
               go_meet
               case rel=>exact ⟨_,(false),(x1001_34),(si_),H',⟨by have:=HJ11.out;have:=HJ21.out;have:=HJ30.out;have:=HJ34.out;first|omega|exact Nat.le_refl _⟩,⟨by (with_reducible repeat (first|refine bN_ ?_ _|refine bD_ ?_|refine bA_ ?_ _));exact BK185.out⟩,⟨is_HI0⟩,⟨kf_ HK.out⟩,⟨bel_⟩⟩
             case rest =>
              clear HC40
              try clear c1
              try clear p1
              try clear q1
              try clear hx1
              try clear c2
              try clear p2
              try clear c3
              try clear c4
              try clear c6
              try clear c6b0
              try clear c7
              try clear c7b0
              try clear c9
              try clear c9b0
              try clear c10
              try clear c10b0
              try clear c12
              try clear c13
              try clear c14
              try clear c17
              try clear c17b0
              try clear c17b1
              try clear p18
              try clear q18
              try clear hx18
              try clear p19
              try clear q19
              try clear hx19
              try clear c23
              try clear c25
              try clear c25b0
              try clear c26
              try clear c26b0
              try clear c33
              try clear c37
              try clear c37b0
              try clear c37b1
              try clear c41
              try clear c41b0
              try clear c43
              try clear c43b0
              try clear c43b1
              try clear hx188_0
              try clear hx188_1
              try clear hx188_2
              try clear hx191_0
              try clear hx191_1
              try clear hx191_2
              try clear hx199_0
              try clear p1
              try clear p18
              try clear p188
              try clear p19
              try clear p191
              try clear p199
              try clear p2
              try clear q1
              try clear q18
              try clear q188
              try clear q19
              try clear q191
              try clear q199
              obtain ⟨kq,x69_39,x1001_39,rfl,HA,HJ39,BK185,HI0,HK,HB⟩:=hcut
              cases kq with
              | zero=>exact absurd HA.out (by simp [spec_l72Op.j4])
              | succ kj39 =>
               have H:=HA.out
               clear HA
               simp only [spec_l72Op.j4] at H
               by_cases c47:x69_39=true
               ·subst c47
                have H1:((spec_RowMade.f a2 (wrap64 (a3+1))).bind fun t210=>(some (1,t210,x10_34,x12_21,x13_30,x1001_39)))=some (r1,r2,r3,r4,r5,r6):=by rw [if_pos rfl] at H;exact H
                clear H
                have H:=H1
                clear H1
                replace H:=bs_ H
                obtain ⟨t210,A480,H⟩:=H
                try dsimp only at H
                have A48:=a_ A480
                clear A480
                simp only [Option.some.injEq,Prod.mk.injEq] at H
                obtain ⟨rfl,rfl,rfl,rfl,rfl,rfl⟩:=H
                go_wp2_with (first|((with_reducible refine gC_ (f:=143) rfl ?_);refine gl_ 73 Tryd.func143 #[.int .i64 a2,.int .i64 (wrap64 (a3+1))] ?_;(with_reducible refine (spec_RowMade.calls a2 (wrap64 (a3+1)) t210 _ A48.out).mono ?_);rintro e w' ⟨rfl,⟨nd,rfl⟩⟩;refine ⟨_,rfl,?_⟩;(try (rw [drewN_self wc];generalize hq_:World.drewN wc _=wc;have n0_:Aside0 (wc.heap[gb185]?=some (.cells #[.int .i64 0,.int .i64 0,.int .i64 0,.int .i64 0,.string (⟨#[]⟩:ByteArray)] 42 (0,0))):=⟨by rw [←hq_];exact (bp_ BK185.out)⟩;have n1_:Aside0 (IsS145 w0 wc g s0_0 x1001_39):=⟨by rw [←hq_];exact (is_HI0)⟩;have n2_:Aside0 (KeepBut w wc g none):=⟨by rw [←hq_];exact (kf_ HK.out)⟩;have n3_:Aside0 (Below w0.heap.size w0 wc):=⟨by rw [←hq_];exact (bel_)⟩;clear BK185 HI0 HK HB hq_;have BK185:=n0_;have HI0:=n1_;have HK:=n2_;have HB:=n3_;clear n0_ n1_ n2_ n3_));have hnb49:=NB185_0.out;have hnc49:=NB0_185.out;obtain ⟨Z50_0,Z50_1,Z50_2,Z50_3,Z50_4,Y50_0,Y50_1,Y50_2,Y50_3,Y50_4⟩:=op5_ BK185.out))
                refine bodyPost_ret (results_cell_row rfl _ _ gb185 42 #[.int .i64 1,.int .i64 t210,.int .i64 x10_34,.int .i64 x12_21,.string x13_30] (0,0) _ rfl (by (with_reducible repeat (first|refine bN_ ?_ _|refine bD_ ?_|refine bA_ ?_ _));exact bk5_ (bp_ BK185.out)) Tryd.underlying42 rfl (by kernel_rfl)) rfl ?_
                exact ⟨fi_,is_HI0,bel_,kf_ HK.out⟩
               ·replace c47:=Bool.eq_false_iff.mpr c47
                subst c47
                have H1:((spec_l1Made.f ((rd_T69 l1 t186).f0)).bind fun t211=>(if t211=true then ((spec_l6Rd_pick.f kj39 s0_0 x1001_39 3).bind fun bt212=>(if bt212.1=0 then (some (2,((rd_T69 l1 t186).f0),0,0,x13_30,bt212.2)) else (some (3,((rd_T69 l1 t186).f0),x10_34,x12_21,(⟨#[]⟩:ByteArray),bt212.2)))) else ((spec_l71Id.f kj39 s0_0 x1001_39).bind fun bt214=>((spec_l6Rd_pick.f kj39 s0_0 bt214.2 3).bind fun bt216=>(if bt216.1=0 then (some (2,bt214.1,0,0,x13_30,bt216.2)) else (some (3,bt214.1,x10_34,x12_21,(⟨#[]⟩:ByteArray),bt216.2)))))))=some (r1,r2,r3,r4,r5,r6):=by rw [if_neg (show ¬ (false=true) by decide)] at H;exact H
                clear H
                have H:=H1
                clear H1
                replace H:=bs_ H
                obtain ⟨t211,A510,H⟩:=H
                try dsimp only at H
                have A51:=a_ A510
                clear A510
                by_cases c52:t211=true
                ·subst c52
                 have H1:((spec_l6Rd_pick.f kj39 s0_0 x1001_39 3).bind fun bt212=>(if bt212.1=0 then (some (2,((rd_T69 l1 t186).f0),0,0,x13_30,bt212.2)) else (some (3,((rd_T69 l1 t186).f0),x10_34,x12_21,(⟨#[]⟩:ByteArray),bt212.2))))=some (r1,r2,r3,r4,r5,r6):=by rw [if_pos rfl] at H;exact H
                 clear H
                 have H:=H1
                 clear H1
                 replace H:=bs_ H
                 obtain ⟨⟨t212,t213⟩,A530,H⟩:=H
                 try dsimp only at H
                 have A53:=a_ A530
                 clear A530
                 by_cases c54:t212=0
                 ·rw [if_pos c54] at H
                  have c54b0:(t212==0)=true:=beq_iff_eq.mpr c54
                  have c54b1:(t212 != 0)=false:=be_ c54
                  clear c54
                  simp only [Option.some.injEq,Prod.mk.injEq] at H
                  obtain ⟨rfl,rfl,rfl,rfl,rfl,rfl⟩:=H
                  go_wp2_with (first|((with_reducible refine gC_ (f:=120) rfl ?_);refine gl_ 79 Tryd.func120 #[.int .i64 ((rd_T69 l1 t186).f0)] ?_;(with_reducible refine (spec_l1Made.calls ((rd_T69 l1 t186).f0) true _ A51.out).mono ?_);rintro e w' ⟨rfl,⟨nd,rfl⟩⟩;refine ⟨_,rfl,?_⟩;(try (rw [drewN_self wc];generalize hq_:World.drewN wc _=wc;have n0_:Aside0 (wc.heap[gb185]?=some (.cells #[.int .i64 0,.int .i64 0,.int .i64 0,.int .i64 0,.string (⟨#[]⟩:ByteArray)] 42 (0,0))):=⟨by rw [←hq_];exact (bp_ BK185.out)⟩;have n1_:Aside0 (IsS145 w0 wc g s0_0 x1001_39):=⟨by rw [←hq_];exact (is_HI0)⟩;have n2_:Aside0 (KeepBut w wc g none):=⟨by rw [←hq_];exact (kf_ HK.out)⟩;have n3_:Aside0 (Below w0.heap.size w0 wc):=⟨by rw [←hq_];exact (bel_)⟩;clear BK185 HI0 HK HB hq_;have BK185:=n0_;have HI0:=n1_;have HK:=n2_;have HB:=n3_;clear n0_ n1_ n2_ n3_)))|((with_reducible refine gC_ (f:=74) rfl ?_);refine gl_ 84 Tryd.func74 #[.pointer (some ⟨g,0,none⟩),.int .i64 3] ?_;(with_reducible refine (spec_l6Rd_pick.calls kj39 g s0_0 x1001_39 3 t212 t213 w0 _ ?side1 ?side2 A53.out).mono ?_);(case side1=>exact is_HI0);(case side2=>exact bel_);rintro e w55 ⟨rfl,hi,hb,hk⟩;refine ⟨_,rfl,?_⟩;replace BK185:=a_ (kb_ hk BK185.out NB185_0.out);replace HK:=a_ (KeepBut.trans (kf_ HK.out) hk (.inl rfl));replace HB:=a_ (hb);replace HI0:=a_ (hi);(try clear hb hk hi);have hnb56:=NB185_0.out;have hnc56:=NB0_185.out;obtain ⟨Z57_0,Z57_1,Z57_2,Z57_3,Z57_4,Y57_0,Y57_1,Y57_2,Y57_3,Y57_4⟩:=op5_ BK185.out))
                  refine bodyPost_ret (results_cell_row rfl _ _ gb185 42 #[.int .i64 2,.int .i64 ((rd_T69 l1 t186).f0),.int .i64 0,.int .i64 0,.string x13_30] (0,0) _ rfl (by (with_reducible repeat (first|refine bN_ ?_ _|refine bD_ ?_|refine bA_ ?_ _));exact bk5_ (bp_ BK185.out)) Tryd.underlying42 rfl (by kernel_rfl)) rfl ?_
                  exact ⟨fi_,is_HI0,bel_,kf_ HK.out⟩
                 ·rw [if_neg c54] at H
                  have c54b0:(t212==0)=false:=bn_ c54
                  have c54b1:(t212 != 0)=true:=bne_iff_ne.mpr c54
                  simp only [Option.some.injEq,Prod.mk.injEq] at H
                  obtain ⟨rfl,rfl,rfl,rfl,rfl,rfl⟩:=H
                  go_wp2_with (first|((with_reducible refine gC_ (f:=120) rfl ?_);refine gl_ 79 Tryd.func120 #[.int .i64 ((rd_T69 l1 t186).f0)] ?_;(with_reducible refine (spec_l1Made.calls ((rd_T69 l1 t186).f0) true _ A51.out).mono ?_);rintro e w' ⟨rfl,⟨nd,rfl⟩⟩;refine ⟨_,rfl,?_⟩;(try (rw [drewN_self wc];generalize hq_:World.drewN wc _=wc;have n0_:Aside0 (wc.heap[gb185]?=some (.cells #[.int .i64 0,.int .i64 0,.int .i64 0,.int .i64 0,.string (⟨#[]⟩:ByteArray)] 42 (0,0))):=⟨by rw [←hq_];exact (bp_ BK185.out)⟩;have n1_:Aside0 (IsS145 w0 wc g s0_0 x1001_39):=⟨by rw [←hq_];exact (is_HI0)⟩;have n2_:Aside0 (KeepBut w wc g none):=⟨by rw [←hq_];exact (kf_ HK.out)⟩;have n3_:Aside0 (Below w0.heap.size w0 wc):=⟨by rw [←hq_];exact (bel_)⟩;clear BK185 HI0 HK HB hq_;have BK185:=n0_;have HI0:=n1_;have HK:=n2_;have HB:=n3_;clear n0_ n1_ n2_ n3_)))|((with_reducible refine gC_ (f:=74) rfl ?_);refine gl_ 84 Tryd.func74 #[.pointer (some ⟨g,0,none⟩),.int .i64 3] ?_;(with_reducible refine (spec_l6Rd_pick.calls kj39 g s0_0 x1001_39 3 t212 t213 w0 _ ?side1 ?side2 A53.out).mono ?_);(case side1=>exact is_HI0);(case side2=>exact bel_);rintro e w58 ⟨rfl,hi,hb,hk⟩;refine ⟨_,rfl,?_⟩;replace BK185:=a_ (kb_ hk BK185.out NB185_0.out);replace HK:=a_ (KeepBut.trans (kf_ HK.out) hk (.inl rfl));replace HB:=a_ (hb);replace HI0:=a_ (hi);(try clear hb hk hi);have hnb59:=NB185_0.out;have hnc59:=NB0_185.out;obtain ⟨Z60_0,Z60_1,Z60_2,Z60_3,Z60_4,Y60_0,Y60_1,Y60_2,Y60_3,Y60_4⟩:=op5_ BK185.out))
                  refine bodyPost_ret (results_cell_row rfl _ _ gb185 42 #[.int .i64 3,.int .i64 ((rd_T69 l1 t186).f0),.int .i64 x10_34,.int .i64 x12_21,.string (⟨#[]⟩:ByteArray)] (0,0) _ rfl (by (with_reducible repeat (first|refine bN_ ?_ _|refine bD_ ?_|refine bA_ ?_ _));exact bk5_ (bp_ BK185.out)) Tryd.underlying42 rfl (by kernel_rfl)) rfl ?_
                  exact ⟨fi_,is_HI0,bel_,kf_ HK.out⟩
                ·replace c52:=Bool.eq_false_iff.mpr c52
                 subst c52
                 have H1:((spec_l71Id.f kj39 s0_0 x1001_39).bind fun bt214=>((spec_l6Rd_pick.f kj39 s0_0 bt214.2 3).bind fun bt216=>(if bt216.1=0 then (some (2,bt214.1,0,0,x13_30,bt216.2)) else (some (3,bt214.1,x10_34,x12_21,(⟨#[]⟩:ByteArray),bt216.2)))))=some (r1,r2,r3,r4,r5,r6):=by rw [if_neg (show ¬ (false=true) by decide)] at H;exact H
                 clear H
                 have H:=H1
                 clear H1
                 replace H:=bs_ H
                 obtain ⟨⟨t214,t215⟩,A610,H⟩:=H
                 try dsimp only at H
                 have A61:=a_ A610
                 clear A610
                 replace H:=bs_ H
                 obtain ⟨⟨t216,t217⟩,A620,H⟩:=H
                 try dsimp only at H
                 have A62:=a_ A620
                 clear A620
                 by_cases c63:t216=0
                 ·rw [if_pos c63] at H
                  have c63b0:(t216==0)=true:=beq_iff_eq.mpr c63
                  have c63b1:(t216 != 0)=false:=be_ c63
                  clear c63
                  simp only [Option.some.injEq,Prod.mk.injEq] at H
                  obtain ⟨rfl,rfl,rfl,rfl,rfl,rfl⟩:=H
                  go_wp2_with (first|((with_reducible refine gC_ (f:=120) rfl ?_);refine gl_ 79 Tryd.func120 #[.int .i64 ((rd_T69 l1 t186).f0)] ?_;(with_reducible refine (spec_l1Made.calls ((rd_T69 l1 t186).f0) false _ A51.out).mono ?_);rintro e w' ⟨rfl,⟨nd,rfl⟩⟩;refine ⟨_,rfl,?_⟩;(try (rw [drewN_self wc];generalize hq_:World.drewN wc _=wc;have n0_:Aside0 (wc.heap[gb185]?=some (.cells #[.int .i64 0,.int .i64 0,.int .i64 0,.int .i64 0,.string (⟨#[]⟩:ByteArray)] 42 (0,0))):=⟨by rw [←hq_];exact (bp_ BK185.out)⟩;have n1_:Aside0 (IsS145 w0 wc g s0_0 x1001_39):=⟨by rw [←hq_];exact (is_HI0)⟩;have n2_:Aside0 (KeepBut w wc g none):=⟨by rw [←hq_];exact (kf_ HK.out)⟩;have n3_:Aside0 (Below w0.heap.size w0 wc):=⟨by rw [←hq_];exact (bel_)⟩;clear BK185 HI0 HK HB hq_;have BK185:=n0_;have HI0:=n1_;have HK:=n2_;have HB:=n3_;clear n0_ n1_ n2_ n3_)))|((with_reducible refine gC_ (f:=135) rfl ?_);refine gl_ 82 Tryd.func135 #[.pointer (some ⟨g,0,none⟩)] ?_;(with_reducible refine (spec_l71Id.calls kj39 g s0_0 x1001_39 t214 t215 w0 _ ?side1 ?side2 A61.out).mono ?_);(case side1=>exact is_HI0);(case side2=>exact bel_);rintro e w64 ⟨rfl,hi,hb,hk⟩;refine ⟨_,rfl,?_⟩;replace BK185:=a_ (kb_ hk BK185.out NB185_0.out);replace HK:=a_ (KeepBut.trans (kf_ HK.out) hk (.inl rfl));replace HB:=a_ (hb);replace HI0:=a_ (hi);(try clear hb hk hi))|((with_reducible refine gC_ (f:=74) rfl ?_);refine gl_ 84 Tryd.func74 #[.pointer (some ⟨g,0,none⟩),.int .i64 3] ?_;(with_reducible refine (spec_l6Rd_pick.calls kj39 g s0_0 t215 3 t216 t217 w0 _ ?side1 ?side2 A62.out).mono ?_);(case side1=>exact is_HI0);(case side2=>exact bel_);rintro e w65 ⟨rfl,hi,hb,hk⟩;refine ⟨_,rfl,?_⟩;replace BK185:=a_ (kb_ hk BK185.out NB185_0.out);replace HK:=a_ (KeepBut.trans (kf_ HK.out) hk (.inl rfl));replace HB:=a_ (hb);replace HI0:=a_ (hi);(try clear hb hk hi);have hnb66:=NB185_0.out;have hnc66:=NB0_185.out;obtain ⟨Z67_0,Z67_1,Z67_2,Z67_3,Z67_4,Y67_0,Y67_1,Y67_2,Y67_3,Y67_4⟩:=op5_ BK185.out))
                  refine bodyPost_ret (results_cell_row rfl _ _ gb185 42 #[.int .i64 2,.int .i64 t214,.int .i64 0,.int .i64 0,.string x13_30] (0,0) _ rfl (by (with_reducible repeat (first|refine bN_ ?_ _|refine bD_ ?_|refine bA_ ?_ _));exact bk5_ (bp_ BK185.out)) Tryd.underlying42 rfl (by kernel_rfl)) rfl ?_
                  exact ⟨fi_,is_HI0,bel_,kf_ HK.out⟩
                 ·rw [if_neg c63] at H
                  have c63b0:(t216==0)=false:=bn_ c63
                  have c63b1:(t216 != 0)=true:=bne_iff_ne.mpr c63
                  simp only [Option.some.injEq,Prod.mk.injEq] at H
                  obtain ⟨rfl,rfl,rfl,rfl,rfl,rfl⟩:=H
                  go_wp2_with (first|((with_reducible refine gC_ (f:=120) rfl ?_);refine gl_ 79 Tryd.func120 #[.int .i64 ((rd_T69 l1 t186).f0)] ?_;(with_reducible refine (spec_l1Made.calls ((rd_T69 l1 t186).f0) false _ A51.out).mono ?_);rintro e w' ⟨rfl,⟨nd,rfl⟩⟩;refine ⟨_,rfl,?_⟩;(try (rw [drewN_self wc];generalize hq_:World.drewN wc _=wc;have n0_:Aside0 (wc.heap[gb185]?=some (.cells #[.int .i64 0,.int .i64 0,.int .i64 0,.int .i64 0,.string (⟨#[]⟩:ByteArray)] 42 (0,0))):=⟨by rw [←hq_];exact (bp_ BK185.out)⟩;have n1_:Aside0 (IsS145 w0 wc g s0_0 x1001_39):=⟨by rw [←hq_];exact (is_HI0)⟩;have n2_:Aside0 (KeepBut w wc g none):=⟨by rw [←hq_];exact (kf_ HK.out)⟩;have n3_:Aside0 (Below w0.heap.size w0 wc):=⟨by rw [←hq_];exact (bel_)⟩;clear BK185 HI0 HK HB hq_;have BK185:=n0_;have HI0:=n1_;have HK:=n2_;have HB:=n3_;clear n0_ n1_ n2_ n3_)))|((with_reducible refine gC_ (f:=135) rfl ?_);refine gl_ 82 Tryd.func135 #[.pointer (some ⟨g,0,none⟩)] ?_;(with_reducible refine (spec_l71Id.calls kj39 g s0_0 x1001_39 t214 t215 w0 _ ?side1 ?side2 A61.out).mono ?_);(case side1=>exact is_HI0);(case side2=>exact bel_);rintro e w68 ⟨rfl,hi,hb,hk⟩;refine ⟨_,rfl,?_⟩;replace BK185:=a_ (kb_ hk BK185.out NB185_0.out);replace HK:=a_ (KeepBut.trans (kf_ HK.out) hk (.inl rfl));replace HB:=a_ (hb);replace HI0:=a_ (hi);(try clear hb hk hi))|((with_reducible refine gC_ (f:=74) rfl ?_);refine gl_ 84 Tryd.func74 #[.pointer (some ⟨g,0,none⟩),.int .i64 3] ?_;(with_reducible refine (spec_l6Rd_pick.calls kj39 g s0_0 t215 3 t216 t217 w0 _ ?side1 ?side2 A62.out).mono ?_);(case side1=>exact is_HI0);(case side2=>exact bel_);rintro e w69 ⟨rfl,hi,hb,hk⟩;refine ⟨_,rfl,?_⟩;replace BK185:=a_ (kb_ hk BK185.out NB185_0.out);replace HK:=a_ (KeepBut.trans (kf_ HK.out) hk (.inl rfl));replace HB:=a_ (hb);replace HI0:=a_ (hi);(try clear hb hk hi);have hnb70:=NB185_0.out;have hnc70:=NB0_185.out;obtain ⟨Z71_0,Z71_1,Z71_2,Z71_3,Z71_4,Y71_0,Y71_1,Y71_2,Y71_3,Y71_4⟩:=op5_ BK185.out))
                  refine bodyPost_ret (results_cell_row rfl _ _ gb185 42 #[.int .i64 3,.int .i64 t214,.int .i64 x10_34,.int .i64 x12_21,.string (⟨#[]⟩:ByteArray)] (0,0) _ rfl (by (with_reducible repeat (first|refine bN_ ?_ _|refine bD_ ?_|refine bA_ ?_ _));exact bk5_ (bp_ BK185.out)) Tryd.underlying42 rfl (by kernel_rfl)) rfl ?_
                  exact ⟨fi_,is_HI0,bel_,kf_ HK.out⟩
    ·rw [if_neg c10] at H
     exact absurd H (by simp)
   ·rw [if_neg c9] at H
    exact absurd H (by simp)
  ·rw [if_neg c7] at H
   exact absurd H (by simp)
 ·rw [if_neg c6] at H
  exact absurd H (by simp)

end Go.Proofs.YtdpklbomhdpimaaDoor.P
