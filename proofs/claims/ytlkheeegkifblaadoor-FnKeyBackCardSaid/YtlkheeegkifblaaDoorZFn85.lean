/- FnKeyBack: a part. -/
import Derived.Test.YtlkheeegkifblaaDoorZFn84
set_option linter.unusedVariables false
set_option linter.unusedSimpArgs false
set_option linter.unusedSectionVars false
set_option maxHeartbeats 8000000
set_option maxRecDepth 100000
namespace Go.Proofs.YtlkheeegkifblaaDoor.P
open Go.RowKit Go.Proofs.YtlkheeegkifblaaDoorW.PrintWords Go.Proofs.YtlkheeegkifblaaDoorW.PrintLast
theorem spec_l71Fits.calls (k:Nat) (g:Nat) (s0_0:List Int) (s0_1:Int) (r1:List (S37)) (r2:Int) (r3:Int) (r4:Int) (r5:Int) (r6:ByteArray) (r7:Int) (w0 w:World) (hI:IsS102 w0 w g s0_0 s0_1) (hB:Below w0.heap.size w0 w) (h:spec_l71Fits.f k s0_0 s0_1=some (r1,r2,r3,r4,r5,r6,r7)) :
  Calls Tryd.prog 86 #[.pointer (some ⟨g,0,none⟩)] w fun e w'=>∃ v0_:Value,e=.returned (.tuple #[v0_,.agg #[.int .i64 r2,.int .i64 r3,.int .i64 r4,.int .i64 r5,.string r6]])∧Kd.Q k37 37 w' w.heap.size (fun _=>True) v0_ r1∧IsS102 w0 w' g s0_0 r7∧Below w0.heap.size w0 w'∧KeepBut w w' g none:=by
 have hu27:=Tryd.underlying27
 have HI0:=a_ hI
 have HK:=a_ (KeepBut.refl w g none)
 have HL:=a_ hB.size
 clear hI
 have HW0:=a_ hB.size
 have HB:=a_ hB
 clear hB
 unfold spec_l71Fits.f at h
 have H:=h
 clear h
 replace H:=bs_ H
 obtain ⟨⟨t865,t868,t869⟩,A20,H⟩:=H
 try dsimp only at H
 have A2:=a_ A20
 clear A20
 replace H:=bs_ H
 obtain ⟨⟨t870,t871,t872,t873,t874,t875⟩,A30,H⟩:=H
 try dsimp only at H
 have A3:=a_ A30
 clear A30
 have HC4:=a_ H
 clear H
 go_enter Tryd.func86,Tryd.ntmps86
 go_upto_region 3 with (first|((with_reducible refine gD_ (N:=3) rfl ?_);refine bx_ 3 (#[.int .i64 0,.int .i64 0,.int .i64 0,.int .i64 0,.string (⟨#[]⟩:ByteArray)]) 27 ?_;intro gb864 hg w5 hbox hb;have n0_:=a_ (IsS102.below (is_HI0) hb);have n1_:=a_ (KeepBut.trans (ke_) (KeepBut.of_below hb g none) (.inl rfl));have n2_:=a_ (bS_ (bel_) hb);have n3_:=a_ (hbox);have n4_:=a_ ((by rw [hg];exact (keep_size (w:=w) (g:=g) (row:=none) (ke_)):w.heap.size≤gb864));have n5_:=a_ ((Nat.le_trans HW0.out (by rw [hg];exact (keep_size (w:=w) (g:=g) (row:=none) (ke_)):w.heap.size≤gb864):w0.heap.size≤gb864));have n6_:=a_ ((by rw [hg];exact Nat.ne_of_lt (IsS102.lt (show IsS102 w0 _ g s0_0 s0_1 from is_HI0)):g≠gb864));have n7_:=a_ ((by rw [hg];exact Nat.ne_of_gt (IsS102.lt (show IsS102 w0 _ g s0_0 s0_1 from is_HI0)):gb864≠g));clear HI0;clear HK;clear HB;have HI0:=n0_;have HK:=n1_;have HB:=n2_;have BK864:=n3_;have GW864:=n4_;have GE864:=n5_;have NB0_864:=n6_;have NB864_0:=n7_;clear n0_ n1_ n2_ n3_ n4_ n5_ n6_ n7_;clear hb hbox hg)|((with_reducible refine gC_ (f:=51) rfl ?_);refine gl_ 10 Tryd.func51 #[.pointer (some ⟨g,0,none⟩)] ?_;(with_reducible refine (spec_l71Row.calls k g s0_0 s0_1 t865 t868 t869 w0 _ ?side1 ?side2 A2.out).mono ?_);(case side1=>exact is_HI0);(case side2=>exact bel_);rintro e w6 ⟨v866,rfl,ho0,hi,hb,hk⟩;refine ⟨_,rfl,?_⟩;replace BK864:=a_ (kb_ hk BK864.out NB864_0.out);have HO867:=a_ (Kd.Q_lower ho0 (keep_size (w:=w) (g:=g) (row:=none) (kf_ HK.out)));replace HK:=a_ (KeepBut.trans (kf_ HK.out) hk (.inl rfl));replace HB:=a_ (hb);replace HI0:=a_ (hi);(try clear hb hk hi ho0))|((with_reducible refine gC_ (f:=109) rfl ?_);refine gl_ 14 Tryd.func109 #[.pointer (some ⟨g,0,none⟩)] ?_;(with_reducible refine (spec_l71Op.calls k g s0_0 t869 t870 t871 t872 t873 t874 t875 w0 _ ?side1 ?side2 A3.out).mono ?_);(case side1=>exact is_HI0);(case side2=>exact bel_);rintro e w7 ⟨rfl,hi,hb,hk⟩;refine ⟨_,rfl,?_⟩;replace BK864:=a_ (kb_ hk BK864.out NB864_0.out);replace HO867:=a_ (Kd.Q_mono (Kd.Q_keep (IsS102.apartQ (show IsS102 w0 _ g s0_0 t869 from is_HI0) (qp_ HO867.out) (by decide)) hk (fun _ h=>h.2)) (fun _ h=>h.1));replace HK:=a_ (KeepBut.trans (kf_ HK.out) hk (.inl rfl));replace HB:=a_ (hb);replace HI0:=a_ (hi);(try clear hb hk hi))|((with_reducible refine gD_ (N:=6) rfl ?_);refine bx_ 6 (#[.int .i64 0,.int .i64 0,.int .i64 0,.int .i64 0,.string (⟨#[]⟩:ByteArray)]) 27 ?_;intro gb876 hg w8 hbox hb;have n0_:=a_ (Kd.Q_below (qp_ HO867.out) hb);have n1_:=a_ (IsS102.below (is_HI0) hb);have n2_:=a_ (bb_ BK864.out hb);have n3_:=a_ (KeepBut.trans (kf_ HK.out) (KeepBut.of_below hb g none) (.inl rfl));have n4_:=a_ (bS_ (bel_) hb);have n5_:=a_ (hbox);have n6_:=a_ ((by rw [hg];exact (keep_size (w:=w) (g:=g) (row:=none) (kf_ HK.out)):w.heap.size≤gb876));have n7_:=a_ ((Nat.le_trans HW0.out (by rw [hg];exact (keep_size (w:=w) (g:=g) (row:=none) (kf_ HK.out)):w.heap.size≤gb876):w0.heap.size≤gb876));have n8_:=a_ ((by rw [hg];exact Nat.ne_of_lt (blk_lt (g:=gb864) (o:=.cells #[.int .i64 0,.int .i64 0,.int .i64 0,.int .i64 0,.string (⟨#[]⟩:ByteArray)] 27 (0,0)) (bp_ BK864.out)):gb864≠gb876));have n9_:=a_ ((by rw [hg];exact Nat.ne_of_gt (blk_lt (g:=gb864) (o:=.cells #[.int .i64 0,.int .i64 0,.int .i64 0,.int .i64 0,.string (⟨#[]⟩:ByteArray)] 27 (0,0)) (bp_ BK864.out)):gb876≠gb864));have n10_:=a_ ((by rw [hg];exact Nat.ne_of_lt (IsS102.lt (show IsS102 w0 _ g s0_0 t875 from is_HI0)):g≠gb876));have n11_:=a_ ((by rw [hg];exact Nat.ne_of_gt (IsS102.lt (show IsS102 w0 _ g s0_0 t875 from is_HI0)):gb876≠g));clear HO867;clear HI0;clear BK864;clear HK;clear HB;have HO867:=n0_;have HI0:=n1_;have BK864:=n2_;have HK:=n3_;have HB:=n4_;have BK876:=n5_;have GW876:=n6_;have GE876:=n7_;have NB864_876:=n8_;have NB876_864:=n9_;have NB0_876:=n10_;have NB876_0:=n11_;clear n0_ n1_ n2_ n3_ n4_ n5_ n6_ n7_ n8_ n9_ n10_ n11_;clear hb hbox hg;have hnb9:=NB876_864.out;have hnc9:=NB864_876.out;have hnb10:=NB876_0.out;have hnc10:=NB0_876.out;obtain ⟨Z11_0,Z11_1,Z11_2,Z11_3,Z11_4,Y11_0,Y11_1,Y11_2,Y11_3,Y11_4⟩:=op5_ BK876.out))
 (try simp only [Act.put,List.setIfInBounds_toArray,List.set_cons_zero,List.set_cons_succ])
 go_cut [26] (fun v26 wc=>∃ (kq:Nat) (x26_3:Bool) (x1001_3:Int),v26=.bool x26_3∧Aside0 (spec_l71Fits.j0 kq t865 t868 x26_3 s0_0 x1001_3 t870 t871 t872 t873 t874=some (r1,r2,r3,r4,r5,r6,r7))∧Aside0 (kq≤k)∧Aside0 (Kd.Q k37 37 wc w.heap.size (fun _=>True) v866 t865)∧Aside0 (wc.heap[gb864]?=some (.cells #[.int .i64 0,.int .i64 0,.int .i64 0,.int .i64 0,.string (⟨#[]⟩:ByteArray)] 27 (0,0)))∧Aside0 (wc.heap[gb876]?=some (.cells #[.int .i64 t870,.int .i64 t871,.int .i64 t872,.int .i64 t873,.string t874] 27 (0,0)))∧Aside0 (IsS102 w0 wc g s0_0 x1001_3)∧Aside0 (KeepBut w wc g none)∧Aside0 (Below w0.heap.size w0 wc))
 case first =>
  have H:=HC4.out
  clear HC4
  replace H:=bs_ H
  obtain ⟨⟨t877,t878⟩,A120,H⟩:=H
  try dsimp only at H
  have A12:=a_ A120
  clear A120
  by_cases c13:t877 > 0
  ·rw [if_pos c13] at H
   have c13b0:decide (0 < t877)=true:=dt_ c13
   clear c13
   (first|rw [c13b0]|(simp only [i64_w,i32_w];rw [c13b0])|skip)
   by_cases c14:t870=1
   ·rw [if_pos c14] at H
    have c14b0:(t870==1)=true:=beq_iff_eq.mpr c14
    have c14b1:(t870 != 1)=false:=be_ c14
    clear c14
    have H':=a_ H
    clear H
    go_wp2_with (first|((with_reducible refine gC_ (f:=73) rfl ?_);refine gl_ 16 Tryd.func73 #[.pointer (some ⟨g,0,none⟩),.int .i64 5] ?_;(with_reducible refine (spec_l6Rd_pick.calls k g s0_0 t875 5 t877 t878 w0 _ ?side1 ?side2 A12.out).mono ?_);(case side1=>exact is_HI0);(case side2=>exact bel_);rintro e w15 ⟨rfl,hi,hb,hk⟩;refine ⟨_,rfl,?_⟩;have n0_:=a_ (KeepBut.blk hk (g':=gb864) (o:=.cells #[.int .i64 0,.int .i64 0,.int .i64 0,.int .i64 0,.string (⟨#[]⟩:ByteArray)] 27 (0,0)) (by (with_reducible repeat (first|refine bN_ ?_ _|refine bD_ ?_|refine bA_ ?_ _));refine blk_far ?_ NB864_876.out _;(with_reducible repeat (first|refine bN_ ?_ _|refine bD_ ?_|refine bA_ ?_ _));refine blk_far ?_ NB864_876.out _;(with_reducible repeat (first|refine bN_ ?_ _|refine bD_ ?_|refine bA_ ?_ _));refine blk_far ?_ NB864_876.out _;(with_reducible repeat (first|refine bN_ ?_ _|refine bD_ ?_|refine bA_ ?_ _));refine blk_far ?_ NB864_876.out _;(with_reducible repeat (first|refine bN_ ?_ _|refine bD_ ?_|refine bA_ ?_ _));refine blk_far ?_ NB864_876.out _;(with_reducible repeat (first|refine bN_ ?_ _|refine bD_ ?_|refine bA_ ?_ _));exact BK864.out) NB864_0.out (by simp));have n1_:=a_ (Kd.Q_mono (Kd.Q_keep (IsS102.apartQ (show IsS102 w0 _ g s0_0 t875 from is_HI0) (by (with_reducible repeat (first|apply Kd.Q_alloc|apply Kd.Q_drewN|apply Kd.Q_drew));exact (Kd.Q_mono (Kd.Q_far (p:=⟨gb876,4,none⟩) (Kd.Q_far (p:=⟨gb876,3,none⟩) (Kd.Q_far (p:=⟨gb876,2,none⟩) (Kd.Q_far (p:=⟨gb876,1,none⟩) (Kd.Q_far (p:=⟨gb876,0,none⟩) (Kd.Q_types HO867.out BK876.out (by decide)) (fun _ hk=>hk.2) (.int .i64 t870)) (fun _ hk=>hk.2) (.int .i64 t871)) (fun _ hk=>hk.2) (.int .i64 t872)) (fun _ hk=>hk.2) (.int .i64 t873)) (fun _ hk=>hk.2) (.string t874)) (fun _ h_=>h_.1))) (by decide)) hk (fun _ h=>h.2)) (fun _ h=>h.1));have n2_:=a_ (KeepBut.blk hk (g':=gb876) (o:=.cells #[.int .i64 t870,.int .i64 t871,.int .i64 t872,.int .i64 t873,.string t874] 27 (0,0)) (by (with_reducible repeat (first|refine bN_ ?_ _|refine bD_ ?_|refine bA_ ?_ _));exact bk5_ (bp_ BK876.out)) NB876_0.out (by simp));have n3_:=a_ (KeepBut.trans (kf_ HK.out) hk (.inl rfl));have n4_:=a_ (hb);have n5_:=a_ (hi);clear BK864;clear HO867;clear BK876;clear HK;clear HB;clear HI0;have BK864:=n0_;have HO867:=n1_;have BK876:=n2_;have HK:=n3_;have HB:=n4_;have HI0:=n5_;clear n0_ n1_ n2_ n3_ n4_ n5_;(try clear hb hk hi);have hnb16:=NB876_864.out;have hnc16:=NB864_876.out;have hnb17:=NB876_0.out;have hnc17:=NB0_876.out;obtain ⟨Z18_0,Z18_1,Z18_2,Z18_3,Z18_4,Y18_0,Y18_1,Y18_2,Y18_3,Y18_4⟩:=op5_ BK876.out))
    go_meet
    case rel=>exact ⟨_,(false),(t878),(si_),H',⟨by first|omega|exact Nat.le_refl _⟩,⟨by (with_reducible repeat (first|apply Kd.Q_alloc|apply Kd.Q_drewN|apply Kd.Q_drew));exact HO867.out⟩,⟨by (with_reducible repeat (first|refine bN_ ?_ _|refine bD_ ?_|refine bA_ ?_ _));exact BK864.out⟩,⟨by (with_reducible repeat (first|refine bN_ ?_ _|refine bD_ ?_|refine bA_ ?_ _));exact BK876.out⟩,⟨is_HI0⟩,⟨kf_ HK.out⟩,⟨bel_⟩⟩
   ·rw [if_neg c14] at H
    have c14b0:(t870==1)=false:=bn_ c14
    have c14b1:(t870 != 1)=true:=bne_iff_ne.mpr c14
    replace H:=bs_ H
    obtain ⟨t879,A190,H⟩:=H
    try dsimp only at H
    have A19:=a_ A190
    clear A190
    have H':=a_ H
    clear H
    go_wp2_with (first|((with_reducible refine gC_ (f:=73) rfl ?_);refine gl_ 16 Tryd.func73 #[.pointer (some ⟨g,0,none⟩),.int .i64 5] ?_;(with_reducible refine (spec_l6Rd_pick.calls k g s0_0 t875 5 t877 t878 w0 _ ?side1 ?side2 A12.out).mono ?_);(case side1=>exact is_HI0);(case side2=>exact bel_);rintro e w20 ⟨rfl,hi,hb,hk⟩;refine ⟨_,rfl,?_⟩;have n0_:=a_ (KeepBut.blk hk (g':=gb864) (o:=.cells #[.int .i64 0,.int .i64 0,.int .i64 0,.int .i64 0,.string (⟨#[]⟩:ByteArray)] 27 (0,0)) (by (with_reducible repeat (first|refine bN_ ?_ _|refine bD_ ?_|refine bA_ ?_ _));refine blk_far ?_ NB864_876.out _;(with_reducible repeat (first|refine bN_ ?_ _|refine bD_ ?_|refine bA_ ?_ _));refine blk_far ?_ NB864_876.out _;(with_reducible repeat (first|refine bN_ ?_ _|refine bD_ ?_|refine bA_ ?_ _));refine blk_far ?_ NB864_876.out _;(with_reducible repeat (first|refine bN_ ?_ _|refine bD_ ?_|refine bA_ ?_ _));refine blk_far ?_ NB864_876.out _;(with_reducible repeat (first|refine bN_ ?_ _|refine bD_ ?_|refine bA_ ?_ _));refine blk_far ?_ NB864_876.out _;(with_reducible repeat (first|refine bN_ ?_ _|refine bD_ ?_|refine bA_ ?_ _));exact BK864.out) NB864_0.out (by simp));have n1_:=a_ (Kd.Q_mono (Kd.Q_keep (IsS102.apartQ (show IsS102 w0 _ g s0_0 t875 from is_HI0) (by (with_reducible repeat (first|apply Kd.Q_alloc|apply Kd.Q_drewN|apply Kd.Q_drew));exact (Kd.Q_mono (Kd.Q_far (p:=⟨gb876,4,none⟩) (Kd.Q_far (p:=⟨gb876,3,none⟩) (Kd.Q_far (p:=⟨gb876,2,none⟩) (Kd.Q_far (p:=⟨gb876,1,none⟩) (Kd.Q_far (p:=⟨gb876,0,none⟩) (Kd.Q_types HO867.out BK876.out (by decide)) (fun _ hk=>hk.2) (.int .i64 t870)) (fun _ hk=>hk.2) (.int .i64 t871)) (fun _ hk=>hk.2) (.int .i64 t872)) (fun _ hk=>hk.2) (.int .i64 t873)) (fun _ hk=>hk.2) (.string t874)) (fun _ h_=>h_.1))) (by decide)) hk (fun _ h=>h.2)) (fun _ h=>h.1));have n2_:=a_ (KeepBut.blk hk (g':=gb876) (o:=.cells #[.int .i64 t870,.int .i64 t871,.int .i64 t872,.int .i64 t873,.string t874] 27 (0,0)) (by (with_reducible repeat (first|refine bN_ ?_ _|refine bD_ ?_|refine bA_ ?_ _));exact bk5_ (bp_ BK876.out)) NB876_0.out (by simp));have n3_:=a_ (KeepBut.trans (kf_ HK.out) hk (.inl rfl));have n4_:=a_ (hb);have n5_:=a_ (hi);clear BK864;clear HO867;clear BK876;clear HK;clear HB;clear HI0;have BK864:=n0_;have HO867:=n1_;have BK876:=n2_;have HK:=n3_;have HB:=n4_;have HI0:=n5_;clear n0_ n1_ n2_ n3_ n4_ n5_;(try clear hb hk hi);have hnb21:=NB876_864.out;have hnc21:=NB864_876.out;have hnb22:=NB876_0.out;have hnc22:=NB0_876.out;obtain ⟨Z23_0,Z23_1,Z23_2,Z23_3,Z23_4,Y23_0,Y23_1,Y23_2,Y23_3,Y23_4⟩:=op5_ BK876.out)|(go_at_call 53;(with_reducible refine (spec_l1Made.calls t868 t879 _ A19.out).mono ?_);rintro e w' ⟨rfl,⟨nd,rfl⟩⟩))
    go_meet
    case rel=>exact ⟨_,(t879),(t878),(si_),H',⟨by first|omega|exact Nat.le_refl _⟩,⟨by (with_reducible repeat (first|apply Kd.Q_alloc|apply Kd.Q_drewN|apply Kd.Q_drew));exact HO867.out⟩,⟨by (with_reducible repeat (first|refine bN_ ?_ _|refine bD_ ?_|refine bA_ ?_ _));exact BK864.out⟩,⟨by (with_reducible repeat (first|refine bN_ ?_ _|refine bD_ ?_|refine bA_ ?_ _));exact BK876.out⟩,⟨is_HI0⟩,⟨kf_ HK.out⟩,⟨bel_⟩⟩
  ·rw [if_neg c13] at H
   have c13b0:decide (0 < t877)=false:=df_ c13
   clear c13
   (first|rw [c13b0]|(simp only [i64_w,i32_w];rw [c13b0])|skip)
   have H':=a_ H
   clear H
   go_wp2_with (first|((with_reducible refine gC_ (f:=73) rfl ?_);refine gl_ 16 Tryd.func73 #[.pointer (some ⟨g,0,none⟩),.int .i64 5] ?_;(with_reducible refine (spec_l6Rd_pick.calls k g s0_0 t875 5 t877 t878 w0 _ ?side1 ?side2 A12.out).mono ?_);(case side1=>exact is_HI0);(case side2=>exact bel_);rintro e w24 ⟨rfl,hi,hb,hk⟩;refine ⟨_,rfl,?_⟩;have n0_:=a_ (KeepBut.blk hk (g':=gb864) (o:=.cells #[.int .i64 0,.int .i64 0,.int .i64 0,.int .i64 0,.string (⟨#[]⟩:ByteArray)] 27 (0,0)) (by (with_reducible repeat (first|refine bN_ ?_ _|refine bD_ ?_|refine bA_ ?_ _));refine blk_far ?_ NB864_876.out _;(with_reducible repeat (first|refine bN_ ?_ _|refine bD_ ?_|refine bA_ ?_ _));refine blk_far ?_ NB864_876.out _;(with_reducible repeat (first|refine bN_ ?_ _|refine bD_ ?_|refine bA_ ?_ _));refine blk_far ?_ NB864_876.out _;(with_reducible repeat (first|refine bN_ ?_ _|refine bD_ ?_|refine bA_ ?_ _));refine blk_far ?_ NB864_876.out _;(with_reducible repeat (first|refine bN_ ?_ _|refine bD_ ?_|refine bA_ ?_ _));refine blk_far ?_ NB864_876.out _;(with_reducible repeat (first|refine bN_ ?_ _|refine bD_ ?_|refine bA_ ?_ _));exact BK864.out) NB864_0.out (by simp));have n1_:=a_ (Kd.Q_mono (Kd.Q_keep (IsS102.apartQ (show IsS102 w0 _ g s0_0 t875 from is_HI0) (by (with_reducible repeat (first|apply Kd.Q_alloc|apply Kd.Q_drewN|apply Kd.Q_drew));exact (Kd.Q_mono (Kd.Q_far (p:=⟨gb876,4,none⟩) (Kd.Q_far (p:=⟨gb876,3,none⟩) (Kd.Q_far (p:=⟨gb876,2,none⟩) (Kd.Q_far (p:=⟨gb876,1,none⟩) (Kd.Q_far (p:=⟨gb876,0,none⟩) (Kd.Q_types HO867.out BK876.out (by decide)) (fun _ hk=>hk.2) (.int .i64 t870)) (fun _ hk=>hk.2) (.int .i64 t871)) (fun _ hk=>hk.2) (.int .i64 t872)) (fun _ hk=>hk.2) (.int .i64 t873)) (fun _ hk=>hk.2) (.string t874)) (fun _ h_=>h_.1))) (by decide)) hk (fun _ h=>h.2)) (fun _ h=>h.1));have n2_:=a_ (KeepBut.blk hk (g':=gb876) (o:=.cells #[.int .i64 t870,.int .i64 t871,.int .i64 t872,.int .i64 t873,.string t874] 27 (0,0)) (by (with_reducible repeat (first|refine bN_ ?_ _|refine bD_ ?_|refine bA_ ?_ _));exact bk5_ (bp_ BK876.out)) NB876_0.out (by simp));have n3_:=a_ (KeepBut.trans (kf_ HK.out) hk (.inl rfl));have n4_:=a_ (hb);have n5_:=a_ (hi);clear BK864;clear HO867;clear BK876;clear HK;clear HB;clear HI0;have BK864:=n0_;have HO867:=n1_;have BK876:=n2_;have HK:=n3_;have HB:=n4_;have HI0:=n5_;clear n0_ n1_ n2_ n3_ n4_ n5_;(try clear hb hk hi)))
   go_meet
   case rel=>exact ⟨_,(false),(t878),(si_),H',⟨by first|omega|exact Nat.le_refl _⟩,⟨by (with_reducible repeat (first|apply Kd.Q_alloc|apply Kd.Q_drewN|apply Kd.Q_drew));exact HO867.out⟩,⟨by (with_reducible repeat (first|refine bN_ ?_ _|refine bD_ ?_|refine bA_ ?_ _));exact BK864.out⟩,⟨by (with_reducible repeat (first|refine bN_ ?_ _|refine bD_ ?_|refine bA_ ?_ _));exact BK876.out⟩,⟨is_HI0⟩,⟨kf_ HK.out⟩,⟨bel_⟩⟩
 case rest =>
  clear HC4
  try clear c1
  try clear c2
  try clear p2
  try clear c5
  try clear c7
  try clear c8
  try clear c9
  try clear c10
  try clear c13
  try clear c13b0
  try clear c14
  try clear c14b0
  try clear c14b1
  try clear c16
  try clear c17
  try clear c21
  try clear c22
  try clear Z11_0 Z11_1 Z11_2 Z11_3 Z11_4 Y11_0 Y11_1 Y11_2 Y11_3 Y11_4
  try clear Z18_0 Z18_1 Z18_2 Z18_3 Z18_4 Y18_0 Y18_1 Y18_2 Y18_3 Y18_4
  try clear Z23_0 Z23_1 Z23_2 Z23_3 Z23_4 Y23_0 Y23_1 Y23_2 Y23_3 Y23_4
  obtain ⟨kq,x26_3,x1001_3,rfl,HA,HJ3,HO_4,BK864,BK876,HI0,HK,HB⟩:=hcut
  cases kq with
  | zero=>exact absurd HA.out (by simp [spec_l71Fits.j0])
  | succ kj3 =>
   have H:=HA.out
   clear HA
   simp only [spec_l71Fits.j0] at H
   have HC25:=a_ H
   clear H
   go_upto_if 26 with (fail)
   go_cut [] (fun wc=>∃ (kq:Nat) (x877001_24:Int),Aside0 (spec_l71Fits.j1 kq t865 s0_0 x1001_3 t870 x877001_24 t872 t873 t874=some (r1,r2,r3,r4,r5,r6,r7))∧Aside0 (kq≤kj3)∧Aside0 (Kd.Q k37 37 wc w.heap.size (fun _=>True) v866 t865)∧Aside0 (wc.heap[gb864]?=some (.cells #[.int .i64 0,.int .i64 0,.int .i64 0,.int .i64 0,.string (⟨#[]⟩:ByteArray)] 27 (0,0)))∧Aside0 (wc.heap[gb876]?=some (.cells #[.int .i64 t870,.int .i64 x877001_24,.int .i64 t872,.int .i64 t873,.string t874] 27 (0,0)))∧Aside0 (IsS102 w0 wc g s0_0 x1001_3)∧Aside0 (KeepBut w wc g none)∧Aside0 (Below w0.heap.size w0 wc))
   case first =>
    have H:=HC25.out
    clear HC25
    by_cases c26:x26_3=true
    ·subst c26
     have H1:(spec_l71Fits.j1 kj3 t865 s0_0 x1001_3 t870 t868 t872 t873 t874)=some (r1,r2,r3,r4,r5,r6,r7):=by rw [if_pos rfl] at H;exact H
     clear H
     have H:=H1
     clear H1
     have H':=a_ H
     clear H
     have hnb27:=NB876_864.out
     have hnc27:=NB864_876.out
     have hnb28:=NB876_0.out
     have hnc28:=NB0_876.out
     obtain ⟨Z29_0,Z29_1,Z29_2,Z29_3,Z29_4,Y29_0,Y29_1,Y29_2,Y29_3,Y29_4⟩:=op5_ BK876.out
     go_wp2
     go_meet
     case rel=>exact ⟨_,(t868),H',⟨by have:=HJ3.out;first|omega|exact Nat.le_refl _⟩,⟨by (with_reducible repeat (first|apply Kd.Q_alloc|apply Kd.Q_drewN|apply Kd.Q_drew));exact Kd.Q_mono (Kd.Q_far (p:=⟨gb876,1,none⟩) (Kd.Q_types HO_4.out BK876.out (by decide)) (fun _ hk=>hk.2) (.int .i64 t868)) (fun _ hk=>trivial)⟩,⟨by (with_reducible repeat (first|refine bN_ ?_ _|refine bD_ ?_|refine bA_ ?_ _));refine blk_far ?_ NB864_876.out _;(with_reducible repeat (first|refine bN_ ?_ _|refine bD_ ?_|refine bA_ ?_ _));exact BK864.out⟩,⟨by (with_reducible repeat (first|refine bN_ ?_ _|refine bD_ ?_|refine bA_ ?_ _));refine blk_put (cs:=#[.int .i64 t870,.int .i64 t871,.int .i64 t872,.int .i64 t873,.string t874]) ?_ 1 _ rfl;(with_reducible repeat (first|refine bN_ ?_ _|refine bD_ ?_|refine bA_ ?_ _));exact BK876.out⟩,⟨is_HI0⟩,⟨kf_ HK.out⟩,⟨bel_⟩⟩
    ·replace c26:=Bool.eq_false_iff.mpr c26
     subst c26
     have H1:(spec_l71Fits.j1 kj3 t865 s0_0 x1001_3 t870 t871 t872 t873 t874)=some (r1,r2,r3,r4,r5,r6,r7):=by rw [if_neg (show ¬ (false=true) by decide)] at H;exact H
     clear H
     have H:=H1
     clear H1
     have H':=a_ H
     clear H
     go_wp2
     go_meet
     case rel=>exact ⟨_,(t871),H',⟨by have:=HJ3.out;first|omega|exact Nat.le_refl _⟩,⟨by (with_reducible repeat (first|apply Kd.Q_alloc|apply Kd.Q_drewN|apply Kd.Q_drew));exact HO_4.out⟩,⟨by (with_reducible repeat (first|refine bN_ ?_ _|refine bD_ ?_|refine bA_ ?_ _));exact BK864.out⟩,⟨by (with_reducible repeat (first|refine bN_ ?_ _|refine bD_ ?_|refine bA_ ?_ _));exact BK876.out⟩,⟨is_HI0⟩,⟨kf_ HK.out⟩,⟨bel_⟩⟩
   case rest =>
    clear HC25
    try clear c1
    try clear c2
    try clear p2
    try clear c5
    try clear c7
    try clear c8
    try clear c9
    try clear c10
    try clear c13
    try clear c13b0
    try clear c14
    try clear c14b0
    try clear c14b1
    try clear c16
    try clear c17
    try clear c21
    try clear c22
    try clear c26
    try clear c27
    try clear c28
    try clear p2
    try clear Z11_0 Z11_1 Z11_2 Z11_3 Z11_4 Y11_0 Y11_1 Y11_2 Y11_3 Y11_4
    try clear Z18_0 Z18_1 Z18_2 Z18_3 Z18_4 Y18_0 Y18_1 Y18_2 Y18_3 Y18_4
    try clear Z23_0 Z23_1 Z23_2 Z23_3 Z23_4 Y23_0 Y23_1 Y23_2 Y23_3 Y23_4
    try clear Z29_0 Z29_1 Z29_2 Z29_3 Z29_4 Y29_0 Y29_1 Y29_2 Y29_3 Y29_4
    obtain ⟨kq,x877001_24,HA,HJ24,HO_4,BK864,BK876,HI0,HK,HB⟩:=hcut
    cases kq with
    | zero=>exact absurd HA.out (by simp [spec_l71Fits.j1])
    | succ kj24 =>
     have H:=HA.out
     clear HA
     simp only [spec_l71Fits.j1] at H
     have HC30:=a_ H
     clear H
     go_upto_region 5 with (fail)
     go_cut [41] (fun v41 wc=>∃ (kq:Nat) (x41_29:Bool) (x1001_29:Int),v41=.bool x41_29∧Aside0 (spec_l71Fits.j2 kq t865 x41_29 s0_0 x1001_29 t870 x877001_24 t872 t873 t874=some (r1,r2,r3,r4,r5,r6,r7))∧Aside0 (kq≤kj24)∧Aside0 (Kd.Q k37 37 wc w.heap.size (fun _=>True) v866 t865)∧Aside0 (wc.heap[gb864]?=some (.cells #[.int .i64 0,.int .i64 0,.int .i64 0,.int .i64 0,.string (⟨#[]⟩:ByteArray)] 27 (0,0)))∧Aside0 (wc.heap[gb876]?=some (.cells #[.int .i64 t870,.int .i64 x877001_24,.int .i64 t872,.int .i64 t873,.string t874] 27 (0,0)))∧Aside0 (IsS102 w0 wc g s0_0 x1001_29)∧Aside0 (KeepBut w wc g none)∧Aside0 (Below w0.heap.size w0 wc))
     case first =>
      have H:=HC30.out
      clear HC30
      replace H:=bs_ H
      obtain ⟨⟨t880,t881⟩,A310,H⟩:=H
      try dsimp only at H
      have A31:=a_ A310
      clear A310
      by_cases c32:t880=0
      ·rw [if_pos c32] at H
       have c32b0:(t880==0)=true:=beq_iff_eq.mpr c32
       have c32b1:(t880 != 0)=false:=be_ c32
       clear c32
       (first|rw [c32b0]|(simp only [i64_w,i32_w];rw [c32b0])|skip)
       by_cases c33:t870=3
       ·rw [if_pos c33] at H
        have c33b0:(t870==3)=true:=beq_iff_eq.mpr c33
        have c33b1:(t870 != 3)=false:=be_ c33
        clear c33
        have H':=a_ H
        clear H
        go_wp2_with (first|((with_reducible refine gC_ (f:=73) rfl ?_);refine gl_ 30 Tryd.func73 #[.pointer (some ⟨g,0,none⟩),.int .i64 3] ?_;(with_reducible refine (spec_l6Rd_pick.calls kj24 g s0_0 x1001_3 3 t880 t881 w0 _ ?side1 ?side2 A31.out).mono ?_);(case side1=>exact is_HI0);(case side2=>exact bel_);rintro e w34 ⟨rfl,hi,hb,hk⟩;refine ⟨_,rfl,?_⟩;replace HO_4:=a_ (Kd.Q_mono (Kd.Q_keep (IsS102.apartQ (show IsS102 w0 _ g s0_0 x1001_3 from is_HI0) (qp_ HO_4.out) (by decide)) hk (fun _ h=>h.2)) (fun _ h=>h.1));replace BK864:=a_ (kb_ hk BK864.out NB864_0.out);replace BK876:=a_ (kb_ hk BK876.out NB876_0.out);replace HK:=a_ (KeepBut.trans (kf_ HK.out) hk (.inl rfl));replace HB:=a_ (hb);replace HI0:=a_ (hi);(try clear hb hk hi);have hnb35:=NB876_864.out;have hnc35:=NB864_876.out;have hnb36:=NB876_0.out;have hnc36:=NB0_876.out;obtain ⟨Z37_0,Z37_1,Z37_2,Z37_3,Z37_4,Y37_0,Y37_1,Y37_2,Y37_3,Y37_4⟩:=op5_ BK876.out))
        go_meet
        case rel=>exact ⟨_,(true),(t881),(si_),H',⟨by have:=HJ3.out;have:=HJ24.out;first|omega|exact Nat.le_refl _⟩,⟨by (with_reducible repeat (first|apply Kd.Q_alloc|apply Kd.Q_drewN|apply Kd.Q_drew));exact HO_4.out⟩,⟨by (with_reducible repeat (first|refine bN_ ?_ _|refine bD_ ?_|refine bA_ ?_ _));exact BK864.out⟩,⟨by (with_reducible repeat (first|refine bN_ ?_ _|refine bD_ ?_|refine bA_ ?_ _));exact BK876.out⟩,⟨is_HI0⟩,⟨kf_ HK.out⟩,⟨bel_⟩⟩
       ·rw [if_neg c33] at H
        have c33b0:(t870==3)=false:=bn_ c33
        have c33b1:(t870 != 3)=true:=bne_iff_ne.mpr c33
        have H':=a_ H
        clear H
        go_wp2_with (first|((with_reducible refine gC_ (f:=73) rfl ?_);refine gl_ 30 Tryd.func73 #[.pointer (some ⟨g,0,none⟩),.int .i64 3] ?_;(with_reducible refine (spec_l6Rd_pick.calls kj24 g s0_0 x1001_3 3 t880 t881 w0 _ ?side1 ?side2 A31.out).mono ?_);(case side1=>exact is_HI0);(case side2=>exact bel_);rintro e w38 ⟨rfl,hi,hb,hk⟩;refine ⟨_,rfl,?_⟩;replace HO_4:=a_ (Kd.Q_mono (Kd.Q_keep (IsS102.apartQ (show IsS102 w0 _ g s0_0 x1001_3 from is_HI0) (qp_ HO_4.out) (by decide)) hk (fun _ h=>h.2)) (fun _ h=>h.1));replace BK864:=a_ (kb_ hk BK864.out NB864_0.out);replace BK876:=a_ (kb_ hk BK876.out NB876_0.out);replace HK:=a_ (KeepBut.trans (kf_ HK.out) hk (.inl rfl));replace HB:=a_ (hb);replace HI0:=a_ (hi);(try clear hb hk hi);have hnb39:=NB876_864.out;have hnc39:=NB864_876.out;have hnb40:=NB876_0.out;have hnc40:=NB0_876.out;obtain ⟨Z41_0,Z41_1,Z41_2,Z41_3,Z41_4,Y41_0,Y41_1,Y41_2,Y41_3,Y41_4⟩:=op5_ BK876.out))
        go_meet
        case rel=>exact ⟨_,((t870==1)),(t881),(si_),H',⟨by have:=HJ3.out;have:=HJ24.out;first|omega|exact Nat.le_refl _⟩,⟨by (with_reducible repeat (first|apply Kd.Q_alloc|apply Kd.Q_drewN|apply Kd.Q_drew));exact HO_4.out⟩,⟨by (with_reducible repeat (first|refine bN_ ?_ _|refine bD_ ?_|refine bA_ ?_ _));exact BK864.out⟩,⟨by (with_reducible repeat (first|refine bN_ ?_ _|refine bD_ ?_|refine bA_ ?_ _));exact BK876.out⟩,⟨is_HI0⟩,⟨kf_ HK.out⟩,⟨bel_⟩⟩
      ·rw [if_neg c32] at H
       have c32b0:(t880==0)=false:=bn_ c32
       have c32b1:(t880 != 0)=true:=bne_iff_ne.mpr c32
       (first|rw [c32b0]|(simp only [i64_w,i32_w];rw [c32b0])|skip)
       have H':=a_ H
       clear H
       go_wp2_with (first|((with_reducible refine gC_ (f:=73) rfl ?_);refine gl_ 30 Tryd.func73 #[.pointer (some ⟨g,0,none⟩),.int .i64 3] ?_;(with_reducible refine (spec_l6Rd_pick.calls kj24 g s0_0 x1001_3 3 t880 t881 w0 _ ?side1 ?side2 A31.out).mono ?_);(case side1=>exact is_HI0);(case side2=>exact bel_);rintro e w42 ⟨rfl,hi,hb,hk⟩;refine ⟨_,rfl,?_⟩;replace HO_4:=a_ (Kd.Q_mono (Kd.Q_keep (IsS102.apartQ (show IsS102 w0 _ g s0_0 x1001_3 from is_HI0) (qp_ HO_4.out) (by decide)) hk (fun _ h=>h.2)) (fun _ h=>h.1));replace BK864:=a_ (kb_ hk BK864.out NB864_0.out);replace BK876:=a_ (kb_ hk BK876.out NB876_0.out);replace HK:=a_ (KeepBut.trans (kf_ HK.out) hk (.inl rfl));replace HB:=a_ (hb);replace HI0:=a_ (hi);(try clear hb hk hi)))
       go_meet
       case rel=>exact ⟨_,(false),(t881),(si_),H',⟨by have:=HJ3.out;have:=HJ24.out;first|omega|exact Nat.le_refl _⟩,⟨by (with_reducible repeat (first|apply Kd.Q_alloc|apply Kd.Q_drewN|apply Kd.Q_drew));exact HO_4.out⟩,⟨by (with_reducible repeat (first|refine bN_ ?_ _|refine bD_ ?_|refine bA_ ?_ _));exact BK864.out⟩,⟨by (with_reducible repeat (first|refine bN_ ?_ _|refine bD_ ?_|refine bA_ ?_ _));exact BK876.out⟩,⟨is_HI0⟩,⟨kf_ HK.out⟩,⟨bel_⟩⟩
     case rest =>
      clear HC30
      try clear c1
      try clear c2
      try clear p2
      try clear c3
      try clear c4
      try clear c5
      try clear c7
      try clear c8
      try clear c9
      try clear c10
      try clear c13
      try clear c13b0
      try clear c14
      try clear c14b0
      try clear c14b1
      try clear c16
      try clear c17
      try clear c21
      try clear c22
      try clear c26
      try clear c27
      try clear c28
      try clear c32
      try clear c32b0
      try clear c32b1
      try clear c33
      try clear c33b0
      try clear c33b1
      try clear c35
      try clear c36
      try clear c39
      try clear c40
      try clear p2
      try clear Z11_0 Z11_1 Z11_2 Z11_3 Z11_4 Y11_0 Y11_1 Y11_2 Y11_3 Y11_4
      try clear Z18_0 Z18_1 Z18_2 Z18_3 Z18_4 Y18_0 Y18_1 Y18_2 Y18_3 Y18_4
      try clear Z23_0 Z23_1 Z23_2 Z23_3 Z23_4 Y23_0 Y23_1 Y23_2 Y23_3 Y23_4
      try clear Z29_0 Z29_1 Z29_2 Z29_3 Z29_4 Y29_0 Y29_1 Y29_2 Y29_3 Y29_4
      try clear Z37_0 Z37_1 Z37_2 Z37_3 Z37_4 Y37_0 Y37_1 Y37_2 Y37_3 Y37_4
      try clear Z41_0 Z41_1 Z41_2 Z41_3 Z41_4 Y41_0 Y41_1 Y41_2 Y41_3 Y41_4
      obtain ⟨kq,x41_29,x1001_29,rfl,HA,HJ29,HO_4,BK864,BK876,HI0,HK,HB⟩:=hcut
      cases kq with
      | zero=>exact absurd HA.out (by simp [spec_l71Fits.j2])
      | succ kj29 =>
       have H:=HA.out
       clear HA
       simp only [spec_l71Fits.j2] at H
       by_cases c43:x41_29=true
       ·subst c43
        have H1:((spec_l6Rd_pick.f kj29 s0_0 x1001_29 (t865.length:Int)).bind fun bt882=>(if 0≤bt882.1 then (if bt882.1 < (t865.length:Int) then ((spec_l2Kids.f kj29 t865 ((rd_T37 t865 bt882.1).f0)).bind fun t885=>(if (t885.length:Int) > 0 then ((spec_l6Rd_pick.f kj29 s0_0 bt882.2 (t885.length:Int)).bind fun bt888=>(if 0≤bt888.1 then (if bt888.1 < (t885.length:Int) then (some (t865,t870,x877001_24,(rd_T37 t865 bt882.1).f0,rd t885 bt888.1,t874,bt888.2)) else (none)) else (none))) else (some (t865,t870,x877001_24,(rd_T37 t865 bt882.1).f0,t873,t874,bt882.2)))) else (none)) else (none)))=some (r1,r2,r3,r4,r5,r6,r7):=by rw [if_pos rfl] at H;exact H
        clear H
        have H:=H1
        clear H1
        replace H:=bs_ H
        obtain ⟨⟨t882,t883⟩,A440,H⟩:=H
        try dsimp only at H
        have A44:=a_ A440
        clear A440
        by_cases c45:0≤t882
        ·rw [if_pos c45] at H
         have c45b0:decide (0≤t882)=true:=dt_ c45
         clear c45
         by_cases c46:t882 < (t865.length:Int)
         ·rw [if_pos c46] at H
          have c46b0:decide (t882 < (t865.length:Int))=true:=dt_ c46
          clear c46
          replace H:=bs_ H
          obtain ⟨t885,A470,H⟩:=H
          try dsimp only at H
          have A47:=a_ A470
          clear A470
          by_cases c48:(t885.length:Int) > 0
          ·rw [if_pos c48] at H
           have c48b0:decide (0 < (t885.length:Int))=true:=dt_ c48
           have c48b1:decide (0 < t885.length)=true:=dt_ (by omega)
           clear c48
           replace H:=bs_ H
           obtain ⟨⟨t888,t889⟩,A490,H⟩:=H
           try dsimp only at H
           have A49:=a_ A490
           clear A490
           by_cases c50:0≤t888
           ·rw [if_pos c50] at H
            have c50b0:decide (0≤t888)=true:=dt_ c50
            clear c50
            by_cases c51:t888 < (t885.length:Int)
            ·rw [if_pos c51] at H
             have c51b0:decide (t888 < (t885.length:Int))=true:=dt_ c51
             clear c51
             simp only [Option.some.injEq,Prod.mk.injEq] at H
             obtain ⟨rfl,rfl,rfl,rfl,rfl,rfl,rfl⟩:=H
             obtain ⟨Ao52,co52,eo52,_⟩:=Kd.Q_slice HO_4.out
             subst eo52
             try go_wp2_with (first|((with_reducible refine gC_ (f:=73) rfl ?_);refine gl_ 46 Tryd.func73 #[.pointer (some ⟨g,0,none⟩),.int .i64 (t865.length:Int)] ?_;(with_reducible refine (spec_l6Rd_pick.calls kj29 g s0_0 x1001_29 (t865.length:Int) t882 t883 w0 _ ?side1 ?side2 A44.out).mono ?_);(case side1=>exact is_HI0);(case side2=>exact bel_);rintro e w53 ⟨rfl,hi,hb,hk⟩;refine ⟨_,rfl,?_⟩;replace HO_4:=a_ (Kd.Q_mono (Kd.Q_keep (IsS102.apartQ (show IsS102 w0 _ g s0_0 x1001_29 from is_HI0) (qp_ HO_4.out) (by decide)) hk (fun _ h=>h.2)) (fun _ h=>h.1));replace BK864:=a_ (kb_ hk BK864.out NB864_0.out);replace BK876:=a_ (kb_ hk BK876.out NB876_0.out);replace HK:=a_ (KeepBut.trans (kf_ HK.out) hk (.inl rfl));replace HB:=a_ (hb);replace HI0:=a_ (hi);(try clear hb hk hi);have p884:0≤(t882:Int):=od_;have q884:t882 < (t865.length:Int):=od_;obtain ⟨ad884,e884,hx884_0,hx884_1,hx884_2⟩:=at_T37 (Kd.Q_reads' HO_4.out).2.2 t882 p884 q884;cases e884;replace p884:=eq_true p884;replace q884:=eq_true q884;have hnb54:=NB876_864.out;have hnc54:=NB864_876.out;have hnb55:=NB876_0.out;have hnc55:=NB0_876.out;obtain ⟨Z56_0,Z56_1,Z56_2,Z56_3,Z56_4,Y56_0,Y56_1,Y56_2,Y56_3,Y56_4⟩:=op5_ BK876.out)|((with_reducible refine gC_ (f:=70) rfl ?_);refine gl_ 54 Tryd.func70 #[.slice (some ad884) t865.length co52,.int .i64 ((rd_T37 t865 t882).f0)] ?_;(with_reducible refine (spec_l2Kids.calls kj29 _ _ t865 ((rd_T37 t865 t882).f0) t885 _ ?side1 ?side2 A47.out).mono ?_);(case side1=>refine (Kd.Q_reads' (e:=37) (base:=w.heap.size) (ok:=fun k_=>True) (n:=t865.length) (c:=co52) ?_).2.2;exact (by (with_reducible repeat (first|apply Kd.Q_alloc|apply Kd.Q_drewN|apply Kd.Q_drew));exact (Kd.Q_mono (Kd.Q_far (p:=⟨gb876,2,none⟩) (Kd.Q_types HO_4.out BK876.out (by decide)) (fun _ hk=>hk.2) (.int .i64 ((rd_T37 t865 t882).f0))) (fun _ h_=>h_.1))));(case side2=>exact (Kd.Q_reads' HO_4.out).2.1);rintro e w57 ⟨v886,rfl,ho0,hb⟩;refine ⟨_,rfl,?_⟩;have n0_:=a_ (Kd.Q_below (by (with_reducible repeat (first|apply Kd.Q_alloc|apply Kd.Q_drewN|apply Kd.Q_drew));exact (Kd.Q_mono (Kd.Q_far (p:=⟨gb876,2,none⟩) (Kd.Q_types HO_4.out BK876.out (by decide)) (fun _ hk=>hk.2) (.int .i64 ((rd_T37 t865 t882).f0))) (fun _ h_=>h_.1))) hb);have n1_:=a_ (Kd.R_lower ho0 (keep_size (w:=w) (g:=g) (row:=none) (kf_ HK.out)));have n2_:=a_ (blk_below (g:=gb864) (o:=.cells #[.int .i64 0,.int .i64 0,.int .i64 0,.int .i64 0,.string (⟨#[]⟩:ByteArray)] 27 (0,0)) (by (with_reducible repeat (first|refine bN_ ?_ _|refine bD_ ?_|refine bA_ ?_ _));refine blk_far ?_ NB864_876.out _;(with_reducible repeat (first|refine bN_ ?_ _|refine bD_ ?_|refine bA_ ?_ _));exact BK864.out) hb);have n3_:=a_ (blk_below (g:=gb876) (o:=.cells #[.int .i64 t870,.int .i64 x877001_24,.int .i64 ((rd_T37 t865 t882).f0),.int .i64 t873,.string t874] 27 (0,0)) (by (with_reducible repeat (first|refine bN_ ?_ _|refine bD_ ?_|refine bA_ ?_ _));refine blk_put (cs:=#[.int .i64 t870,.int .i64 x877001_24,.int .i64 t872,.int .i64 t873,.string t874]) ?_ 2 _ rfl;(with_reducible repeat (first|refine bN_ ?_ _|refine bD_ ?_|refine bA_ ?_ _));exact BK876.out) hb);have n4_:=a_ (IsS102.below (show IsS102 w0 (w53.setCell ⟨gb876,2,none⟩ (.int .i64 ((rd_T37 t865 t882).f0))) g s0_0 t883 from is_HI0) hb);have n5_:=a_ (KeepBut.trans (kf_ HK.out) (KeepBut.of_below hb g none) (.inl rfl));have n6_:=a_ (bS_ (bel_) hb);clear HO_4;clear BK864;clear BK876;clear HI0;clear HK;clear HB;have HO_4:=n0_;have HO887:=n1_;have BK864:=n2_;have BK876:=n3_;have HI0:=n4_;have HK:=n5_;have HB:=n6_;clear n0_ n1_ n2_ n3_ n4_ n5_ n6_;(try clear hb ho0);obtain ⟨Ao58,co58,eo58⟩:=Kd.R_slice HO887.out;subst eo58)|((with_reducible refine gC_ (f:=73) rfl ?_);refine gl_ 62 Tryd.func73 #[.pointer (some ⟨g,0,none⟩),.int .i64 (t885.length:Int)] ?_;(with_reducible refine (spec_l6Rd_pick.calls kj29 g s0_0 t883 (t885.length:Int) t888 t889 w0 _ ?side1 ?side2 A49.out).mono ?_);(case side1=>exact is_HI0);(case side2=>exact bel_);rintro e w59 ⟨rfl,hi,hb,hk⟩;refine ⟨_,rfl,?_⟩;replace HO_4:=a_ (Kd.Q_mono (Kd.Q_keep (IsS102.apartQ (show IsS102 w0 _ g s0_0 t883 from is_HI0) (qp_ HO_4.out) (by decide)) hk (fun _ h=>h.2)) (fun _ h=>h.1));replace BK864:=a_ (kb_ hk BK864.out NB864_0.out);replace BK876:=a_ (kb_ hk BK876.out NB876_0.out);replace HO887:=a_ (Kd.R_mono (Kd.R_keep (IsS102.apart (show IsS102 w0 _ g s0_0 t883 from is_HI0) (rp_ HO887.out) (by decide)) hk (fun _ h=>h.2)) (fun _ h=>h.1));replace HK:=a_ (KeepBut.trans (kf_ HK.out) hk (.inl rfl));replace HB:=a_ (hb);replace HI0:=a_ (hi);(try clear hb hk hi);have p890:0≤(t888:Int):=od_;have q890:t888 < (t885.length:Int):=od_;obtain ⟨ad890,e890,hx890_0⟩:=Kd.at_int (Kd.R_reads' HO887.out).2.2 t888 p890 q890;cases e890;replace p890:=eq_true p890;replace q890:=eq_true q890;obtain ⟨Z60_0,Z60_1,Z60_2,Z60_3,Z60_4,Y60_0,Y60_1,Y60_2,Y60_3,Y60_4⟩:=op5_ BK876.out))
             have n0_:Aside0 (Kd.Q k37 37 (w59.setCell ⟨gb876,3,none⟩ (.int .i64 (rd t885 t888))) w.heap.size (fun _=>True) (.slice (some ad884) t865.length co52) t865):=⟨by (with_reducible repeat (first|apply Kd.Q_alloc|apply Kd.Q_drewN|apply Kd.Q_drew));exact Kd.Q_mono (Kd.Q_far (p:=⟨gb876,3,none⟩) (Kd.Q_types HO_4.out BK876.out (by decide)) (fun _ hk=>hk.2) (.int .i64 (rd t885 t888))) (fun _ hk=>trivial)⟩
             have n1_:Aside0 (Kd.R (Kd.int .i64) 3 (w59.setCell ⟨gb876,3,none⟩ (.int .i64 (rd t885 t888))) w.heap.size (fun _=>True) (.slice (some ad890) t885.length co58) t885):=⟨by (with_reducible repeat (first|apply Kd.R_alloc|apply Kd.R_drewN|apply Kd.R_drew));exact Kd.R_mono (Kd.R_far (p:=⟨gb876,3,none⟩) (Kd.R_types HO887.out BK876.out (by decide)) (fun _ hk=>hk.2) (.int .i64 (rd t885 t888))) (fun _ hk=>trivial)⟩
             have n2_:Aside0 ((w59.setCell ⟨gb876,3,none⟩ (.int .i64 (rd t885 t888))).heap[gb864]?=some (.cells #[.int .i64 0,.int .i64 0,.int .i64 0,.int .i64 0,.string (⟨#[]⟩:ByteArray)] 27 (0,0))):=⟨by (with_reducible repeat (first|refine bN_ ?_ _|refine bD_ ?_|refine bA_ ?_ _));refine blk_far ?_ NB864_876.out _;(with_reducible repeat (first|refine bN_ ?_ _|refine bD_ ?_|refine bA_ ?_ _));exact BK864.out⟩
             have n3_:Aside0 ((w59.setCell ⟨gb876,3,none⟩ (.int .i64 (rd t885 t888))).heap[gb876]?=some (.cells #[.int .i64 t870,.int .i64 x877001_24,.int .i64 ((rd_T37 t865 t882).f0),.int .i64 (rd t885 t888),.string t874] 27 (0,0))):=⟨by (with_reducible repeat (first|refine bN_ ?_ _|refine bD_ ?_|refine bA_ ?_ _));refine blk_put (cs:=#[.int .i64 t870,.int .i64 x877001_24,.int .i64 ((rd_T37 t865 t882).f0),.int .i64 t873,.string t874]) ?_ 3 _ rfl;(with_reducible repeat (first|refine bN_ ?_ _|refine bD_ ?_|refine bA_ ?_ _));exact BK876.out⟩
             have n4_:Aside0 (IsS102 w0 (w59.setCell ⟨gb876,3,none⟩ (.int .i64 (rd t885 t888))) g s0_0 t889):=⟨is_HI0⟩
             have n5_:Aside0 (KeepBut w (w59.setCell ⟨gb876,3,none⟩ (.int .i64 (rd t885 t888))) g none):=⟨kf_ HK.out⟩
             have n6_:Aside0 (Below w0.heap.size w0 (w59.setCell ⟨gb876,3,none⟩ (.int .i64 (rd t885 t888)))):=⟨bel_⟩
             (try clear HO_4)
             (try clear HO887)
             (try clear BK864)
             (try clear BK876)
             (try clear HI0)
             (try clear HK)
             (try clear HB)
             generalize (w59.setCell ⟨gb876,3,none⟩ (.int .i64 (rd t885 t888)))=w61 at n0_ n1_ n2_ n3_ n4_ n5_ n6_ ⊢
             have HO_4:=n0_
             have HO887:=n1_
             have BK864:=n2_
             have BK876:=n3_
             have HI0:=n4_
             have HK:=n5_
             have HB:=n6_
             clear n0_ n1_ n2_ n3_ n4_ n5_ n6_
             have n0_:=a_ (Kd.Q_drew HO_4.out)
             have n1_:=a_ (Kd.R_drew HO887.out)
             have n2_:=a_ (bD_ BK864.out)
             have n3_:=a_ (bD_ BK876.out)
             have n4_:=a_ (IsS102.drew HI0.out)
             have n5_:=a_ (keep_drew HK.out)
             have n6_:=a_ (below_drew1 HB.out)
             clear HO_4
             clear HO887
             clear BK864
             clear BK876
             clear HI0
             clear HK
             clear HB
             have HO_4:=n0_
             have HO887:=n1_
             have BK864:=n2_
             have BK876:=n3_
             have HI0:=n4_
             have HK:=n5_
             have HB:=n6_
             clear n0_ n1_ n2_ n3_ n4_ n5_ n6_
             refine start_ (n:=4) (S:=fun w'=>w'.cell? ⟨gb876,0,none⟩=some (.int .i64 t870)∧w'.cell? ⟨gb876,1,none⟩=some (.int .i64 x877001_24)∧w'.cell? ⟨gb876,2,none⟩=some (.int .i64 ((rd_T37 t865 t882).f0))∧w'.cell? ⟨gb876,3,none⟩=some (.int .i64 (rd t885 t888))∧w'.cell? ⟨gb876,4,none⟩=some (.string t874)) (ds:=[]) #[false,false,false,false] (by kernel_rfl) rfl rfl ⟨(bC_ BK876.out 0).trans rfl,(bC_ BK876.out 1).trans rfl,(bC_ BK876.out 2).trans rfl,(bC_ BK876.out 3).trans rfl,(bC_ BK876.out 4).trans rfl⟩ (fun hHeld=>?_)
             generalize w61.drew=w62 at HO_4 HO887 BK864 BK876 HI0 HK HB hHeld ⊢
             refine pure_ (i:=0) (N:=some 66) (v:=?_) (a':=?_) #[true,false,false,false] rfl rfl (by kernel_rfl) (fun _ _ _ h=>h) (Or.inl ⟨by rfl,?_⟩) ?_ ?_
             rotate_left
             ·intro w'
              go_simp
              with_reducible rfl
             rotate_left
             ·simp only [Act.put,List.setIfInBounds_toArray,List.set_cons_zero,List.set_cons_succ,i64_w,i32_w]
              rfl
             refine pure_ (i:=2) (N:=some 2) (v:=?_) (a':=?_) #[true,false,true,false] rfl rfl (by kernel_rfl) (fun _ _ _ h=>h) (Or.inl ⟨by rfl,?_⟩) ?_ ?_
             rotate_left
             ·intro w'
              go_simp
              with_reducible rfl
             rotate_left
             ·simp only [Act.put,List.setIfInBounds_toArray,List.set_cons_zero,List.set_cons_succ,i64_w,i32_w]
              rfl
             refine take_ (i:=1) (N:=some 67) (v:=?_) (a':=?_) #[true,true,true,false] rfl rfl (by kernel_rfl) (fun _ _ _ h=>h) (Or.inl ⟨by rfl,?_⟩) hHeld ?_ ?_
             rotate_left
             ·rintro w' ⟨s0,s1,s2,s3,s4⟩
              go_simp
              with_reducible rfl
             rotate_left
             ·simp only [Act.put,List.setIfInBounds_toArray,List.set_cons_zero,List.set_cons_succ,i64_w,i32_w]
              rfl
             refine one_ (i:=3) (N:=none) #[true,true,true,true] rfl rfl (by kernel_rfl) (by decide) (fun K hK=>?_)
             have hs63:w62.cell? ⟨gb864,0,none⟩=some (.int .i64 0):=(bC_ BK864.out 0).trans rfl
             have hfs63:=bF_ BK864.out 0
             have hns63_1:=NB876_864.out
             have hms63_1:=NB864_876.out
             have hs64:w62.cell? ⟨gb864,1,none⟩=some (.int .i64 0):=(bC_ BK864.out 1).trans rfl
             have hfs64:=bF_ BK864.out 1
             have hns64_1:=NB876_864.out
             have hms64_1:=NB864_876.out
             have hs65:w62.cell? ⟨gb864,2,none⟩=some (.int .i64 0):=(bC_ BK864.out 2).trans rfl
             have hfs65:=bF_ BK864.out 2
             have hns65_1:=NB876_864.out
             have hms65_1:=NB864_876.out
             have hs66:w62.cell? ⟨gb864,3,none⟩=some (.int .i64 0):=(bC_ BK864.out 3).trans rfl
             have hfs66:=bF_ BK864.out 3
             have hns66_1:=NB876_864.out
             have hms66_1:=NB864_876.out
             have hs67:w62.cell? ⟨gb864,4,none⟩=some (.string (⟨#[]⟩:ByteArray)):=(bC_ BK864.out 4).trans rfl
             have hfs67:=bF_ BK864.out 4
             have hns67_1:=NB876_864.out
             have hms67_1:=NB864_876.out
             refine skip_ (w1:=?_) (by rfl) rfl ?_ ?_
             rotate_left
             ·go_simp
              rfl
             refine hK.out _ _ ⟨((cF_ (p:=⟨gb864,_,none⟩) NB876_864.out _).trans (((cF_ (p:=⟨gb864,_,none⟩) NB876_864.out _).trans (((cF_ (p:=⟨gb864,_,none⟩) NB876_864.out _).trans (((cF_ (p:=⟨gb864,_,none⟩) NB876_864.out _).trans (((cF_ (p:=⟨gb864,_,none⟩) NB876_864.out _).trans (hHeld.1)))))))))),((cF_ (p:=⟨gb864,_,none⟩) NB876_864.out _).trans (((cF_ (p:=⟨gb864,_,none⟩) NB876_864.out _).trans (((cF_ (p:=⟨gb864,_,none⟩) NB876_864.out _).trans (((cF_ (p:=⟨gb864,_,none⟩) NB876_864.out _).trans (((cF_ (p:=⟨gb864,_,none⟩) NB876_864.out _).trans (hHeld.2.1)))))))))),((cF_ (p:=⟨gb864,_,none⟩) NB876_864.out _).trans (((cF_ (p:=⟨gb864,_,none⟩) NB876_864.out _).trans (((cF_ (p:=⟨gb864,_,none⟩) NB876_864.out _).trans (((cF_ (p:=⟨gb864,_,none⟩) NB876_864.out _).trans (((cF_ (p:=⟨gb864,_,none⟩) NB876_864.out _).trans (hHeld.2.2.1)))))))))),((cF_ (p:=⟨gb864,_,none⟩) NB876_864.out _).trans (((cF_ (p:=⟨gb864,_,none⟩) NB876_864.out _).trans (((cF_ (p:=⟨gb864,_,none⟩) NB876_864.out _).trans (((cF_ (p:=⟨gb864,_,none⟩) NB876_864.out _).trans (((cF_ (p:=⟨gb864,_,none⟩) NB876_864.out _).trans (hHeld.2.2.2.1)))))))))),((cF_ (p:=⟨gb864,_,none⟩) NB876_864.out _).trans (((cF_ (p:=⟨gb864,_,none⟩) NB876_864.out _).trans (((cF_ (p:=⟨gb864,_,none⟩) NB876_864.out _).trans (((cF_ (p:=⟨gb864,_,none⟩) NB876_864.out _).trans (((cF_ (p:=⟨gb864,_,none⟩) NB876_864.out _).trans (hHeld.2.2.2.2))))))))))⟩ (fun hHeld=>?_)
             clear hK K
             refine done_ (by kernel_rfl) ?_
             try go_wp2
             refine bodyPost_ret (results_tc rfl _ _ gb864 27 #[.int .i64 t870,.int .i64 x877001_24,.int .i64 ((rd_T37 t865 t882).f0),.int .i64 (rd t885 t888),.string t874] (0,0) _ rfl (by (with_reducible repeat (first|refine bN_ ?_ _|refine bD_ ?_|refine bA_ ?_ _));exact bk5_ (bp_ BK864.out)) Tryd.underlying27 rfl (by kernel_rfl)) rfl ?_
             exact ⟨_,fi_,by (with_reducible repeat (first|apply Kd.Q_alloc|apply Kd.Q_drewN|apply Kd.Q_drew));exact Kd.Q_mono (Kd.Q_far (p:=⟨gb864,4,none⟩) (Kd.Q_far (p:=⟨gb864,3,none⟩) (Kd.Q_far (p:=⟨gb864,2,none⟩) (Kd.Q_far (p:=⟨gb864,1,none⟩) (Kd.Q_far (p:=⟨gb864,0,none⟩) (Kd.Q_types HO_4.out BK864.out (by decide)) (fun _ hk=>hk.2) (.int .i64 t870)) (fun _ hk=>hk.2) (.int .i64 x877001_24)) (fun _ hk=>hk.2) (.int .i64 ((rd_T37 t865 t882).f0))) (fun _ hk=>hk.2) (.int .i64 (rd t885 t888))) (fun _ hk=>hk.2) (.string t874)) (fun _ hk=>trivial),is_HI0,bel_,kf_ HK.out⟩
            ·rw [if_neg c51] at H
             exact absurd H (by simp)
           ·rw [if_neg c50] at H
            exact absurd H (by simp)
          ·rw [if_neg c48] at H
           have c48b0:decide (0 < (t885.length:Int))=false:=df_ c48
           have c48b1:decide (0 < t885.length)=false:=df_ (by omega)
           clear c48
           simp only [Option.some.injEq,Prod.mk.injEq] at H
           obtain ⟨rfl,rfl,rfl,rfl,rfl,rfl,rfl⟩:=H
           obtain ⟨Ao68,co68,eo68,_⟩:=Kd.Q_slice HO_4.out
           subst eo68
           try go_wp2_with (first|((with_reducible refine gC_ (f:=73) rfl ?_);refine gl_ 46 Tryd.func73 #[.pointer (some ⟨g,0,none⟩),.int .i64 (t865.length:Int)] ?_;(with_reducible refine (spec_l6Rd_pick.calls kj29 g s0_0 x1001_29 (t865.length:Int) t882 t883 w0 _ ?side1 ?side2 A44.out).mono ?_);(case side1=>exact is_HI0);(case side2=>exact bel_);rintro e w69 ⟨rfl,hi,hb,hk⟩;refine ⟨_,rfl,?_⟩;replace HO_4:=a_ (Kd.Q_mono (Kd.Q_keep (IsS102.apartQ (show IsS102 w0 _ g s0_0 x1001_29 from is_HI0) (qp_ HO_4.out) (by decide)) hk (fun _ h=>h.2)) (fun _ h=>h.1));replace BK864:=a_ (kb_ hk BK864.out NB864_0.out);replace BK876:=a_ (kb_ hk BK876.out NB876_0.out);replace HK:=a_ (KeepBut.trans (kf_ HK.out) hk (.inl rfl));replace HB:=a_ (hb);replace HI0:=a_ (hi);(try clear hb hk hi);have p884:0≤(t882:Int):=od_;have q884:t882 < (t865.length:Int):=od_;obtain ⟨ad884,e884,hx884_0,hx884_1,hx884_2⟩:=at_T37 (Kd.Q_reads' HO_4.out).2.2 t882 p884 q884;cases e884;replace p884:=eq_true p884;replace q884:=eq_true q884;have hnb70:=NB876_864.out;have hnc70:=NB864_876.out;have hnb71:=NB876_0.out;have hnc71:=NB0_876.out;obtain ⟨Z72_0,Z72_1,Z72_2,Z72_3,Z72_4,Y72_0,Y72_1,Y72_2,Y72_3,Y72_4⟩:=op5_ BK876.out)|((with_reducible refine gC_ (f:=70) rfl ?_);refine gl_ 54 Tryd.func70 #[.slice (some ad884) t865.length co68,.int .i64 ((rd_T37 t865 t882).f0)] ?_;(with_reducible refine (spec_l2Kids.calls kj29 _ _ t865 ((rd_T37 t865 t882).f0) t885 _ ?side1 ?side2 A47.out).mono ?_);(case side1=>refine (Kd.Q_reads' (e:=37) (base:=w.heap.size) (ok:=fun k_=>True) (n:=t865.length) (c:=co68) ?_).2.2;exact (by (with_reducible repeat (first|apply Kd.Q_alloc|apply Kd.Q_drewN|apply Kd.Q_drew));exact (Kd.Q_mono (Kd.Q_far (p:=⟨gb876,2,none⟩) (Kd.Q_types HO_4.out BK876.out (by decide)) (fun _ hk=>hk.2) (.int .i64 ((rd_T37 t865 t882).f0))) (fun _ h_=>h_.1))));(case side2=>exact (Kd.Q_reads' HO_4.out).2.1);rintro e w73 ⟨v886,rfl,ho0,hb⟩;refine ⟨_,rfl,?_⟩;have n0_:=a_ (Kd.Q_below (by (with_reducible repeat (first|apply Kd.Q_alloc|apply Kd.Q_drewN|apply Kd.Q_drew));exact (Kd.Q_mono (Kd.Q_far (p:=⟨gb876,2,none⟩) (Kd.Q_types HO_4.out BK876.out (by decide)) (fun _ hk=>hk.2) (.int .i64 ((rd_T37 t865 t882).f0))) (fun _ h_=>h_.1))) hb);have n1_:=a_ (Kd.R_lower ho0 (keep_size (w:=w) (g:=g) (row:=none) (kf_ HK.out)));have n2_:=a_ (blk_below (g:=gb864) (o:=.cells #[.int .i64 0,.int .i64 0,.int .i64 0,.int .i64 0,.string (⟨#[]⟩:ByteArray)] 27 (0,0)) (by (with_reducible repeat (first|refine bN_ ?_ _|refine bD_ ?_|refine bA_ ?_ _));refine blk_far ?_ NB864_876.out _;(with_reducible repeat (first|refine bN_ ?_ _|refine bD_ ?_|refine bA_ ?_ _));exact BK864.out) hb);have n3_:=a_ (blk_below (g:=gb876) (o:=.cells #[.int .i64 t870,.int .i64 x877001_24,.int .i64 ((rd_T37 t865 t882).f0),.int .i64 t873,.string t874] 27 (0,0)) (by (with_reducible repeat (first|refine bN_ ?_ _|refine bD_ ?_|refine bA_ ?_ _));refine blk_put (cs:=#[.int .i64 t870,.int .i64 x877001_24,.int .i64 t872,.int .i64 t873,.string t874]) ?_ 2 _ rfl;(with_reducible repeat (first|refine bN_ ?_ _|refine bD_ ?_|refine bA_ ?_ _));exact BK876.out) hb);have n4_:=a_ (IsS102.below (show IsS102 w0 (w69.setCell ⟨gb876,2,none⟩ (.int .i64 ((rd_T37 t865 t882).f0))) g s0_0 t883 from is_HI0) hb);have n5_:=a_ (KeepBut.trans (kf_ HK.out) (KeepBut.of_below hb g none) (.inl rfl));have n6_:=a_ (bS_ (bel_) hb);clear HO_4;clear BK864;clear BK876;clear HI0;clear HK;clear HB;have HO_4:=n0_;have HO887:=n1_;have BK864:=n2_;have BK876:=n3_;have HI0:=n4_;have HK:=n5_;have HB:=n6_;clear n0_ n1_ n2_ n3_ n4_ n5_ n6_;(try clear hb ho0);obtain ⟨Ao74,co74,eo74⟩:=Kd.R_slice HO887.out;subst eo74))
           have n0_:=a_ (Kd.Q_drew HO_4.out)
           have n1_:=a_ (Kd.R_drew HO887.out)
           have n2_:=a_ (bD_ BK864.out)
           have n3_:=a_ (bD_ BK876.out)
           have n4_:=a_ (IsS102.drew HI0.out)
           have n5_:=a_ (keep_drew HK.out)
           have n6_:=a_ (below_drew1 HB.out)
           clear HO_4
           clear HO887
           clear BK864
           clear BK876
           clear HI0
           clear HK
           clear HB
           have HO_4:=n0_
           have HO887:=n1_
           have BK864:=n2_
           have BK876:=n3_
           have HI0:=n4_
           have HK:=n5_
           have HB:=n6_
           clear n0_ n1_ n2_ n3_ n4_ n5_ n6_
           refine start_ (n:=4) (S:=fun w'=>w'.cell? ⟨gb876,0,none⟩=some (.int .i64 t870)∧w'.cell? ⟨gb876,1,none⟩=some (.int .i64 x877001_24)∧w'.cell? ⟨gb876,2,none⟩=some (.int .i64 ((rd_T37 t865 t882).f0))∧w'.cell? ⟨gb876,3,none⟩=some (.int .i64 t873)∧w'.cell? ⟨gb876,4,none⟩=some (.string t874)) (ds:=[]) #[false,false,false,false] (by kernel_rfl) rfl rfl ⟨(bC_ BK876.out 0).trans rfl,(bC_ BK876.out 1).trans rfl,(bC_ BK876.out 2).trans rfl,(bC_ BK876.out 3).trans rfl,(bC_ BK876.out 4).trans rfl⟩ (fun hHeld=>?_)
           generalize w73.drew=w75 at HO_4 HO887 BK864 BK876 HI0 HK HB hHeld ⊢
           refine pure_ (i:=0) (N:=some 66) (v:=?_) (a':=?_) #[true,false,false,false] rfl rfl (by kernel_rfl) (fun _ _ _ h=>h) (Or.inl ⟨by rfl,?_⟩) ?_ ?_
           rotate_left
           ·intro w'
            go_simp
            with_reducible rfl
           rotate_left
           ·simp only [Act.put,List.setIfInBounds_toArray,List.set_cons_zero,List.set_cons_succ,i64_w,i32_w]
            rfl
           refine pure_ (i:=2) (N:=some 2) (v:=?_) (a':=?_) #[true,false,true,false] rfl rfl (by kernel_rfl) (fun _ _ _ h=>h) (Or.inl ⟨by rfl,?_⟩) ?_ ?_
           rotate_left
           ·intro w'
            go_simp
            with_reducible rfl
           rotate_left
           ·simp only [Act.put,List.setIfInBounds_toArray,List.set_cons_zero,List.set_cons_succ,i64_w,i32_w]
            rfl
           refine take_ (i:=1) (N:=some 67) (v:=?_) (a':=?_) #[true,true,true,false] rfl rfl (by kernel_rfl) (fun _ _ _ h=>h) (Or.inl ⟨by rfl,?_⟩) hHeld ?_ ?_
           rotate_left
           ·rintro w' ⟨s0,s1,s2,s3,s4⟩
            go_simp
            with_reducible rfl
           rotate_left
           ·simp only [Act.put,List.setIfInBounds_toArray,List.set_cons_zero,List.set_cons_succ,i64_w,i32_w]
            rfl
           refine one_ (i:=3) (N:=none) #[true,true,true,true] rfl rfl (by kernel_rfl) (by decide) (fun K hK=>?_)
           have hs76:w75.cell? ⟨gb864,0,none⟩=some (.int .i64 0):=(bC_ BK864.out 0).trans rfl
           have hfs76:=bF_ BK864.out 0
           have hns76_1:=NB876_864.out
           have hms76_1:=NB864_876.out
           have hs77:w75.cell? ⟨gb864,1,none⟩=some (.int .i64 0):=(bC_ BK864.out 1).trans rfl
           have hfs77:=bF_ BK864.out 1
           have hns77_1:=NB876_864.out
           have hms77_1:=NB864_876.out
           have hs78:w75.cell? ⟨gb864,2,none⟩=some (.int .i64 0):=(bC_ BK864.out 2).trans rfl
           have hfs78:=bF_ BK864.out 2
           have hns78_1:=NB876_864.out
           have hms78_1:=NB864_876.out
           have hs79:w75.cell? ⟨gb864,3,none⟩=some (.int .i64 0):=(bC_ BK864.out 3).trans rfl
           have hfs79:=bF_ BK864.out 3
           have hns79_1:=NB876_864.out
           have hms79_1:=NB864_876.out
           have hs80:w75.cell? ⟨gb864,4,none⟩=some (.string (⟨#[]⟩:ByteArray)):=(bC_ BK864.out 4).trans rfl
           have hfs80:=bF_ BK864.out 4
           have hns80_1:=NB876_864.out
           have hms80_1:=NB864_876.out
           refine skip_ (w1:=?_) (by rfl) rfl ?_ ?_
           rotate_left
           ·go_simp
            rfl
           refine hK.out _ _ ⟨((cF_ (p:=⟨gb864,_,none⟩) NB876_864.out _).trans (((cF_ (p:=⟨gb864,_,none⟩) NB876_864.out _).trans (((cF_ (p:=⟨gb864,_,none⟩) NB876_864.out _).trans (((cF_ (p:=⟨gb864,_,none⟩) NB876_864.out _).trans (((cF_ (p:=⟨gb864,_,none⟩) NB876_864.out _).trans (hHeld.1)))))))))),((cF_ (p:=⟨gb864,_,none⟩) NB876_864.out _).trans (((cF_ (p:=⟨gb864,_,none⟩) NB876_864.out _).trans (((cF_ (p:=⟨gb864,_,none⟩) NB876_864.out _).trans (((cF_ (p:=⟨gb864,_,none⟩) NB876_864.out _).trans (((cF_ (p:=⟨gb864,_,none⟩) NB876_864.out _).trans (hHeld.2.1)))))))))),((cF_ (p:=⟨gb864,_,none⟩) NB876_864.out _).trans (((cF_ (p:=⟨gb864,_,none⟩) NB876_864.out _).trans (((cF_ (p:=⟨gb864,_,none⟩) NB876_864.out _).trans (((cF_ (p:=⟨gb864,_,none⟩) NB876_864.out _).trans (((cF_ (p:=⟨gb864,_,none⟩) NB876_864.out _).trans (hHeld.2.2.1)))))))))),((cF_ (p:=⟨gb864,_,none⟩) NB876_864.out _).trans (((cF_ (p:=⟨gb864,_,none⟩) NB876_864.out _).trans (((cF_ (p:=⟨gb864,_,none⟩) NB876_864.out _).trans (((cF_ (p:=⟨gb864,_,none⟩) NB876_864.out _).trans (((cF_ (p:=⟨gb864,_,none⟩) NB876_864.out _).trans (hHeld.2.2.2.1)))))))))),((cF_ (p:=⟨gb864,_,none⟩) NB876_864.out _).trans (((cF_ (p:=⟨gb864,_,none⟩) NB876_864.out _).trans (((cF_ (p:=⟨gb864,_,none⟩) NB876_864.out _).trans (((cF_ (p:=⟨gb864,_,none⟩) NB876_864.out _).trans (((cF_ (p:=⟨gb864,_,none⟩) NB876_864.out _).trans (hHeld.2.2.2.2))))))))))⟩ (fun hHeld=>?_)
           clear hK K
           refine done_ (by kernel_rfl) ?_
           try go_wp2
           refine bodyPost_ret (results_tc rfl _ _ gb864 27 #[.int .i64 t870,.int .i64 x877001_24,.int .i64 ((rd_T37 t865 t882).f0),.int .i64 t873,.string t874] (0,0) _ rfl (by (with_reducible repeat (first|refine bN_ ?_ _|refine bD_ ?_|refine bA_ ?_ _));exact bk5_ (bp_ BK864.out)) Tryd.underlying27 rfl (by kernel_rfl)) rfl ?_
           exact ⟨_,fi_,by (with_reducible repeat (first|apply Kd.Q_alloc|apply Kd.Q_drewN|apply Kd.Q_drew));exact Kd.Q_mono (Kd.Q_far (p:=⟨gb864,4,none⟩) (Kd.Q_far (p:=⟨gb864,3,none⟩) (Kd.Q_far (p:=⟨gb864,2,none⟩) (Kd.Q_far (p:=⟨gb864,1,none⟩) (Kd.Q_far (p:=⟨gb864,0,none⟩) (Kd.Q_types HO_4.out BK864.out (by decide)) (fun _ hk=>hk.2) (.int .i64 t870)) (fun _ hk=>hk.2) (.int .i64 x877001_24)) (fun _ hk=>hk.2) (.int .i64 ((rd_T37 t865 t882).f0))) (fun _ hk=>hk.2) (.int .i64 t873)) (fun _ hk=>hk.2) (.string t874)) (fun _ hk=>trivial),is_HI0,bel_,kf_ HK.out⟩
         ·rw [if_neg c46] at H
          exact absurd H (by simp)
        ·rw [if_neg c45] at H
         exact absurd H (by simp)
       ·replace c43:=Bool.eq_false_iff.mpr c43
        subst c43
        have H1:(some (t865,t870,x877001_24,t872,t873,t874,x1001_29))=some (r1,r2,r3,r4,r5,r6,r7):=by rw [if_neg (show ¬ (false=true) by decide)] at H;exact H
        clear H
        have H:=H1
        clear H1
        simp only [Option.some.injEq,Prod.mk.injEq] at H
        obtain ⟨rfl,rfl,rfl,rfl,rfl,rfl,rfl⟩:=H
        try go_wp2
        have n0_:=a_ (Kd.Q_drew HO_4.out)
        have n1_:=a_ (bD_ BK864.out)
        have n2_:=a_ (bD_ BK876.out)
        have n3_:=a_ (IsS102.drew HI0.out)
        have n4_:=a_ (keep_drew HK.out)
        have n5_:=a_ (below_drew1 HB.out)
        clear HO_4
        clear BK864
        clear BK876
        clear HI0
        clear HK
        clear HB
        have HO_4:=n0_
        have BK864:=n1_
        have BK876:=n2_
        have HI0:=n3_
        have HK:=n4_
        have HB:=n5_
        clear n0_ n1_ n2_ n3_ n4_ n5_
        refine start_ (n:=4) (S:=fun w'=>w'.cell? ⟨gb876,0,none⟩=some (.int .i64 t870)∧w'.cell? ⟨gb876,1,none⟩=some (.int .i64 x877001_24)∧w'.cell? ⟨gb876,2,none⟩=some (.int .i64 t872)∧w'.cell? ⟨gb876,3,none⟩=some (.int .i64 t873)∧w'.cell? ⟨gb876,4,none⟩=some (.string t874)) (ds:=[]) #[false,false,false,false] (by kernel_rfl) rfl rfl ⟨(bC_ BK876.out 0).trans rfl,(bC_ BK876.out 1).trans rfl,(bC_ BK876.out 2).trans rfl,(bC_ BK876.out 3).trans rfl,(bC_ BK876.out 4).trans rfl⟩ (fun hHeld=>?_)
        generalize wc.drew=w81 at HO_4 BK864 BK876 HI0 HK HB hHeld ⊢
        refine pure_ (i:=0) (N:=some 66) (v:=?_) (a':=?_) #[true,false,false,false] rfl rfl (by kernel_rfl) (fun _ _ _ h=>h) (Or.inl ⟨by rfl,?_⟩) ?_ ?_
        rotate_left
        ·intro w'
         go_simp
         with_reducible rfl
        rotate_left
        ·simp only [Act.put,List.setIfInBounds_toArray,List.set_cons_zero,List.set_cons_succ,i64_w,i32_w]
         rfl
        refine pure_ (i:=2) (N:=some 2) (v:=?_) (a':=?_) #[true,false,true,false] rfl rfl (by kernel_rfl) (fun _ _ _ h=>h) (Or.inl ⟨by rfl,?_⟩) ?_ ?_
        rotate_left
        ·intro w'
         go_simp
         with_reducible rfl
        rotate_left
        ·simp only [Act.put,List.setIfInBounds_toArray,List.set_cons_zero,List.set_cons_succ,i64_w,i32_w]
         rfl
        refine take_ (i:=1) (N:=some 67) (v:=?_) (a':=?_) #[true,true,true,false] rfl rfl (by kernel_rfl) (fun _ _ _ h=>h) (Or.inl ⟨by rfl,?_⟩) hHeld ?_ ?_
        rotate_left
        ·rintro w' ⟨s0,s1,s2,s3,s4⟩
         go_simp
         with_reducible rfl
        rotate_left
        ·simp only [Act.put,List.setIfInBounds_toArray,List.set_cons_zero,List.set_cons_succ,i64_w,i32_w]
         rfl
        refine one_ (i:=3) (N:=none) #[true,true,true,true] rfl rfl (by kernel_rfl) (by decide) (fun K hK=>?_)
        have hs82:w81.cell? ⟨gb864,0,none⟩=some (.int .i64 0):=(bC_ BK864.out 0).trans rfl
        have hfs82:=bF_ BK864.out 0
        have hns82_1:=NB876_864.out
        have hms82_1:=NB864_876.out
        have hs83:w81.cell? ⟨gb864,1,none⟩=some (.int .i64 0):=(bC_ BK864.out 1).trans rfl
        have hfs83:=bF_ BK864.out 1
        have hns83_1:=NB876_864.out
        have hms83_1:=NB864_876.out
        have hs84:w81.cell? ⟨gb864,2,none⟩=some (.int .i64 0):=(bC_ BK864.out 2).trans rfl
        have hfs84:=bF_ BK864.out 2
        have hns84_1:=NB876_864.out
        have hms84_1:=NB864_876.out
        have hs85:w81.cell? ⟨gb864,3,none⟩=some (.int .i64 0):=(bC_ BK864.out 3).trans rfl
        have hfs85:=bF_ BK864.out 3
        have hns85_1:=NB876_864.out
        have hms85_1:=NB864_876.out
        have hs86:w81.cell? ⟨gb864,4,none⟩=some (.string (⟨#[]⟩:ByteArray)):=(bC_ BK864.out 4).trans rfl
        have hfs86:=bF_ BK864.out 4
        have hns86_1:=NB876_864.out
        have hms86_1:=NB864_876.out
        refine skip_ (w1:=?_) (by rfl) rfl ?_ ?_
        rotate_left
        ·go_simp
         rfl
        refine hK.out _ _ ⟨((cF_ (p:=⟨gb864,_,none⟩) NB876_864.out _).trans (((cF_ (p:=⟨gb864,_,none⟩) NB876_864.out _).trans (((cF_ (p:=⟨gb864,_,none⟩) NB876_864.out _).trans (((cF_ (p:=⟨gb864,_,none⟩) NB876_864.out _).trans (((cF_ (p:=⟨gb864,_,none⟩) NB876_864.out _).trans (hHeld.1)))))))))),((cF_ (p:=⟨gb864,_,none⟩) NB876_864.out _).trans (((cF_ (p:=⟨gb864,_,none⟩) NB876_864.out _).trans (((cF_ (p:=⟨gb864,_,none⟩) NB876_864.out _).trans (((cF_ (p:=⟨gb864,_,none⟩) NB876_864.out _).trans (((cF_ (p:=⟨gb864,_,none⟩) NB876_864.out _).trans (hHeld.2.1)))))))))),((cF_ (p:=⟨gb864,_,none⟩) NB876_864.out _).trans (((cF_ (p:=⟨gb864,_,none⟩) NB876_864.out _).trans (((cF_ (p:=⟨gb864,_,none⟩) NB876_864.out _).trans (((cF_ (p:=⟨gb864,_,none⟩) NB876_864.out _).trans (((cF_ (p:=⟨gb864,_,none⟩) NB876_864.out _).trans (hHeld.2.2.1)))))))))),((cF_ (p:=⟨gb864,_,none⟩) NB876_864.out _).trans (((cF_ (p:=⟨gb864,_,none⟩) NB876_864.out _).trans (((cF_ (p:=⟨gb864,_,none⟩) NB876_864.out _).trans (((cF_ (p:=⟨gb864,_,none⟩) NB876_864.out _).trans (((cF_ (p:=⟨gb864,_,none⟩) NB876_864.out _).trans (hHeld.2.2.2.1)))))))))),((cF_ (p:=⟨gb864,_,none⟩) NB876_864.out _).trans (((cF_ (p:=⟨gb864,_,none⟩) NB876_864.out _).trans (((cF_ (p:=⟨gb864,_,none⟩) NB876_864.out _).trans (((cF_ (p:=⟨gb864,_,none⟩) NB876_864.out _).trans (((cF_ (p:=⟨gb864,_,none⟩) NB876_864.out _).trans (hHeld.2.2.2.2))))))))))⟩ (fun hHeld=>?_)
        clear hK K
        refine done_ (by kernel_rfl) ?_
        try go_wp2
        refine bodyPost_ret (results_tc rfl _ _ gb864 27 #[.int .i64 t870,.int .i64 x877001_24,.int .i64 t872,.int .i64 t873,.string t874] (0,0) _ rfl (by (with_reducible repeat (first|refine bN_ ?_ _|refine bD_ ?_|refine bA_ ?_ _));exact bk5_ (bp_ BK864.out)) Tryd.underlying27 rfl (by kernel_rfl)) rfl ?_
        exact ⟨_,fi_,by (with_reducible repeat (first|apply Kd.Q_alloc|apply Kd.Q_drewN|apply Kd.Q_drew));exact Kd.Q_mono (Kd.Q_far (p:=⟨gb864,4,none⟩) (Kd.Q_far (p:=⟨gb864,3,none⟩) (Kd.Q_far (p:=⟨gb864,2,none⟩) (Kd.Q_far (p:=⟨gb864,1,none⟩) (Kd.Q_far (p:=⟨gb864,0,none⟩) (Kd.Q_types HO_4.out BK864.out (by decide)) (fun _ hk=>hk.2) (.int .i64 t870)) (fun _ hk=>hk.2) (.int .i64 x877001_24)) (fun _ hk=>hk.2) (.int .i64 t872)) (fun _ hk=>hk.2) (.int .i64 t873)) (fun _ hk=>hk.2) (.string t874)) (fun _ hk=>trivial),is_HI0,bel_,kf_ HK.out⟩
mutual
def spec_DrawKeyBack.l0:Nat→List (S37)→Int→List Int→Int→Int→Int→Int→Int→ByteArray→Option ((List (S37))×Int×Int×Int×Int×ByteArray)
 | 0,_,_,_,_,_,_,_,_,_=>none
 | k+1,x5,x7,x895000,x895001,x905000,x905001,x905002,x905003,x905004=>if x7 < 5 then ((spec_l6Rd_pick.f k x895000 x895001 8).bind fun bt905=>(spec_DrawKeyBack.j1 k x5 x7 (decide (bt905.1 > 0)) x895000 bt905.2 x905000 x905001 x905002 x905003 x905004)) else (spec_DrawKeyBack.j1 k x5 x7 false x895000 x895001 x905000 x905001 x905002 x905003 x905004)
def spec_DrawKeyBack.j1:Nat→List (S37)→Int→Bool→List Int→Int→Int→Int→Int→Int→ByteArray→Option ((List (S37))×Int×Int×Int×Int×ByteArray)
 | 0,_,_,_,_,_,_,_,_,_,_=>none
 | k+1,x5,x7,x23,x895000,x895001,x905000,x905001,x905002,x905003,x905004=>if x23=true then ((spec_KeyBack.f k x5 x905000 x905001 x905002 x905003 x905004).bind fun bt907=>(if bt907.2.2.2.2.2=true then (some (x5,x905000,x905001,x905002,x905003,x905004)) else ((spec_l71Fits.f k x895000 x895001).bind fun bt914=>(spec_DrawKeyBack.l0 k bt914.1 (wrap64 (x7+1)) x895000 bt914.2.2.2.2.2.2 bt914.2.1 bt914.2.2.1 bt914.2.2.2.1 bt914.2.2.2.2.1 bt914.2.2.2.2.2.1)))) else (some (x5,x905000,x905001,x905002,x905003,x905004))
end
def spec_DrawKeyBack.f (k:Nat) (l0:List Int):Option ((List (S37))×Int×Int×Int×Int×ByteArray):=(spec_l6Open.f l0).bind fun bt892=>((spec_l71Fits.f k bt892.1 bt892.2).bind fun bt895=>(spec_DrawKeyBack.l0 k bt895.1 0 bt892.1 bt895.2.2.2.2.2.2 bt895.2.1 bt895.2.2.1 bt895.2.2.2.1 bt895.2.2.2.2.1 bt895.2.2.2.2.2.1))
theorem spec_DrawKeyBack.mono_l:∀ k,(∀ y0 y1 y2 y3 y4 y5 y6 y7 y8,LeO (spec_DrawKeyBack.l0 k y0 y1 y2 y3 y4 y5 y6 y7 y8) (spec_DrawKeyBack.l0 (k+1) y0 y1 y2 y3 y4 y5 y6 y7 y8))∧(∀ y0 y1 y2 y3 y4 y5 y6 y7 y8 y9,LeO (spec_DrawKeyBack.j1 k y0 y1 y2 y3 y4 y5 y6 y7 y8 y9) (spec_DrawKeyBack.j1 (k+1) y0 y1 y2 y3 y4 y5 y6 y7 y8 y9))
 | 0=>⟨fun _ _ _ _ _ _ _ _ _ r h=>by simp [spec_DrawKeyBack.l0] at h,fun _ _ _ _ _ _ _ _ _ _ r h=>by simp [spec_DrawKeyBack.j1] at h⟩
 | k+1=>by
  obtain ⟨ih0,ih1⟩:=spec_DrawKeyBack.mono_l k
  refine ⟨?_,?_⟩
  all_goals intros
  all_goals first|unfold spec_DrawKeyBack.l0|unfold spec_DrawKeyBack.j1
  all_goals repeat' first
  | (with_reducible exact ih0 _ _ _ _ _ _ _ _ _)
  | (with_reducible exact ih1 _ _ _ _ _ _ _ _ _ _)
  | (with_reducible exact spec_KeyBack.mono _ _ _ _ _ _ _)
  | (with_reducible exact spec_l6Rd_pick.mono _ _ _ _)
  | (with_reducible exact spec_l71Fits.mono _ _ _)
  | (with_reducible exact LeO.refl _)
  | (with_reducible exact LeO.none _)
  | (with_reducible refine LeO.ite ?_ ?_)
  | (with_reducible refine LeO.bind ?_ (fun _=>?_))
theorem spec_DrawKeyBack.mono:∀ a0 k,LeO (spec_DrawKeyBack.f k a0) (spec_DrawKeyBack.f (k+1) a0):=by
 intro a0 k
 obtain ⟨ih0,ih1⟩:=spec_DrawKeyBack.mono_l k
 unfold spec_DrawKeyBack.f
 repeat' first
   | (with_reducible exact ih0 _ _ _ _ _ _ _ _ _)
   | (with_reducible exact ih1 _ _ _ _ _ _ _ _ _ _)
   | (with_reducible exact spec_KeyBack.mono _ _ _ _ _ _ _)
   | (with_reducible exact spec_l6Rd_pick.mono _ _ _ _)
   | (with_reducible exact spec_l71Fits.mono _ _ _)
   | (with_reducible exact LeO.refl _)
   | (with_reducible exact LeO.none _)
   | (with_reducible refine LeO.ite ?_ ?_)
   | (with_reducible refine LeO.bind ?_ (fun _=>?_))
theorem spec_DrawKeyBack.calls (k:Nat) (A0:Option Addr) (c0:Nat) (l0:List Int) (r1:List (S37)) (r2:Int) (r3:Int) (r4:Int) (r5:Int) (r6:ByteArray) (w:World) (hr0:Kd.C (Kd.int .u8) w A0 l0.length l0) (hc0:l0.length≤c0) (h:spec_DrawKeyBack.f k l0=some (r1,r2,r3,r4,r5,r6)) :
  Calls Tryd.prog 46 #[.slice A0 l0.length c0] w fun e w'=>∃ v0_:Value,e=.returned (.tuple #[v0_,.agg #[.int .i64 r2,.int .i64 r3,.int .i64 r4,.int .i64 r5,.string r6]])∧Kd.Q k37 37 w' w.heap.size (fun _=>True) v0_ r1∧Below w.heap.size w w':=by
 have hu27:=Tryd.underlying27
 have HR0:=a_ hr0
 have HC0:=a_ hc0
 clear hr0 hc0
 have HB:=a_ (Below.refl w.heap.size w)
 unfold spec_DrawKeyBack.f at h
 have H:=h
 clear h
 replace H:=bs_ H
 obtain ⟨⟨t892,t893⟩,A20,H⟩:=H
 try dsimp only at H
 have A2:=a_ A20
 clear A20
 replace H:=bs_ H
 obtain ⟨⟨t895,t898,t899,t900,t901,t902,t903⟩,A30,H⟩:=H
 try dsimp only at H
 have A3:=a_ A30
 clear A30
 have H':=a_ H
 clear H
 go_enter Tryd.func46,Tryd.ntmps46
 go_wp2_with (first|((with_reducible refine gD_ (N:=3) rfl ?_);refine bx_ 3 (#[.int .i64 0,.int .i64 0,.int .i64 0,.int .i64 0,.string (⟨#[]⟩:ByteArray)]) 27 ?_;intro gb891 hg w4 hbox hb;have n0_:=a_ (bS_ (bel_) hb);have n1_:=a_ (hbox);have n2_:=a_ ((by rw [hg];exact (below_size (bel_)):w.heap.size≤gb891));have n3_:=a_ ((by rw [hg];exact (below_size (bel_)):w.heap.size≤gb891));clear HB;have HB:=n0_;have BK891:=n1_;have GW891:=n2_;have GE891:=n3_;clear n0_ n1_ n2_ n3_;clear hb hbox hg)|((with_reducible refine gC_ (f:=52) rfl ?_);refine gl_ 11 Tryd.func52 #[.slice A0 l0.length c0] ?_;(with_reducible refine (spec_l6Open.calls _ _ l0 t892 t893 w _ ?side1 ?side2 ?side3 A2.out).mono ?_);(case side1=>exact bel_);(case side2=>exact HR0.out);(case side3=>exact HC0.out);rintro e w5 ⟨g894,rfl,hi,hb,hb2⟩;refine ⟨_,rfl,?_⟩;replace HB:=a_ (hb);have HI894:=a_ (hi);have NB894_891:=a_ (IsS102.ne_blk hi (bb_ BK891.out hb2) (by decide));have NB891_894:=a_ (Ne.symm (IsS102.ne_blk hi (bb_ BK891.out hb2) (by decide)));replace BK891:=a_ (bb_ BK891.out hb2);(try clear hb hb2 hi))|((with_reducible refine gC_ (f:=86) rfl ?_);refine gl_ 14 Tryd.func86 #[.pointer (some ⟨g894,0,none⟩)] ?_;(with_reducible refine (spec_l71Fits.calls k g894 t892 t893 t895 t898 t899 t900 t901 t902 t903 w _ ?side1 ?side2 A3.out).mono ?_);(case side1=>exact is_HI894);(case side2=>exact bel_);rintro e w6 ⟨v896,rfl,ho0,hi,hb,hk⟩;refine ⟨_,rfl,?_⟩;have HO897:=a_ (Kd.Q_lower ho0 (below_size (bel_)));replace BK891:=a_ (kb_ hk BK891.out NB891_894.out);replace HB:=a_ (hb);replace HI894:=a_ (hi);(try clear hb hk hi ho0))|((with_reducible refine gD_ (N:=6) rfl ?_);refine bx_ 6 (#[.int .i64 0,.int .i64 0,.int .i64 0,.int .i64 0,.string (⟨#[]⟩:ByteArray)]) 27 ?_;intro gb904 hg w7 hbox hb;have n0_:=a_ (Kd.Q_below (qp_ HO897.out) hb);have n1_:=a_ (bb_ BK891.out hb);have n2_:=a_ (IsS102.below (is_HI894) hb);have n3_:=a_ (bS_ (bel_) hb);have n4_:=a_ (hbox);have n5_:=a_ ((by rw [hg];exact (below_size (bel_)):w.heap.size≤gb904));have n6_:=a_ ((by rw [hg];exact (below_size (bel_)):w.heap.size≤gb904));have n7_:=a_ ((by rw [hg];exact Nat.ne_of_lt (blk_lt (g:=gb891) (o:=.cells #[.int .i64 0,.int .i64 0,.int .i64 0,.int .i64 0,.string (⟨#[]⟩:ByteArray)] 27 (0,0)) (bp_ BK891.out)):gb891≠gb904));have n8_:=a_ ((by rw [hg];exact Nat.ne_of_gt (blk_lt (g:=gb891) (o:=.cells #[.int .i64 0,.int .i64 0,.int .i64 0,.int .i64 0,.string (⟨#[]⟩:ByteArray)] 27 (0,0)) (bp_ BK891.out)):gb904≠gb891));have n9_:=a_ ((by rw [hg];exact Nat.ne_of_lt (IsS102.lt (show IsS102 w _ g894 t892 t903 from is_HI894)):g894≠gb904));have n10_:=a_ ((by rw [hg];exact Nat.ne_of_gt (IsS102.lt (show IsS102 w _ g894 t892 t903 from is_HI894)):gb904≠g894));clear HO897;clear BK891;clear HI894;clear HB;have HO897:=n0_;have BK891:=n1_;have HI894:=n2_;have HB:=n3_;have BK904:=n4_;have GW904:=n5_;have GE904:=n6_;have NB891_904:=n7_;have NB904_891:=n8_;have NB894_904:=n9_;have NB904_894:=n10_;clear n0_ n1_ n2_ n3_ n4_ n5_ n6_ n7_ n8_ n9_ n10_;clear hb hbox hg;have hnb8:=NB904_891.out;have hnc8:=NB891_904.out;have hnb9:=NB904_894.out;have hnc9:=NB894_904.out;obtain ⟨Z10_0,Z10_1,Z10_2,Z10_3,Z10_4,Y10_0,Y10_1,Y10_2,Y10_3,Y10_4⟩:=op5_ BK904.out))
 go_loopg [5,7] k (fun kq v5 v7 w'=>∃ (x5_1:List (S37)) (x7_1:Int) (x892000_1:Int) (x892001_1:Int) (x892002_1:Int) (x892003_1:Int) (x892004_1:ByteArray) (x895001_1:Int) (x905000_1:Int) (x905001_1:Int) (x905002_1:Int) (x905003_1:Int) (x905004_1:ByteArray),v7=.int .i64 x7_1∧Aside0 (spec_DrawKeyBack.l0 kq x5_1 x7_1 t892 x895001_1 x905000_1 x905001_1 x905002_1 x905003_1 x905004_1=some (r1,r2,r3,r4,r5,r6))∧Aside0 (kq≤k)∧Aside0 (Kd.Q k37 37 w' w.heap.size (fun _=>True) v5 x5_1)∧Aside0 (w'.heap[gb891]?=some (.cells #[.int .i64 x892000_1,.int .i64 x892001_1,.int .i64 x892002_1,.int .i64 x892003_1,.string x892004_1] 27 (0,0)))∧Aside0 (w'.heap[gb904]?=some (.cells #[.int .i64 x905000_1,.int .i64 x905001_1,.int .i64 x905002_1,.int .i64 x905003_1,.string x905004_1] 27 (0,0)))∧Aside0 (IsS102 w w' g894 t892 x895001_1)∧Aside0 (Below w.heap.size w w'))
 case atStart=>exact ⟨(t895),(0),(0),(0),(0),(0),((⟨#[]⟩:ByteArray)),(t903),(t898),(t899),(t900),(t901),(t902),(si_),H',⟨Nat.le_refl _⟩,⟨by (with_reducible repeat (first|apply Kd.Q_alloc|apply Kd.Q_drewN|apply Kd.Q_drew));exact Kd.Q_mono (Kd.Q_far (p:=⟨gb904,4,none⟩) (Kd.Q_far (p:=⟨gb904,3,none⟩) (Kd.Q_far (p:=⟨gb904,2,none⟩) (Kd.Q_far (p:=⟨gb904,1,none⟩) (Kd.Q_far (p:=⟨gb904,0,none⟩) (Kd.Q_types HO897.out BK904.out (by decide)) (fun _ hk=>hk.2) (.int .i64 t898)) (fun _ hk=>hk.2) (.int .i64 t899)) (fun _ hk=>hk.2) (.int .i64 t900)) (fun _ hk=>hk.2) (.int .i64 t901)) (fun _ hk=>hk.2) (.string t902)) (fun _ hk=>trivial)⟩,⟨by (with_reducible repeat (first|refine bN_ ?_ _|refine bD_ ?_|refine bA_ ?_ _));refine blk_far ?_ NB891_904.out _;(with_reducible repeat (first|refine bN_ ?_ _|refine bD_ ?_|refine bA_ ?_ _));refine blk_far ?_ NB891_904.out _;(with_reducible repeat (first|refine bN_ ?_ _|refine bD_ ?_|refine bA_ ?_ _));refine blk_far ?_ NB891_904.out _;(with_reducible repeat (first|refine bN_ ?_ _|refine bD_ ?_|refine bA_ ?_ _));refine blk_far ?_ NB891_904.out _;(with_reducible repeat (first|refine bN_ ?_ _|refine bD_ ?_|refine bA_ ?_ _));refine blk_far ?_ NB891_904.out _;(with_reducible repeat (first|refine bN_ ?_ _|refine bD_ ?_|refine bA_ ?_ _));exact BK891.out⟩,⟨by (with_reducible repeat (first|refine bN_ ?_ _|refine bD_ ?_|refine bA_ ?_ _));exact bk5_ (bp_ BK904.out)⟩,⟨is_HI894⟩,⟨bel_⟩⟩
 case round =>
  clear H'
  try clear p2
  try clear c4
  try clear c5
  try clear c8
  try clear c9
  try clear Z10_0 Z10_1 Z10_2 Z10_3 Z10_4 Y10_0 Y10_1 Y10_2 Y10_3 Y10_4
  obtain ⟨x5_1,x7_1,x892000_1,x892001_1,x892002_1,x892003_1,x892004_1,x895001_1,x905000_1,x905001_1,x905002_1,x905003_1,x905004_1,rfl,HA,HK1,HO_5,BK891,BK904,HI894,HB⟩:=hrel
  cases gk with
  | zero=>exact absurd HA.out (by simp [spec_DrawKeyBack.l0])
  | succ k1 =>
   have H:=HA.out
   clear HA
   simp only [spec_DrawKeyBack.l0] at H
   have HC11:=a_ H
   clear H
   go_upto_region 4 with (fail)
   go_cut [23] (fun v23 wc=>∃ (kq:Nat) (x23_10:Bool) (x895001_10:Int),v23=.bool x23_10∧Aside0 (spec_DrawKeyBack.j1 kq x5_1 x7_1 x23_10 t892 x895001_10 x905000_1 x905001_1 x905002_1 x905003_1 x905004_1=some (r1,r2,r3,r4,r5,r6))∧Aside0 (kq≤k1)∧Aside0 (Kd.Q k37 37 wc w.heap.size (fun _=>True) u5 x5_1)∧Aside0 (wc.heap[gb891]?=some (.cells #[.int .i64 x892000_1,.int .i64 x892001_1,.int .i64 x892002_1,.int .i64 x892003_1,.string x892004_1] 27 (0,0)))∧Aside0 (wc.heap[gb904]?=some (.cells #[.int .i64 x905000_1,.int .i64 x905001_1,.int .i64 x905002_1,.int .i64 x905003_1,.string x905004_1] 27 (0,0)))∧Aside0 (IsS102 w wc g894 t892 x895001_10)∧Aside0 (Below w.heap.size w wc))
   case first =>
    have H:=HC11.out
    clear HC11
    by_cases c12:x7_1 < 5
    ·rw [if_pos c12] at H
     have c12b0:decide (x7_1 < 5)=true:=dt_ c12
     clear c12
     (first|rw [c12b0]|(simp only [i64_w,i32_w];rw [c12b0])|skip)
     replace H:=bs_ H
     obtain ⟨⟨t905,t906⟩,A130,H⟩:=H
     try dsimp only at H
     have A13:=a_ A130
     clear A130
     have H':=a_ H
     clear H
     go_wp2_with (first|(go_at_call 73;(with_reducible refine (spec_l6Rd_pick.calls k1 g894 t892 x895001_1 8 t905 t906 w _ ?side1 ?side2 A13.out).mono ?_);(case side1=>exact is_HI894);(case side2=>exact bel_);rintro e w14 ⟨rfl,hi,hb,hk⟩;replace HO_5:=a_ (Kd.Q_mono (Kd.Q_keep (IsS102.apartQ (show IsS102 w _ g894 t892 x895001_1 from is_HI894) (qp_ HO_5.out) (by decide)) hk (fun _ h=>h.2)) (fun _ h=>h.1));replace BK891:=a_ (kb_ hk BK891.out NB891_894.out);replace BK904:=a_ (kb_ hk BK904.out NB904_894.out);replace HB:=a_ (hb);replace HI894:=a_ (hi);(try clear hb hk hi)))
     go_meet
     case rel=>exact ⟨_,(decide (t905 > 0)),(t906),(si_),H',⟨by have:=HK1.out;first|omega|exact Nat.le_refl _⟩,⟨by (with_reducible repeat (first|apply Kd.Q_alloc|apply Kd.Q_drewN|apply Kd.Q_drew));exact HO_5.out⟩,⟨by (with_reducible repeat (first|refine bN_ ?_ _|refine bD_ ?_|refine bA_ ?_ _));exact BK891.out⟩,⟨by (with_reducible repeat (first|refine bN_ ?_ _|refine bD_ ?_|refine bA_ ?_ _));exact BK904.out⟩,⟨is_HI894⟩,⟨bel_⟩⟩
    ·rw [if_neg c12] at H
     have c12b0:decide (x7_1 < 5)=false:=df_ c12
     clear c12
     (first|rw [c12b0]|(simp only [i64_w,i32_w];rw [c12b0])|skip)
     have H':=a_ H
     clear H
     go_wp2
     go_meet
     case rel=>exact ⟨_,(false),(x895001_1),(si_),H',⟨by have:=HK1.out;first|omega|exact Nat.le_refl _⟩,⟨by (with_reducible repeat (first|apply Kd.Q_alloc|apply Kd.Q_drewN|apply Kd.Q_drew));exact HO_5.out⟩,⟨by (with_reducible repeat (first|refine bN_ ?_ _|refine bD_ ?_|refine bA_ ?_ _));exact BK891.out⟩,⟨by (with_reducible repeat (first|refine bN_ ?_ _|refine bD_ ?_|refine bA_ ?_ _));exact BK904.out⟩,⟨is_HI894⟩,⟨bel_⟩⟩
   case rest =>
    clear HC11
    try clear c1
    try clear p2
    try clear c4
    try clear c5
    try clear c8
    try clear c9
    try clear c12
    try clear c12b0
    try clear p2
    try clear Z10_0 Z10_1 Z10_2 Z10_3 Z10_4 Y10_0 Y10_1 Y10_2 Y10_3 Y10_4
    obtain ⟨kq,x23_10,x895001_10,rfl,HA,HJ10,HO_5,BK891,BK904,HI894,HB⟩:=hcut
    cases kq with
    | zero=>exact absurd HA.out (by simp [spec_DrawKeyBack.j1])
    | succ kj10 =>
     have H:=HA.out
     clear HA
     simp only [spec_DrawKeyBack.j1] at H
     by_cases c15:x23_10=true
     ·subst c15
      have H1:((spec_KeyBack.f kj10 x5_1 x905000_1 x905001_1 x905002_1 x905003_1 x905004_1).bind fun bt907=>(if bt907.2.2.2.2.2=true then (some (x5_1,x905000_1,x905001_1,x905002_1,x905003_1,x905004_1)) else ((spec_l71Fits.f kj10 t892 x895001_10).bind fun bt914=>(spec_DrawKeyBack.l0 kj10 bt914.1 (wrap64 (x7_1+1)) t892 bt914.2.2.2.2.2.2 bt914.2.1 bt914.2.2.1 bt914.2.2.2.1 bt914.2.2.2.2.1 bt914.2.2.2.2.2.1))))=some (r1,r2,r3,r4,r5,r6):=by rw [if_pos rfl] at H;exact H
      clear H
      have H:=H1
      clear H1
      replace H:=bs_ H
      obtain ⟨⟨t907,t908,t909,t910,t911,t912⟩,A160,H⟩:=H
      try dsimp only at H
      have A16:=a_ A160
      clear A160
      by_cases c17:t912=true
      ·subst c17
       have H1:(some (x5_1,x905000_1,x905001_1,x905002_1,x905003_1,x905004_1))=some (r1,r2,r3,r4,r5,r6):=by rw [if_pos rfl] at H;exact H
       clear H
       have H:=H1
       clear H1
       simp only [Option.some.injEq,Prod.mk.injEq] at H
       obtain ⟨rfl,rfl,rfl,rfl,rfl,rfl⟩:=H
       have hnb18:=NB904_891.out
       have hnc18:=NB891_904.out
       have hnb19:=NB904_894.out
       have hnc19:=NB894_904.out
       obtain ⟨Z20_0,Z20_1,Z20_2,Z20_3,Z20_4,Y20_0,Y20_1,Y20_2,Y20_3,Y20_4⟩:=op5_ BK904.out
       obtain ⟨Ao21,co21,eo21,_⟩:=Kd.Q_slice HO_5.out
       subst eo21
       try go_wp2_with (first|((with_reducible refine gC_ (f:=41) rfl ?_);refine gl_ 29 Tryd.func41 #[.slice Ao21 x5_1.length co21,.agg #[.int .i64 x905000_1,.int .i64 x905001_1,.int .i64 x905002_1,.int .i64 x905003_1,.string x905004_1]] ?_;(with_reducible refine (spec_KeyBack.calls kj10 _ _ x5_1 x905000_1 x905001_1 x905002_1 x905003_1 x905004_1 t907 t908 t909 t910 t911 true _ ?side1 ?side2 A16.out).mono ?_);(case side1=>exact cx_ (Kd.Q_reads' HO_5.out).2.2);(case side2=>exact (Kd.Q_reads' HO_5.out).2.1);rintro e w22 ⟨rfl,hb⟩;refine ⟨_,rfl,?_⟩;replace HO_5:=a_ (Kd.Q_below (qp_ HO_5.out) hb);replace HB:=a_ (bS_ (bel_) hb);replace BK891:=a_ (bb_ BK891.out hb);replace BK904:=a_ (bb_ BK904.out hb);replace HI894:=a_ (IsS102.below (is_HI894) hb);(try clear hb))|((with_reducible refine gD_ (N:=8) rfl ?_);refine bx_ 8 (#[.int .i64 0,.int .i64 0,.int .i64 0,.int .i64 0,.string (⟨#[]⟩:ByteArray)]) 27 ?_;intro gb913 hg w23 hbox hb;have n0_:=a_ (Kd.Q_below (qp_ HO_5.out) hb);have n1_:=a_ (bb_ BK891.out hb);have n2_:=a_ (bb_ BK904.out hb);have n3_:=a_ (IsS102.below (is_HI894) hb);have n4_:=a_ (bS_ (bel_) hb);have n5_:=a_ (hbox);have n6_:=a_ ((by rw [hg];exact (below_size (bel_)):w.heap.size≤gb913));have n7_:=a_ ((by rw [hg];exact (below_size (bel_)):w.heap.size≤gb913));have n8_:=a_ ((by rw [hg];exact Nat.ne_of_lt (blk_lt (g:=gb891) (o:=.cells #[.int .i64 x892000_1,.int .i64 x892001_1,.int .i64 x892002_1,.int .i64 x892003_1,.string x892004_1] 27 (0,0)) (bp_ BK891.out)):gb891≠gb913));have n9_:=a_ ((by rw [hg];exact Nat.ne_of_gt (blk_lt (g:=gb891) (o:=.cells #[.int .i64 x892000_1,.int .i64 x892001_1,.int .i64 x892002_1,.int .i64 x892003_1,.string x892004_1] 27 (0,0)) (bp_ BK891.out)):gb913≠gb891));have n10_:=a_ ((by rw [hg];exact Nat.ne_of_lt (blk_lt (g:=gb904) (o:=.cells #[.int .i64 x905000_1,.int .i64 x905001_1,.int .i64 x905002_1,.int .i64 x905003_1,.string x905004_1] 27 (0,0)) (bp_ BK904.out)):gb904≠gb913));have n11_:=a_ ((by rw [hg];exact Nat.ne_of_gt (blk_lt (g:=gb904) (o:=.cells #[.int .i64 x905000_1,.int .i64 x905001_1,.int .i64 x905002_1,.int .i64 x905003_1,.string x905004_1] 27 (0,0)) (bp_ BK904.out)):gb913≠gb904));have n12_:=a_ ((by rw [hg];exact Nat.ne_of_lt (IsS102.lt (show IsS102 w _ g894 t892 x895001_10 from is_HI894)):g894≠gb913));have n13_:=a_ ((by rw [hg];exact Nat.ne_of_gt (IsS102.lt (show IsS102 w _ g894 t892 x895001_10 from is_HI894)):gb913≠g894));clear HO_5;clear BK891;clear BK904;clear HI894;clear HB;have HO_5:=n0_;have BK891:=n1_;have BK904:=n2_;have HI894:=n3_;have HB:=n4_;have BK913:=n5_;have GW913:=n6_;have GE913:=n7_;have NB891_913:=n8_;have NB913_891:=n9_;have NB904_913:=n10_;have NB913_904:=n11_;have NB894_913:=n12_;have NB913_894:=n13_;clear n0_ n1_ n2_ n3_ n4_ n5_ n6_ n7_ n8_ n9_ n10_ n11_ n12_ n13_;clear hb hbox hg;have hnb24:=NB913_891.out;have hnc24:=NB891_913.out;have hnb25:=NB913_904.out;have hnc25:=NB904_913.out;have hnb26:=NB913_894.out;have hnc26:=NB894_913.out;obtain ⟨Z27_0,Z27_1,Z27_2,Z27_3,Z27_4,Y27_0,Y27_1,Y27_2,Y27_3,Y27_4⟩:=op5_ BK913.out))
       have n0_:Aside0 (Kd.Q k37 37 (((((w23.setCell ⟨gb913,0,none⟩ (.int .i64 t907)).setCell ⟨gb913,1,none⟩ (.int .i64 t908)).setCell ⟨gb913,2,none⟩ (.int .i64 t909)).setCell ⟨gb913,3,none⟩ (.int .i64 t910)).setCell ⟨gb913,4,none⟩ (.string t911)) w.heap.size (fun _=>True) (.slice Ao21 x5_1.length co21) x5_1):=⟨by (with_reducible repeat (first|apply Kd.Q_alloc|apply Kd.Q_drewN|apply Kd.Q_drew));exact Kd.Q_mono (Kd.Q_far (p:=⟨gb913,4,none⟩) (Kd.Q_far (p:=⟨gb913,3,none⟩) (Kd.Q_far (p:=⟨gb913,2,none⟩) (Kd.Q_far (p:=⟨gb913,1,none⟩) (Kd.Q_far (p:=⟨gb913,0,none⟩) (Kd.Q_types HO_5.out BK913.out (by decide)) (fun _ hk=>hk.2) (.int .i64 t907)) (fun _ hk=>hk.2) (.int .i64 t908)) (fun _ hk=>hk.2) (.int .i64 t909)) (fun _ hk=>hk.2) (.int .i64 t910)) (fun _ hk=>hk.2) (.string t911)) (fun _ hk=>trivial)⟩
       have n1_:Aside0 ((((((w23.setCell ⟨gb913,0,none⟩ (.int .i64 t907)).setCell ⟨gb913,1,none⟩ (.int .i64 t908)).setCell ⟨gb913,2,none⟩ (.int .i64 t909)).setCell ⟨gb913,3,none⟩ (.int .i64 t910)).setCell ⟨gb913,4,none⟩ (.string t911)).heap[gb891]?=some (.cells #[.int .i64 x892000_1,.int .i64 x892001_1,.int .i64 x892002_1,.int .i64 x892003_1,.string x892004_1] 27 (0,0))):=⟨by (with_reducible repeat (first|refine bN_ ?_ _|refine bD_ ?_|refine bA_ ?_ _));refine blk_far ?_ NB891_913.out _;(with_reducible repeat (first|refine bN_ ?_ _|refine bD_ ?_|refine bA_ ?_ _));refine blk_far ?_ NB891_913.out _;(with_reducible repeat (first|refine bN_ ?_ _|refine bD_ ?_|refine bA_ ?_ _));refine blk_far ?_ NB891_913.out _;(with_reducible repeat (first|refine bN_ ?_ _|refine bD_ ?_|refine bA_ ?_ _));refine blk_far ?_ NB891_913.out _;(with_reducible repeat (first|refine bN_ ?_ _|refine bD_ ?_|refine bA_ ?_ _));refine blk_far ?_ NB891_913.out _;(with_reducible repeat (first|refine bN_ ?_ _|refine bD_ ?_|refine bA_ ?_ _));exact BK891.out⟩
       have n2_:Aside0 ((((((w23.setCell ⟨gb913,0,none⟩ (.int .i64 t907)).setCell ⟨gb913,1,none⟩ (.int .i64 t908)).setCell ⟨gb913,2,none⟩ (.int .i64 t909)).setCell ⟨gb913,3,none⟩ (.int .i64 t910)).setCell ⟨gb913,4,none⟩ (.string t911)).heap[gb904]?=some (.cells #[.int .i64 x905000_1,.int .i64 x905001_1,.int .i64 x905002_1,.int .i64 x905003_1,.string x905004_1] 27 (0,0))):=⟨by (with_reducible repeat (first|refine bN_ ?_ _|refine bD_ ?_|refine bA_ ?_ _));refine blk_far ?_ NB904_913.out _;(with_reducible repeat (first|refine bN_ ?_ _|refine bD_ ?_|refine bA_ ?_ _));refine blk_far ?_ NB904_913.out _;(with_reducible repeat (first|refine bN_ ?_ _|refine bD_ ?_|refine bA_ ?_ _));refine blk_far ?_ NB904_913.out _;(with_reducible repeat (first|refine bN_ ?_ _|refine bD_ ?_|refine bA_ ?_ _));refine blk_far ?_ NB904_913.out _;(with_reducible repeat (first|refine bN_ ?_ _|refine bD_ ?_|refine bA_ ?_ _));refine blk_far ?_ NB904_913.out _;(with_reducible repeat (first|refine bN_ ?_ _|refine bD_ ?_|refine bA_ ?_ _));exact BK904.out⟩
       have n3_:Aside0 ((((((w23.setCell ⟨gb913,0,none⟩ (.int .i64 t907)).setCell ⟨gb913,1,none⟩ (.int .i64 t908)).setCell ⟨gb913,2,none⟩ (.int .i64 t909)).setCell ⟨gb913,3,none⟩ (.int .i64 t910)).setCell ⟨gb913,4,none⟩ (.string t911)).heap[gb913]?=some (.cells #[.int .i64 t907,.int .i64 t908,.int .i64 t909,.int .i64 t910,.string t911] 27 (0,0))):=⟨by (with_reducible repeat (first|refine bN_ ?_ _|refine bD_ ?_|refine bA_ ?_ _));exact bk5_ (bp_ BK913.out)⟩
       have n4_:Aside0 (IsS102 w (((((w23.setCell ⟨gb913,0,none⟩ (.int .i64 t907)).setCell ⟨gb913,1,none⟩ (.int .i64 t908)).setCell ⟨gb913,2,none⟩ (.int .i64 t909)).setCell ⟨gb913,3,none⟩ (.int .i64 t910)).setCell ⟨gb913,4,none⟩ (.string t911)) g894 t892 x895001_10):=⟨is_HI894⟩
       have n5_:Aside0 (Below w.heap.size w (((((w23.setCell ⟨gb913,0,none⟩ (.int .i64 t907)).setCell ⟨gb913,1,none⟩ (.int .i64 t908)).setCell ⟨gb913,2,none⟩ (.int .i64 t909)).setCell ⟨gb913,3,none⟩ (.int .i64 t910)).setCell ⟨gb913,4,none⟩ (.string t911))):=⟨bel_⟩
       (try clear HO_5)
       (try clear BK891)
       (try clear BK904)
       (try clear BK913)
       (try clear HI894)
       (try clear HB)
       generalize (((((w23.setCell ⟨gb913,0,none⟩ (.int .i64 t907)).setCell ⟨gb913,1,none⟩ (.int .i64 t908)).setCell ⟨gb913,2,none⟩ (.int .i64 t909)).setCell ⟨gb913,3,none⟩ (.int .i64 t910)).setCell ⟨gb913,4,none⟩ (.string t911))=w28 at n0_ n1_ n2_ n3_ n4_ n5_ ⊢
       have HO_5:=n0_
       have BK891:=n1_
       have BK904:=n2_
       have BK913:=n3_
       have HI894:=n4_
       have HB:=n5_
       clear n0_ n1_ n2_ n3_ n4_ n5_
       have n0_:=a_ (Kd.Q_drew HO_5.out)
       have n1_:=a_ (bD_ BK891.out)
       have n2_:=a_ (bD_ BK904.out)
       have n3_:=a_ (bD_ BK913.out)
       have n4_:=a_ (IsS102.drew HI894.out)
       have n5_:=a_ (below_drew1 HB.out)
       clear HO_5
       clear BK891
       clear BK904
       clear BK913
       clear HI894
       clear HB
       have HO_5:=n0_
       have BK891:=n1_
       have BK904:=n2_
       have BK913:=n3_
       have HI894:=n4_
       have HB:=n5_
       clear n0_ n1_ n2_ n3_ n4_ n5_
       refine start_ (n:=4) (S:=fun w'=>w'.cell? ⟨gb904,0,none⟩=some (.int .i64 x905000_1)∧w'.cell? ⟨gb904,1,none⟩=some (.int .i64 x905001_1)∧w'.cell? ⟨gb904,2,none⟩=some (.int .i64 x905002_1)∧w'.cell? ⟨gb904,3,none⟩=some (.int .i64 x905003_1)∧w'.cell? ⟨gb904,4,none⟩=some (.string x905004_1)) (ds:=[]) #[false,false,false,false] (by kernel_rfl) rfl rfl ⟨(bC_ BK904.out 0).trans rfl,(bC_ BK904.out 1).trans rfl,(bC_ BK904.out 2).trans rfl,(bC_ BK904.out 3).trans rfl,(bC_ BK904.out 4).trans rfl⟩ (fun hHeld=>?_)
       generalize w28.drew=w29 at HO_5 BK891 BK904 BK913 HI894 HB hHeld ⊢
       refine pure_ (i:=0) (N:=some 33) (v:=?_) (a':=?_) #[true,false,false,false] rfl rfl (by kernel_rfl) (fun _ _ _ h=>h) (Or.inl ⟨by rfl,?_⟩) ?_ ?_
       rotate_left
       ·intro w'
        go_simp
        with_reducible rfl
       rotate_left
       ·simp only [Act.put,List.setIfInBounds_toArray,List.set_cons_zero,List.set_cons_succ,i64_w,i32_w]
        rfl
       refine pure_ (i:=2) (N:=some 2) (v:=?_) (a':=?_) #[true,false,true,false] rfl rfl (by kernel_rfl) (fun _ _ _ h=>h) (Or.inl ⟨by rfl,?_⟩) ?_ ?_
       rotate_left
       ·intro w'
        go_simp
        with_reducible rfl
       rotate_left
       ·simp only [Act.put,List.setIfInBounds_toArray,List.set_cons_zero,List.set_cons_succ,i64_w,i32_w]
        rfl
       refine take_ (i:=1) (N:=some 34) (v:=?_) (a':=?_) #[true,true,true,false] rfl rfl (by kernel_rfl) (fun _ _ _ h=>h) (Or.inl ⟨by rfl,?_⟩) hHeld ?_ ?_
       rotate_left
       ·rintro w' ⟨s0,s1,s2,s3,s4⟩
        go_simp
        with_reducible rfl
       rotate_left
       ·simp only [Act.put,List.setIfInBounds_toArray,List.set_cons_zero,List.set_cons_succ,i64_w,i32_w]
        rfl
       refine one_ (i:=3) (N:=none) #[true,true,true,true] rfl rfl (by kernel_rfl) (by decide) (fun K hK=>?_)
       have hs30:w29.cell? ⟨gb891,0,none⟩=some (.int .i64 x892000_1):=(bC_ BK891.out 0).trans rfl
       have hfs30:=bF_ BK891.out 0
       have hns30_1:=NB904_891.out
       have hns30_2:=NB913_891.out
       have hms30_1:=NB891_904.out
       have hms30_2:=NB891_913.out
       have hs31:w29.cell? ⟨gb891,1,none⟩=some (.int .i64 x892001_1):=(bC_ BK891.out 1).trans rfl
       have hfs31:=bF_ BK891.out 1
       have hns31_1:=NB904_891.out
       have hns31_2:=NB913_891.out
       have hms31_1:=NB891_904.out
       have hms31_2:=NB891_913.out
       have hs32:w29.cell? ⟨gb891,2,none⟩=some (.int .i64 x892002_1):=(bC_ BK891.out 2).trans rfl
       have hfs32:=bF_ BK891.out 2
       have hns32_1:=NB904_891.out
       have hns32_2:=NB913_891.out
       have hms32_1:=NB891_904.out
       have hms32_2:=NB891_913.out
       have hs33:w29.cell? ⟨gb891,3,none⟩=some (.int .i64 x892003_1):=(bC_ BK891.out 3).trans rfl
       have hfs33:=bF_ BK891.out 3
       have hns33_1:=NB904_891.out
       have hns33_2:=NB913_891.out
       have hms33_1:=NB891_904.out
       have hms33_2:=NB891_913.out
       have hs34:w29.cell? ⟨gb891,4,none⟩=some (.string x892004_1):=(bC_ BK891.out 4).trans rfl
       have hfs34:=bF_ BK891.out 4
       have hns34_1:=NB904_891.out
       have hns34_2:=NB913_891.out
       have hms34_1:=NB891_904.out
       have hms34_2:=NB891_913.out
       refine skip_ (w1:=?_) (by rfl) rfl ?_ ?_
       rotate_left
       ·go_simp
        rfl
       refine hK.out _ _ ⟨((cF_ (p:=⟨gb891,_,none⟩) NB904_891.out _).trans (((cF_ (p:=⟨gb891,_,none⟩) NB904_891.out _).trans (((cF_ (p:=⟨gb891,_,none⟩) NB904_891.out _).trans (((cF_ (p:=⟨gb891,_,none⟩) NB904_891.out _).trans (((cF_ (p:=⟨gb891,_,none⟩) NB904_891.out _).trans (hHeld.1)))))))))),((cF_ (p:=⟨gb891,_,none⟩) NB904_891.out _).trans (((cF_ (p:=⟨gb891,_,none⟩) NB904_891.out _).trans (((cF_ (p:=⟨gb891,_,none⟩) NB904_891.out _).trans (((cF_ (p:=⟨gb891,_,none⟩) NB904_891.out _).trans (((cF_ (p:=⟨gb891,_,none⟩) NB904_891.out _).trans (hHeld.2.1)))))))))),((cF_ (p:=⟨gb891,_,none⟩) NB904_891.out _).trans (((cF_ (p:=⟨gb891,_,none⟩) NB904_891.out _).trans (((cF_ (p:=⟨gb891,_,none⟩) NB904_891.out _).trans (((cF_ (p:=⟨gb891,_,none⟩) NB904_891.out _).trans (((cF_ (p:=⟨gb891,_,none⟩) NB904_891.out _).trans (hHeld.2.2.1)))))))))),((cF_ (p:=⟨gb891,_,none⟩) NB904_891.out _).trans (((cF_ (p:=⟨gb891,_,none⟩) NB904_891.out _).trans (((cF_ (p:=⟨gb891,_,none⟩) NB904_891.out _).trans (((cF_ (p:=⟨gb891,_,none⟩) NB904_891.out _).trans (((cF_ (p:=⟨gb891,_,none⟩) NB904_891.out _).trans (hHeld.2.2.2.1)))))))))),((cF_ (p:=⟨gb891,_,none⟩) NB904_891.out _).trans (((cF_ (p:=⟨gb891,_,none⟩) NB904_891.out _).trans (((cF_ (p:=⟨gb891,_,none⟩) NB904_891.out _).trans (((cF_ (p:=⟨gb891,_,none⟩) NB904_891.out _).trans (((cF_ (p:=⟨gb891,_,none⟩) NB904_891.out _).trans (hHeld.2.2.2.2))))))))))⟩ (fun hHeld=>?_)
       clear hK K
       refine done_ (by kernel_rfl) ?_
       try go_wp2
       refine bodyPost_ret (results_tc rfl _ _ gb891 27 #[.int .i64 x905000_1,.int .i64 x905001_1,.int .i64 x905002_1,.int .i64 x905003_1,.string x905004_1] (0,0) _ rfl (by (with_reducible repeat (first|refine bN_ ?_ _|refine bD_ ?_|refine bA_ ?_ _));exact bk5_ (bp_ BK891.out)) Tryd.underlying27 rfl (by kernel_rfl)) rfl ?_
       exact ⟨_,fi_,by (with_reducible repeat (first|apply Kd.Q_alloc|apply Kd.Q_drewN|apply Kd.Q_drew));exact Kd.Q_mono (Kd.Q_far (p:=⟨gb891,4,none⟩) (Kd.Q_far (p:=⟨gb891,3,none⟩) (Kd.Q_far (p:=⟨gb891,2,none⟩) (Kd.Q_far (p:=⟨gb891,1,none⟩) (Kd.Q_far (p:=⟨gb891,0,none⟩) (Kd.Q_types HO_5.out BK891.out (by decide)) (fun _ hk=>hk.2) (.int .i64 x905000_1)) (fun _ hk=>hk.2) (.int .i64 x905001_1)) (fun _ hk=>hk.2) (.int .i64 x905002_1)) (fun _ hk=>hk.2) (.int .i64 x905003_1)) (fun _ hk=>hk.2) (.string x905004_1)) (fun _ hk=>trivial),bel_⟩
      ·replace c17:=Bool.eq_false_iff.mpr c17
       subst c17
       have H1:((spec_l71Fits.f kj10 t892 x895001_10).bind fun bt914=>(spec_DrawKeyBack.l0 kj10 bt914.1 (wrap64 (x7_1+1)) t892 bt914.2.2.2.2.2.2 bt914.2.1 bt914.2.2.1 bt914.2.2.2.1 bt914.2.2.2.2.1 bt914.2.2.2.2.2.1))=some (r1,r2,r3,r4,r5,r6):=by rw [if_neg (show ¬ (false=true) by decide)] at H;exact H
       clear H
       have H:=H1
       clear H1
       replace H:=bs_ H
       obtain ⟨⟨t914,t917,t918,t919,t920,t921,t922⟩,A350,H⟩:=H
       try dsimp only at H
       have A35:=a_ A350
       clear A350
       have H':=a_ H
       clear H
       have hnb36:=NB904_891.out
       have hnc36:=NB891_904.out
       have hnb37:=NB904_894.out
       have hnc37:=NB894_904.out
       obtain ⟨Z38_0,Z38_1,Z38_2,Z38_3,Z38_4,Y38_0,Y38_1,Y38_2,Y38_3,Y38_4⟩:=op5_ BK904.out
       obtain ⟨Ao39,co39,eo39,_⟩:=Kd.Q_slice HO_5.out
       subst eo39
       go_wp2_with (first|((with_reducible refine gC_ (f:=41) rfl ?_);refine gl_ 29 Tryd.func41 #[.slice Ao39 x5_1.length co39,.agg #[.int .i64 x905000_1,.int .i64 x905001_1,.int .i64 x905002_1,.int .i64 x905003_1,.string x905004_1]] ?_;(with_reducible refine (spec_KeyBack.calls kj10 _ _ x5_1 x905000_1 x905001_1 x905002_1 x905003_1 x905004_1 t907 t908 t909 t910 t911 false _ ?side1 ?side2 A16.out).mono ?_);(case side1=>exact cx_ (Kd.Q_reads' HO_5.out).2.2);(case side2=>exact (Kd.Q_reads' HO_5.out).2.1);rintro e w40 ⟨rfl,hb⟩;refine ⟨_,rfl,?_⟩;replace HO_5:=a_ (Kd.Q_below (qp_ HO_5.out) hb);replace HB:=a_ (bS_ (bel_) hb);replace BK891:=a_ (bb_ BK891.out hb);replace BK904:=a_ (bb_ BK904.out hb);replace HI894:=a_ (IsS102.below (is_HI894) hb);(try clear hb))|((with_reducible refine gD_ (N:=8) rfl ?_);refine bx_ 8 (#[.int .i64 0,.int .i64 0,.int .i64 0,.int .i64 0,.string (⟨#[]⟩:ByteArray)]) 27 ?_;intro gb913 hg w41 hbox hb;have n0_:=a_ (Kd.Q_below (qp_ HO_5.out) hb);have n1_:=a_ (bb_ BK891.out hb);have n2_:=a_ (bb_ BK904.out hb);have n3_:=a_ (IsS102.below (is_HI894) hb);have n4_:=a_ (bS_ (bel_) hb);have n5_:=a_ (hbox);have n6_:=a_ ((by rw [hg];exact (below_size (bel_)):w.heap.size≤gb913));have n7_:=a_ ((by rw [hg];exact (below_size (bel_)):w.heap.size≤gb913));have n8_:=a_ ((by rw [hg];exact Nat.ne_of_lt (blk_lt (g:=gb891) (o:=.cells #[.int .i64 x892000_1,.int .i64 x892001_1,.int .i64 x892002_1,.int .i64 x892003_1,.string x892004_1] 27 (0,0)) (bp_ BK891.out)):gb891≠gb913));have n9_:=a_ ((by rw [hg];exact Nat.ne_of_gt (blk_lt (g:=gb891) (o:=.cells #[.int .i64 x892000_1,.int .i64 x892001_1,.int .i64 x892002_1,.int .i64 x892003_1,.string x892004_1] 27 (0,0)) (bp_ BK891.out)):gb913≠gb891));have n10_:=a_ ((by rw [hg];exact Nat.ne_of_lt (blk_lt (g:=gb904) (o:=.cells #[.int .i64 x905000_1,.int .i64 x905001_1,.int .i64 x905002_1,.int .i64 x905003_1,.string x905004_1] 27 (0,0)) (bp_ BK904.out)):gb904≠gb913));have n11_:=a_ ((by rw [hg];exact Nat.ne_of_gt (blk_lt (g:=gb904) (o:=.cells #[.int .i64 x905000_1,.int .i64 x905001_1,.int .i64 x905002_1,.int .i64 x905003_1,.string x905004_1] 27 (0,0)) (bp_ BK904.out)):gb913≠gb904));have n12_:=a_ ((by rw [hg];exact Nat.ne_of_lt (IsS102.lt (show IsS102 w _ g894 t892 x895001_10 from is_HI894)):g894≠gb913));have n13_:=a_ ((by rw [hg];exact Nat.ne_of_gt (IsS102.lt (show IsS102 w _ g894 t892 x895001_10 from is_HI894)):gb913≠g894));clear HO_5;clear BK891;clear BK904;clear HI894;clear HB;have HO_5:=n0_;have BK891:=n1_;have BK904:=n2_;have HI894:=n3_;have HB:=n4_;have BK913:=n5_;have GW913:=n6_;have GE913:=n7_;have NB891_913:=n8_;have NB913_891:=n9_;have NB904_913:=n10_;have NB913_904:=n11_;have NB894_913:=n12_;have NB913_894:=n13_;clear n0_ n1_ n2_ n3_ n4_ n5_ n6_ n7_ n8_ n9_ n10_ n11_ n12_ n13_;clear hb hbox hg;have hnb42:=NB913_891.out;have hnc42:=NB891_913.out;have hnb43:=NB913_904.out;have hnc43:=NB904_913.out;have hnb44:=NB913_894.out;have hnc44:=NB894_913.out;obtain ⟨Z45_0,Z45_1,Z45_2,Z45_3,Z45_4,Y45_0,Y45_1,Y45_2,Y45_3,Y45_4⟩:=op5_ BK913.out)|((with_reducible refine gC_ (f:=86) rfl ?_);refine gl_ 37 Tryd.func86 #[.pointer (some ⟨g894,0,none⟩)] ?_;(with_reducible refine (spec_l71Fits.calls kj10 g894 t892 x895001_10 t914 t917 t918 t919 t920 t921 t922 w _ ?side1 ?side2 A35.out).mono ?_);(case side1=>exact is_HI894);(case side2=>exact bel_);rintro e w46 ⟨v915,rfl,ho0,hi,hb,hk⟩;refine ⟨_,rfl,?_⟩;have n0_:=a_ (Kd.Q_mono (Kd.Q_told (Kd.Q_oldK (IsS102.apartQ (show IsS102 w _ g894 t892 x895001_10 from is_HI894) (by (with_reducible repeat (first|apply Kd.Q_alloc|apply Kd.Q_drewN|apply Kd.Q_drew));exact (Kd.Q_mono (Kd.Q_far (p:=⟨gb913,4,none⟩) (Kd.Q_far (p:=⟨gb913,3,none⟩) (Kd.Q_far (p:=⟨gb913,2,none⟩) (Kd.Q_far (p:=⟨gb913,1,none⟩) (Kd.Q_far (p:=⟨gb913,0,none⟩) (Kd.Q_types HO_5.out BK913.out (by decide)) (fun _ hk=>hk.2) (.int .i64 t907)) (fun _ hk=>hk.2) (.int .i64 t908)) (fun _ hk=>hk.2) (.int .i64 t909)) (fun _ hk=>hk.2) (.int .i64 t910)) (fun _ hk=>hk.2) (.string t911)) (fun _ h_=>h_.1))) (by decide)) hk) (Kd.Q_base ho0)) (fun _ h_=>h_.1));have n1_:=a_ (KeepBut.blk hk (g':=gb891) (o:=.cells #[.int .i64 x892000_1,.int .i64 x892001_1,.int .i64 x892002_1,.int .i64 x892003_1,.string x892004_1] 27 (0,0)) (by (with_reducible repeat (first|refine bN_ ?_ _|refine bD_ ?_|refine bA_ ?_ _));refine blk_far ?_ NB891_913.out _;(with_reducible repeat (first|refine bN_ ?_ _|refine bD_ ?_|refine bA_ ?_ _));refine blk_far ?_ NB891_913.out _;(with_reducible repeat (first|refine bN_ ?_ _|refine bD_ ?_|refine bA_ ?_ _));refine blk_far ?_ NB891_913.out _;(with_reducible repeat (first|refine bN_ ?_ _|refine bD_ ?_|refine bA_ ?_ _));refine blk_far ?_ NB891_913.out _;(with_reducible repeat (first|refine bN_ ?_ _|refine bD_ ?_|refine bA_ ?_ _));refine blk_far ?_ NB891_913.out _;(with_reducible repeat (first|refine bN_ ?_ _|refine bD_ ?_|refine bA_ ?_ _));exact BK891.out) NB891_894.out (by simp));have n2_:=a_ (KeepBut.blk hk (g':=gb904) (o:=.cells #[.int .i64 x905000_1,.int .i64 x905001_1,.int .i64 x905002_1,.int .i64 x905003_1,.string x905004_1] 27 (0,0)) (by (with_reducible repeat (first|refine bN_ ?_ _|refine bD_ ?_|refine bA_ ?_ _));refine blk_far ?_ NB904_913.out _;(with_reducible repeat (first|refine bN_ ?_ _|refine bD_ ?_|refine bA_ ?_ _));refine blk_far ?_ NB904_913.out _;(with_reducible repeat (first|refine bN_ ?_ _|refine bD_ ?_|refine bA_ ?_ _));refine blk_far ?_ NB904_913.out _;(with_reducible repeat (first|refine bN_ ?_ _|refine bD_ ?_|refine bA_ ?_ _));refine blk_far ?_ NB904_913.out _;(with_reducible repeat (first|refine bN_ ?_ _|refine bD_ ?_|refine bA_ ?_ _));refine blk_far ?_ NB904_913.out _;(with_reducible repeat (first|refine bN_ ?_ _|refine bD_ ?_|refine bA_ ?_ _));exact BK904.out) NB904_894.out (by simp));have n3_:=a_ (KeepBut.blk hk (g':=gb913) (o:=.cells #[.int .i64 t907,.int .i64 t908,.int .i64 t909,.int .i64 t910,.string t911] 27 (0,0)) (by (with_reducible repeat (first|refine bN_ ?_ _|refine bD_ ?_|refine bA_ ?_ _));exact bk5_ (bp_ BK913.out)) NB913_894.out (by simp));have n4_:=a_ (Kd.Q_lower (Kd.Q_new' ho0 (Kd.Q_lt (by (with_reducible repeat (first|apply Kd.Q_alloc|apply Kd.Q_drewN|apply Kd.Q_drew));exact (Kd.Q_mono (Kd.Q_far (p:=⟨gb913,4,none⟩) (Kd.Q_far (p:=⟨gb913,3,none⟩) (Kd.Q_far (p:=⟨gb913,2,none⟩) (Kd.Q_far (p:=⟨gb913,1,none⟩) (Kd.Q_far (p:=⟨gb913,0,none⟩) (Kd.Q_types HO_5.out BK913.out (by decide)) (fun _ hk=>hk.2) (.int .i64 t907)) (fun _ hk=>hk.2) (.int .i64 t908)) (fun _ hk=>hk.2) (.int .i64 t909)) (fun _ hk=>hk.2) (.int .i64 t910)) (fun _ hk=>hk.2) (.string t911)) (fun _ h_=>h_.1))))) (below_size (bel_)));have n5_:=a_ (hb);have n6_:=a_ (hi);clear HO_5;clear BK891;clear BK904;clear BK913;clear HB;clear HI894;have HO_5:=n0_;have BK891:=n1_;have BK904:=n2_;have BK913:=n3_;have HO916:=n4_;have HB:=n5_;have HI894:=n6_;clear n0_ n1_ n2_ n3_ n4_ n5_ n6_;(try clear hb hk hi ho0);obtain ⟨Z47_0,Z47_1,Z47_2,Z47_3,Z47_4,Y47_0,Y47_1,Y47_2,Y47_3,Y47_4⟩:=op5_ BK904.out))
       go_roundg kj10
       case measure=>have:=HK1.out;have:=HJ10.out;omega
       case rel=>exact ⟨(t914),(wrap64 (x7_1+1)),(x892000_1),(x892001_1),(x892002_1),(x892003_1),(x892004_1),(t922),(t917),(t918),(t919),(t920),(t921),(si_),H',⟨by have:=HK1.out;have:=HJ10.out;omega⟩,⟨by (with_reducible repeat (first|apply Kd.Q_alloc|apply Kd.Q_drewN|apply Kd.Q_drew));exact Kd.Q_mono (Kd.Q_far (p:=⟨gb904,4,none⟩) (Kd.Q_far (p:=⟨gb904,3,none⟩) (Kd.Q_far (p:=⟨gb904,2,none⟩) (Kd.Q_far (p:=⟨gb904,1,none⟩) (Kd.Q_far (p:=⟨gb904,0,none⟩) (Kd.Q_types HO916.out BK904.out (by decide)) (fun _ hk=>hk.2) (.int .i64 t917)) (fun _ hk=>hk.2) (.int .i64 t918)) (fun _ hk=>hk.2) (.int .i64 t919)) (fun _ hk=>hk.2) (.int .i64 t920)) (fun _ hk=>hk.2) (.string t921)) (fun _ hk=>trivial)⟩,⟨by (with_reducible repeat (first|refine bN_ ?_ _|refine bD_ ?_|refine bA_ ?_ _));refine blk_far ?_ NB891_904.out _;(with_reducible repeat (first|refine bN_ ?_ _|refine bD_ ?_|refine bA_ ?_ _));refine blk_far ?_ NB891_904.out _;(with_reducible repeat (first|refine bN_ ?_ _|refine bD_ ?_|refine bA_ ?_ _));refine blk_far ?_ NB891_904.out _;(with_reducible repeat (first|refine bN_ ?_ _|refine bD_ ?_|refine bA_ ?_ _));refine blk_far ?_ NB891_904.out _;(with_reducible repeat (first|refine bN_ ?_ _|refine bD_ ?_|refine bA_ ?_ _));refine blk_far ?_ NB891_904.out _;(with_reducible repeat (first|refine bN_ ?_ _|refine bD_ ?_|refine bA_ ?_ _));exact BK891.out⟩,⟨by (with_reducible repeat (first|refine bN_ ?_ _|refine bD_ ?_|refine bA_ ?_ _));exact bk5_ (bp_ BK904.out)⟩,⟨is_HI894⟩,⟨bel_⟩⟩
     ·replace c15:=Bool.eq_false_iff.mpr c15
      subst c15
      have H1:(some (x5_1,x905000_1,x905001_1,x905002_1,x905003_1,x905004_1))=some (r1,r2,r3,r4,r5,r6):=by rw [if_neg (show ¬ (false=true) by decide)] at H;exact H
      clear H
      have H:=H1
      clear H1
      simp only [Option.some.injEq,Prod.mk.injEq] at H
      obtain ⟨rfl,rfl,rfl,rfl,rfl,rfl⟩:=H
      try go_wp2
      have n0_:=a_ (Kd.Q_drew HO_5.out)
      have n1_:=a_ (bD_ BK891.out)
      have n2_:=a_ (bD_ BK904.out)
      have n3_:=a_ (IsS102.drew HI894.out)
      have n4_:=a_ (below_drew1 HB.out)
      clear HO_5
      clear BK891
      clear BK904
      clear HI894
      clear HB
      have HO_5:=n0_
      have BK891:=n1_
      have BK904:=n2_
      have HI894:=n3_
      have HB:=n4_
      clear n0_ n1_ n2_ n3_ n4_
      refine start_ (n:=4) (S:=fun w'=>w'.cell? ⟨gb904,0,none⟩=some (.int .i64 x905000_1)∧w'.cell? ⟨gb904,1,none⟩=some (.int .i64 x905001_1)∧w'.cell? ⟨gb904,2,none⟩=some (.int .i64 x905002_1)∧w'.cell? ⟨gb904,3,none⟩=some (.int .i64 x905003_1)∧w'.cell? ⟨gb904,4,none⟩=some (.string x905004_1)) (ds:=[]) #[false,false,false,false] (by kernel_rfl) rfl rfl ⟨(bC_ BK904.out 0).trans rfl,(bC_ BK904.out 1).trans rfl,(bC_ BK904.out 2).trans rfl,(bC_ BK904.out 3).trans rfl,(bC_ BK904.out 4).trans rfl⟩ (fun hHeld=>?_)
      generalize wc.drew=w48 at HO_5 BK891 BK904 HI894 HB hHeld ⊢
      refine pure_ (i:=0) (N:=some 40) (v:=?_) (a':=?_) #[true,false,false,false] rfl rfl (by kernel_rfl) (fun _ _ _ h=>h) (Or.inl ⟨by rfl,?_⟩) ?_ ?_
      rotate_left
      ·intro w'
       go_simp
       with_reducible rfl
      rotate_left
      ·simp only [Act.put,List.setIfInBounds_toArray,List.set_cons_zero,List.set_cons_succ,i64_w,i32_w]
       rfl
      refine pure_ (i:=2) (N:=some 2) (v:=?_) (a':=?_) #[true,false,true,false] rfl rfl (by kernel_rfl) (fun _ _ _ h=>h) (Or.inl ⟨by rfl,?_⟩) ?_ ?_
      rotate_left
      ·intro w'
       go_simp
       with_reducible rfl
      rotate_left
      ·simp only [Act.put,List.setIfInBounds_toArray,List.set_cons_zero,List.set_cons_succ,i64_w,i32_w]
       rfl
      refine take_ (i:=1) (N:=some 41) (v:=?_) (a':=?_) #[true,true,true,false] rfl rfl (by kernel_rfl) (fun _ _ _ h=>h) (Or.inl ⟨by rfl,?_⟩) hHeld ?_ ?_
      rotate_left
      ·rintro w' ⟨s0,s1,s2,s3,s4⟩
       go_simp
       with_reducible rfl
      rotate_left
      ·simp only [Act.put,List.setIfInBounds_toArray,List.set_cons_zero,List.set_cons_succ,i64_w,i32_w]
       rfl
      refine one_ (i:=3) (N:=none) #[true,true,true,true] rfl rfl (by kernel_rfl) (by decide) (fun K hK=>?_)
      have hs49:w48.cell? ⟨gb891,0,none⟩=some (.int .i64 x892000_1):=(bC_ BK891.out 0).trans rfl
      have hfs49:=bF_ BK891.out 0
      have hns49_1:=NB904_891.out
      have hms49_1:=NB891_904.out
      have hs50:w48.cell? ⟨gb891,1,none⟩=some (.int .i64 x892001_1):=(bC_ BK891.out 1).trans rfl
      have hfs50:=bF_ BK891.out 1
      have hns50_1:=NB904_891.out
      have hms50_1:=NB891_904.out
      have hs51:w48.cell? ⟨gb891,2,none⟩=some (.int .i64 x892002_1):=(bC_ BK891.out 2).trans rfl
      have hfs51:=bF_ BK891.out 2
      have hns51_1:=NB904_891.out
      have hms51_1:=NB891_904.out
      have hs52:w48.cell? ⟨gb891,3,none⟩=some (.int .i64 x892003_1):=(bC_ BK891.out 3).trans rfl
      have hfs52:=bF_ BK891.out 3
      have hns52_1:=NB904_891.out
      have hms52_1:=NB891_904.out
      have hs53:w48.cell? ⟨gb891,4,none⟩=some (.string x892004_1):=(bC_ BK891.out 4).trans rfl
      have hfs53:=bF_ BK891.out 4
      have hns53_1:=NB904_891.out
      have hms53_1:=NB891_904.out
      refine skip_ (w1:=?_) (by rfl) rfl ?_ ?_
      rotate_left
      ·go_simp
       rfl
      refine hK.out _ _ ⟨((cF_ (p:=⟨gb891,_,none⟩) NB904_891.out _).trans (((cF_ (p:=⟨gb891,_,none⟩) NB904_891.out _).trans (((cF_ (p:=⟨gb891,_,none⟩) NB904_891.out _).trans (((cF_ (p:=⟨gb891,_,none⟩) NB904_891.out _).trans (((cF_ (p:=⟨gb891,_,none⟩) NB904_891.out _).trans (hHeld.1)))))))))),((cF_ (p:=⟨gb891,_,none⟩) NB904_891.out _).trans (((cF_ (p:=⟨gb891,_,none⟩) NB904_891.out _).trans (((cF_ (p:=⟨gb891,_,none⟩) NB904_891.out _).trans (((cF_ (p:=⟨gb891,_,none⟩) NB904_891.out _).trans (((cF_ (p:=⟨gb891,_,none⟩) NB904_891.out _).trans (hHeld.2.1)))))))))),((cF_ (p:=⟨gb891,_,none⟩) NB904_891.out _).trans (((cF_ (p:=⟨gb891,_,none⟩) NB904_891.out _).trans (((cF_ (p:=⟨gb891,_,none⟩) NB904_891.out _).trans (((cF_ (p:=⟨gb891,_,none⟩) NB904_891.out _).trans (((cF_ (p:=⟨gb891,_,none⟩) NB904_891.out _).trans (hHeld.2.2.1)))))))))),((cF_ (p:=⟨gb891,_,none⟩) NB904_891.out _).trans (((cF_ (p:=⟨gb891,_,none⟩) NB904_891.out _).trans (((cF_ (p:=⟨gb891,_,none⟩) NB904_891.out _).trans (((cF_ (p:=⟨gb891,_,none⟩) NB904_891.out _).trans (((cF_ (p:=⟨gb891,_,none⟩) NB904_891.out _).trans (hHeld.2.2.2.1)))))))))),((cF_ (p:=⟨gb891,_,none⟩) NB904_891.out _).trans (((cF_ (p:=⟨gb891,_,none⟩) NB904_891.out _).trans (((cF_ (p:=⟨gb891,_,none⟩) NB904_891.out _).trans (((cF_ (p:=⟨gb891,_,none⟩) NB904_891.out _).trans (((cF_ (p:=⟨gb891,_,none⟩) NB904_891.out _).trans (hHeld.2.2.2.2))))))))))⟩ (fun hHeld=>?_)
      clear hK K
      refine done_ (by kernel_rfl) ?_
      try go_wp2
      refine bodyPost_ret (results_tc rfl _ _ gb891 27 #[.int .i64 x905000_1,.int .i64 x905001_1,.int .i64 x905002_1,.int .i64 x905003_1,.string x905004_1] (0,0) _ rfl (by (with_reducible repeat (first|refine bN_ ?_ _|refine bD_ ?_|refine bA_ ?_ _));exact bk5_ (bp_ BK891.out)) Tryd.underlying27 rfl (by kernel_rfl)) rfl ?_
      exact ⟨_,fi_,by (with_reducible repeat (first|apply Kd.Q_alloc|apply Kd.Q_drewN|apply Kd.Q_drew));exact Kd.Q_mono (Kd.Q_far (p:=⟨gb891,4,none⟩) (Kd.Q_far (p:=⟨gb891,3,none⟩) (Kd.Q_far (p:=⟨gb891,2,none⟩) (Kd.Q_far (p:=⟨gb891,1,none⟩) (Kd.Q_far (p:=⟨gb891,0,none⟩) (Kd.Q_types HO_5.out BK891.out (by decide)) (fun _ hk=>hk.2) (.int .i64 x905000_1)) (fun _ hk=>hk.2) (.int .i64 x905001_1)) (fun _ hk=>hk.2) (.int .i64 x905002_1)) (fun _ hk=>hk.2) (.int .i64 x905003_1)) (fun _ hk=>hk.2) (.string x905004_1)) (fun _ hk=>trivial),bel_⟩
end Go.Proofs.YtlkheeegkifblaaDoor.P
namespace Go.Proofs.YtlkheeegkifblaaDoor.P
open Go.RowKit
def owners:List Int:=[0,1,1,1,0,0,0,0,0,0,0,2,2,2,2,2,2,0,0,0,0,3,3,3,3,3,3,0,0,0,0,4,4,4,4,4,4]
def Glob (w:World):Prop:=Lib.TabIs Tryd.prog w "loop.example/plashet/impl.rowOwners" .i64 owners
theorem gOwners:Tryd.prog.globalNamed "loop.example/plashet/impl.rowOwners" = some 0:=by kernel_rfl
theorem Glob.var {w:World} (h:Glob w):w.var? Tryd.prog "loop.example/plashet/impl.rowOwners" = some (owners.map fun z=>Value.int .i64 z).toArray:=h
theorem Glob.lt {w:World} (h:Glob w):0 < w.heap.size:=by
 have h:=h.var
 unfold World.var? at h
 simp only [gOwners,Option.bind_some] at h
 rcases Nat.lt_or_ge 0 w.heap.size with hl|hl
 ·exact hl
 ·rw [Array.getElem?_eq_none hl] at h
  cases h
theorem Glob.below {w w':World} (h:Glob w) (hb:Below w.heap.size w w'):Glob w':=by
 have hl:=h.lt
 have h:=h.var
 unfold Glob Lib.TabIs World.var? at *
 simp only [gOwners,Option.bind_some] at h ⊢
 rw [hb.block _ hl]
 exact h
theorem Glob.drew {w:World} (h:Glob w):Glob w.drew:=by
 have h:=h.var
 unfold Glob Lib.TabIs World.var? at *
 exact h
theorem Glob.drewN {w:World} (h:Glob w) (n:Nat):Glob (w.drewN n):=by
 induction n generalizing w with
 | zero=>exact h
 | succ n ih=>rw [←World.drew_drewN];exact ih h.drew
theorem Glob.cell {w:World} (h:Glob w) (i:Nat) (hi:i < 37):w.cell? ⟨0,i,none⟩=some (.int .i64 (owners.getD i 0)):=by
 have hc:=World.var?_cell gOwners h.var i
 rw [hc]
 have hl:i < owners.length:=hi
 simp [List.getD_eq_getElem?_getD,List.getElem?_eq_getElem hl]
def ownI (id:Int):Int:=if 0≤id∧id < 37 then owners.getD id.toNat 0 else 0
theorem Glob.at_ {w:World} (h:Glob w) (i:Int) (h0:0≤i) (h1:i < 37):w.cell? ⟨0,i.toNat,none⟩=some (.int .i64 (ownI i)):=by
 have:=h.cell i.toNat (by omega)
 rw [ownI,if_pos ⟨h0,h1⟩]
 exact this
theorem owners_range:∀ z∈owners,0≤z∧z≤4:=by decide
theorem ownI_range (i:Int):0≤ownI i∧ownI i≤4:=by
 unfold ownI
 split
 ·rename_i h
  have hl:i.toNat < owners.length:=by have:owners.length=37:=rfl;omega
  rw [List.getD_eq_getElem?_getD,List.getElem?_eq_getElem hl]
  exact owners_range _ (List.getElem_mem hl)
 ·omega
end Go.Proofs.YtlkheeegkifblaaDoor.P
namespace Go.Proofs.YtlkheeegkifblaaDoor.FP
open Go.Proofs.YtlkheeegkifblaaDoor.P
inductive Fo where
 | nil
 | nd (i:Nat) (t:ByteArray) (k n:Fo)
structure Nd where
 t:ByteArray
 up:Nat
 first:Nat
 next:Nat
def Fo.hd:Fo→Nat
 | .nil=>0
 | .nd i _ _ _=>i
def Fo.ids:Fo→List Nat
 | .nil=>[]
 | .nd i _ k n=>i::(k.ids++n.ids)
def Fo.tops:Fo→List Nat
 | .nil=>[]
 | .nd i _ _ n=>i::n.tops
def Fo.fl (d:Nat):Fo→List S37
 | .nil=>[]
 | .nd i t k n=>⟨(i:Int),(d:Int),t⟩::(k.fl (d+1)++n.fl d)
def Rep (h:Nat→Nd) (up:Nat):Fo→Prop
 | .nil=>True
 | .nd i t k n=>i≠0∧h i=⟨t,up,k.hd,n.hd⟩∧Rep h i k∧Rep h up n
def insAfter (a i:Nat) (t:ByteArray) (s:Fo):Fo→Fo
 | .nil=>.nil
 | .nd j u k n=>if j=a then .nd j u k (.nd i t s n) else .nd j u (insAfter a i t s k) (insAfter a i t s n)
def insFirst (p i:Nat) (t:ByteArray) (s:Fo):Fo→Fo
 | .nil=>.nil
 | .nd j u k n=>if j=p then .nd j u (.nd i t s k) n else .nd j u (insFirst p i t s k) (insFirst p i t s n)
def del (x:Nat):Fo→Fo
 | .nil=>.nil
 | .nd j u k n=>if j=x then n else .nd j u (del x k) (del x n)
def sub (x:Nat):Fo→Fo
 | .nil=>.nil
 | .nd j u k n=>if j=x then k else if x∈k.ids then sub x k else sub x n
def attachH (h:Nat→Nd) (i up a:Nat):Nat→Nd:=fun j =>
 if a=0 then
  if j=up then ⟨(h up).t,(h up).up,i,(h up).next⟩ else if j=i then ⟨(h i).t,up,(h i).first,(h up).first⟩ else h j
 else
  if j=a then ⟨(h a).t,(h a).up,(h a).first,i⟩ else if j=i then ⟨(h i).t,up,(h i).first,(h a).next⟩ else h j
def detachH (h:Nat→Nd) (x a:Nat):Nat→Nd:=fun j =>
 if j=x then ⟨(h x).t,0,(h x).first,0⟩
 else if a=0 then (if j=(h x).up then ⟨(h j).t,(h j).up,(h x).next,(h j).next⟩ else h j)
 else (if j=a then ⟨(h j).t,(h j).up,(h j).first,(h x).next⟩ else h j)
theorem Rep.ext {h h':Nat→Nd} {up:Nat}:∀ {F:Fo},Rep h up F→(∀ i∈F.ids,h' i=h i)→Rep h' up F
 | .nil,_,_=>trivial
 | .nd i t k n,⟨h1,h2,h3,h4⟩,e=>⟨h1,(e i (by simp [Fo.ids])).trans h2,Rep.ext h3 fun j hj=>e j (by simp [Fo.ids,hj]),Rep.ext h4 fun j hj=>e j (by simp [Fo.ids,hj])⟩
theorem Rep.ne0 {h:Nat→Nd} {up:Nat}:∀ {F:Fo},Rep h up F→∀ i∈F.ids,i≠0
 | .nil,_,i,hi=>by simp [Fo.ids] at hi
 | .nd j t k n,⟨h1,h2,h3,h4⟩,i,hi=>by
  simp only [Fo.ids,List.mem_cons,List.mem_append] at hi
  rcases hi with rfl|hi|hi
  ·exact h1
  ·exact Rep.ne0 h3 i hi
  ·exact Rep.ne0 h4 i hi
theorem attachH_zero (h:Nat→Nd) (i up:Nat) (j:Nat):attachH h i up 0 j=if j=up then ⟨(h up).t,(h up).up,i,(h up).next⟩ else if j=i then ⟨(h i).t,up,(h i).first,(h up).first⟩ else h j:=rfl
theorem attachH_pos (h:Nat→Nd) (i up a:Nat) (ha:a≠0) (j:Nat):attachH h i up a j=if j=a then ⟨(h a).t,(h a).up,(h a).first,i⟩ else if j=i then ⟨(h i).t,up,(h i).first,(h a).next⟩ else h j:=if_neg ha
theorem detachH_self (h:Nat→Nd) (x a:Nat):detachH h x a x=⟨(h x).t,0,(h x).first,0⟩:=if_pos rfl
theorem detachH_zero (h:Nat→Nd) (x:Nat) {j:Nat} (e:j≠x):detachH h x 0 j=if j=(h x).up then ⟨(h j).t,(h j).up,(h x).next,(h j).next⟩ else h j:=by unfold detachH;rw [if_neg e,if_pos rfl]
theorem detachH_pos (h:Nat→Nd) (x a:Nat) (ha:a≠0) {j:Nat} (e:j≠x):detachH h x a j=if j=a then ⟨(h j).t,(h j).up,(h j).first,(h x).next⟩ else h j:=by unfold detachH;rw [if_neg e,if_neg ha]
structure Free (h:Nat→Nd) (i:Nat) (t:ByteArray) (s:Fo):Prop where
 ne:i≠0
 t:(h i).t=t
 first:(h i).first=s.hd
 rep:Rep h i s
 out:i∉s.ids
theorem insAfter_id (a i:Nat) (t:ByteArray) (s:Fo):∀ {F:Fo},a∉F.ids→insAfter a i t s F=F
 | .nil,_=>rfl
 | .nd j u k n,h=>by
  simp only [Fo.ids,List.mem_cons,List.mem_append,not_or] at h
  unfold insAfter
  rw [if_neg (fun e=>h.1 e.symm),insAfter_id a i t s h.2.1,insAfter_id a i t s h.2.2]
theorem insFirst_id (p i:Nat) (t:ByteArray) (s:Fo):∀ {F:Fo},p∉F.ids→insFirst p i t s F=F
 | .nil,_=>rfl
 | .nd j u k n,h=>by
  simp only [Fo.ids,List.mem_cons,List.mem_append,not_or] at h
  unfold insFirst
  rw [if_neg (fun e=>h.1 e.symm),insFirst_id p i t s h.2.1,insFirst_id p i t s h.2.2]
theorem del_id (x:Nat):∀ {F:Fo},x∉F.ids→del x F=F
 | .nil,_=>rfl
 | .nd j u k n,h=>by
  simp only [Fo.ids,List.mem_cons,List.mem_append,not_or] at h
  unfold del
  rw [if_neg (fun e=>h.1 e.symm),del_id x h.2.1,del_id x h.2.2]
theorem insAfter_hd (a i:Nat) (t:ByteArray) (s:Fo):∀ (F:Fo),(insAfter a i t s F).hd=F.hd
 | .nil=>rfl
 | .nd j u k n=>by unfold insAfter;split <;> rfl
theorem insFirst_hd (p i:Nat) (t:ByteArray) (s:Fo):∀ (F:Fo),(insFirst p i t s F).hd=F.hd
 | .nil=>rfl
 | .nd j u k n=>by unfold insFirst;split <;> rfl
theorem nodup_nd {j:Nat} {u:ByteArray} {k n:Fo} (h:(Fo.nd j u k n).ids.Nodup):j∉k.ids∧j∉n.ids∧k.ids.Nodup∧n.ids.Nodup∧(∀ x∈k.ids,x∉n.ids):=by
 simp only [Fo.ids,List.nodup_cons,List.nodup_append,List.mem_append,not_or] at h
 exact ⟨h.1.1,h.1.2,h.2.1,h.2.2.1,fun x hx hn=>h.2.2.2 x hx x hn rfl⟩
theorem rep_insAfter {h:Nat→Nd} {a i q:Nat} {t:ByteArray} {s:Fo} (hf:Free h i t s) (ha0:a≠0) (hq:(h a).up=q) :
  ∀ {F:Fo} {up:Nat},Rep h up F→F.ids.Nodup→i∉F.ids→a∉s.ids→a≠i→(∀ j∈s.ids,j∉F.ids)→Rep (attachH h i q a) up (insAfter a i t s F)
 | .nil,up,_,_,_,_,_,_=>trivial
 | .nd j u k n,up,⟨h1,h2,h3,h4⟩,hn,hi,has,hai,hd=>by
  obtain ⟨n1,n2,n3,n4,n5⟩:=nodup_nd hn
  have hat:=attachH_pos h i q a ha0
  simp only [Fo.ids,List.mem_cons,List.mem_append,not_or] at hi
  have hs:Rep (attachH h i q a) i s:=hf.rep.ext fun x hx=>by
   rw [hat x,if_neg (fun (e:x=a)=>has (e ▸ hx)),if_neg (fun (e:x=i)=>hf.out (e ▸ hx))]
  unfold insAfter
  by_cases hj:j=a
  ·subst hj
   rw [if_pos rfl]
   have hup:q=up:=by rw [←hq,h2]
   refine ⟨h1,?_,?_,hf.ne,?_,hs,?_⟩
   ·rw [hat j,if_pos rfl,h2];rfl
   ·exact h3.ext fun x hx=>by rw [hat x,if_neg (fun (e:x=j)=>n1 (e ▸ hx)),if_neg (fun (e:x=i)=>hi.2.1 (e ▸ hx))]
   ·rw [hat i,if_neg (fun e=>hai e.symm),if_pos rfl,h2,hup]
    show Nd.mk (h i).t up (h i).first n.hd=_
    rw [hf.t,hf.first]
   ·exact h4.ext fun x hx=>by rw [hat x,if_neg (fun (e:x=j)=>n2 (e ▸ hx)),if_neg (fun (e:x=i)=>hi.2.2 (e ▸ hx))]
  ·rw [if_neg hj]
   refine ⟨h1,?_,?_,?_⟩
   ·rw [hat j,if_neg hj,if_neg (fun e=>hi.1 e.symm),h2,insAfter_hd,insAfter_hd]
   ·exact rep_insAfter hf ha0 hq h3 n3 hi.2.1 has hai fun x hx hk=>hd x hx (by simp [Fo.ids,hk])
   ·exact rep_insAfter hf ha0 hq h4 n4 hi.2.2 has hai fun x hx hk=>hd x hx (by simp [Fo.ids,hk])
theorem rep_insFirst {h:Nat→Nd} {p i:Nat} {t:ByteArray} {s:Fo} (hf:Free h i t s) :
  ∀ {F:Fo} {up:Nat},Rep h up F→F.ids.Nodup→i∉F.ids→p∉s.ids→p≠i→(∀ j∈s.ids,j∉F.ids)→Rep (attachH h i p 0) up (insFirst p i t s F)
 | .nil,up,_,_,_,_,_,_=>trivial
 | .nd j u k n,up,⟨h1,h2,h3,h4⟩,hn,hi,has,hai,hd=>by
  obtain ⟨n1,n2,n3,n4,n5⟩:=nodup_nd hn
  have hat:=attachH_zero h i p
  simp only [Fo.ids,List.mem_cons,List.mem_append,not_or] at hi
  have hs:Rep (attachH h i p 0) i s:=hf.rep.ext fun x hx=>by
   rw [hat x,if_neg (fun (e:x=p)=>has (e ▸ hx)),if_neg (fun (e:x=i)=>hf.out (e ▸ hx))]
  unfold insFirst
  by_cases hj:j=p
  ·subst hj
   rw [if_pos rfl]
   refine ⟨h1,?_,⟨hf.ne,?_,hs,?_⟩,?_⟩
   ·rw [hat j,if_pos rfl,h2];rfl
   ·rw [hat i,if_neg (fun e=>hai e.symm),if_pos rfl,h2]
    show Nd.mk (h i).t j (h i).first k.hd=_
    rw [hf.t,hf.first]
   ·exact h3.ext fun x hx=>by rw [hat x,if_neg (fun (e:x=j)=>n1 (e ▸ hx)),if_neg (fun (e:x=i)=>hi.2.1 (e ▸ hx))]
   ·exact h4.ext fun x hx=>by rw [hat x,if_neg (fun (e:x=j)=>n2 (e ▸ hx)),if_neg (fun (e:x=i)=>hi.2.2 (e ▸ hx))]
  ·rw [if_neg hj]
   refine ⟨h1,?_,?_,?_⟩
   ·rw [hat j,if_neg hj,if_neg (fun e=>hi.1 e.symm),h2,insFirst_hd,insFirst_hd]
   ·exact rep_insFirst hf h3 n3 hi.2.1 has hai fun x hx hk=>hd x hx (by simp [Fo.ids,hk])
   ·exact rep_insFirst hf h4 n4 hi.2.2 has hai fun x hx hk=>hd x hx (by simp [Fo.ids,hk])
def sib (x:Nat):Nat→Fo→Nat
 | _,.nil=>0
 | p,.nd j u k n=>if j=x then p else if x∈k.ids then sib x 0 k else sib x j n
theorem sib_mem (x:Nat):∀ (F:Fo) (p:Nat),sib x p F=p∨sib x p F=0∨sib x p F∈F.ids
 | .nil,p=>Or.inr (Or.inl rfl)
 | .nd j u k n,p=>by
  unfold sib
  by_cases h1:j=x
  ·rw [if_pos h1];exact Or.inl rfl
  ·rw [if_neg h1]
   by_cases h2:x∈k.ids
   ·rw [if_pos h2]
    rcases sib_mem x k 0 with h|h|h
    ·exact Or.inr (Or.inl h)
    ·exact Or.inr (Or.inl h)
    ·exact Or.inr (Or.inr (by simp [Fo.ids,h]))
   ·rw [if_neg h2]
    rcases sib_mem x n j with h|h|h
    ·rw [h];exact Or.inr (Or.inr (by simp [Fo.ids]))
    ·exact Or.inr (Or.inl h)
    ·exact Or.inr (Or.inr (by simp [Fo.ids,h]))
theorem rep_up {h:Nat→Nd} {x:Nat}:∀ {F:Fo} {up:Nat},Rep h up F→F.ids.Nodup→x∈F.ids→(h x).up=up∨(h x).up∈F.ids
 | .nil,_,_,_,hx=>by simp [Fo.ids] at hx
 | .nd j u k n,up,⟨h1,h2,h3,h4⟩,hn,hx=>by
  obtain ⟨n1,n2,n3,n4,n5⟩:=nodup_nd hn
  simp only [Fo.ids,List.mem_cons,List.mem_append] at hx
  rcases hx with rfl|hx|hx
  ·left;rw [h2]
  ·rcases rep_up h3 n3 hx with e|e
   ·right;rw [e];simp [Fo.ids]
   ·right;simp [Fo.ids,e]
  ·rcases rep_up h4 n4 hx with e|e
   ·exact Or.inl e
   ·right;simp [Fo.ids,e]
theorem sib_zero {h:Nat→Nd} {x:Nat}:∀ {F:Fo} {up p:Nat},Rep h up F→F.ids.Nodup→x∈F.ids→sib x p F=0→(p≠0∨F.hd≠x)→(h x).up∈F.ids
 | .nil,_,_,_,_,hx,_,_=>by simp [Fo.ids] at hx
 | .nd j u k n,up,p,⟨h1,h2,h3,h4⟩,hn,hx,hs,hp=>by
  obtain ⟨n1,n2,n3,n4,n5⟩:=nodup_nd hn
  unfold sib at hs
  simp only [Fo.ids,List.mem_cons,List.mem_append] at hx
  by_cases e:j=x
  ·rw [if_pos e] at hs
   rcases hp with hp|hp
   ·exact absurd hs hp
   ·exact absurd e hp
  ·rw [if_neg e] at hs
   by_cases hk:x∈k.ids
   ·rcases rep_up h3 n3 hk with e|e
    ·rw [e];simp [Fo.ids]
    ·simp [Fo.ids,e]
   ·rw [if_neg hk] at hs
    have hxn:x∈n.ids:=by
     rcases hx with e'|e'|e'
     ·exact absurd e'.symm e
     ·exact absurd e' hk
     ·exact e'
    have:=sib_zero (p:=j) h4 n4 hxn hs (Or.inl h1)
    simp [Fo.ids,this]
theorem del_hd (x:Nat) (F:Fo) (h:F.hd≠x):(del x F).hd=F.hd:=by
 cases F with
 | nil=>rfl
 | nd j u k n=>unfold del;rw [if_neg (show j≠x from h)];rfl
theorem del_hd_self {h:Nat→Nd} {up x:Nat} {F:Fo} (hr:Rep h up F) (e:F.hd=x) (hx:x≠0):(del x F).hd=(h x).next∧(h x).up=up:=by
 cases F with
 | nil=>exact absurd e.symm hx
 | nd j u k n =>
  obtain rfl:j=x:=e
  obtain ⟨h1,h2,h3,h4⟩:=hr
  unfold del
  rw [if_pos rfl,h2]
  exact ⟨rfl,rfl⟩
theorem sib_hd {x p:Nat} {F:Fo} (e:F.hd=x) (hx:x≠0):sib x p F=p:=by
 cases F with
 | nil=>exact absurd e.symm hx
 | nd j u k n=>unfold sib;exact if_pos e
theorem up_ne {h:Nat→Nd} {x:Nat}:∀ {F:Fo} {up:Nat},Rep h up F→F.ids.Nodup→x∈F.ids→up∉F.ids→(h x).up≠x
 | .nil,_,_,_,hx,_=>by simp [Fo.ids] at hx
 | .nd j u k n,up,⟨h1,h2,h3,h4⟩,hn,hx,hup=>by
  obtain ⟨n1,n2,n3,n4,n5⟩:=nodup_nd hn
  simp only [Fo.ids,List.mem_cons,List.mem_append,not_or] at hx hup
  rcases hx with rfl|hx|hx
  ·rw [h2];exact hup.1
  ·exact up_ne h3 n3 hx n1
  ·exact up_ne h4 n4 hx hup.2.2
theorem sib_ne {x:Nat} (hx0:x≠0):∀ {F:Fo} {p:Nat},F.ids.Nodup→x∈F.ids→p≠x→sib x p F≠x
 | .nil,_,_,hx,_=>by simp [Fo.ids] at hx
 | .nd j u k n,p,hn,hx,hp=>by
  obtain ⟨n1,n2,n3,n4,n5⟩:=nodup_nd hn
  simp only [Fo.ids,List.mem_cons,List.mem_append] at hx
  unfold sib
  by_cases e1:j=x
  ·rw [if_pos e1];exact hp
  ·rw [if_neg e1]
   by_cases e2:x∈k.ids
   ·rw [if_pos e2];exact sib_ne hx0 n3 e2 (fun e=>hx0 e.symm)
   ·rw [if_neg e2]
    exact sib_ne hx0 n4 (by rcases hx with g|g|g;exact absurd g.symm e1;exact absurd g e2;exact g) e1
theorem rep_del {h:Nat→Nd} {x:Nat}:∀ {F:Fo} {up p:Nat},Rep h up F→F.ids.Nodup→x∈F.ids→up∉F.ids→p∉F.ids→Rep (detachH h x (sib x p F)) up (del x F)
 | .nil,_,_,_,_,hx,_,_=>by simp [Fo.ids] at hx
 | .nd j u k n,up,p,hR,hn,hx,hup,hp=>by
  have hx0:x≠0:=hR.ne0 x hx
  have hxup:(h x).up≠x:=up_ne hR hn hx hup
  obtain ⟨h1,h2,h3,h4⟩:=hR
  obtain ⟨n1,n2,n3,n4,n5⟩:=nodup_nd hn
  simp only [Fo.ids,List.mem_cons,List.mem_append,not_or] at hx hup hp
  unfold sib del
  by_cases e:j=x
  ·subst e
   rw [if_pos rfl,if_pos rfl]
   refine h4.ext fun y hy=>?_
   have hyj:y≠j:=fun e=>n2 (e ▸ hy)
   by_cases hp0:p=0
   ·subst hp0
    rw [detachH_zero h j hyj,h2,if_neg (fun (e:y=up)=>hup.2.2 (e ▸ hy))]
   ·rw [detachH_pos h j p hp0 hyj,if_neg (fun (e:y=p)=>hp.2.2 (e ▸ hy))]
  ·rw [if_neg e,if_neg e]
   by_cases hk:x∈k.ids
   ·rw [if_pos hk]
    have z3:(0:Nat)∉k.ids:=fun h0=>h3.ne0 0 h0 rfl
    have ih:=rep_del (p:=0) h3 n3 hk n1 z3
    have hnx:x∉n.ids:=n5 x hk
    have hsx:=sib_ne (p:=0) hx0 n3 hk (fun e=>hx0 e.symm)
    have hsm:sib x 0 k≠0→sib x 0 k∈k.ids:=fun hs=>by
     rcases sib_mem x k 0 with h'|h'|h'
     ·exact absurd h' hs
     ·exact absurd h' hs
     ·exact h'
    rw [del_id x hnx]
    refine ⟨h1,?_,ih,?_⟩
    ·by_cases hh:k.hd=x
     ·have hs:sib x 0 k=0:=sib_hd hh hx0
      obtain ⟨d1,d2⟩:=del_hd_self h3 hh hx0
      rw [hs,detachH_zero h x e,d2,if_pos rfl,d1,h2]
     ·rw [del_hd x k hh]
      by_cases hs:sib x 0 k=0
      ·have hq:=sib_zero (p:=0) h3 n3 hk hs (Or.inr hh)
       rw [hs,detachH_zero h x e,if_neg (fun (e2:j=(h x).up)=>n1 (e2 ▸ hq)),h2]
      ·rw [detachH_pos h x _ hs e,if_neg (fun (e2:j=sib x 0 k)=>n1 (e2 ▸ hsm hs)),h2]
    ·refine h4.ext fun y hy=>?_
     have hyx:y≠x:=fun e2=>hnx (e2 ▸ hy)
     by_cases hs:sib x 0 k=0
     ·rw [hs,detachH_zero h x hyx,if_neg]
      intro e2
      rcases rep_up h3 n3 hk with e3|e3
      ·exact n2 (e3 ▸ e2 ▸ hy)
      ·exact n5 _ e3 (e2 ▸ hy)
     ·rw [detachH_pos h x _ hs hyx,if_neg (fun (e2:y=sib x 0 k)=>n5 _ (hsm hs) (e2 ▸ hy))]
   ·rw [if_neg hk]
    have hxn:x∈n.ids:=by
     rcases hx with g|g|g
     ·exact absurd g.symm e
     ·exact absurd g hk
     ·exact g
    have ih:=rep_del (p:=j) h4 n4 hxn hup.2.2 n2
    rw [del_id x hk]
    have hsm:sib x j n≠j→sib x j n≠0→sib x j n∈n.ids:=fun hj hs=>by
     rcases sib_mem x n j with h'|h'|h'
     ·exact absurd h' hj
     ·exact absurd h' hs
     ·exact h'
    refine ⟨h1,?_,?_,ih⟩
    ·by_cases hh:n.hd=x
     ·have hs:sib x j n=j:=sib_hd hh hx0
      obtain ⟨d1,d2⟩:=del_hd_self h4 hh hx0
      rw [hs,detachH_pos h x j h1 e,if_pos rfl,d1,h2]
     ·rw [del_hd x n hh]
      by_cases hs:sib x j n=0
      ·have hq:=sib_zero (p:=j) h4 n4 hxn hs (Or.inl h1)
       rw [hs,detachH_zero h x e,if_neg (fun (e2:j=(h x).up)=>n2 (e2 ▸ hq)),h2]
      ·have hsj:sib x j n≠j:=by
        cases n with
        | nil=>simp [Fo.ids] at hxn
        | nd j2 u2 k2 n2' =>
         have hj2:j2≠x:=hh
         unfold sib
         rw [if_neg hj2]
         obtain ⟨m1,m2,m3,m4,m5⟩:=nodup_nd n4
         simp only [Fo.ids,List.mem_cons,List.mem_append,not_or] at n2
         split
         ·rcases sib_mem x k2 0 with h'|h'|h'
          ·rw [h'];exact fun e=>h1 e.symm
          ·rw [h'];exact fun e=>h1 e.symm
          ·exact fun e=>n2.2.1 (e ▸ h')
         ·rcases sib_mem x n2' j2 with h'|h'|h'
          ·rw [h'];exact fun e=>n2.1 e.symm
          ·rw [h'];exact fun e=>h1 e.symm
          ·exact fun e=>n2.2.2 (e ▸ h')
       rw [detachH_pos h x _ hs e,if_neg (fun (e2:j=sib x j n)=>hsj e2.symm),h2]
    ·refine h3.ext fun y hy=>?_
     have hyx:y≠x:=fun e2=>hk (e2 ▸ hy)
     by_cases hs:sib x j n=0
     ·rw [hs,detachH_zero h x hyx,if_neg]
      intro e2
      have hq:=sib_zero (p:=j) h4 n4 hxn hs (Or.inl h1)
      exact n5 _ hy (e2 ▸ hq)
     ·rw [detachH_pos h x _ hs hyx,if_neg]
      intro e2
      by_cases hsj:sib x j n=j
      ·exact n1 (by rw [←hsj,←e2];exact hy)
      ·exact n5 _ hy (e2 ▸ hsm hsj hs)
def RepTop (h:Nat→Nd):Fo→Prop
 | .nil=>True
 | .nd i t k n=>i≠0∧h i=⟨t,0,k.hd,0⟩∧Rep h i k∧RepTop h n
theorem RepTop.ext {h h':Nat→Nd}:∀ {F:Fo},RepTop h F→(∀ i∈F.ids,h' i=h i)→RepTop h' F
 | .nil,_,_=>trivial
 | .nd i t k n,⟨h1,h2,h3,h4⟩,e=>⟨h1,(e i (by simp [Fo.ids])).trans h2,Rep.ext h3 fun j hj=>e j (by simp [Fo.ids,hj]),RepTop.ext h4 fun j hj=>e j (by simp [Fo.ids,hj])⟩
theorem RepTop.ne0 {h:Nat→Nd}:∀ {F:Fo},RepTop h F→∀ i∈F.ids,i≠0
 | .nil,_,i,hi=>by simp [Fo.ids] at hi
 | .nd j t k n,⟨h1,h2,h3,h4⟩,i,hi=>by
  simp only [Fo.ids,List.mem_cons,List.mem_append] at hi
  rcases hi with rfl|hi|hi
  ·exact h1
  ·exact Rep.ne0 h3 i hi
  ·exact RepTop.ne0 h4 i hi
theorem tops_ids:∀ {F:Fo} {x:Nat},x∈F.tops→x∈F.ids
 | .nil,x,h=>by cases h
 | .nd j t k n,x,h=>by
  simp only [Fo.tops,List.mem_cons] at h
  simp only [Fo.ids,List.mem_cons,List.mem_append]
  rcases h with h|h
  ·exact Or.inl h
  ·exact Or.inr (Or.inr (tops_ids h))
theorem reptop_up {h:Nat→Nd} {x:Nat}:∀ {F:Fo},RepTop h F→F.ids.Nodup→x∈F.ids→x∉F.tops→(h x).up∈F.ids∧(h x).up≠x
 | .nil,_,_,hx,_=>by simp [Fo.ids] at hx
 | .nd j u k n,⟨h1,h2,h3,h4⟩,hn,hx,ht=>by
  obtain ⟨n1,n2,n3,n4,n5⟩:=nodup_nd hn
  simp only [Fo.ids,Fo.tops,List.mem_cons,List.mem_append,not_or] at hx ht ⊢
  rcases hx with e|hx|hx
  ·exact absurd e ht.1
  ·refine ⟨?_,up_ne h3 n3 hx n1⟩
   rcases rep_up h3 n3 hx with e|e
   ·exact Or.inl e
   ·exact Or.inr (Or.inl e)
  ·obtain ⟨g1,g2⟩:=reptop_up h4 n4 hx ht.2
   exact ⟨Or.inr (Or.inr g1),g2⟩
theorem reptop_root {h:Nat→Nd} {x:Nat}:∀ {F:Fo},RepTop h F→x∈F.tops→(h x).up=0
 | .nil,_,hx=>by cases hx
 | .nd j u k n,⟨h1,h2,h3,h4⟩,hx=>by
  simp only [Fo.tops,List.mem_cons] at hx
  rcases hx with rfl|hx
  ·rw [h2]
  ·exact reptop_root h4 hx
theorem reptop_insAfter {h:Nat→Nd} {a i q:Nat} {t:ByteArray} {s:Fo} (hf:Free h i t s) (ha0:a≠0) (hq:(h a).up=q) :
  ∀ {F:Fo},RepTop h F→F.ids.Nodup→i∉F.ids→a∉F.tops→a∉s.ids→a≠i→(∀ j∈s.ids,j∉F.ids)→RepTop (attachH h i q a) (insAfter a i t s F)
 | .nil,_,_,_,_,_,_,_=>trivial
 | .nd j u k n,⟨h1,h2,h3,h4⟩,hn,hi,hta,has,hai,hd=>by
  obtain ⟨n1,n2,n3,n4,n5⟩:=nodup_nd hn
  simp only [Fo.ids,Fo.tops,List.mem_cons,List.mem_append,not_or] at hi hta
  have hj:j≠a:=fun e=>hta.1 e.symm
  unfold insAfter
  rw [if_neg hj]
  refine ⟨h1,?_,?_,?_⟩
  ·rw [attachH_pos h i q a ha0 j,if_neg hj,if_neg (fun e=>hi.1 e.symm),h2,insAfter_hd]
  ·exact rep_insAfter hf ha0 hq h3 n3 hi.2.1 has hai fun x hx hk=>hd x hx (by simp [Fo.ids,hk])
  ·exact reptop_insAfter hf ha0 hq h4 n4 hi.2.2 hta.2 has hai fun x hx hk=>hd x hx (by simp [Fo.ids,hk])
theorem reptop_insFirst {h:Nat→Nd} {p i:Nat} {t:ByteArray} {s:Fo} (hf:Free h i t s) :
  ∀ {F:Fo},RepTop h F→F.ids.Nodup→i∉F.ids→p∉s.ids→p≠i→(∀ j∈s.ids,j∉F.ids)→RepTop (attachH h i p 0) (insFirst p i t s F)
 | .nil,_,_,_,_,_,_=>trivial
 | .nd j u k n,⟨h1,h2,h3,h4⟩,hn,hi,has,hai,hd=>by
  obtain ⟨n1,n2,n3,n4,n5⟩:=nodup_nd hn
  have hat:=attachH_zero h i p
  simp only [Fo.ids,List.mem_cons,List.mem_append,not_or] at hi
  unfold insFirst
  by_cases hj:j=p
  ·subst hj
   rw [if_pos rfl]
   refine ⟨h1,?_,⟨hf.ne,?_,?_,?_⟩,?_⟩
   ·rw [hat j,if_pos rfl,h2];rfl
   ·rw [hat i,if_neg (fun e=>hai e.symm),if_pos rfl,h2]
    show Nd.mk (h i).t j (h i).first k.hd=_
    rw [hf.t,hf.first]
   ·exact hf.rep.ext fun x hx=>by
     rw [hat x,if_neg (fun (e:x=j)=>has (e ▸ hx)),if_neg (fun (e:x=i)=>hf.out (e ▸ hx))]
   ·exact h3.ext fun x hx=>by rw [hat x,if_neg (fun (e:x=j)=>n1 (e ▸ hx)),if_neg (fun (e:x=i)=>hi.2.1 (e ▸ hx))]
   ·exact h4.ext fun x hx=>by rw [hat x,if_neg (fun (e:x=j)=>n2 (e ▸ hx)),if_neg (fun (e:x=i)=>hi.2.2 (e ▸ hx))]
  ·rw [if_neg hj]
   refine ⟨h1,?_,?_,?_⟩
   ·rw [hat j,if_neg hj,if_neg (fun e=>hi.1 e.symm),h2,insFirst_hd]
   ·exact rep_insFirst hf h3 n3 hi.2.1 has hai fun x hx hk=>hd x hx (by simp [Fo.ids,hk])
   ·exact reptop_insFirst hf h4 n4 hi.2.2 has hai fun x hx hk=>hd x hx (by simp [Fo.ids,hk])
def sibT (x:Nat):Fo→Nat
 | .nil=>0
 | .nd j u k n=>if x∈k.ids then sib x 0 k else sibT x n
theorem sibT_mem (x:Nat):∀ (F:Fo),sibT x F=0∨sibT x F∈F.ids
 | .nil=>Or.inl rfl
 | .nd j u k n=>by
  unfold sibT
  split
  ·rcases sib_mem x k 0 with h|h|h
   ·exact Or.inl h
   ·exact Or.inl h
   ·exact Or.inr (by simp [Fo.ids,h])
  ·rcases sibT_mem x n with h|h
   ·exact Or.inl h
   ·exact Or.inr (by simp [Fo.ids,h])
theorem reptop_del {h:Nat→Nd} {x:Nat}:∀ {F:Fo},RepTop h F→F.ids.Nodup→x∈F.ids→x∉F.tops→RepTop (detachH h x (sibT x F)) (del x F)
 | .nil,_,_,hx,_=>by simp [Fo.ids] at hx
 | .nd j u k n,hR,hn,hx,ht=>by
  have hx0:x≠0:=hR.ne0 x hx
  obtain ⟨h1,h2,h3,h4⟩:=hR
  obtain ⟨n1,n2,n3,n4,n5⟩:=nodup_nd hn
  simp only [Fo.ids,Fo.tops,List.mem_cons,List.mem_append,not_or] at hx ht
  have e:j≠x:=fun e=>ht.1 e.symm
  unfold sibT del
  rw [if_neg e]
  by_cases hk:x∈k.ids
  ·rw [if_pos hk]
   have z3:(0:Nat)∉k.ids:=fun h0=>h3.ne0 0 h0 rfl
   have hxup:(h x).up≠x:=up_ne h3 n3 hk n1
   have ih:=rep_del (p:=0) h3 n3 hk n1 z3
   have hnx:x∉n.ids:=n5 x hk
   have hsx:=sib_ne (p:=0) hx0 n3 hk (fun e=>hx0 e.symm)
   have hsm:sib x 0 k≠0→sib x 0 k∈k.ids:=fun hs=>by
    rcases sib_mem x k 0 with h'|h'|h'
    ·exact absurd h' hs
    ·exact absurd h' hs
    ·exact h'
   rw [del_id x hnx]
   refine ⟨h1,?_,ih,?_⟩
   ·by_cases hh:k.hd=x
    ·have hs:sib x 0 k=0:=sib_hd hh hx0
     obtain ⟨d1,d2⟩:=del_hd_self h3 hh hx0
     rw [hs,detachH_zero h x e,d2,if_pos rfl,d1,h2]
    ·rw [del_hd x k hh]
     by_cases hs:sib x 0 k=0
     ·have hq:=sib_zero (p:=0) h3 n3 hk hs (Or.inr hh)
      rw [hs,detachH_zero h x e,if_neg (fun (e2:j=(h x).up)=>n1 (e2 ▸ hq)),h2]
     ·rw [detachH_pos h x _ hs e,if_neg (fun (e2:j=sib x 0 k)=>n1 (e2 ▸ hsm hs)),h2]
   ·refine h4.ext fun y hy=>?_
    have hyx:y≠x:=fun e2=>hnx (e2 ▸ hy)
    by_cases hs:sib x 0 k=0
    ·rw [hs,detachH_zero h x hyx,if_neg]
     intro e2
     rcases rep_up h3 n3 hk with e3|e3
     ·exact n2 (e3 ▸ e2 ▸ hy)
     ·exact n5 _ e3 (e2 ▸ hy)
    ·rw [detachH_pos h x _ hs hyx,if_neg (fun (e2:y=sib x 0 k)=>n5 _ (hsm hs) (e2 ▸ hy))]
  ·rw [if_neg hk]
   have hxn:x∈n.ids:=by
    rcases hx with g|g|g
    ·exact absurd g.symm e
    ·exact absurd g hk
    ·exact g
   have ih:=reptop_del h4 n4 hxn ht.2
   obtain ⟨u1,u2⟩:=reptop_up h4 n4 hxn ht.2
   have hsm:sibT x n≠0→sibT x n∈n.ids:=fun hs=>by
    rcases sibT_mem x n with h'|h'
    ·exact absurd h' hs
    ·exact h'
   rw [del_id x hk]
   refine ⟨h1,?_,?_,ih⟩
   ·by_cases hs:sibT x n=0
    ·rw [hs,detachH_zero h x e,if_neg (fun (e2:j=(h x).up)=>n2 (e2 ▸ u1)),h2]
    ·rw [detachH_pos h x _ hs e,if_neg (fun (e2:j=sibT x n)=>n2 (e2 ▸ hsm hs)),h2]
   ·refine h3.ext fun y hy=>?_
    have hyx:y≠x:=fun e2=>hk (e2 ▸ hy)
    by_cases hs:sibT x n=0
    ·rw [hs,detachH_zero h x hyx,if_neg (fun (e2:y=(h x).up)=>n5 _ hy (e2 ▸ u1))]
    ·rw [detachH_pos h x _ hs hyx,if_neg (fun (e2:y=sibT x n)=>n5 _ hy (e2 ▸ hsm hs))]
theorem free_detach {h:Nat→Nd} {x a:Nat}:∀ {F:Fo} {up:Nat},Rep h up F→F.ids.Nodup→x∈F.ids→a∉(sub x F).ids→(h x).up∉(sub x F).ids→Free (detachH h x a) x (h x).t (sub x F)
 | .nil,_,_,_,hx,_,_=>by simp [Fo.ids] at hx
 | .nd j u k n,up,⟨h1,h2,h3,h4⟩,hn,hx,ha,hu=>by
  obtain ⟨n1,n2,n3,n4,n5⟩:=nodup_nd hn
  unfold sub at ha hu ⊢
  by_cases e:j=x
  ·subst e
   rw [if_pos rfl] at ha hu ⊢
   refine ⟨h1,by rw [detachH_self],by rw [detachH_self,h2],h3.ext fun y hy=>?_,n1⟩
   have hyj:y≠j:=fun e=>n1 (e ▸ hy)
   by_cases ha0:a=0
   ·subst ha0;rw [detachH_zero h j hyj,if_neg (fun (e:y=(h j).up)=>hu (e ▸ hy))]
   ·rw [detachH_pos h j a ha0 hyj,if_neg (fun (e:y=a)=>ha (e ▸ hy))]
  ·rw [if_neg e] at ha hu ⊢
   by_cases hk:x∈k.ids
   ·rw [if_pos hk] at ha hu ⊢
    exact free_detach h3 n3 hk ha hu
   ·rw [if_neg hk] at ha hu ⊢
    simp only [Fo.ids,List.mem_cons,List.mem_append] at hx
    exact free_detach h4 n4 (by rcases hx with g|g|g;exact absurd g.symm e;exact absurd g hk;exact g) ha hu
def dpth:Fo→Nat
 | .nil=>0
 | .nd _ _ k .nil=>dpth k+1
 | .nd _ _ _ (.nd i t k n)=>dpth (.nd i t k n)
def sp:Nat→Fo→Nat
 | _,.nil=>0
 | 0,.nd i _ _ .nil=>i
 | e+1,.nd _ _ k .nil=>sp e k
 | e,.nd _ _ _ (.nd i t k n)=>sp e (.nd i t k n)
def snoc (i:Nat) (t:ByteArray):Nat→Fo→Fo
 | _,.nil=>.nd i t .nil .nil
 | 0,.nd j u k .nil=>.nd j u k (.nd i t .nil .nil)
 | e+1,.nd j u k .nil=>.nd j u (snoc i t e k) .nil
 | e,.nd j u k (.nd j2 u2 k2 n2)=>.nd j u k (snoc i t e (.nd j2 u2 k2 n2))
theorem snoc_ne (i:Nat) (t:ByteArray):∀ (e:Nat) (G:Fo),∃ j u k n,snoc i t e G=.nd j u k n
 | e,.nil=>⟨_,_,_,_,by unfold snoc;rfl⟩
 | 0,.nd j u k .nil=>⟨_,_,_,_,by unfold snoc;rfl⟩
 | e+1,.nd j u k .nil=>⟨_,_,_,_,by unfold snoc;rfl⟩
 | e,.nd j u k (.nd j2 u2 k2 n2)=>⟨_,_,_,_,by unfold snoc;rfl⟩
theorem snoc_fl (i:Nat) (t:ByteArray):∀ (G:Fo) (e d:Nat),e≤dpth G→(snoc i t e G).fl d=G.fl d++[⟨(i:Int),((d+e:Nat):Int),t⟩]
 | .nil,e,d,h=>by
  have:e=0:=by simpa [dpth] using h
  subst this
  simp [snoc,Fo.fl]
 | .nd j u k .nil,0,d,h=>by simp [snoc,Fo.fl]
 | .nd j u k .nil,e+1,d,h=>by
  have:=snoc_fl i t k e (d+1) (by simp only [dpth] at h;omega)
  simp only [snoc,Fo.fl,this]
  rw [show d+1+e=d+(e+1) by omega]
  simp
 | .nd j u k (.nd j2 u2 k2 n2),e,d,h=>by
  have:=snoc_fl i t (.nd j2 u2 k2 n2) e d h
  have e1:snoc i t e (.nd j u k (.nd j2 u2 k2 n2))=.nd j u k (snoc i t e (.nd j2 u2 k2 n2)):=by cases e <;> rfl
  rw [e1]
  simp only [Fo.fl] at this ⊢
  rw [this]
  simp
theorem snoc_ids (i:Nat) (t:ByteArray):∀ (G:Fo) (e:Nat),(snoc i t e G).ids=G.ids++[i]
 | .nil,e=>by simp [snoc,Fo.ids]
 | .nd j u k .nil,0=>by simp [snoc,Fo.ids]
 | .nd j u k .nil,e+1=>by simp [snoc,Fo.ids,snoc_ids i t k e]
 | .nd j u k (.nd j2 u2 k2 n2),e=>by
  have e1:snoc i t e (.nd j u k (.nd j2 u2 k2 n2))=.nd j u k (snoc i t e (.nd j2 u2 k2 n2)):=by cases e <;> rfl
  rw [e1]
  show j::(k.ids++(snoc i t e (.nd j2 u2 k2 n2)).ids)=_
  rw [snoc_ids i t (.nd j2 u2 k2 n2) e]
  simp [Fo.ids]
theorem snoc_tops (i:Nat) (t:ByteArray):∀ (G:Fo) (e:Nat),e≤dpth G→(snoc i t e G).tops=if e=0 then G.tops++[i] else G.tops
 | .nil,e,h=>by
  have:e=0:=by simpa [dpth] using h
  subst this
  simp [snoc,Fo.tops]
 | .nd j u k .nil,0,_=>by simp [snoc,Fo.tops]
 | .nd j u k .nil,e+1,_=>by simp [snoc,Fo.tops]
 | .nd j u k (.nd j2 u2 k2 n2),e,h=>by
  have e1:snoc i t e (.nd j u k (.nd j2 u2 k2 n2))=.nd j u k (snoc i t e (.nd j2 u2 k2 n2)):=by cases e <;> rfl
  rw [e1]
  show j::(snoc i t e (.nd j2 u2 k2 n2)).tops=_
  rw [snoc_tops i t (.nd j2 u2 k2 n2) e h]
  by_cases he:e=0 <;> simp [he,Fo.tops]
theorem dpth_nd {j:Nat} {u:ByteArray} {k n:Fo} (h:∃ a b c d,n=.nd a b c d):dpth (.nd j u k n)=dpth n:=by
 obtain ⟨a,b,c,d,rfl⟩:=h
 rfl
theorem sp_nd {e j:Nat} {u:ByteArray} {k n:Fo} (h:∃ a b c d,n=.nd a b c d):sp e (.nd j u k n)=sp e n:=by
 obtain ⟨a,b,c,d,rfl⟩:=h
 cases e <;> rfl
theorem snoc_dpth (i:Nat) (t:ByteArray):∀ (G:Fo) (e:Nat),e≤dpth G→dpth (snoc i t e G)=e+1
 | .nil,e,h=>by
  have:e=0:=by simpa [dpth] using h
  subst this
  rfl
 | .nd j u k .nil,0,_=>rfl
 | .nd j u k .nil,e+1,h=>by
  show dpth (.nd j u (snoc i t e k) .nil)=_
  show dpth (snoc i t e k)+1=_
  rw [snoc_dpth i t k e (by simp only [dpth] at h;omega)]
 | .nd j u k (.nd j2 u2 k2 n2),e,h=>by
  have e1:snoc i t e (.nd j u k (.nd j2 u2 k2 n2))=.nd j u k (snoc i t e (.nd j2 u2 k2 n2)):=by cases e <;> rfl
  rw [e1,dpth_nd (snoc_ne i t e _)]
  exact snoc_dpth i t (.nd j2 u2 k2 n2) e h
theorem snoc_sp (i:Nat) (t:ByteArray):∀ (G:Fo) (e:Nat),e≤dpth G→sp e (snoc i t e G)=i∧∀ d,d < e→sp d (snoc i t e G)=sp d G
 | .nil,e,h=>by
  have:e=0:=by simpa [dpth] using h
  subst this
  exact ⟨rfl,fun d hd=>by omega⟩
 | .nd j u k .nil,0,_=>⟨rfl,fun d hd=>by omega⟩
 | .nd j u k .nil,e+1,h=>by
  obtain ⟨h1,h2⟩:=snoc_sp i t k e (by simp only [dpth] at h;omega)
  refine ⟨h1,fun d hd=>?_⟩
  cases d with
  | zero=>rfl
  | succ d=>exact h2 d (by omega)
 | .nd j u k (.nd j2 u2 k2 n2),e,h=>by
  have e1:snoc i t e (.nd j u k (.nd j2 u2 k2 n2))=.nd j u k (snoc i t e (.nd j2 u2 k2 n2)):=by cases e <;> rfl
  obtain ⟨h1,h2⟩:=snoc_sp i t (.nd j2 u2 k2 n2) e h
  rw [e1]
  refine ⟨(sp_nd (snoc_ne i t e _)).trans h1,fun d hd=>?_⟩
  rw [sp_nd (snoc_ne i t e _),h2 d hd]
  exact (sp_nd ⟨_,_,_,_,rfl⟩).symm
theorem sp_mem:∀ (G:Fo) (e:Nat),e < dpth G→sp e G∈G.ids
 | .nil,e,h=>by simp [dpth] at h
 | .nd j u k .nil,0,_=>by simp [sp,Fo.ids]
 | .nd j u k .nil,e+1,h=>by
  have:=sp_mem k e (by simp only [dpth] at h;omega)
  show sp e k∈_
  simp [Fo.ids,this]
 | .nd j u k (.nd j2 u2 k2 n2),e,h=>by
  have:=sp_mem (.nd j2 u2 k2 n2) e h
  rw [sp_nd ⟨_,_,_,_,rfl⟩]
  show _∈j::(k.ids++(Fo.nd j2 u2 k2 n2).ids)
  simp only [List.mem_cons,List.mem_append]
  exact Or.inr (Or.inr this)
theorem rep_sp {h:Nat→Nd}:∀ (G:Fo) {up:Nat} (e:Nat),Rep h up G→e < dpth G→(h (sp e G)).up=if e=0 then up else sp (e - 1) G
 | .nil,up,e,_,hl=>by simp [dpth] at hl
 | .nd j u k .nil,up,0,⟨h1,h2,h3,h4⟩,_=>by show (h j).up=_;rw [h2];rfl
 | .nd j u k .nil,up,e+1,⟨h1,h2,h3,h4⟩,hl=>by
  have:=rep_sp k e h3 (by simp only [dpth] at hl;omega)
  show (h (sp e k)).up=_
  rw [this,if_neg (by omega:¬ e+1=0)]
  cases e with
  | zero=>rfl
  | succ e=>rfl
 | .nd j u k (.nd j2 u2 k2 n2),up,e,⟨h1,h2,h3,h4⟩,hl=>by
  have:=rep_sp (.nd j2 u2 k2 n2) e h4 hl
  rw [sp_nd ⟨_,_,_,_,rfl⟩,sp_nd ⟨_,_,_,_,rfl⟩]
  exact this
theorem reptop_sp {h:Nat→Nd}:∀ (G:Fo) (e:Nat),RepTop h G→e+1 < dpth G→(h (sp (e+1) G)).up=sp e G
 | .nil,e,_,hl=>by simp [dpth] at hl
 | .nd j u k .nil,e,⟨h1,h2,h3,h4⟩,hl=>by
  have:=rep_sp k e h3 (by simp only [dpth] at hl;omega)
  show (h (sp e k)).up=_
  rw [this]
  cases e with
  | zero=>rfl
  | succ e=>rfl
 | .nd j u k (.nd j2 u2 k2 n2),e,⟨h1,h2,h3,h4⟩,hl=>by
  have:=reptop_sp (.nd j2 u2 k2 n2) e h4 hl
  rw [sp_nd ⟨_,_,_,_,rfl⟩,sp_nd ⟨_,_,_,_,rfl⟩]
  exact this
theorem sp_not_top:∀ (G:Fo) (e:Nat),G.ids.Nodup→e+1 < dpth G→sp (e+1) G∉G.tops
 | .nil,e,_,hl=>by simp [dpth] at hl
 | .nd j u k .nil,e,hn,hl=>by
  obtain ⟨n1,n2,n3,n4,n5⟩:=nodup_nd hn
  have hm:=sp_mem k e (by simp only [dpth] at hl;omega)
  show sp e k∉[j]
  intro hc
  rw [List.mem_singleton.1 hc] at hm
  exact n1 hm
 | .nd j u k (.nd j2 u2 k2 n2),e,hn,hl=>by
  obtain ⟨n1,m2,n3,n4,n5⟩:=nodup_nd hn
  have:=sp_not_top (.nd j2 u2 k2 n2) e n4 hl
  have hm:=sp_mem (.nd j2 u2 k2 n2) (e+1) hl
  rw [sp_nd ⟨_,_,_,_,rfl⟩]
  intro hc
  rcases List.mem_cons.1 hc with hc|hc
  ·rw [hc] at hm;exact m2 hm
  ·exact this hc
theorem snoc_after (i:Nat) (t:ByteArray):∀ (G:Fo) (e:Nat),G.ids.Nodup→e < dpth G→snoc i t e G=insAfter (sp e G) i t .nil G
 | .nil,e,_,hl=>by simp [dpth] at hl
 | .nd j u k .nil,0,hn,_=>by
  show Fo.nd j u k (.nd i t .nil .nil)=insAfter j i t .nil (.nd j u k .nil)
  unfold insAfter
  rw [if_pos rfl]
 | .nd j u k .nil,e+1,hn,hl=>by
  obtain ⟨n1,n2,n3,n4,n5⟩:=nodup_nd hn
  have hl':e < dpth k:=by simp only [dpth] at hl;omega
  have hm:=sp_mem k e hl'
  show Fo.nd j u (snoc i t e k) .nil=insAfter (sp e k) i t .nil (.nd j u k .nil)
  unfold insAfter
  rw [if_neg (fun (e2:j=sp e k)=>n1 (e2 ▸ hm)),snoc_after i t k e n3 hl']
  rfl
 | .nd j u k (.nd j2 u2 k2 n2),e,hn,hl=>by
  obtain ⟨n1,n2',n3,n4,n5⟩:=nodup_nd hn
  have e1:snoc i t e (.nd j u k (.nd j2 u2 k2 n2))=.nd j u k (snoc i t e (.nd j2 u2 k2 n2)):=by cases e <;> rfl
  have hm:=sp_mem (.nd j2 u2 k2 n2) e hl
  have e2:sp e (.nd j u k (.nd j2 u2 k2 n2))=sp e (.nd j2 u2 k2 n2):=sp_nd ⟨_,_,_,_,rfl⟩
  rw [e1,e2,snoc_after i t _ e n4 hl]
  have e3:insAfter (sp e (.nd j2 u2 k2 n2)) i t .nil (.nd j u k (.nd j2 u2 k2 n2))=.nd j u (insAfter (sp e (.nd j2 u2 k2 n2)) i t .nil k) (insAfter (sp e (.nd j2 u2 k2 n2)) i t .nil (.nd j2 u2 k2 n2)):=by
   conv=>lhs;unfold insAfter
   rw [if_neg (fun (e2:j=sp e (.nd j2 u2 k2 n2))=>n2' (e2 ▸ hm))]
  rw [e3,insAfter_id _ i t .nil (fun hk=>n5 _ hk hm)]
theorem snoc_first (i:Nat) (t:ByteArray):∀ (G:Fo) (e:Nat),G.ids.Nodup→dpth G=e+1→snoc i t (e+1) G=insFirst (sp e G) i t .nil G
 | .nil,e,_,hl=>by simp [dpth] at hl
 | .nd j u k .nil,0,hn,hl=>by
  have:dpth k=0:=by simp only [dpth] at hl;omega
  have hk:k=.nil:=by
   cases k with
   | nil=>rfl
   | nd a b c d =>
    exfalso
    have:∀ (F:Fo),dpth F=0→F=.nil:=by
     intro F
     induction F with
     | nil=>intro _;rfl
     | nd a b c d _ ihd =>
      intro h0
      cases d with
      | nil=>simp [dpth] at h0
      | nd a2 b2 c2 d2 =>
       have:=ihd (by simpa [dpth] using h0)
       cases this
    have h3:=this _ ‹dpth (Fo.nd a b c d)=0›
    cases h3
  subst hk
  show Fo.nd j u (.nd i t .nil .nil) .nil=insFirst j i t .nil (.nd j u .nil .nil)
  unfold insFirst
  rw [if_pos rfl]
 | .nd j u k .nil,e+1,hn,hl=>by
  obtain ⟨n1,n2,n3,n4,n5⟩:=nodup_nd hn
  have hl':dpth k=e+1:=by simp only [dpth] at hl;omega
  have hm:=sp_mem k e (by omega)
  show Fo.nd j u (snoc i t (e+1) k) .nil=insFirst (sp e k) i t .nil (.nd j u k .nil)
  unfold insFirst
  rw [if_neg (fun (e2:j=sp e k)=>n1 (e2 ▸ hm)),snoc_first i t k e n3 hl']
  rfl
 | .nd j u k (.nd j2 u2 k2 n2),e,hn,hl=>by
  obtain ⟨n1,n2',n3,n4,n5⟩:=nodup_nd hn
  have e1:snoc i t (e+1) (.nd j u k (.nd j2 u2 k2 n2))=.nd j u k (snoc i t (e+1) (.nd j2 u2 k2 n2)):=rfl
  have hl':dpth (.nd j2 u2 k2 n2)=e+1:=hl
  have hm:=sp_mem (.nd j2 u2 k2 n2) e (by omega)
  have e2:sp e (.nd j u k (.nd j2 u2 k2 n2))=sp e (.nd j2 u2 k2 n2):=sp_nd ⟨_,_,_,_,rfl⟩
  rw [e1,e2,snoc_first i t _ e n4 hl']
  have e3:insFirst (sp e (.nd j2 u2 k2 n2)) i t .nil (.nd j u k (.nd j2 u2 k2 n2))=.nd j u (insFirst (sp e (.nd j2 u2 k2 n2)) i t .nil k) (insFirst (sp e (.nd j2 u2 k2 n2)) i t .nil (.nd j2 u2 k2 n2)):=by
   conv=>lhs;unfold insFirst
   rw [if_neg (fun (e2:j=sp e (.nd j2 u2 k2 n2))=>n2' (e2 ▸ hm))]
  rw [e3,insFirst_id _ i t .nil (fun hk=>n5 _ hk hm)]
theorem reptop_snoc0 {h:Nat→Nd} {i:Nat} {t:ByteArray} (h0:i≠0) (hi:h i=⟨t,0,0,0⟩):∀ (G:Fo),RepTop h G→RepTop h (snoc i t 0 G)
 | .nil,_=>⟨h0,hi,trivial,trivial⟩
 | .nd j u k .nil,⟨h1,h2,h3,h4⟩=>⟨h1,h2,h3,h0,hi,trivial,trivial⟩
 | .nd j u k (.nd j2 u2 k2 n2),⟨h1,h2,h3,h4⟩=>⟨h1,h2,h3,reptop_snoc0 h0 hi _ h4⟩
end Go.Proofs.YtlkheeegkifblaaDoor.FP
namespace Go.Proofs.YtlkheeegkifblaaDoor.P
open Go.RowKit Go.Proofs.YtlkheeegkifblaaDoorW.PrintWords Go.Proofs.YtlkheeegkifblaaDoorW.PrintLast Go.Proofs.YtlkheeegkifblaaDoorW.PrintMore Go.Proofs.YtlkheeegkifblaaDoor.FP
def pa (o:Option Nat):Option Addr:=o.map fun b=>⟨b,0,none⟩
theorem pa_none:pa none=none:=rfl
theorem pa_some (b:Nat):pa (some b)=some ⟨b,0,none⟩:=rfl
def nodeC (A:Nat→Option Nat) (i:Nat) (x:Nd):Array Value:=#[.int .i64 (i:Int),.string x.t,.pointer (pa (A x.up)),.pointer (pa (A x.first)),.pointer (pa (A x.next))]
def tabC (A:Nat→Option Nat):Array Value:=((List.range 37).map fun i=>Value.pointer (pa (A i))).toArray
structure Mem (w:World) (n0 F:Nat) (A:Nat→Option Nat) (h:Nat→Nd):Prop where
 z:A 0=none
 rng:∀ i b,A i=some b→i < 37
 inj:∀ i j b,A i=some b→A j=some b→i=j
 ne:∀ i b,A i=some b→b≠F
 lo:∀ i b,A i=some b→n0≤b
 loF:n0≤F
 tab:w.heap[F]?=some (.cells (tabC A) 110 (0,0))
 nod:∀ i b,A i=some b→w.heap[b]?=some (.cells (nodeC A i (h i)) 85 (0,0))
 cu:∀ i,A i≠none→(h i).up=0∨A (h i).up≠none
 cf:∀ i,A i≠none→(h i).first=0∨A (h i).first≠none
 cn:∀ i,A i≠none→(h i).next=0∨A (h i).next≠none
theorem Mem.kept {w w':World} {n0 F:Nat} {A:Nat→Option Nat} {h:Nat→Nd} (m:Mem w n0 F A h) (hk:∀ b,b < w.heap.size→w'.heap[b]?=w.heap[b]?):Mem w' n0 F A h :=
 { m with tab:=(hk F (blk_lt m.tab)).trans m.tab,nod:=fun i b e=>(hk b (blk_lt (m.nod i b e))).trans (m.nod i b e) }
theorem Mem.below {w w':World} {n0 F:Nat} {A:Nat→Option Nat} {h:Nat→Nd} (m:Mem w n0 F A h) (hb:Below w.heap.size w w'):Mem w' n0 F A h:=m.kept fun b hl=>hb.block b hl
theorem Mem.alloc {w:World} {n0 F:Nat} {A:Nat→Option Nat} {h:Nat→Nd} (m:Mem w n0 F A h) (o:Obj):Mem (w.alloc o) n0 F A h:=m.kept fun b hl=>Below.heap_alloc w o b hl
theorem Mem.drew {w:World} {n0 F:Nat} {A:Nat→Option Nat} {h:Nat→Nd} (m:Mem w n0 F A h):Mem w.drew n0 F A h:=m.kept fun _ _=>rfl
theorem Mem.drewN {w:World} {n0 F:Nat} {A:Nat→Option Nat} {h:Nat→Nd} (m:Mem w n0 F A h) (n:Nat):Mem (w.drewN n) n0 F A h:=m.kept fun _ _=>rfl
theorem Mem.lt {w:World} {n0 F:Nat} {A:Nat→Option Nat} {h:Nat→Nd} (m:Mem w n0 F A h) {i b:Nat} (e:A i=some b):b < w.heap.size:=blk_lt (m.nod i b e)
theorem Mem.ltF {w:World} {n0 F:Nat} {A:Nat→Option Nat} {h:Nat→Nd} (m:Mem w n0 F A h):F < w.heap.size:=blk_lt m.tab
theorem Mem.c0 {w:World} {n0 F:Nat} {A:Nat→Option Nat} {h:Nat→Nd} (m:Mem w n0 F A h) {i b:Nat} (e:A i=some b):w.cell? ⟨b,0,none⟩=some (.int .i64 (i:Int)):=(bC_ (m.nod i b e) 0).trans rfl
theorem Mem.c1 {w:World} {n0 F:Nat} {A:Nat→Option Nat} {h:Nat→Nd} (m:Mem w n0 F A h) {i b:Nat} (e:A i=some b):w.cell? ⟨b,1,none⟩=some (.string (h i).t):=(bC_ (m.nod i b e) 1).trans rfl
theorem Mem.c2 {w:World} {n0 F:Nat} {A:Nat→Option Nat} {h:Nat→Nd} (m:Mem w n0 F A h) {i b:Nat} (e:A i=some b):w.cell? ⟨b,2,none⟩=some (.pointer (pa (A (h i).up))):=(bC_ (m.nod i b e) 2).trans rfl
theorem Mem.c3 {w:World} {n0 F:Nat} {A:Nat→Option Nat} {h:Nat→Nd} (m:Mem w n0 F A h) {i b:Nat} (e:A i=some b):w.cell? ⟨b,3,none⟩=some (.pointer (pa (A (h i).first))):=(bC_ (m.nod i b e) 3).trans rfl
theorem Mem.c4 {w:World} {n0 F:Nat} {A:Nat→Option Nat} {h:Nat→Nd} (m:Mem w n0 F A h) {i b:Nat} (e:A i=some b):w.cell? ⟨b,4,none⟩=some (.pointer (pa (A (h i).next))):=(bC_ (m.nod i b e) 4).trans rfl
theorem Mem.fz {w:World} {n0 F:Nat} {A:Nat→Option Nat} {h:Nat→Nd} (m:Mem w n0 F A h) {i b:Nat} (e:A i=some b) (j:Nat):w.frozen? ⟨b,j,none⟩=false:=bF_ (m.nod i b e) j
theorem Mem.fzF {w:World} {n0 F:Nat} {A:Nat→Option Nat} {h:Nat→Nd} (m:Mem w n0 F A h) (j:Nat):w.frozen? ⟨F,j,none⟩=false:=bF_ m.tab j
theorem tabC_get (A:Nat→Option Nat) (i:Nat) (hi:i < 37):(tabC A)[i]?=some (.pointer (pa (A i))):=by
 simp [tabC,hi]
theorem Mem.cF {w:World} {n0 F:Nat} {A:Nat→Option Nat} {h:Nat→Nd} (m:Mem w n0 F A h) (i:Nat) (hi:i < 37):w.cell? ⟨F,i,none⟩=some (.pointer (pa (A i))):=(bC_ m.tab i).trans (tabC_get A i hi)
def upN (h:Nat→Nd) (i:Nat) (x:Nd):Nat→Nd:=fun j=>if j=i then x else h j
theorem Mem.set {w:World} {n0 F:Nat} {A:Nat→Option Nat} {h:Nat→Nd} (m:Mem w n0 F A h) {i b:Nat} (e:A i=some b) (k:Nat) (v:Value) (x:Nd) (hx:(nodeC A i (h i)).setIfInBounds k v=nodeC A i x)
  (xu:x.up=0∨A x.up≠none) (xf:x.first=0∨A x.first≠none) (xn:x.next=0∨A x.next≠none):Mem (w.setCell ⟨b,k,none⟩ v) n0 F A (upN h i x) where
 z:=m.z
 rng:=m.rng
 inj:=m.inj
 ne:=m.ne
 lo:=m.lo
 loF:=m.loF
 tab:=blk_far m.tab (fun e2=>m.ne i b e e2.symm) v
 nod:=fun j c ec=>by
  unfold upN
  by_cases hj:j=i
  ·subst hj
   obtain rfl:c=b:=by rw [e] at ec;exact (sj_ ec).symm
   rw [if_pos rfl,←hx]
   exact blk_set (m.nod j c e) k v
  ·rw [if_neg hj]
   exact blk_far (m.nod j c ec) (fun (e2:c=b)=>hj (m.inj j i c ec (e2 ▸ e))) v
 cu:=fun j hj=>by unfold upN;split;exact xu;exact m.cu j hj
 cf:=fun j hj=>by unfold upN;split;exact xf;exact m.cf j hj
 cn:=fun j hj=>by unfold upN;split;exact xn;exact m.cn j hj
theorem Mem.ext {w:World} {n0 F:Nat} {A:Nat→Option Nat} {h h':Nat→Nd} (m:Mem w n0 F A h) (e:∀ j,h j=h' j):Mem w n0 F A h':=(funext e:h=h') ▸ m
def upA (A:Nat→Option Nat) (i b:Nat):Nat→Option Nat:=fun j=>if j=i then some b else A j
theorem tabC_up (A:Nat→Option Nat) (i b:Nat) (hi:i < 37):(tabC A).setIfInBounds i (.pointer (some ⟨b,0,none⟩))=tabC (upA A i b):=by
 unfold tabC
 rw [List.setIfInBounds_toArray]
 congr 1
 apply List.ext_getElem (by simp)
 intro k h1 h2
 simp only [List.getElem_set,List.getElem_map,List.getElem_range,upA]
 by_cases hk:i=k
 ·rw [if_pos hk,if_pos hk.symm];rfl
 ·rw [if_neg hk,if_neg (fun e=>hk e.symm)]
theorem Mem.add {w:World} {n0 F:Nat} {A:Nat→Option Nat} {h:Nat→Nd} (m:Mem w n0 F A h) {i:Nat} (h0:i≠0) (hi:i < 37) (hA:A i=none) (hne:∀ j,A j≠none→(h j).up≠i∧(h j).first≠i∧(h j).next≠i) {b:Nat} {t:ByteArray} (hb:∀ j,A j≠some b) (hbF:b≠F) (hlo:n0≤b)
  (hnew:w.heap[b]?=some (.cells #[.int .i64 (i:Int),.string t,.pointer none,.pointer none,.pointer none] 85 (0,0))) :
  Mem (w.setCell ⟨F,i,none⟩ (.pointer (some ⟨b,0,none⟩))) n0 F (upA A i b) (upN h i ⟨t,0,0,0⟩) where
 z:=by unfold upA;rw [if_neg (fun e=>h0 e.symm)];exact m.z
 rng:=fun j c e=>by
  unfold upA at e
  by_cases hj:j=i
  ·rw [hj];exact hi
  ·rw [if_neg hj] at e;exact m.rng j c e
 inj:=fun j k c ej ek=>by
  unfold upA at ej ek
  by_cases hj:j=i
  ·by_cases hk:k=i
   ·rw [hj,hk]
   ·rw [if_pos hj] at ej;rw [if_neg hk] at ek
    exact absurd (ek.trans ej.symm) (hb k)
  ·by_cases hk:k=i
   ·rw [if_neg hj] at ej;rw [if_pos hk] at ek
    exact absurd (ej.trans ek.symm) (hb j)
   ·rw [if_neg hj] at ej;rw [if_neg hk] at ek
    exact m.inj j k c ej ek
 ne:=fun j c e=>by
  unfold upA at e
  by_cases hj:j=i
  ·rw [if_pos hj] at e;rw [←sj_ e];exact hbF
  ·rw [if_neg hj] at e;exact m.ne j c e
 lo:=fun j c e=>by
  unfold upA at e
  by_cases hj:j=i
  ·rw [if_pos hj] at e;rw [←sj_ e];exact hlo
  ·rw [if_neg hj] at e;exact m.lo j c e
 loF:=m.loF
 tab:=by
  rw [←tabC_up A i b hi]
  exact blk_set m.tab i _
 nod:=fun j c e=>by
  have hF:∀ {c:Nat} {cs:Array Value} {t:TypeId},c≠F→w.heap[c]?=some (.cells cs t (0,0))→(w.setCell ⟨F,i,none⟩ (.pointer (some ⟨b,0,none⟩))).heap[c]?=some (.cells cs t (0,0)):=fun hc hh=>blk_far hh (p:=⟨F,i,none⟩) hc _
  unfold upA at e
  by_cases hj:j=i
  ·rw [if_pos hj] at e
   obtain rfl:=sj_ e
   subst hj
   have:nodeC (upA A j b) j (upN h j ⟨t,0,0,0⟩ j)=#[.int .i64 (j:Int),.string t,.pointer none,.pointer none,.pointer none]:=by
    have h0':¬ (0=j):=fun e=>h0 e.symm
    simp [nodeC,upN,upA,h0',m.z,pa]
   rw [this]
   exact hF hbF hnew
  ·rw [if_neg hj] at e
   have hn:=m.nod j c e
   have e2:nodeC (upA A i b) j (upN h i ⟨t,0,0,0⟩ j)=nodeC A j (h j):=by
    obtain ⟨n1,n2,n3⟩:=hne j (by rw [e];simp)
    unfold nodeC upN upA
    rw [if_neg hj,if_neg n1,if_neg n2,if_neg n3]
   rw [e2]
   exact hF (m.ne j c e) hn
 cu:=fun j hj=>by
  unfold upN
  by_cases hji:j=i
  ·rw [if_pos hji];exact Or.inl rfl
  ·rw [if_neg hji]
   have hj':A j≠none:=by unfold upA at hj;rw [if_neg hji] at hj;exact hj
   rcases m.cu j hj' with h1|h1
   ·exact Or.inl h1
   ·right;unfold upA;split;simp;exact h1
 cf:=fun j hj=>by
  unfold upN
  by_cases hji:j=i
  ·rw [if_pos hji];exact Or.inl rfl
  ·rw [if_neg hji]
   have hj':A j≠none:=by unfold upA at hj;rw [if_neg hji] at hj;exact hj
   rcases m.cf j hj' with h1|h1
   ·exact Or.inl h1
   ·right;unfold upA;split;simp;exact h1
 cn:=fun j hj=>by
  unfold upN
  by_cases hji:j=i
  ·rw [if_pos hji];exact Or.inl rfl
  ·rw [if_neg hji]
   have hj':A j≠none:=by unfold upA at hj;rw [if_neg hji] at hj;exact hj
   rcases m.cn j hj' with h1|h1
   ·exact Or.inl h1
   ·right;unfold upA;split;simp;exact h1
theorem nodeSize:(Tryd.prog.info? 85).map (·.size)=some 5:=by kernel_rfl
theorem equalS (a:Addr) (w:World):(Op.equal 70 (.pointer (some a)) (.pointer (some a))).run Tryd.prog w=.ok true w:=by
 obtain ⟨j,hj,hjs⟩:=Option.map_eq_some_iff.1 nodeSize
 have h:∀ d:Nat,(Op.equalIn (d+1) 70 (.pointer (some a)) (.pointer (some a))).run Tryd.prog w=.ok true w:=fun d=>by
  simp [Op.equalIn,run_underlying Tryd.underlying70,sizeOf,typeInfo,hj,run_sameAddr_same]
 simp [Op.equal,Op.maxDepth,h 9999]
theorem equalO {a b:Addr} {ca cb:Array Value} {ta tb:TypeId} (w:World) (hne:a≠b) (ha:w.heap[a.block]?=some (.cells ca ta (0,0))) (hb:w.heap[b.block]?=some (.cells cb tb (0,0))) :
  (Op.equal 70 (.pointer (some a)) (.pointer (some b))).run Tryd.prog w=.ok false w:=by
 obtain ⟨j,hj,hjs⟩:=Option.map_eq_some_iff.1 nodeSize
 have hsz:j.size≠0:=by rw [hjs];decide
 have h:∀ d:Nat,(Op.equalIn (d+1) 70 (.pointer (some a)) (.pointer (some b))).run Tryd.prog w=.ok false w:=fun d=>by
  simp [Op.equalIn,run_underlying Tryd.underlying70,sizeOf,typeInfo,hj,hsz,run_sameAddr_other w hne ha hb]
 simp [Op.equal,Op.maxDepth,h 9999]
theorem eqS (a:Addr) (w:World):(binOp .eql 70 (.pointer (some a)) (.pointer (some a))).run Tryd.prog w=.ok (.bool true) w:=by
 simp only [binOp];simp [equalS]
theorem neS (a:Addr) (w:World):(binOp .neq 70 (.pointer (some a)) (.pointer (some a))).run Tryd.prog w=.ok (.bool false) w:=by
 simp only [binOp];simp [equalS]
theorem eqO {a b:Addr} {ca cb:Array Value} {ta tb:TypeId} (w:World) (hne:a≠b) (ha:w.heap[a.block]?=some (.cells ca ta (0,0))) (hb:w.heap[b.block]?=some (.cells cb tb (0,0))) :
  (binOp .eql 70 (.pointer (some a)) (.pointer (some b))).run Tryd.prog w=.ok (.bool false) w:=by
 simp only [binOp];simp [equalO w hne ha hb]
theorem neO {a b:Addr} {ca cb:Array Value} {ta tb:TypeId} (w:World) (hne:a≠b) (ha:w.heap[a.block]?=some (.cells ca ta (0,0))) (hb:w.heap[b.block]?=some (.cells cb tb (0,0))) :
  (binOp .neq 70 (.pointer (some a)) (.pointer (some b))).run Tryd.prog w=.ok (.bool true) w:=by
 simp only [binOp];simp [equalO w hne ha hb]
theorem blk_ne {b c:Nat} (h:b≠c):(⟨b,0,none⟩:Addr)≠⟨c,0,none⟩:=fun e=>h (congrArg Addr.block e)
theorem Mem.eqn {w:World} {n0 F:Nat} {A:Nat→Option Nat} {h:Nat→Nd} (m:Mem w n0 F A h) {i j b c:Nat} (hi:A i=some b) (hj:A j=some c) (hne:i≠j):(binOp .eql 70 (.pointer (some ⟨b,0,none⟩)) (.pointer (some ⟨c,0,none⟩))).run Tryd.prog w=.ok (.bool false) w :=
 eqO w (blk_ne fun e=>hne (m.inj i j b hi (e ▸ hj))) (m.nod i b hi) (m.nod j c hj)
theorem Mem.nen {w:World} {n0 F:Nat} {A:Nat→Option Nat} {h:Nat→Nd} (m:Mem w n0 F A h) {i j b c:Nat} (hi:A i=some b) (hj:A j=some c) (hne:i≠j):(binOp .neq 70 (.pointer (some ⟨b,0,none⟩)) (.pointer (some ⟨c,0,none⟩))).run Tryd.prog w=.ok (.bool true) w :=
 neO w (blk_ne fun e=>hne (m.inj i j b hi (e ▸ hj))) (m.nod i b hi) (m.nod j c hj)
def findA (A:Nat→Option Nat) (id:Int):Option Nat:=if 0≤id∧id < 37 then A id.toNat else none
theorem find_any {w:World} {n0 F:Nat} {A:Nat→Option Nat} {h:Nat→Nd} (m:Mem w n0 F A h) (id:Int) :
  Calls Tryd.prog 61 #[.pointer (some ⟨F,0,none⟩),.int .i64 id] w fun e w'=>e=.returned (.pointer (pa (findA A id)))∧w'=w:=by
 unfold findA
 by_cases h0:id < 0
 ·rw [if_neg (by omega)]
  have hd:decide (id < 0)=true:=dt_ h0
  go_enter Tryd.func61,Tryd.ntmps61
  go_wp2
  go_ret
  exact ⟨rfl,rfl⟩
 ·by_cases h1:37≤id
  ·rw [if_neg (by omega)]
   have hd:decide (id < 0)=false:=df_ h0
   have hd1:decide (37≤id)=true:=dt_ h1
   go_enter Tryd.func61,Tryd.ntmps61
   go_wp2
   go_ret
   exact ⟨rfl,rfl⟩
  ·rw [if_pos (by omega)]
   obtain ⟨i,rfl⟩:=Int.eq_ofNat_of_zero_le (show 0≤id by omega)
   have hd:decide ((i:Int) < 0)=false:=df_ h0
   have hd1:decide (37≤(i:Int))=false:=df_ h1
   have hc:=m.cF i (by omega)
   have hi:(i:Int) < 37:=by omega
   have hi0:0≤(i:Int):=by omega
   rw [Int.toNat_natCast]
   go_enter Tryd.func61,Tryd.ntmps61
   go_wp2
   go_ret
   exact ⟨rfl,rfl⟩
theorem nodeC_2 (A:Nat→Option Nat) (i:Nat) (x:Nd) (u:Nat):(nodeC A i x).setIfInBounds 2 (.pointer (pa (A u)))=nodeC A i ⟨x.t,u,x.first,x.next⟩:=rfl
theorem nodeC_3 (A:Nat→Option Nat) (i:Nat) (x:Nd) (u:Nat):(nodeC A i x).setIfInBounds 3 (.pointer (pa (A u)))=nodeC A i ⟨x.t,x.up,u,x.next⟩:=rfl
theorem nodeC_4 (A:Nat→Option Nat) (i:Nat) (x:Nd) (u:Nat):(nodeC A i x).setIfInBounds 4 (.pointer (pa (A u)))=nodeC A i ⟨x.t,x.up,x.first,u⟩:=rfl
theorem nodeC_1 (A:Nat→Option Nat) (i:Nat) (x:Nd) (t:ByteArray):(nodeC A i x).setIfInBounds 1 (.string t)=nodeC A i ⟨t,x.up,x.first,x.next⟩:=rfl
theorem Mem.setU {w:World} {n0 F:Nat} {A:Nat→Option Nat} {h:Nat→Nd} (m:Mem w n0 F A h) {i b:Nat} (e:A i=some b) (u:Nat) (hu:u=0∨A u≠none):Mem (w.setCell ⟨b,2,none⟩ (.pointer (pa (A u)))) n0 F A (upN h i ⟨(h i).t,u,(h i).first,(h i).next⟩) :=
 m.set e 2 _ _ (nodeC_2 A i (h i) u) hu (m.cf i (by rw [e];simp)) (m.cn i (by rw [e];simp))
theorem Mem.setF {w:World} {n0 F:Nat} {A:Nat→Option Nat} {h:Nat→Nd} (m:Mem w n0 F A h) {i b:Nat} (e:A i=some b) (u:Nat) (hu:u=0∨A u≠none):Mem (w.setCell ⟨b,3,none⟩ (.pointer (pa (A u)))) n0 F A (upN h i ⟨(h i).t,(h i).up,u,(h i).next⟩) :=
 m.set e 3 _ _ (nodeC_3 A i (h i) u) (m.cu i (by rw [e];simp)) hu (m.cn i (by rw [e];simp))
theorem Mem.setN {w:World} {n0 F:Nat} {A:Nat→Option Nat} {h:Nat→Nd} (m:Mem w n0 F A h) {i b:Nat} (e:A i=some b) (u:Nat) (hu:u=0∨A u≠none):Mem (w.setCell ⟨b,4,none⟩ (.pointer (pa (A u)))) n0 F A (upN h i ⟨(h i).t,(h i).up,(h i).first,u⟩) :=
 m.set e 4 _ _ (nodeC_4 A i (h i) u) (m.cu i (by rw [e];simp)) (m.cf i (by rw [e];simp)) hu
theorem Mem.setT {w:World} {n0 F:Nat} {A:Nat→Option Nat} {h:Nat→Nd} (m:Mem w n0 F A h) {i b:Nat} (e:A i=some b) (t:ByteArray):Mem (w.setCell ⟨b,1,none⟩ (.string t)) n0 F A (upN h i ⟨t,(h i).up,(h i).first,(h i).next⟩) :=
 m.set e 1 _ _ (nodeC_1 A i (h i) t) (m.cu i (by rw [e];simp)) (m.cf i (by rw [e];simp)) (m.cn i (by rw [e];simp))
theorem attach_first {w:World} {n0 F:Nat} {A:Nat→Option Nat} {h:Nat→Nd} (m:Mem w n0 F A h) {i u bi bu:Nat} (hi:A i=some bi) (hu:A u=some bu) (hne:u≠i) :
  Calls Tryd.prog 96 #[.pointer (some ⟨bi,0,none⟩),.pointer (some ⟨bu,0,none⟩),.pointer none] w fun e w'=>(∃ v,e=.returned v)∧Mem w' n0 F A (attachH h i u 0)∧Below n0 w w'∧(∀ k,(∀ x,A x≠some k)→w'.heap[k]?=w.heap[k]?):=by
 have hnb:bu≠bi:=fun e=>hne (m.inj u i bu hu (e ▸ hi))
 have hnb':bi≠bu:=fun e=>hnb e.symm
 have c3:=m.c3 hu
 have c4:=m.c4 hi
 have c2:=m.c2 hi
 have z2:=m.fz hi 2
 have z4:=m.fz hi 4
 have z3:=m.fz hu 3
 have M3:=a_ (((m.setU hi u (Or.inr (by rw [hu];simp))).setN hi (h u).first (m.cf u (by rw [hu];simp))).setF hu i (Or.inr (by rw [hi];simp)))
 rw [hu,hi,pa_some,pa_some] at M3
 have L1:=m.lo i bi hi
 have L2:=m.lo u bu hu
 have HI:=a_ hi
 have HU:=a_ hu
 clear m hi hu
 go_enter Tryd.func96,Tryd.ntmps96
 go_wp2
 refine bodyPost_ret (results_none rfl _ _ _) rfl ?_
 refine ⟨⟨_,rfl⟩,M3.out.ext (fun j=>?_),(((Below.refl n0 w).setCell (p:=⟨bi,2,none⟩) L1 _).setCell (p:=⟨bi,4,none⟩) L1 _).setCell (p:=⟨bu,3,none⟩) L2 _,fun k hk=>by
  rw [Below.heap_setCell _ _ _ _ (fun e=>hk u (by rw [HU.out,e])),Below.heap_setCell _ _ _ _ (fun e=>hk i (by rw [HI.out,e])),Below.heap_setCell _ _ _ _ (fun e=>hk i (by rw [HI.out,e]))]⟩
 unfold attachH upN
 by_cases e1:j=u
 ·subst e1;simp [hne]
 ·by_cases e2:j=i
  ·subst e2;simp [e1]
  ·simp [e1,e2]
theorem attach_behind {w:World} {n0 F:Nat} {A:Nat→Option Nat} {h:Nat→Nd} (m:Mem w n0 F A h) {i u a bi bu ba:Nat} (hi:A i=some bi) (hu:A u=some bu) (ha:A a=some ba) (hne:a≠i) :
  Calls Tryd.prog 96 #[.pointer (some ⟨bi,0,none⟩),.pointer (some ⟨bu,0,none⟩),.pointer (some ⟨ba,0,none⟩)] w fun e w'=>(∃ v,e=.returned v)∧Mem w' n0 F A (attachH h i u a)∧Below n0 w w'∧(∀ k,(∀ x,A x≠some k)→w'.heap[k]?=w.heap[k]?):=by
 have hnb:ba≠bi:=fun e=>hne (m.inj a i ba ha (e ▸ hi))
 have hnb':bi≠ba:=fun e=>hnb e.symm
 have ha0:a≠0:=fun e=>by rw [e,m.z] at ha;cases ha
 have c4:=m.c4 hi
 have c2:=m.c2 hi
 have d4:=m.c4 ha
 have z2:=m.fz hi 2
 have z4:=m.fz hi 4
 have z3:=m.fz ha 4
 have M3:=a_ (((m.setU hi u (Or.inr (by rw [hu];simp))).setN hi (h a).next (m.cn a (by rw [ha];simp))).setN ha i (Or.inr (by rw [hi];simp)))
 rw [hu,hi,pa_some,pa_some] at M3
 have L1:=m.lo i bi hi
 have L2:=m.lo a ba ha
 have HI:=a_ hi
 have HA:=a_ ha
 clear m hi hu ha
 go_enter Tryd.func96,Tryd.ntmps96
 go_wp2
 go_end0
 refine ⟨⟨_,rfl⟩,M3.out.ext (fun j=>?_),(((Below.refl n0 w).setCell (p:=⟨bi,2,none⟩) L1 _).setCell (p:=⟨bi,4,none⟩) L1 _).setCell (p:=⟨ba,4,none⟩) L2 _,fun k hk=>by
  rw [Below.heap_setCell _ _ _ _ (fun e=>hk a (by rw [HA.out,e])),Below.heap_setCell _ _ _ _ (fun e=>hk i (by rw [HI.out,e])),Below.heap_setCell _ _ _ _ (fun e=>hk i (by rw [HI.out,e]))]⟩
 unfold attachH upN
 rw [if_neg ha0]
 by_cases e1:j=a
 ·subst e1;simp [hne]
 ·by_cases e2:j=i
  ·subst e2;simp [e1]
  ·simp [e1,e2]
def withinF (h:Nat→Nd) (u:Nat):Nat→Nat→Option Bool
 | 0,_=>none
 | k+1,x=>if x=0 then some false else if x=u then some true else withinF h u k (h x).up
theorem within_any {w:World} {n0 F:Nat} {A:Nat→Option Nat} {h:Nat→Nd} (m:Mem w n0 F A h) (x u:Nat) (hx:x=0∨A x≠none) {c:Nat} (hu:A u=some c) (k:Nat) (r:Bool) (hr:withinF h u k x=some r) :
  Calls Tryd.prog 62 #[.pointer (pa (A x)),.pointer (some ⟨c,0,none⟩)] w fun e w'=>e=.returned (.bool r)∧w'=w:=by
 have HX:=a_ hx
 have HR:=a_ hr
 have M:=a_ m
 have HU:=a_ hu
 clear hx hr m hu
 go_enter Tryd.func62,Tryd.ntmps62
 go_wp2
 go_loopg [0] k (fun kq v w'=>∃ y:Nat,v=.pointer (pa (A y))∧Aside0 (y=0∨A y≠none)∧Aside0 (withinF h u kq y=some r)∧w'=w)
 case atStart=>exact ⟨x,rfl,HX,HR,rfl⟩
 case round =>
  obtain ⟨y,rfl,HY,HQ,rfl⟩:=hrel
  clear HX HR
  cases gk with
  | zero=>exact absurd HQ.out (by simp [withinF])
  | succ k1 =>
   have hq:=HQ.out
   clear HQ
   unfold withinF at hq
   by_cases hy0:y=0
   ·rw [if_pos hy0] at hq
    obtain rfl:=sj_ hq
    subst hy0
    have hz:=M.out.z
    rw [hz,pa_none]
    clear hq hz HY
    go_wp2
    go_ret
    exact ⟨rfl,rfl⟩
   ·rw [if_neg hy0] at hq
    obtain ⟨b,hb⟩:=Option.ne_none_iff_exists'.1 (HY.out.resolve_left hy0)
    have HB:=a_ hb
    have HC:=HU
    clear hb
    by_cases hyu:y=u
    ·rw [if_pos hyu] at hq
     obtain rfl:=sj_ hq
     subst hyu
     obtain rfl:b=c:=sj_ (HB.out.symm.trans HC.out)
     rw [HB.out,pa_some]
     have hE:=eqS ⟨b,0,none⟩ wr
     clear hq
     go_wp2
     go_ret
     exact ⟨rfl,rfl⟩
    ·rw [if_neg hyu] at hq
     have hbc:b≠c:=fun e=>hyu (M.out.inj y u b HB.out (e ▸ HC.out))
     have c2:=M.out.c2 HB.out
     have HQ:=a_ hq
     have HUP:=a_ (M.out.cu y (by rw [HB.out];simp))
     have hE:=M.out.eqn HB.out HC.out hyu
     rw [HB.out,pa_some]
     clear hq
     go_wp2
     go_roundg k1
     case measure=>exact Nat.lt_succ_self _
     case rel=>exact ⟨(h y).up,rfl,HUP,HQ,rfl⟩
end Go.Proofs.YtlkheeegkifblaaDoor.P
