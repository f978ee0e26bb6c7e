/- Joined by a program (wip/shake.py): the declarations that 'YtlkheeegkifblaaDoorCardFnKeyIn' reaches. -/
import Derived.Test.YtlkheeegkifblaaDoorZFq1
set_option linter.unusedVariables false
set_option linter.unusedSimpArgs false
set_option linter.unusedSectionVars false
set_option maxHeartbeats 8000000
set_option maxRecDepth 100000
namespace Go.Proofs.YtlkheeegkifblaaDoor.P
open Go.RowKit Go.Proofs.YtlkheeegkifblaaDoorW.PrintWords Go.Proofs.YtlkheeegkifblaaDoorW.PrintLast
theorem spec_l71Text.calls (k:Nat) (g:Nat) (s0_0:List Int) (s0_1:Int) (r1:ByteArray) (r2:Int) (w0 w:World) (hI:IsS102 w0 w g s0_0 s0_1) (hB:Below w0.heap.size w0 w) (h:spec_l71Text.f k s0_0 s0_1=some (r1,r2)) :
  Calls Tryd.prog 112 #[.pointer (some ⟨g,0,none⟩)] w fun e w'=>e=.returned (.string r1)∧IsS102 w0 w' g s0_0 r2∧Below w0.heap.size w0 w'∧KeepBut w w' g none:=by
 have HI0:=a_ hI
 have HK:=a_ (KeepBut.refl w g none)
 have HL:=a_ hB.size
 clear hI
 have HW0:=a_ hB.size
 have HB:=a_ hB
 clear hB
 unfold spec_l71Text.f at h
 have H:=h
 clear h
 replace H:=bs_ H
 obtain ⟨⟨t225,t226⟩,A20,H⟩:=H
 try dsimp only at H
 have A2:=a_ A20
 clear A20
 have H':=a_ H
 clear H
 go_enter Tryd.func112,Tryd.ntmps112
 go_wp2_with (first|((with_reducible refine gC_ (f:=73) rfl ?_);refine gl_ 6 Tryd.func73 #[.pointer (some ⟨g,0,none⟩),.int .i64 4] ?_;(with_reducible refine (spec_l6Rd_pick.calls k g s0_0 s0_1 4 t225 t226 w0 _ ?side1 ?side2 A2.out).mono ?_);(case side1=>exact is_HI0);(case side2=>exact bel_);rintro e w3 ⟨rfl,hi,hb,hk⟩;refine ⟨_,rfl,?_⟩;replace HK:=a_ (KeepBut.trans (ke_) hk (.inl rfl));replace HB:=a_ (hb);replace HI0:=a_ (hi);(try clear hb hk hi)))
 go_loopg [3,4] k (fun kq v3 v4 w'=>∃ (x3_1:ByteArray) (x4_1:Int) (x1001_1:Int),v3=.string x3_1∧v4=.int .i64 x4_1∧Aside0 (spec_l71Text.l0 kq x3_1 x4_1 s0_0 x1001_1=some (r1,r2))∧Aside0 (kq≤k)∧Aside0 (IsS102 w0 w' g s0_0 x1001_1)∧Aside0 (KeepBut w w' g none)∧Aside0 (Below w0.heap.size w0 w'))
 case atStart=>exact ⟨((⟨#[]⟩:ByteArray)),(t225),(t226),(si_),(si_),H',⟨Nat.le_refl _⟩,⟨is_HI0⟩,⟨ke_⟩,⟨bel_⟩⟩
 case round =>
  clear H'
  try clear c1
  try clear p2
  obtain ⟨x3_1,x4_1,x1001_1,rfl,rfl,HA,HK1,HI0,HK,HB⟩:=hrel
  cases gk with
  | zero=>exact absurd HA.out (by simp [spec_l71Text.l0])
  | succ k1 =>
   have H:=HA.out
   clear HA
   simp only [spec_l71Text.l0] at H
   by_cases c4:x4_1 > 0
   ·rw [if_pos c4] at H
    have c4b0:decide (0 < x4_1)=true:=dt_ c4
    clear c4
    obtain ⟨y227,hy227⟩:∃ y_:List ByteArray,y_=(([(⟨#[97]⟩:ByteArray),(⟨#[98]⟩:ByteArray),(⟨#[99]⟩:ByteArray),(⟨#[100]⟩:ByteArray)]:List ByteArray)):=⟨_,rfl⟩
    replace H:((spec_l6Rd_of.f k1 s0_0 x1001_1 y227).bind fun bt230=>(if x3_1.size+bt230.1.size≤9223372036854775807 then (spec_l71Text.l0 k1 (x3_1++bt230.1) (wrap64 (x4_1 - 1)) s0_0 bt230.2) else (none)))=some (r1,r2):=by first|(rw [hy227];with_reducible exact H)|(have H2_:=(Option.bind_some _ _).symm.trans H;rw [hy227];with_reducible exact H2_)|(have H2_:=(Option.bind_some _ _).symm.trans H;with_reducible exact H2_)|with_reducible exact H|(rw [hy227];exact H)|exact H
    have Ny227:=a_ hy227
    clear hy227
    replace H:=bs_ H
    obtain ⟨⟨t230,t231⟩,A50,H⟩:=H
    try dsimp only at H
    have A5:=a_ A50
    clear A50
    by_cases c6:x3_1.size+t230.size≤9223372036854775807
    ·rw [if_pos c6] at H
     have c6b0:=eq_true c6
     have c6b1:decide (x3_1.size+t230.size≤9223372036854775807)=true:=dt_ c6
     try have c6b2:(9223372036854775807 < x3_1.size+t230.size)=False:=eq_false (Nat.not_lt.2 c6)
     have H':=a_ H
     clear H
     go_wp2_with (first|((with_reducible refine gD_ (N:=13) rfl ?_);refine Kd.R_lit Kd.string _ 9 ?hg (N:=13) ?hd (xs:=([(⟨#[97]⟩:ByteArray),(⟨#[98]⟩:ByteArray),(⟨#[99]⟩:ByteArray),(⟨#[100]⟩:ByteArray)]:List ByteArray)) (inner:=[.string (⟨#[97]⟩:ByteArray),.string (⟨#[98]⟩:ByteArray),.string (⟨#[99]⟩:ByteArray),.string (⟨#[100]⟩:ByteArray)]) (ok:=fun _=>True) (okp:=fun _=>True) ?hr ?hp (fun _ hk=>hk) trivial (Below.refl _ _) (Nat.le_refl _) (by simp) ?_;(case hd=>rfl);(case hg=>rfl);(case hr=>first|(go_simp;done)|(go_simp;rfl));(case hp=>exact (Reps.one (show Kd.M Kd.string _ _ _ (⟨#[97]⟩:ByteArray) [.string (⟨#[97]⟩:ByteArray)] from rfl) (Reps.one (show Kd.M Kd.string _ _ _ (⟨#[98]⟩:ByteArray) [.string (⟨#[98]⟩:ByteArray)] from rfl) (Reps.one (show Kd.M Kd.string _ _ _ (⟨#[99]⟩:ByteArray) [.string (⟨#[99]⟩:ByteArray)] from rfl) (Reps.one (show Kd.M Kd.string _ _ _ (⟨#[100]⟩:ByteArray) [.string (⟨#[100]⟩:ByteArray)] from rfl) (Reps.none _ _))))));intro v228 w7 ho8 hb hg_ hnew_;clear hg_ hnew_;(first|rw [←Ny227.out] at ho8|(simp only [Int.reduceToNat] at ho8;rw [←Ny227.out] at ho8));have HO229:=a_ (Kd.R_lower ho8 (keep_size (w:=w) (g:=g) (row:=none) (ke_)));replace HK:=a_ (KeepBut.trans (ke_) (KeepBut.of_below hb g none) (.inl rfl));replace HB:=a_ (bS_ (bel_) hb);replace HI0:=a_ (IsS102.below (is_HI0) hb);clear hb ho8;obtain ⟨Ao9,co9,eo9⟩:=Kd.R_slice HO229.out;subst eo9)|((with_reducible refine gC_ (f:=119) rfl ?_);refine gl_ 14 Tryd.func119 #[.pointer (some ⟨g,0,none⟩),.slice Ao9 y227.length co9] ?_;(with_reducible refine (spec_l6Rd_of.calls k1 g s0_0 x1001_1 _ _ y227 t230 t231 w0 _ ?side1 ?side2 ?side3 ?side4 ?side5 A5.out).mono ?_);(case side1=>exact is_HI0);(case side2=>exact bel_);(case side3=>exact cx_ (Kd.R_reads' HO229.out).2.2);(case side4=>exact (Kd.R_reads' HO229.out).2.1);(case side5=>exact far_slice (IsS102.own_ne HI0.out HO229.out (by decide)));rintro e w10 ⟨rfl,hi,hb,hk⟩;refine ⟨_,rfl,?_⟩;replace HO229:=a_ (Kd.R_mono (Kd.R_keep (IsS102.apart (show IsS102 w0 _ g s0_0 x1001_1 from is_HI0) (rp_ HO229.out) (by decide)) hk (fun _ h=>h.2)) (fun _ h=>h.1));replace HK:=a_ (KeepBut.trans (ke_) hk (.inl rfl));replace HB:=a_ (hb);replace HI0:=a_ (hi);(try clear hb hk hi)))
     go_roundg k1
     case measure=>have:=HK1.out;omega
     case rel=>exact ⟨(x3_1++t230),(wrap64 (x4_1 - 1)),(t231),(si_),(si_),H',⟨by have:=HK1.out;omega⟩,⟨is_HI0⟩,⟨ke_⟩,⟨bel_⟩⟩
    ·rw [if_neg c6] at H
     exact absurd H (by simp)
   ·rw [if_neg c4] at H
    have c4b0:decide (0 < x4_1)=false:=df_ c4
    clear c4
    replace H:=bs_ H
    obtain ⟨⟨t232,t233⟩,A110,H⟩:=H
    try dsimp only at H
    have A11:=a_ A110
    clear A110
    by_cases c12:t232=0
    ·rw [if_pos c12] at H
     have c12b0:(t232==0)=true:=beq_iff_eq.mpr c12
     have c12b1:(t232 != 0)=false:=be_ c12
     clear c12
     obtain ⟨y234,hy234⟩:∃ y_:List ByteArray,y_=(([(⟨#[101]⟩:ByteArray),(⟨#[32]⟩:ByteArray),(⟨#[97,97,97,97]⟩:ByteArray),(⟨#[39]⟩:ByteArray)]:List ByteArray)):=⟨_,rfl⟩
     replace H:((spec_l6Rd_of.f k1 s0_0 t233 y234).bind fun bt237=>(if x3_1.size+bt237.1.size≤9223372036854775807 then (some (x3_1++bt237.1,bt237.2)) else (none)))=some (r1,r2):=by first|(rw [hy234];with_reducible exact H)|(have H2_:=(Option.bind_some _ _).symm.trans H;rw [hy234];with_reducible exact H2_)|(have H2_:=(Option.bind_some _ _).symm.trans H;with_reducible exact H2_)|with_reducible exact H|(rw [hy234];exact H)|exact H
     have Ny234:=a_ hy234
     clear hy234
     replace H:=bs_ H
     obtain ⟨⟨t237,t238⟩,A130,H⟩:=H
     try dsimp only at H
     have A13:=a_ A130
     clear A130
     by_cases c14:x3_1.size+t237.size≤9223372036854775807
     ·rw [if_pos c14] at H
      have c14b0:=eq_true c14
      have c14b1:decide (x3_1.size+t237.size≤9223372036854775807)=true:=dt_ c14
      try have c14b2:(9223372036854775807 < x3_1.size+t237.size)=False:=eq_false (Nat.not_lt.2 c14)
      simp only [Option.some.injEq,Prod.mk.injEq] at H
      obtain ⟨rfl,rfl⟩:=H
      go_wp2_with (first|((with_reducible refine gC_ (f:=73) rfl ?_);refine gl_ 17 Tryd.func73 #[.pointer (some ⟨g,0,none⟩),.int .i64 40] ?_;(with_reducible refine (spec_l6Rd_pick.calls k1 g s0_0 x1001_1 40 t232 t233 w0 _ ?side1 ?side2 A11.out).mono ?_);(case side1=>exact is_HI0);(case side2=>exact bel_);rintro e w15 ⟨rfl,hi,hb,hk⟩;refine ⟨_,rfl,?_⟩;replace HK:=a_ (KeepBut.trans (ke_) hk (.inl rfl));replace HB:=a_ (hb);replace HI0:=a_ (hi);(try clear hb hk hi))|((with_reducible refine gD_ (N:=21) rfl ?_);refine Kd.R_lit Kd.string _ 9 ?hg (N:=21) ?hd (xs:=([(⟨#[101]⟩:ByteArray),(⟨#[32]⟩:ByteArray),(⟨#[97,97,97,97]⟩:ByteArray),(⟨#[39]⟩:ByteArray)]:List ByteArray)) (inner:=[.string (⟨#[101]⟩:ByteArray),.string (⟨#[32]⟩:ByteArray),.string (⟨#[97,97,97,97]⟩:ByteArray),.string (⟨#[39]⟩:ByteArray)]) (ok:=fun _=>True) (okp:=fun _=>True) ?hr ?hp (fun _ hk=>hk) trivial (Below.refl _ _) (Nat.le_refl _) (by simp) ?_;(case hd=>rfl);(case hg=>rfl);(case hr=>first|(go_simp;done)|(go_simp;rfl));(case hp=>exact (Reps.one (show Kd.M Kd.string _ _ _ (⟨#[101]⟩:ByteArray) [.string (⟨#[101]⟩:ByteArray)] from rfl) (Reps.one (show Kd.M Kd.string _ _ _ (⟨#[32]⟩:ByteArray) [.string (⟨#[32]⟩:ByteArray)] from rfl) (Reps.one (show Kd.M Kd.string _ _ _ (⟨#[97,97,97,97]⟩:ByteArray) [.string (⟨#[97,97,97,97]⟩:ByteArray)] from rfl) (Reps.one (show Kd.M Kd.string _ _ _ (⟨#[39]⟩:ByteArray) [.string (⟨#[39]⟩:ByteArray)] from rfl) (Reps.none _ _))))));intro v235 w16 ho17 hb hg_ hnew_;clear hg_ hnew_;(first|rw [←Ny234.out] at ho17|(simp only [Int.reduceToNat] at ho17;rw [←Ny234.out] at ho17));have HO236:=a_ (Kd.R_lower ho17 (keep_size (w:=w) (g:=g) (row:=none) (ke_)));replace HK:=a_ (KeepBut.trans (ke_) (KeepBut.of_below hb g none) (.inl rfl));replace HB:=a_ (bS_ (bel_) hb);replace HI0:=a_ (IsS102.below (is_HI0) hb);clear hb ho17;obtain ⟨Ao18,co18,eo18⟩:=Kd.R_slice HO236.out;subst eo18)|((with_reducible refine gC_ (f:=119) rfl ?_);refine gl_ 22 Tryd.func119 #[.pointer (some ⟨g,0,none⟩),.slice Ao18 y234.length co18] ?_;(with_reducible refine (spec_l6Rd_of.calls k1 g s0_0 t233 _ _ y234 t237 t238 w0 _ ?side1 ?side2 ?side3 ?side4 ?side5 A13.out).mono ?_);(case side1=>exact is_HI0);(case side2=>exact bel_);(case side3=>exact cx_ (Kd.R_reads' HO236.out).2.2);(case side4=>exact (Kd.R_reads' HO236.out).2.1);(case side5=>exact far_slice (IsS102.own_ne HI0.out HO236.out (by decide)));rintro e w19 ⟨rfl,hi,hb,hk⟩;refine ⟨_,rfl,?_⟩;replace HO236:=a_ (Kd.R_mono (Kd.R_keep (IsS102.apart (show IsS102 w0 _ g s0_0 t233 from is_HI0) (rp_ HO236.out) (by decide)) hk (fun _ h=>h.2)) (fun _ h=>h.1));replace HK:=a_ (KeepBut.trans (ke_) hk (.inl rfl));replace HB:=a_ (hb);replace HI0:=a_ (hi);(try clear hb hk hi)))
      go_ret
      exact ⟨fi_,is_HI0,bel_,ke_⟩
     ·rw [if_neg c14] at H
      exact absurd H (by simp)
    ·rw [if_neg c12] at H
     have c12b0:(t232==0)=false:=bn_ c12
     have c12b1:(t232 != 0)=true:=bne_iff_ne.mpr c12
     simp only [Option.some.injEq,Prod.mk.injEq] at H
     obtain ⟨rfl,rfl⟩:=H
     go_wp2_with (first|((with_reducible refine gC_ (f:=73) rfl ?_);refine gl_ 17 Tryd.func73 #[.pointer (some ⟨g,0,none⟩),.int .i64 40] ?_;(with_reducible refine (spec_l6Rd_pick.calls k1 g s0_0 x1001_1 40 t232 t233 w0 _ ?side1 ?side2 A11.out).mono ?_);(case side1=>exact is_HI0);(case side2=>exact bel_);rintro e w20 ⟨rfl,hi,hb,hk⟩;refine ⟨_,rfl,?_⟩;replace HK:=a_ (KeepBut.trans (ke_) hk (.inl rfl));replace HB:=a_ (hb);replace HI0:=a_ (hi);(try clear hb hk hi)))
     go_ret
     exact ⟨fi_,is_HI0,bel_,ke_⟩

mutual
def spec_l3Where.j0:Nat→List (S37)→Bool→Int→Int→Int→Int→ByteArray→Option (Int×Int×Bool)
 | 0,_,_,_,_,_,_,_=>none
 | k+1,x0,x37,x125000,x125001,x125002,x125003,x125004=>if x37=true then (some (0,0,false)) else ((spec_l2At.f k x0 x125002).bind fun t127=>(if t127 < 0 then (some (3,0,true)) else ((spec_l2Kids.f k x0 x125002).bind fun t128=>(spec_l3Where.l0 k x125002 0 t128 0 x125000 x125001 x125002 x125003 x125004))))
def spec_l3Where.l0:Nat→Int→Int→List Int→Int→Int→Int→Int→Int→ByteArray→Option (Int×Int×Bool)
 | 0,_,_,_,_,_,_,_,_,_=>none
 | k+1,x8,x9,x10,x11,x125000,x125001,x125002,x125003,x125004=>if x11 < (x10.length:Int) then (if 0≤x11 then (if (rd x10 x11)=x125003 then (if x125003=x125001 then (spec_l3Where.l0 k x8 x9 x10 (wrap64 (x11+1)) x125000 x125001 x125002 x125003 x125004) else (spec_l3Where.l0 k x8 x125003 x10 (wrap64 (x11+1)) x125000 x125001 x125002 x125003 x125004)) else (spec_l3Where.l0 k x8 x9 x10 (wrap64 (x11+1)) x125000 x125001 x125002 x125003 x125004)) else (none)) else (some (x8,x9,true))
end
def spec_l3Where.f (k:Nat) (l0:List (S37)) (a1_0:Int) (a1_1:Int) (a1_2:Int) (a1_3:Int) (a1_4:ByteArray):Option (Int×Int×Bool):=(spec_l2At.f k l0 a1_1).bind fun t125=>(if a1_0=2 then (spec_l3Where.j0 k l0 true a1_0 a1_1 a1_2 a1_3 a1_4) else (if ((decide (t125≥0)) != (a1_0==3))=true then (spec_l3Where.j0 k l0 true a1_0 a1_1 a1_2 a1_3 a1_4) else (if t125≥0 then ((spec_l2Under.f k l0 a1_2 a1_1).bind fun t126=>(spec_l3Where.j0 k l0 t126 a1_0 a1_1 a1_2 a1_3 a1_4)) else (spec_l3Where.j0 k l0 false a1_0 a1_1 a1_2 a1_3 a1_4))))
theorem spec_l3Where.mono_l:∀ k,(∀ y0 y1 y2 y3 y4 y5 y6,LeO (spec_l3Where.j0 k y0 y1 y2 y3 y4 y5 y6) (spec_l3Where.j0 (k+1) y0 y1 y2 y3 y4 y5 y6))∧(∀ y0 y1 y2 y3 y4 y5 y6 y7 y8,LeO (spec_l3Where.l0 k y0 y1 y2 y3 y4 y5 y6 y7 y8) (spec_l3Where.l0 (k+1) y0 y1 y2 y3 y4 y5 y6 y7 y8))
 | 0=>⟨fun _ _ _ _ _ _ _ r h=>by simp [spec_l3Where.j0] at h,fun _ _ _ _ _ _ _ _ _ r h=>by simp [spec_l3Where.l0] at h⟩
 | k+1=>by
  obtain ⟨ih0,ih1⟩:=spec_l3Where.mono_l k
  refine ⟨?_,?_⟩
  all_goals intros
  all_goals first|unfold spec_l3Where.j0|unfold spec_l3Where.l0
  all_goals repeat' first
  | (with_reducible exact ih0 _ _ _ _ _ _ _)
  | (with_reducible exact ih1 _ _ _ _ _ _ _ _ _)
  | (with_reducible exact spec_l2At.mono _ _ _)
  | (with_reducible exact spec_l2Kids.mono _ _ _)
  | (with_reducible exact spec_l2Under.mono _ _ _ _)
  | (with_reducible exact LeO.refl _)
  | (with_reducible exact LeO.none _)
  | (with_reducible refine LeO.ite ?_ ?_)
  | (with_reducible refine LeO.bind ?_ (fun _=>?_))
theorem spec_l3Where.mono:∀ a0 a1 a2 a3 a4 a5 k,LeO (spec_l3Where.f k a0 a1 a2 a3 a4 a5) (spec_l3Where.f (k+1) a0 a1 a2 a3 a4 a5):=by
 intro a0 a1 a2 a3 a4 a5 k
 obtain ⟨ih0,ih1⟩:=spec_l3Where.mono_l k
 unfold spec_l3Where.f
 repeat' first
   | (with_reducible exact ih0 _ _ _ _ _ _ _)
   | (with_reducible exact ih1 _ _ _ _ _ _ _ _ _)
   | (with_reducible exact spec_l2At.mono _ _ _)
   | (with_reducible exact spec_l2Kids.mono _ _ _)
   | (with_reducible exact spec_l2Under.mono _ _ _ _)
   | (with_reducible exact LeO.refl _)
   | (with_reducible exact LeO.none _)
   | (with_reducible refine LeO.ite ?_ ?_)
   | (with_reducible refine LeO.bind ?_ (fun _=>?_))
theorem spec_l3Where.calls (k:Nat) (A0:Option Addr) (c0:Nat) (l0:List (S37)) (a1_0:Int) (a1_1:Int) (a1_2:Int) (a1_3:Int) (a1_4:ByteArray) (r1:Int) (r2:Int) (r3:Bool) (w:World) (hr0:Kd.C k37 w A0 l0.length l0) (hc0:l0.length≤c0) (h:spec_l3Where.f k l0 a1_0 a1_1 a1_2 a1_3 a1_4=some (r1,r2,r3)) :
  Calls Tryd.prog 79 #[.slice A0 l0.length c0,.agg #[.int .i64 a1_0,.int .i64 a1_1,.int .i64 a1_2,.int .i64 a1_3,.string a1_4]] w fun e w'=>e=.returned (.tuple #[.int .i64 r1,.int .i64 r2,.bool r3])∧Below w.heap.size w w':=by
 have hu27:=Tryd.underlying27
 have HR0:=a_ hr0
 have HC0:=a_ hc0
 clear hr0 hc0
 have HB:=a_ (Below.refl w.heap.size w)
 unfold spec_l3Where.f at h
 have H:=h
 clear h
 replace H:=bs_ H
 obtain ⟨t125,A30,H⟩:=H
 try dsimp only at H
 have A3:=a_ A30
 clear A30
 have HC4:=a_ H
 clear H
 go_enter Tryd.func79,Tryd.ntmps79
 go_upto_region 2 with (first|((with_reducible refine gD_ (N:=3) rfl ?_);refine bx_ 3 (#[.int .i64 a1_0,.int .i64 a1_1,.int .i64 a1_2,.int .i64 a1_3,.string a1_4]) 27 ?_;intro gb124 hg w5 hbox hb;have n0_:=a_ (bS_ (bel_) hb);have n1_:=a_ (hbox);have n2_:=a_ ((by rw [hg];exact (below_size (bel_)):w.heap.size≤gb124));have n3_:=a_ ((by rw [hg];exact (below_size (bel_)):w.heap.size≤gb124));clear HB;have HB:=n0_;have BK124:=n1_;have GW124:=n2_;have GE124:=n3_;clear n0_ n1_ n2_ n3_;clear hb hbox hg;obtain ⟨Z6_0,Z6_1,Z6_2,Z6_3,Z6_4,Y6_0,Y6_1,Y6_2,Y6_3,Y6_4⟩:=op5_ BK124.out)|(go_at_call 54;(with_reducible refine (spec_l2At.calls k _ _ l0 a1_1 t125 _ ?side1 ?side2 A3.out).mono ?_);(case side1=>exact cp_ HR0.out);(case side2=>exact HC0.out);rintro e w' ⟨rfl,⟨nd,rfl⟩⟩;(try first|exact ⟨rfl,_,World.drewN_drewN _ _ _⟩|exact ⟨rfl,_,Eq.trans (World.drewN_drewN _ _ _) (congrArg (World.drewN _) (Nat.add_assoc _ _ _))⟩)))
 (try simp only [Act.put,List.setIfInBounds_toArray,List.set_cons_zero,List.set_cons_succ])
 go_cut [37] from 7 to 16 (fun v37 wc=>∃ (kq:Nat) (x37_3:Bool),v37=.bool x37_3∧Aside0 (spec_l3Where.j0 kq l0 x37_3 a1_0 a1_1 a1_2 a1_3 a1_4=some (r1,r2,r3))∧Aside0 (kq≤k)∧Aside0 (wc.heap[gb124]?=some (.cells #[.int .i64 a1_0,.int .i64 a1_1,.int .i64 a1_2,.int .i64 a1_3,.string a1_4] 27 (0,0)))∧Aside0 (Below w.heap.size w wc))
 case first =>
  have H:=HC4.out
  clear HC4
  by_cases c7:a1_0=2
  ·rw [if_pos c7] at H
   have c7b0:(a1_0==2)=true:=beq_iff_eq.mpr c7
   have c7b1:(a1_0 != 2)=false:=be_ c7
   clear c7
   (first|rw [c7b0]|(simp only [i64_w,i32_w];rw [c7b0])|skip)
   have H':=a_ H
   clear H
   obtain ⟨Z8_0,Z8_1,Z8_2,Z8_3,Z8_4,Y8_0,Y8_1,Y8_2,Y8_3,Y8_4⟩:=op5_ BK124.out
   go_wp2
   repeat (go_quiet (fail);try go_wp2)
   go_meet
   case rel=>exact ⟨_,(true),(si_),H',⟨by first|omega|exact Nat.le_refl _⟩,⟨by (with_reducible repeat (first|refine bN_ ?_ _|refine bD_ ?_|refine bA_ ?_ _));exact BK124.out⟩,⟨bel_⟩⟩
  ·rw [if_neg c7] at H
   have c7b0:(a1_0==2)=false:=bn_ c7
   have c7b1:(a1_0 != 2)=true:=bne_iff_ne.mpr c7
   (first|rw [c7b0]|(simp only [i64_w,i32_w];rw [c7b0])|skip)
   by_cases c9:((decide (t125≥0)) != (a1_0==3))=true
   ·rw [if_pos c9] at H
    have c9b0:((decide (t125≥0)) != (a1_0==3))=true:=c9
    (try (have c9b1:decide ((decide (t125≥0))=(a1_0==3))=false:=by simpa using c9))
    (try (have c9b2:((decide (t125≥0))==(a1_0==3))=false:=by simpa using c9))
    (try (have c9b3:¬ ((decide (t125≥0))=(a1_0==3)):=by simpa using c9))
    clear c9
    have H':=a_ H
    clear H
    obtain ⟨Z10_0,Z10_1,Z10_2,Z10_3,Z10_4,Y10_0,Y10_1,Y10_2,Y10_3,Y10_4⟩:=op5_ BK124.out
    go_wp2
    repeat (go_quiet (fail);try go_wp2)
    go_meet
    case rel=>exact ⟨_,(true),(si_),H',⟨by first|omega|exact Nat.le_refl _⟩,⟨by (with_reducible repeat (first|refine bN_ ?_ _|refine bD_ ?_|refine bA_ ?_ _));exact BK124.out⟩,⟨bel_⟩⟩
   ·rw [if_neg c9] at H
    have c9b0:((decide (t125≥0)) != (a1_0==3))=false:=by simpa using c9
    (try (have c9b1:decide ((decide (t125≥0))=(a1_0==3))=true:=by simpa using c9))
    (try (have c9b2:((decide (t125≥0))==(a1_0==3))=true:=by simpa using c9))
    clear c9
    by_cases c11:t125≥0
    ·rw [if_pos c11] at H
     have k3_:(a1_0==3)=true:=by
      have h_:=c9b0
      rw [show decide (t125≥0)=true from dt_ c11] at h_
      generalize (a1_0==3)=z at h_
      cases z
      all_goals first|rfl|cases h_
     clear c9b0
     (try clear c9b1)
     (try clear c9b2)
     have c11b0:decide (0≤t125)=true:=dt_ c11
     clear c11
     replace H:=bs_ H
     obtain ⟨t126,A120,H⟩:=H
     try dsimp only at H
     have A12:=a_ A120
     clear A120
     have H':=a_ H
     clear H
     obtain ⟨Z13_0,Z13_1,Z13_2,Z13_3,Z13_4,Y13_0,Y13_1,Y13_2,Y13_3,Y13_4⟩:=op5_ BK124.out
     go_wp2_with (first|(go_at_call 55;(with_reducible refine (spec_l2Under.calls k _ _ l0 a1_2 a1_1 t126 _ ?side1 ?side2 A12.out).mono ?_);(case side1=>exact cp_ HR0.out);(case side2=>exact HC0.out);rintro e w' ⟨rfl,⟨nd,rfl⟩⟩;(try first|exact ⟨rfl,_,World.drewN_drewN _ _ _⟩|exact ⟨rfl,_,Eq.trans (World.drewN_drewN _ _ _) (congrArg (World.drewN _) (Nat.add_assoc _ _ _))⟩)))
     go_meet
     case rel=>exact ⟨_,(t126),(si_),H',⟨by first|omega|exact Nat.le_refl _⟩,⟨by (with_reducible repeat (first|refine bN_ ?_ _|refine bD_ ?_|refine bA_ ?_ _));exact BK124.out⟩,⟨bel_⟩⟩
    ·rw [if_neg c11] at H
     have k3_:(a1_0==3)=false:=by
      have h_:=c9b0
      rw [show decide (t125≥0)=false from df_ c11] at h_
      generalize (a1_0==3)=z at h_
      cases z
      all_goals first|rfl|cases h_
     clear c9b0
     (try clear c9b1)
     (try clear c9b2)
     have c11b0:decide (0≤t125)=false:=df_ c11
     clear c11
     have H':=a_ H
     clear H
     obtain ⟨Z14_0,Z14_1,Z14_2,Z14_3,Z14_4,Y14_0,Y14_1,Y14_2,Y14_3,Y14_4⟩:=op5_ BK124.out
     go_wp2
     repeat (go_quiet (fail);try go_wp2)
     go_meet
     case rel=>exact ⟨_,(false),(si_),H',⟨by first|omega|exact Nat.le_refl _⟩,⟨by (with_reducible repeat (first|refine bN_ ?_ _|refine bD_ ?_|refine bA_ ?_ _));exact BK124.out⟩,⟨bel_⟩⟩
 case rest =>
  clear HC4
  try clear c1
  try clear p2
  try clear c7
  try clear c7b0
  try clear c7b1
  try clear c9
  try clear c9b0
  try clear c9b1
  try clear c9b2
  try clear c11
  try clear c11b0
  try clear Z10_0 Z10_1 Z10_2 Z10_3 Z10_4 Y10_0 Y10_1 Y10_2 Y10_3 Y10_4
  try clear Z13_0 Z13_1 Z13_2 Z13_3 Z13_4 Y13_0 Y13_1 Y13_2 Y13_3 Y13_4
  try clear Z14_0 Z14_1 Z14_2 Z14_3 Z14_4 Y14_0 Y14_1 Y14_2 Y14_3 Y14_4
  try clear Z6_0 Z6_1 Z6_2 Z6_3 Z6_4 Y6_0 Y6_1 Y6_2 Y6_3 Y6_4
  try clear Z8_0 Z8_1 Z8_2 Z8_3 Z8_4 Y8_0 Y8_1 Y8_2 Y8_3 Y8_4
  obtain ⟨kq,x37_3,rfl,HA,HJ3,BK124,HB⟩:=hcut
  cases kq with
  | zero=>exact absurd HA.out (by simp [spec_l3Where.j0])
  | succ kj3 =>
   have H:=HA.out
   clear HA
   simp only [spec_l3Where.j0] at H
   by_cases c15:x37_3=true
   ·subst c15
    have H1:(some (0,0,false))=some (r1,r2,r3):=by rw [if_pos rfl] at H;exact H
    clear H
    have H:=H1
    clear H1
    simp only [Option.some.injEq,Prod.mk.injEq] at H
    obtain ⟨rfl,rfl,rfl⟩:=H
    go_wp2
    repeat (go_quiet (fail);try go_wp2)
    go_ret3
    exact ⟨fi_,bel_⟩
   ·replace c15:=Bool.eq_false_iff.mpr c15
    subst c15
    have H1:((spec_l2At.f kj3 l0 a1_2).bind fun t127=>(if t127 < 0 then (some (3,0,true)) else ((spec_l2Kids.f kj3 l0 a1_2).bind fun t128=>(spec_l3Where.l0 kj3 a1_2 0 t128 0 a1_0 a1_1 a1_2 a1_3 a1_4))))=some (r1,r2,r3):=by rw [if_neg (show ¬ (false=true) by decide)] at H;exact H
    clear H
    have H:=H1
    clear H1
    replace H:=bs_ H
    obtain ⟨t127,A160,H⟩:=H
    try dsimp only at H
    have A16:=a_ A160
    clear A160
    by_cases c17:t127 < 0
    ·rw [if_pos c17] at H
     have c17b0:decide (t127 < 0)=true:=dt_ c17
     clear c17
     simp only [Option.some.injEq,Prod.mk.injEq] at H
     obtain ⟨rfl,rfl,rfl⟩:=H
     obtain ⟨Z18_0,Z18_1,Z18_2,Z18_3,Z18_4,Y18_0,Y18_1,Y18_2,Y18_3,Y18_4⟩:=op5_ (W:=wc) BK124.out
     go_wp2_with (first|(go_at_call 54;(with_reducible refine (spec_l2At.calls kj3 _ _ l0 a1_2 t127 _ ?side1 ?side2 A16.out).mono ?_);(case side1=>exact cp_ HR0.out);(case side2=>exact HC0.out);rintro e w' ⟨rfl,⟨nd,rfl⟩⟩;(try first|exact ⟨rfl,_,World.drewN_drewN _ _ _⟩|exact ⟨rfl,_,Eq.trans (World.drewN_drewN _ _ _) (congrArg (World.drewN _) (Nat.add_assoc _ _ _))⟩)))
     go_ret3
     exact ⟨fi_,bel_⟩
    ·rw [if_neg c17] at H
     have c17b0:decide (t127 < 0)=false:=df_ c17
     clear c17
     replace H:=bs_ H
     obtain ⟨t128,A190,H⟩:=H
     try dsimp only at H
     have A19:=a_ A190
     clear A190
     have H':=a_ H
     clear H
     obtain ⟨Z20_0,Z20_1,Z20_2,Z20_3,Z20_4,Y20_0,Y20_1,Y20_2,Y20_3,Y20_4⟩:=op5_ (W:=wc) BK124.out
     go_wp2_with (first|(go_at_call 54;(with_reducible refine (spec_l2At.calls kj3 _ _ l0 a1_2 t127 _ ?side1 ?side2 A16.out).mono ?_);(case side1=>exact cp_ HR0.out);(case side2=>exact HC0.out);rintro e w' ⟨rfl,⟨nd,rfl⟩⟩;(try first|exact ⟨rfl,_,World.drewN_drewN _ _ _⟩|exact ⟨rfl,_,Eq.trans (World.drewN_drewN _ _ _) (congrArg (World.drewN _) (Nat.add_assoc _ _ _))⟩))|(go_at_call 70;(with_reducible refine (spec_l2Kids.calls kj3 _ _ l0 a1_2 t128 _ ?side1 ?side2 A19.out).mono ?_);(case side1=>repeat (first|exact (Kd.C_below HR0.out (bel_))|(with_reducible refine Kd.C_alloc ?_ _)|(with_reducible refine Kd.C_drewN ?_ _)|(with_reducible refine Kd.C_drew ?_)));(case side2=>exact HC0.out);rintro e w21 ⟨v129,rfl,ho0,hb⟩;have HO130:=a_ (Kd.R_lower ho0 (below_size (bel_)));replace HB:=a_ (bS_ (bel_) hb);replace BK124:=a_ (bb_ BK124.out hb);(try clear hb ho0)))
     go_loopg [9,11] kj3 (fun kq v9 v11 w'=>∃ (x9_2:Int) (x11_2:Int),v9=.int .i64 x9_2∧v11=.int .i64 x11_2∧Aside0 (spec_l3Where.l0 kq a1_2 x9_2 t128 x11_2 a1_0 a1_1 a1_2 a1_3 a1_4=some (r1,r2,r3))∧Aside0 (kq≤kj3)∧Aside0 (Kd.R (Kd.int .i64) 3 w' w.heap.size (fun _=>True) v129 t128)∧Aside0 (w'.heap[gb124]?=some (.cells #[.int .i64 a1_0,.int .i64 a1_1,.int .i64 a1_2,.int .i64 a1_3,.string a1_4] 27 (0,0)))∧Aside0 (Below w.heap.size w w'))
     case atStart=>exact ⟨(0),(0),(si_),(si_),H',⟨Nat.le_refl _⟩,⟨by (with_reducible repeat (first|apply Kd.R_alloc|apply Kd.R_drewN|apply Kd.R_drew));exact HO130.out⟩,⟨by (with_reducible repeat (first|refine bN_ ?_ _|refine bD_ ?_|refine bA_ ?_ _));exact BK124.out⟩,⟨bel_⟩⟩
     case round =>
      clear H'
      try clear c1
      try clear p2
      try clear c7
      try clear c7b0
      try clear c7b1
      try clear c9
      try clear c9b0
      try clear c9b1
      try clear c9b2
      try clear c11
      try clear c11b0
      try clear c15
      try clear c17
      try clear c17b0
      try clear p2
      try clear Z10_0 Z10_1 Z10_2 Z10_3 Z10_4 Y10_0 Y10_1 Y10_2 Y10_3 Y10_4
      try clear Z13_0 Z13_1 Z13_2 Z13_3 Z13_4 Y13_0 Y13_1 Y13_2 Y13_3 Y13_4
      try clear Z14_0 Z14_1 Z14_2 Z14_3 Z14_4 Y14_0 Y14_1 Y14_2 Y14_3 Y14_4
      try clear Z18_0 Z18_1 Z18_2 Z18_3 Z18_4 Y18_0 Y18_1 Y18_2 Y18_3 Y18_4
      try clear Z20_0 Z20_1 Z20_2 Z20_3 Z20_4 Y20_0 Y20_1 Y20_2 Y20_3 Y20_4
      try clear Z6_0 Z6_1 Z6_2 Z6_3 Z6_4 Y6_0 Y6_1 Y6_2 Y6_3 Y6_4
      try clear Z8_0 Z8_1 Z8_2 Z8_3 Z8_4 Y8_0 Y8_1 Y8_2 Y8_3 Y8_4
      obtain ⟨x9_2,x11_2,rfl,rfl,HA,HK2,HO_10,BK124,HB⟩:=hrel
      cases gk with
      | zero=>exact absurd HA.out (by simp [spec_l3Where.l0])
      | succ k2 =>
       have H:=HA.out
       clear HA
       simp only [spec_l3Where.l0] at H
       by_cases c22:x11_2 < (t128.length:Int)
       ·rw [if_pos c22] at H
        have c22b0:decide (x11_2 < (t128.length:Int))=true:=dt_ c22
        clear c22
        by_cases c23:0≤x11_2
        ·rw [if_pos c23] at H
         have c23b0:decide (0≤x11_2)=true:=dt_ c23
         clear c23
         by_cases c24:(rd t128 x11_2)=a1_3
         ·rw [if_pos c24] at H
          have c24b0:((rd t128 x11_2)==a1_3)=true:=beq_iff_eq.mpr c24
          have c24b1:((rd t128 x11_2) != a1_3)=false:=be_ c24
          clear c24
          by_cases c25:a1_3=a1_1
          ·rw [if_pos c25] at H
           have c25b0:(a1_3==a1_1)=true:=beq_iff_eq.mpr c25
           have c25b1:(a1_3 != a1_1)=false:=be_ c25
           clear c25
           have H':=a_ H
           clear H
           obtain ⟨Ao26,co26,eo26⟩:=Kd.R_slice HO_10.out
           subst eo26
           have p131:0≤(x11_2:Int):=od_
           have q131:x11_2 < (t128.length:Int):=od_
           obtain ⟨ad131,e131,hx131_0⟩:=Kd.at_int (Kd.R_reads' HO_10.out).2.2 x11_2 p131 q131
           cases e131
           replace p131:=eq_true p131
           replace q131:=eq_true q131
           obtain ⟨Z27_0,Z27_1,Z27_2,Z27_3,Z27_4,Y27_0,Y27_1,Y27_2,Y27_3,Y27_4⟩:=op5_ (W:=wr) BK124.out
           go_wp2
           repeat (go_quiet (fail);try go_wp2)
           go_roundg k2
           case measure=>have:=HJ3.out;have:=HK2.out;omega
           case rel=>exact ⟨(x9_2),(wrap64 (x11_2+1)),(si_),(si_),H',⟨by have:=HJ3.out;have:=HK2.out;omega⟩,⟨by (with_reducible repeat (first|apply Kd.R_alloc|apply Kd.R_drewN|apply Kd.R_drew));exact HO_10.out⟩,⟨by (with_reducible repeat (first|refine bN_ ?_ _|refine bD_ ?_|refine bA_ ?_ _));exact BK124.out⟩,⟨bel_⟩⟩
          ·rw [if_neg c25] at H
           have c25b0:(a1_3==a1_1)=false:=bn_ c25
           have c25b1:(a1_3 != a1_1)=true:=bne_iff_ne.mpr c25
           have H':=a_ H
           clear H
           obtain ⟨Ao28,co28,eo28⟩:=Kd.R_slice HO_10.out
           subst eo28
           have p131:0≤(x11_2:Int):=od_
           have q131:x11_2 < (t128.length:Int):=od_
           obtain ⟨ad131,e131,hx131_0⟩:=Kd.at_int (Kd.R_reads' HO_10.out).2.2 x11_2 p131 q131
           cases e131
           replace p131:=eq_true p131
           replace q131:=eq_true q131
           obtain ⟨Z29_0,Z29_1,Z29_2,Z29_3,Z29_4,Y29_0,Y29_1,Y29_2,Y29_3,Y29_4⟩:=op5_ (W:=wr) BK124.out
           go_wp2
           repeat (go_quiet (fail);try go_wp2)
           go_roundg k2
           case measure=>have:=HJ3.out;have:=HK2.out;omega
           case rel=>exact ⟨(a1_3),(wrap64 (x11_2+1)),(si_),(si_),H',⟨by have:=HJ3.out;have:=HK2.out;omega⟩,⟨by (with_reducible repeat (first|apply Kd.R_alloc|apply Kd.R_drewN|apply Kd.R_drew));exact HO_10.out⟩,⟨by (with_reducible repeat (first|refine bN_ ?_ _|refine bD_ ?_|refine bA_ ?_ _));exact BK124.out⟩,⟨bel_⟩⟩
         ·rw [if_neg c24] at H
          have c24b0:((rd t128 x11_2)==a1_3)=false:=bn_ c24
          have c24b1:((rd t128 x11_2) != a1_3)=true:=bne_iff_ne.mpr c24
          have H':=a_ H
          clear H
          obtain ⟨Ao30,co30,eo30⟩:=Kd.R_slice HO_10.out
          subst eo30
          have p131:0≤(x11_2:Int):=od_
          have q131:x11_2 < (t128.length:Int):=od_
          obtain ⟨ad131,e131,hx131_0⟩:=Kd.at_int (Kd.R_reads' HO_10.out).2.2 x11_2 p131 q131
          cases e131
          replace p131:=eq_true p131
          replace q131:=eq_true q131
          obtain ⟨Z31_0,Z31_1,Z31_2,Z31_3,Z31_4,Y31_0,Y31_1,Y31_2,Y31_3,Y31_4⟩:=op5_ (W:=wr) BK124.out
          go_wp2
          repeat (go_quiet (fail);try go_wp2)
          go_roundg k2
          case measure=>have:=HJ3.out;have:=HK2.out;omega
          case rel=>exact ⟨(x9_2),(wrap64 (x11_2+1)),(si_),(si_),H',⟨by have:=HJ3.out;have:=HK2.out;omega⟩,⟨by (with_reducible repeat (first|apply Kd.R_alloc|apply Kd.R_drewN|apply Kd.R_drew));exact HO_10.out⟩,⟨by (with_reducible repeat (first|refine bN_ ?_ _|refine bD_ ?_|refine bA_ ?_ _));exact BK124.out⟩,⟨bel_⟩⟩
        ·rw [if_neg c23] at H
         exact absurd H (by simp)
       ·rw [if_neg c22] at H
        have c22b0:decide (x11_2 < (t128.length:Int))=false:=df_ c22
        clear c22
        simp only [Option.some.injEq,Prod.mk.injEq] at H
        obtain ⟨rfl,rfl,rfl⟩:=H
        obtain ⟨Ao32,co32,eo32⟩:=Kd.R_slice HO_10.out
        subst eo32
        go_wp2
        repeat (go_quiet (fail);try go_wp2)
        go_ret3
        exact ⟨fi_,bel_⟩

mutual
def spec_l3Put.j0:Nat→List (S37)→List (S37)→Int→Int→Option ((List (S37)))
 | 0,_,_,_,_=>none
 | k+1,x0,x1,x10,x11=>(some (([]:List (S37)):List (S37))).bind fun y137=>(if 0≤x11 then (if x11≤(x0.length:Int) then ((some (x0.take (x11:Int).toNat:List (S37))).bind fun y140=>(if y137.length+y140.length < 4398046511104 then (spec_l3Put.l0 k x0 x1 x10 x11 (y137++y140) 0) else (none))) else (none)) else (none))
def spec_l3Put.l0:Nat→List (S37)→List (S37)→Int→Int→List (S37)→Int→Option ((List (S37)))
 | 0,_,_,_,_,_,_=>none
 | k+1,x0,x1,x10,x11,x12,x13=>if x13 < (x1.length:Int) then (if 0≤x13 then (if x12.length < 4398046511104 then (spec_l3Put.l0 k x0 x1 x10 x11 (x12++[(⟨(rd_T37 x1 x13).f0,wrap64 (((rd_T37 x1 x13).f1)+x10),(rd_T37 x1 x13).f2⟩:S37)]) (wrap64 (x13+1))) else (none)) else (none)) else (if 0≤x11 then (if x11≤(x0.length:Int) then ((some (x0.drop (x11:Int).toNat:List (S37))).bind fun y152=>(if x12.length+y152.length < 4398046511104 then (some (x12++y152)) else (none))) else (none)) else (none))
end
def spec_l3Put.f (k:Nat) (l0:List (S37)) (l1:List (S37)) (a2:Int) (a3:Int):Option ((List (S37))):=(spec_l2At.f k l0 a2).bind fun t132=>(if 0≤t132 then (if t132 < (l0.length:Int) then (if 0 < (l1.length:Int) then (if a3 > 0 then ((spec_l2At.f k l0 a3).bind fun t135=>((spec_l2End.f k l0 t135).bind fun t136=>(spec_l3Put.j0 k l0 l1 (wrap64 ((wrap64 (((rd_T37 l0 t132).f1)+1)) - ((rd_T37 l1 0).f1))) t136))) else (spec_l3Put.j0 k l0 l1 (wrap64 ((wrap64 (((rd_T37 l0 t132).f1)+1)) - ((rd_T37 l1 0).f1))) (wrap64 (t132+1)))) else (none)) else (none)) else (none))
theorem spec_l3Put.mono_l:∀ k,(∀ y0 y1 y2 y3,LeO (spec_l3Put.j0 k y0 y1 y2 y3) (spec_l3Put.j0 (k+1) y0 y1 y2 y3))∧(∀ y0 y1 y2 y3 y4 y5,LeO (spec_l3Put.l0 k y0 y1 y2 y3 y4 y5) (spec_l3Put.l0 (k+1) y0 y1 y2 y3 y4 y5))
 | 0=>⟨fun _ _ _ _ r h=>by simp [spec_l3Put.j0] at h,fun _ _ _ _ _ _ r h=>by simp [spec_l3Put.l0] at h⟩
 | k+1=>by
  obtain ⟨ih0,ih1⟩:=spec_l3Put.mono_l k
  refine ⟨?_,?_⟩
  all_goals intros
  all_goals first|unfold spec_l3Put.j0|unfold spec_l3Put.l0
  all_goals repeat' first
  | (with_reducible exact ih0 _ _ _ _)
  | (with_reducible exact ih1 _ _ _ _ _ _)
  | (with_reducible exact spec_l2At.mono _ _ _)
  | (with_reducible exact spec_l2End.mono _ _ _)
  | (with_reducible exact LeO.refl _)
  | (with_reducible exact LeO.none _)
  | (with_reducible refine LeO.ite ?_ ?_)
  | (with_reducible refine LeO.bind ?_ (fun _=>?_))
theorem spec_l3Put.mono:∀ a0 a1 a2 a3 k,LeO (spec_l3Put.f k a0 a1 a2 a3) (spec_l3Put.f (k+1) a0 a1 a2 a3):=by
 intro a0 a1 a2 a3 k
 obtain ⟨ih0,ih1⟩:=spec_l3Put.mono_l k
 unfold spec_l3Put.f
 repeat' first
   | (with_reducible exact ih0 _ _ _ _)
   | (with_reducible exact ih1 _ _ _ _ _ _)
   | (with_reducible exact spec_l2At.mono _ _ _)
   | (with_reducible exact spec_l2End.mono _ _ _)
   | (with_reducible exact LeO.refl _)
   | (with_reducible exact LeO.none _)
   | (with_reducible refine LeO.ite ?_ ?_)
   | (with_reducible refine LeO.bind ?_ (fun _=>?_))
theorem spec_l3Put.calls (k:Nat) (A0:Option Addr) (c0:Nat) (l0:List (S37)) (A1:Option Addr) (c1:Nat) (l1:List (S37)) (a2:Int) (a3:Int) (r:List (S37)) (w:World) (hr0:Kd.C k37 w A0 l0.length l0) (hc0:l0.length≤c0) (hr1:Kd.C k37 w A1 l1.length l1) (hc1:l1.length≤c1) (h:spec_l3Put.f k l0 l1 a2 a3=some r) :
  Calls Tryd.prog 108 #[.slice A0 l0.length c0,.slice A1 l1.length c1,.int .i64 a2,.int .i64 a3] w fun e w'=>∃ v0_:Value,e=.returned (v0_)∧Kd.R k37 37 w' w.heap.size (fun _=>True) v0_ r∧Below w.heap.size w w':=by
 have hu37:=Tryd.underlying37
 have HR0:=a_ hr0
 have HC0:=a_ hc0
 clear hr0 hc0
 have HR1:=a_ hr1
 have HC1:=a_ hc1
 clear hr1 hc1
 have HB:=a_ (Below.refl w.heap.size w)
 unfold spec_l3Put.f at h
 have H:=h
 clear h
 replace H:=bs_ H
 obtain ⟨t132,A50,H⟩:=H
 try dsimp only at H
 have A5:=a_ A50
 clear A50
 by_cases c6:0≤t132
 ·rw [if_pos c6] at H
  have c6b0:decide (0≤t132)=true:=dt_ c6
  clear c6
  by_cases c7:t132 < (l0.length:Int)
  ·rw [if_pos c7] at H
   have c7b0:decide (t132 < (l0.length:Int))=true:=dt_ c7
   clear c7
   by_cases c8:0 < (l1.length:Int)
   ·rw [if_pos c8] at H
    have c8b0:decide (0 < (l1.length:Int))=true:=dt_ c8
    have c8b1:decide (0 < l1.length)=true:=dt_ (by omega)
    clear c8
    have HC9:=a_ H
    clear H
    go_enter Tryd.func108,Tryd.ntmps108
    go_upto_if 32 with (first|(go_at_call 54;(with_reducible refine (spec_l2At.calls k _ _ l0 a2 t132 _ ?side1 ?side2 A5.out).mono ?_);(case side1=>exact cx_ HR0.out);(case side2=>exact HC0.out);rintro e w' ⟨rfl,⟨nd,rfl⟩⟩;(try first|exact ⟨rfl,_,World.drewN_drewN _ _ _⟩|exact ⟨rfl,_,Eq.trans (World.drewN_drewN _ _ _) (congrArg (World.drewN _) (Nat.add_assoc _ _ _))⟩);have p133:0≤(t132:Int):=od_;have q133:t132 < (l0.length:Int):=od_;obtain ⟨ad133,e133,hx133_0,hx133_1,hx133_2⟩:=at_T37 HR0.out t132 p133 q133;cases e133;replace p133:=eq_true p133;replace q133:=eq_true q133;have p134:0≤(0:Int):=(by omega);have q134:0 < (l1.length:Int):=od_;obtain ⟨ad134,e134,hx134_0,hx134_1,hx134_2⟩:=at_T37 HR1.out 0 p134 q134;cases e134;have qi134:(0 < l1.length)=True:=eq_true (by omega);(try rw [show ((0:Int)).toNat=0 from rfl] at hx134_0);(try rw [show 0 * 3=0 from rfl] at hx134_0);(try rw [Addr.add_zero'] at hx134_0);(try rw [show ((0:Int)).toNat=0 from rfl] at hx134_1);(try rw [show 0 * 3=0 from rfl] at hx134_1);(try rw [Addr.add_zero'] at hx134_1);(try rw [show ((0:Int)).toNat=0 from rfl] at hx134_2);(try rw [show 0 * 3=0 from rfl] at hx134_2);(try rw [Addr.add_zero'] at hx134_2);replace p134:=eq_true p134;replace q134:=eq_true q134))
    repeat (go_quiet (first|(go_at_call 54;(with_reducible refine (spec_l2At.calls k _ _ l0 a2 t132 _ ?side1 ?side2 A5.out).mono ?_);(case side1=>exact cx_ HR0.out);(case side2=>exact HC0.out);rintro e w' ⟨rfl,⟨nd,rfl⟩⟩;(try first|exact ⟨rfl,_,World.drewN_drewN _ _ _⟩|exact ⟨rfl,_,Eq.trans (World.drewN_drewN _ _ _) (congrArg (World.drewN _) (Nat.add_assoc _ _ _))⟩);have p133:0≤(t132:Int):=od_;have q133:t132 < (l0.length:Int):=od_;obtain ⟨ad133,e133,hx133_0,hx133_1,hx133_2⟩:=at_T37 HR0.out t132 p133 q133;cases e133;replace p133:=eq_true p133;replace q133:=eq_true q133;have p134:0≤(0:Int):=(by omega);have q134:0 < (l1.length:Int):=od_;obtain ⟨ad134,e134,hx134_0,hx134_1,hx134_2⟩:=at_T37 HR1.out 0 p134 q134;cases e134;have qi134:(0 < l1.length)=True:=eq_true (by omega);(try rw [show ((0:Int)).toNat=0 from rfl] at hx134_0);(try rw [show 0 * 3=0 from rfl] at hx134_0);(try rw [Addr.add_zero'] at hx134_0);(try rw [show ((0:Int)).toNat=0 from rfl] at hx134_1);(try rw [show 0 * 3=0 from rfl] at hx134_1);(try rw [Addr.add_zero'] at hx134_1);(try rw [show ((0:Int)).toNat=0 from rfl] at hx134_2);(try rw [show 0 * 3=0 from rfl] at hx134_2);(try rw [Addr.add_zero'] at hx134_2);replace p134:=eq_true p134;replace q134:=eq_true q134));go_upto_if 32 with (first|(go_at_call 54;(with_reducible refine (spec_l2At.calls k _ _ l0 a2 t132 _ ?side1 ?side2 A5.out).mono ?_);(case side1=>exact cx_ HR0.out);(case side2=>exact HC0.out);rintro e w' ⟨rfl,⟨nd,rfl⟩⟩;(try first|exact ⟨rfl,_,World.drewN_drewN _ _ _⟩|exact ⟨rfl,_,Eq.trans (World.drewN_drewN _ _ _) (congrArg (World.drewN _) (Nat.add_assoc _ _ _))⟩);have p133:0≤(t132:Int):=od_;have q133:t132 < (l0.length:Int):=od_;obtain ⟨ad133,e133,hx133_0,hx133_1,hx133_2⟩:=at_T37 HR0.out t132 p133 q133;cases e133;replace p133:=eq_true p133;replace q133:=eq_true q133;have p134:0≤(0:Int):=(by omega);have q134:0 < (l1.length:Int):=od_;obtain ⟨ad134,e134,hx134_0,hx134_1,hx134_2⟩:=at_T37 HR1.out 0 p134 q134;cases e134;have qi134:(0 < l1.length)=True:=eq_true (by omega);(try rw [show ((0:Int)).toNat=0 from rfl] at hx134_0);(try rw [show 0 * 3=0 from rfl] at hx134_0);(try rw [Addr.add_zero'] at hx134_0);(try rw [show ((0:Int)).toNat=0 from rfl] at hx134_1);(try rw [show 0 * 3=0 from rfl] at hx134_1);(try rw [Addr.add_zero'] at hx134_1);(try rw [show ((0:Int)).toNat=0 from rfl] at hx134_2);(try rw [show 0 * 3=0 from rfl] at hx134_2);(try rw [Addr.add_zero'] at hx134_2);replace p134:=eq_true p134;replace q134:=eq_true q134)))
    (try simp only [Act.put,List.setIfInBounds_toArray,List.set_cons_zero,List.set_cons_succ])
    go_cut [11] (fun v11 wc=>∃ (kq:Nat) (x11_8:Int),v11=.int .i64 x11_8∧Aside0 (spec_l3Put.j0 kq l0 l1 (wrap64 ((wrap64 (((rd_T37 l0 t132).f1)+1)) - ((rd_T37 l1 0).f1))) x11_8=some r)∧Aside0 (kq≤k)∧Aside0 (Below w.heap.size w wc))
    case first =>
     have H:=HC9.out
     clear HC9
     by_cases c10:a3 > 0
     ·rw [if_pos c10] at H
      have c10b0:decide (0 < a3)=true:=dt_ c10
      clear c10
      (first|rw [c10b0]|(simp only [i64_w,i32_w];rw [c10b0])|skip)
      replace H:=bs_ H
      obtain ⟨t135,A110,H⟩:=H
      try dsimp only at H
      have A11:=a_ A110
      clear A110
      replace H:=bs_ H
      obtain ⟨t136,A120,H⟩:=H
      try dsimp only at H
      have A12:=a_ A120
      clear A120
      have H':=a_ H
      clear H
      go_wp2_with (first|(go_at_call 54;(with_reducible refine (spec_l2At.calls k _ _ l0 a3 t135 _ ?side1 ?side2 A11.out).mono ?_);(case side1=>exact cp_ HR0.out);(case side2=>exact HC0.out);rintro e w' ⟨rfl,⟨nd,rfl⟩⟩;(try first|exact ⟨rfl,_,World.drewN_drewN _ _ _⟩|exact ⟨rfl,_,Eq.trans (World.drewN_drewN _ _ _) (congrArg (World.drewN _) (Nat.add_assoc _ _ _))⟩))|(go_at_call 93;(with_reducible refine (spec_l2End.calls k _ _ l0 t135 t136 _ ?side1 ?side2 A12.out).mono ?_);(case side1=>repeat (first|exact (Kd.C_below HR0.out (bel_))|(with_reducible refine Kd.C_alloc ?_ _)|(with_reducible refine Kd.C_drewN ?_ _)|(with_reducible refine Kd.C_drew ?_)));(case side2=>exact HC0.out);rintro e w' ⟨rfl,⟨nd,rfl⟩⟩;(try first|exact ⟨rfl,_,World.drewN_drewN _ _ _⟩|exact ⟨rfl,_,Eq.trans (World.drewN_drewN _ _ _) (congrArg (World.drewN _) (Nat.add_assoc _ _ _))⟩)))
      go_meet
      case rel=>exact ⟨_,(t136),(si_),H',⟨by first|omega|exact Nat.le_refl _⟩,⟨bel_⟩⟩
     ·rw [if_neg c10] at H
      have c10b0:decide (0 < a3)=false:=df_ c10
      clear c10
      (first|rw [c10b0]|(simp only [i64_w,i32_w];rw [c10b0])|skip)
      have H':=a_ H
      clear H
      go_wp2
      repeat (go_quiet (fail);try go_wp2)
      go_meet
      case rel=>exact ⟨_,(wrap64 (t132+1)),(si_),H',⟨by first|omega|exact Nat.le_refl _⟩,⟨bel_⟩⟩
    case rest =>
     clear HC9
     try clear c1
     try clear p1
     try clear q1
     try clear hx1
     try clear qi1
     try clear p2
     try clear c6
     try clear c6b0
     try clear p6
     try clear c7
     try clear c7b0
     try clear c8
     try clear c8b0
     try clear c8b1
     try clear c10
     try clear c10b0
     try clear hx133_0
     try clear hx133_1
     try clear hx133_2
     try clear hx134_0
     try clear hx134_1
     try clear hx134_2
     try clear p133
     try clear p134
     try clear q133
     try clear q134
     obtain ⟨kq,x11_8,rfl,HA,HJ8,HB⟩:=hcut
     cases kq with
     | zero=>exact absurd HA.out (by simp [spec_l3Put.j0])
     | succ kj8 =>
      have H:=HA.out
      clear HA
      simp only [spec_l3Put.j0] at H
      obtain ⟨y137,hy137⟩:∃ y_:List (S37),y_=(([]:List (S37))):=⟨_,rfl⟩
      replace H:(if 0≤x11_8 then (if x11_8≤(l0.length:Int) then ((some (l0.take (x11_8:Int).toNat:List (S37))).bind fun y140=>(if y137.length+y140.length < 4398046511104 then (spec_l3Put.l0 kj8 l0 l1 (wrap64 ((wrap64 (((rd_T37 l0 t132).f1)+1)) - ((rd_T37 l1 0).f1))) x11_8 (y137++y140) 0) else (none))) else (none)) else (none))=some r:=by first|(rw [hy137];with_reducible exact H)|(have H2_:=(Option.bind_some _ _).symm.trans H;rw [hy137];with_reducible exact H2_)|(have H2_:=(Option.bind_some _ _).symm.trans H;with_reducible exact H2_)|with_reducible exact H|(rw [hy137];exact H)|exact H
      have Ny137:=a_ hy137
      clear hy137
      by_cases c13:0≤x11_8
      ·rw [if_pos c13] at H
       have c13b0:=eq_true c13
       have c13b1:decide (0≤x11_8)=true:=dt_ c13
       clear c13
       by_cases c14:x11_8≤(l0.length:Int)
       ·rw [if_pos c14] at H
        have c14b0:=eq_true c14
        have c14b1:decide (x11_8≤(l0.length:Int))=true:=dt_ c14
        clear c14
        obtain ⟨y140,hy140⟩:∃ y_:List (S37),y_=(l0.take (x11_8:Int).toNat):=⟨_,rfl⟩
        replace H:(if y137.length+y140.length < 4398046511104 then (spec_l3Put.l0 kj8 l0 l1 (wrap64 ((wrap64 (((rd_T37 l0 t132).f1)+1)) - ((rd_T37 l1 0).f1))) x11_8 (y137++y140) 0) else (none))=some r:=by first|(rw [hy140];with_reducible exact H)|(have H2_:=(Option.bind_some _ _).symm.trans H;rw [hy140];with_reducible exact H2_)|(have H2_:=(Option.bind_some _ _).symm.trans H;with_reducible exact H2_)|with_reducible exact H|(rw [hy140];exact H)|exact H
        have Ny140:=a_ hy140
        clear hy140
        by_cases c15:y137.length+y140.length < 4398046511104
        ·rw [if_pos c15] at H
         have LMc15:=a_ c15
         clear c15
         obtain ⟨y144,hy144⟩:∃ y_:List (S37),y_=(y137++y140):=⟨_,rfl⟩
         replace H:(spec_l3Put.l0 kj8 l0 l1 (wrap64 ((wrap64 (((rd_T37 l0 t132).f1)+1)) - ((rd_T37 l1 0).f1))) x11_8 y144 0)=some r:=by first|(rw [hy144];with_reducible exact H)|(have H2_:=(Option.bind_some _ _).symm.trans H;rw [hy144];with_reducible exact H2_)|(have H2_:=(Option.bind_some _ _).symm.trans H;with_reducible exact H2_)|with_reducible exact H|(rw [hy144];exact H)|exact H
         have Ny144:=a_ hy144
         clear hy144
         have H':=a_ H
         clear H
         go_wp2_with (first|((with_reducible refine gD_ (N:=38) rfl ?_);refine Kd.R_lit k37 _ 37 ?hg (N:=38) ?hd (xs:=([]:List (S37))) (inner:=[]) (ok:=fun _=>True) (okp:=fun _=>True) ?hr ?hp (fun _ hk=>hk) trivial (Below.refl _ _) (Nat.le_refl _) (by simp) ?_;(case hd=>rfl);(case hg=>rfl);(case hr=>first|(go_simp;done)|(go_simp;rfl));(case hp=>exact (Reps.none _ _));intro v138 w16 ho17 hb hg_ hnew_;clear hg_ hnew_;(first|rw [←Ny137.out] at ho17|(simp only [Int.reduceToNat] at ho17;rw [←Ny137.out] at ho17));have HO139:=a_ (Kd.R_lower ho17 (below_size (bel_)));replace HB:=a_ (bS_ (bel_) hb);clear hb ho17;have q18:(x11_8:Int)≤((l0.length:Int):Int):=od_;obtain ⟨i018,hi018,_,hsz18,_⟩:=info_parts info37;have hroom18:l0.length≤c0:=HC0.out;have hC18:Kd.C k37 _ (some ad133) l0.length l0:=HR0.out;have hcut18:=cut_to (P:=Tryd.prog) 23 37 .i64 Tryd.underlying23 hi018 (some ad133) l0.length c0 x11_8 (od_) q18 hroom18;have hr18:=Kd.C_take (m:=(x11_8:Int).toNat) hC18 (by omega);have hy18:y140.length=(x11_8:Int).toNat:=(by rw [Ny140.out,List.length_take];omega);rw [←Ny140.out] at hr18;rw [←hy18] at hcut18;have HR143:=a_ hr18;have HC143:=a_ (show y140.length≤c0 from by omega);clear hr18 hC18 hroom18 hi018 hsz18;have KY18:=a_ hy18;clear hy18;replace q18:=eq_true q18)|((with_reducible refine gate_builtin (b:=.append) (xs:=#[.tmp 38,.tmp 41]) rfl ?_);at_builtin;refine Kd.R_append_rows k37 (w0:=w) w.heap.size rfl (.tmp 38) (.tmp 41) 23 37 (.agg #[(.int .i64 0),(.int .i64 0),(.string ⟨#[]⟩)]) 32 rfl Tryd.underlying23 info37 rfl (by decide) (by omega) v138 y137 y140 _ _ _ (fun _=>True) (fun _=>False) rfl rfl ?aO ?aR (fun _ _ h=>h) (fun _ h=>h.elim) ?aF ?aB ?aS ?aL ?_;(case aR=>exact cx_ (Kd.C_below HR143.out HB.out));(case aB=>exact (bel_));(case aF=>exact (fun _ _=>trivial));(case aO=>exact (rp_ HO139.out));(case aS=>exact (below_size (bel_)));(case aL=>have:=LMc15.out;omega);intro v145 w19 ho hb hg hat;rw [←Ny144.out] at ho;replace HB:=a_ (hb);have HO146:=a_ (ho);clear HO139;clear ho hb hg hat))
         go_loopg [12,13] kj8 (fun kq v12 v13 w'=>∃ (x12_2:List (S37)) (x13_2:Int),v13=.int .i64 x13_2∧Aside0 (spec_l3Put.l0 kq l0 l1 (wrap64 ((wrap64 (((rd_T37 l0 t132).f1)+1)) - ((rd_T37 l1 0).f1))) x11_8 x12_2 x13_2=some r)∧Aside0 (kq≤kj8)∧Aside0 (Kd.R k37 37 w' w.heap.size (fun _=>True) v12 x12_2)∧Aside0 (Below w.heap.size w w'))
         case atStart=>exact ⟨(y144),(0),(si_),H',⟨Nat.le_refl _⟩,⟨by (with_reducible repeat (first|apply Kd.R_alloc|apply Kd.R_drewN|apply Kd.R_drew));exact HO146.out⟩,⟨bel_⟩⟩
         case round =>
          clear H'
          try clear c1
          try clear p1
          try clear q1
          try clear hx1
          try clear qi1
          try clear p2
          try clear c6
          try clear c6b0
          try clear p6
          try clear c7
          try clear c7b0
          try clear c8
          try clear c8b0
          try clear c8b1
          try clear c10
          try clear c10b0
          try clear c13
          try clear c13b0
          try clear c13b1
          try clear p13
          try clear q13
          try clear hx13
          try clear qi13
          try clear c14
          try clear c14b0
          try clear c14b1
          try clear c15
          try clear q18
          try clear hx133_0
          try clear hx133_1
          try clear hx133_2
          try clear hx134_0
          try clear hx134_1
          try clear hx134_2
          try clear p1
          try clear p133
          try clear p134
          try clear p2
          try clear p6
          try clear q1
          try clear q133
          try clear q134
          try clear q18
          obtain ⟨x12_2,x13_2,rfl,HA,HK2,HO_12,HB⟩:=hrel
          cases gk with
          | zero=>exact absurd HA.out (by simp [spec_l3Put.l0])
          | succ k2 =>
           have H:=HA.out
           clear HA
           simp only [spec_l3Put.l0] at H
           by_cases c20:x13_2 < (l1.length:Int)
           ·rw [if_pos c20] at H
            have c20b0:decide (x13_2 < (l1.length:Int))=true:=dt_ c20
            clear c20
            by_cases c21:0≤x13_2
            ·rw [if_pos c21] at H
             have c21b0:decide (0≤x13_2)=true:=dt_ c21
             clear c21
             by_cases c22:x12_2.length < 4398046511104
             ·rw [if_pos c22] at H
              have LMc22:=a_ c22
              clear c22
              obtain ⟨y149,hy149⟩:∃ y_:List (S37),y_=(x12_2++[(⟨(rd_T37 l1 x13_2).f0,wrap64 (((rd_T37 l1 x13_2).f1)+(wrap64 ((wrap64 (((rd_T37 l0 t132).f1)+1)) - ((rd_T37 l1 0).f1)))),(rd_T37 l1 x13_2).f2⟩:S37)]):=⟨_,rfl⟩
              replace H:(spec_l3Put.l0 k2 l0 l1 (wrap64 ((wrap64 (((rd_T37 l0 t132).f1)+1)) - ((rd_T37 l1 0).f1))) x11_8 y149 (wrap64 (x13_2+1)))=some r:=by first|(rw [hy149];with_reducible exact H)|(have H2_:=(Option.bind_some _ _).symm.trans H;rw [hy149];with_reducible exact H2_)|(have H2_:=(Option.bind_some _ _).symm.trans H;with_reducible exact H2_)|with_reducible exact H|(rw [hy149];exact H)|exact H
              have Ny149:=a_ hy149
              clear hy149
              have H':=a_ H
              clear H
              have p147:0≤(x13_2:Int):=od_
              have q147:x13_2 < (l1.length:Int):=od_
              obtain ⟨ad147,e147,hx147_0,hx147_1,hx147_2⟩:=at_T37 HR1.out x13_2 p147 q147
              obtain rfl:ad134=ad147:=(by injection e147)
              replace hx147_0:=(cb_ HB.out hx147_0 :)
              replace hx147_1:=(cb_ HB.out hx147_1 :)
              replace hx147_2:=(cb_ HB.out hx147_2 :)
              replace p147:=eq_true p147
              replace q147:=eq_true q147
              go_wp2_with (first|((with_reducible refine gD_ (N:=14) rfl ?_);refine bx_ 14 (#[.int .i64 0,.int .i64 0,.string (⟨#[]⟩:ByteArray)]) 37 ?_;intro gb148 hg w23 hbox hb;have n0_:=a_ (Kd.R_below (Kd.R_elderB (rp_ HO_12.out) gb148 (Nat.le_of_eq hg.symm)) hb);have n1_:=a_ (bS_ (bel_) hb);have n2_:=a_ (hbox);have n3_:=a_ ((by rw [hg];exact (below_size (bel_)):w.heap.size≤gb148));have n4_:=a_ ((by rw [hg];exact (below_size (bel_)):w.heap.size≤gb148));clear HO_12;clear HB;have HO_12:=n0_;have HB:=n1_;have BK148:=n2_;have GW148:=n3_;have GE148:=n4_;clear n0_ n1_ n2_ n3_ n4_;clear hb hbox hg;obtain ⟨Z24_0,Z24_1,Z24_2,Y24_0,Y24_1,Y24_2⟩:=op3_ BK148.out;have hq_:((((w23.setCell ⟨gb148,0,none⟩ (.int .i64 ((rd_T37 l1 x13_2).f0))).setCell ⟨gb148,1,none⟩ (.int .i64 ((rd_T37 l1 x13_2).f1))).setCell ⟨gb148,2,none⟩ (.string ((rd_T37 l1 x13_2).f2))).setCell ⟨gb148,1,none⟩ (.int .i64 (wrap64 (((rd_T37 l1 x13_2).f1)+(wrap64 ((wrap64 (((rd_T37 l0 t132).f1)+1)) - ((rd_T37 l1 0).f1))))))).heap[gb148]?=some (.cells #[.int .i64 ((rd_T37 l1 x13_2).f0),.int .i64 (wrap64 (((rd_T37 l1 x13_2).f1)+(wrap64 ((wrap64 (((rd_T37 l0 t132).f1)+1)) - ((rd_T37 l1 0).f1))))),.string ((rd_T37 l1 x13_2).f2)] 37 (0,0)):=(blk_set (blk_set (blk_set (blk_set BK148.out 0 _) 1 _) 2 _) 1 _).trans rfl;have hq0_:((((w23.setCell ⟨gb148,0,none⟩ (.int .i64 ((rd_T37 l1 x13_2).f0))).setCell ⟨gb148,1,none⟩ (.int .i64 ((rd_T37 l1 x13_2).f1))).setCell ⟨gb148,2,none⟩ (.string ((rd_T37 l1 x13_2).f2))).setCell ⟨gb148,1,none⟩ (.int .i64 (wrap64 (((rd_T37 l1 x13_2).f1)+(wrap64 ((wrap64 (((rd_T37 l0 t132).f1)+1)) - ((rd_T37 l1 0).f1))))))).cell? ⟨gb148,0,none⟩=some (.int .i64 ((rd_T37 l1 x13_2).f0)):=(bC_ hq_ 0).trans rfl;have hq1_:((((w23.setCell ⟨gb148,0,none⟩ (.int .i64 ((rd_T37 l1 x13_2).f0))).setCell ⟨gb148,1,none⟩ (.int .i64 ((rd_T37 l1 x13_2).f1))).setCell ⟨gb148,2,none⟩ (.string ((rd_T37 l1 x13_2).f2))).setCell ⟨gb148,1,none⟩ (.int .i64 (wrap64 (((rd_T37 l1 x13_2).f1)+(wrap64 ((wrap64 (((rd_T37 l0 t132).f1)+1)) - ((rd_T37 l1 0).f1))))))).cell? ⟨gb148,1,none⟩=some (.int .i64 (wrap64 (((rd_T37 l1 x13_2).f1)+(wrap64 ((wrap64 (((rd_T37 l0 t132).f1)+1)) - ((rd_T37 l1 0).f1)))))):=(bC_ hq_ 1).trans rfl;have hq2_:((((w23.setCell ⟨gb148,0,none⟩ (.int .i64 ((rd_T37 l1 x13_2).f0))).setCell ⟨gb148,1,none⟩ (.int .i64 ((rd_T37 l1 x13_2).f1))).setCell ⟨gb148,2,none⟩ (.string ((rd_T37 l1 x13_2).f2))).setCell ⟨gb148,1,none⟩ (.int .i64 (wrap64 (((rd_T37 l1 x13_2).f1)+(wrap64 ((wrap64 (((rd_T37 l0 t132).f1)+1)) - ((rd_T37 l1 0).f1))))))).cell? ⟨gb148,2,none⟩=some (.string ((rd_T37 l1 x13_2).f2)):=(bC_ hq_ 2).trans rfl;clear hq_)|((with_reducible refine gate_builtin (b:=.append) (xs:=#[.tmp 58,.tmp 60]) rfl ?_);at_builtin;refine Kd.R_append k37 (w0:=w) w.heap.size rfl (.tmp 58) (.tmp 60) 23 37 (.agg #[(.int .i64 0),(.int .i64 0),(.string ⟨#[]⟩)]) 32 rfl Tryd.underlying23 info37 rfl (by decide) (by omega) u12 x12_2 (⟨(rd_T37 l1 x13_2).f0,wrap64 (((rd_T37 l1 x13_2).f1)+(wrap64 ((wrap64 (((rd_T37 l0 t132).f1)+1)) - ((rd_T37 l1 0).f1)))),(rd_T37 l1 x13_2).f2⟩:S37) [.int .i64 ((rd_T37 l1 x13_2).f0),.int .i64 (wrap64 (((rd_T37 l1 x13_2).f1)+(wrap64 ((wrap64 (((rd_T37 l0 t132).f1)+1)) - ((rd_T37 l1 0).f1))))),.string ((rd_T37 l1 x13_2).f2)] (fun k_=>k_≠gb148) (fun _=>False) rfl (by first|(go_simp;done)|(go_simp;rfl)) ?aP (fun _ hk=>hk.elim) ?aF ?aO ?aB ?aS ?aL ?_;(case aP=>exact k37_mkM _ _ _ (⟨(rd_T37 l1 x13_2).f0,wrap64 (((rd_T37 l1 x13_2).f1)+(wrap64 ((wrap64 (((rd_T37 l0 t132).f1)+1)) - ((rd_T37 l1 0).f1)))),(rd_T37 l1 x13_2).f2⟩:S37));(case aB=>exact (bel_));(case aF=>exact (fun k_ hk=>Kd.freshB (g:=gb148) (o:=.cells #[.int .i64 ((rd_T37 l1 x13_2).f0),.int .i64 (wrap64 (((rd_T37 l1 x13_2).f1)+(wrap64 ((wrap64 (((rd_T37 l0 t132).f1)+1)) - ((rd_T37 l1 0).f1))))),.string ((rd_T37 l1 x13_2).f2)] 37 (0,0)) (by (with_reducible repeat (first|refine bN_ ?_ _|refine bD_ ?_|refine bA_ ?_ _));refine blk_put (cs:=#[.int .i64 ((rd_T37 l1 x13_2).f0),.int .i64 ((rd_T37 l1 x13_2).f1),.string ((rd_T37 l1 x13_2).f2)]) ?_ 1 _ rfl;(with_reducible repeat (first|refine bN_ ?_ _|refine bD_ ?_|refine bA_ ?_ _));refine blk_put (cs:=#[.int .i64 ((rd_T37 l1 x13_2).f0),.int .i64 ((rd_T37 l1 x13_2).f1),.string (⟨#[]⟩:ByteArray)]) ?_ 2 _ rfl;(with_reducible repeat (first|refine bN_ ?_ _|refine bD_ ?_|refine bA_ ?_ _));refine blk_put (cs:=#[.int .i64 ((rd_T37 l1 x13_2).f0),.int .i64 0,.string (⟨#[]⟩:ByteArray)]) ?_ 1 _ rfl;(with_reducible repeat (first|refine bN_ ?_ _|refine bD_ ?_|refine bA_ ?_ _));refine blk_put (cs:=#[.int .i64 0,.int .i64 0,.string (⟨#[]⟩:ByteArray)]) ?_ 0 _ rfl;(with_reducible repeat (first|refine bN_ ?_ _|refine bD_ ?_|refine bA_ ?_ _));exact BK148.out) k_ hk));(case aO=>exact (by (with_reducible repeat (first|apply Kd.R_alloc|apply Kd.R_drewN|apply Kd.R_drew));exact Kd.R_mono (Kd.R_far (p:=⟨gb148,1,none⟩) (Kd.R_far (p:=⟨gb148,2,none⟩) (Kd.R_far (p:=⟨gb148,1,none⟩) (Kd.R_far (p:=⟨gb148,0,none⟩) (Kd.R_mono HO_12.out (fun k_ hk=>(⟨hk,hk.2⟩:_∧k_≠gb148))) (fun _ hk=>hk.2) (.int .i64 ((rd_T37 l1 x13_2).f0))) (fun _ hk=>hk.2) (.int .i64 ((rd_T37 l1 x13_2).f1))) (fun _ hk=>hk.2) (.string ((rd_T37 l1 x13_2).f2))) (fun _ hk=>hk.2) (.int .i64 (wrap64 (((rd_T37 l1 x13_2).f1)+(wrap64 ((wrap64 (((rd_T37 l0 t132).f1)+1)) - ((rd_T37 l1 0).f1))))))) (fun _ hk=>hk.1.2)));(case aS=>exact (below_size (bel_)));(case aL=>have:=LMc22.out;omega);intro v150 w25 ho hb hg hat;rw [←Ny149.out] at ho;have n0_:=a_ (blk_grown (g:=gb148) (o:=.cells #[.int .i64 ((rd_T37 l1 x13_2).f0),.int .i64 (wrap64 (((rd_T37 l1 x13_2).f1)+(wrap64 ((wrap64 (((rd_T37 l0 t132).f1)+1)) - ((rd_T37 l1 0).f1))))),.string ((rd_T37 l1 x13_2).f2)] 37 (0,0)) (by (with_reducible repeat (first|refine bN_ ?_ _|refine bD_ ?_|refine bA_ ?_ _));refine blk_put (cs:=#[.int .i64 ((rd_T37 l1 x13_2).f0),.int .i64 ((rd_T37 l1 x13_2).f1),.string ((rd_T37 l1 x13_2).f2)]) ?_ 1 _ rfl;(with_reducible repeat (first|refine bN_ ?_ _|refine bD_ ?_|refine bA_ ?_ _));refine blk_put (cs:=#[.int .i64 ((rd_T37 l1 x13_2).f0),.int .i64 ((rd_T37 l1 x13_2).f1),.string (⟨#[]⟩:ByteArray)]) ?_ 2 _ rfl;(with_reducible repeat (first|refine bN_ ?_ _|refine bD_ ?_|refine bA_ ?_ _));refine blk_put (cs:=#[.int .i64 ((rd_T37 l1 x13_2).f0),.int .i64 0,.string (⟨#[]⟩:ByteArray)]) ?_ 1 _ rfl;(with_reducible repeat (first|refine bN_ ?_ _|refine bD_ ?_|refine bA_ ?_ _));refine blk_put (cs:=#[.int .i64 0,.int .i64 0,.string (⟨#[]⟩:ByteArray)]) ?_ 0 _ rfl;(with_reducible repeat (first|refine bN_ ?_ _|refine bD_ ?_|refine bA_ ?_ _));exact BK148.out) hg (Kd.R_away HO_12.out (fun _ hk=>hk.2)));have n1_:=a_ (hb);have n2_:=a_ (ho);clear BK148;clear HB;clear HO_12;have BK148:=n0_;have HB:=n1_;have HO151:=n2_;clear n0_ n1_ n2_;clear ho hb hg hat))
              go_roundg k2
              case measure=>have:=HJ8.out;have:=HK2.out;omega
              case rel=>exact ⟨(y149),(wrap64 (x13_2+1)),(si_),H',⟨by have:=HJ8.out;have:=HK2.out;omega⟩,⟨by (with_reducible repeat (first|apply Kd.R_alloc|apply Kd.R_drewN|apply Kd.R_drew));exact Kd.R_mono HO151.out (fun _ hk=>trivial)⟩,⟨bel_⟩⟩
             ·rw [if_neg c22] at H
              exact absurd H (by simp)
            ·rw [if_neg c21] at H
             exact absurd H (by simp)
           ·rw [if_neg c20] at H
            have c20b0:decide (x13_2 < (l1.length:Int))=false:=df_ c20
            clear c20
            by_cases c26:0≤x11_8
            ·rw [if_pos c26] at H
             have c26b0:=eq_true c26
             have c26b1:decide (0≤x11_8)=true:=dt_ c26
             clear c26
             by_cases c27:x11_8≤(l0.length:Int)
             ·rw [if_pos c27] at H
              have c27b0:=eq_true c27
              have c27b1:decide (x11_8≤(l0.length:Int))=true:=dt_ c27
              clear c27
              obtain ⟨y152,hy152⟩:∃ y_:List (S37),y_=(l0.drop (x11_8:Int).toNat):=⟨_,rfl⟩
              replace H:(if x12_2.length+y152.length < 4398046511104 then (some (x12_2++y152)) else (none))=some r:=by first|(rw [hy152];with_reducible exact H)|(have H2_:=(Option.bind_some _ _).symm.trans H;rw [hy152];with_reducible exact H2_)|(have H2_:=(Option.bind_some _ _).symm.trans H;with_reducible exact H2_)|with_reducible exact H|(rw [hy152];exact H)|exact H
              have Ny152:=a_ hy152
              clear hy152
              by_cases c28:x12_2.length+y152.length < 4398046511104
              ·rw [if_pos c28] at H
               have LMc28:=a_ c28
               clear c28
               obtain ⟨y156,hy156⟩:∃ y_:List (S37),y_=(x12_2++y152):=⟨_,rfl⟩
               replace H:(some y156)=some r:=by first|(rw [hy156];with_reducible exact H)|(have H2_:=(Option.bind_some _ _).symm.trans H;rw [hy156];with_reducible exact H2_)|(have H2_:=(Option.bind_some _ _).symm.trans H;with_reducible exact H2_)|with_reducible exact H|(rw [hy156];exact H)|exact H
               have Ny156:=a_ hy156
               clear hy156
               obtain rfl:=sj_ H
               have q29:(x11_8:Int)≤((l0.length:Int):Int):=od_
               obtain ⟨i029,hi029,_,hsz29,_⟩:=info_parts info37
               have hroom29:l0.length≤c0:=HC0.out
               have hC29:Kd.C k37 _ (some ad133) l0.length l0:=HR0.out
               have q029:(0:Int)≤(x11_8:Int):=od_
               have hcut29:=cut_from (P:=Tryd.prog) 23 37 .i64 Tryd.underlying23 hi029 3 hsz29 (some ad133) l0.length c0 x11_8 q029 q29
               have hr29:=Kd.C_drop (m:=(x11_8:Int).toNat) (c:=c0) hC29 (by omega) hroom29
               obtain ⟨A29,hA29⟩:∃ A1,A1=(if c0=(x11_8:Int).toNat then (some ad133) else ((some ad133):Option Addr).map (·.add ((x11_8:Int).toNat * 3))):=⟨_,rfl⟩
               obtain ⟨c29,hc29⟩:∃ c1,c1=c0 - (x11_8:Int).toNat:=⟨_,rfl⟩
               have hy29:y152.length=l0.length - (x11_8:Int).toNat:=(by rw [Ny152.out,List.length_drop] <;> omega)
               rw [show (l0).drop (x11_8:Int).toNat=y152 from Ny152.out.symm] at hr29
               replace hr29:Kd.C k37 _ A29 y152.length y152:=(by rw [hA29];exact hr29)
               rw [←hy29,←hA29,←hc29] at hcut29
               have HR155:=a_ hr29
               have HC155:=a_ (show y152.length≤c29 from by rw [hy29,hc29];exact Nat.sub_le_sub_right hroom29 _)
               clear hr29 hC29 hroom29 hi029 hsz29 hc29
               have KY29:=a_ hy29
               have KA29:=a_ hA29
               clear hy29 hA29
               replace q29:=eq_true q29
               go_wp2_with (first|((with_reducible refine gate_builtin (b:=.append) (xs:=#[.tmp 62,.tmp 65]) rfl ?_);at_builtin;refine Kd.R_append_rows k37 (w0:=w) w.heap.size rfl (.tmp 62) (.tmp 65) 23 37 (.agg #[(.int .i64 0),(.int .i64 0),(.string ⟨#[]⟩)]) 32 rfl Tryd.underlying23 info37 rfl (by decide) (by omega) u12 x12_2 y152 _ _ _ (fun _=>True) (fun _=>False) rfl rfl ?aO ?aR (fun _ _ h=>h) (fun _ h=>h.elim) ?aF ?aB ?aS ?aL ?_;(case aR=>exact cx_ (Kd.C_below HR155.out HB.out));(case aB=>exact (bel_));(case aF=>exact (fun _ _=>trivial));(case aO=>exact (rp_ HO_12.out));(case aS=>exact (below_size (bel_)));(case aL=>have:=LMc28.out;omega);intro v157 w30 ho hb hg hat;rw [←Ny156.out] at ho;replace HB:=a_ (hb);have HO158:=a_ (ho);clear HO_12;clear ho hb hg hat))
               go_ret
               exact ⟨_,fi_,by (with_reducible repeat (first|apply Kd.R_alloc|apply Kd.R_drewN|apply Kd.R_drew));exact HO158.out,bel_⟩
              ·rw [if_neg c28] at H
               exact absurd H (by simp)
             ·rw [if_neg c27] at H
              exact absurd H (by simp)
            ·rw [if_neg c26] at H
             exact absurd H (by simp)
        ·rw [if_neg c15] at H
         exact absurd H (by simp)
       ·rw [if_neg c14] at H
        exact absurd H (by simp)
      ·rw [if_neg c13] at H
       exact absurd H (by simp)
   ·rw [if_neg c8] at H
    exact absurd H (by simp)
  ·rw [if_neg c7] at H
   exact absurd H (by simp)
 ·rw [if_neg c6] at H
  exact absurd H (by simp)

def spec_l3Do.f (k:Nat) (l0:List (S37)) (a1_0:Int) (a1_1:Int) (a1_2:Int) (a1_3:Int) (a1_4:ByteArray):Option ((List (S37))):=(spec_l2At.f k l0 a1_1).bind fun t160=>(if a1_0=2 then ((some (([]:List (S37)):List (S37))).bind fun y161=>(if y161.length+l0.length < 4398046511104 then ((some (y161++l0:List (S37))).bind fun y164=>(if t160≥0 then (if 0≤t160 then (if t160 < (y164.length:Int) then (some (y164.set (t160:Int).toNat (⟨(rd_T37 y164 t160).f0,(rd_T37 y164 t160).f1,a1_4⟩:S37))) else (none)) else (none)) else (some y164))) else (none))) else ((spec_l3Where.f k l0 a1_0 a1_1 a1_2 a1_3 a1_4).bind fun bt168=>(if bt168.2.2=true then (if a1_0=1 then ((spec_l3Put.f k l0 (([(⟨a1_1,0,a1_4⟩:S37)]:List (S37))) bt168.1 bt168.2.1).bind fun t180=>(some t180)) else ((spec_l2End.f k l0 t160).bind fun t183=>((some (([]:List (S37)):List (S37))).bind fun y184=>(if 0≤t160 then (if t160≤t183 then (if t183≤(l0.length:Int) then ((some ((l0.take (t183:Int).toNat).drop (t160:Int).toNat:List (S37))).bind fun y187=>(if y184.length+y187.length < 4398046511104 then ((some (([]:List (S37)):List (S37))).bind fun y194=>(if t160≤(l0.length:Int) then ((some (l0.take (t160:Int).toNat:List (S37))).bind fun y197=>(if y194.length+y197.length < 4398046511104 then ((some (y194++y197:List (S37))).bind fun y201=>(if 0≤t183 then ((some (l0.drop (t183:Int).toNat:List (S37))).bind fun y204=>(if y201.length+y204.length < 4398046511104 then ((spec_l3Put.f k (y201++y204) (y184++y187) bt168.1 bt168.2.1).bind fun t211=>(some t211)) else (none))) else (none))) else (none))) else (none))) else (none))) else (none)) else (none)) else (none))))) else ((some (([]:List (S37)):List (S37))).bind fun y171=>(if y171.length+l0.length < 4398046511104 then (some (y171++l0)) else (none))))))
theorem spec_l3Do.mono:∀ a0 a1 a2 a3 a4 a5 k,LeO (spec_l3Do.f k a0 a1 a2 a3 a4 a5) (spec_l3Do.f (k+1) a0 a1 a2 a3 a4 a5):=by
 intro a0 a1 a2 a3 a4 a5 k
 unfold spec_l3Do.f
 repeat' first
   | (with_reducible exact spec_l2At.mono _ _ _)
   | (with_reducible exact spec_l2End.mono _ _ _)
   | (with_reducible exact spec_l3Put.mono _ _ _ _ _)
   | (with_reducible exact spec_l3Where.mono _ _ _ _ _ _ _)
   | (with_reducible exact LeO.refl _)
   | (with_reducible exact LeO.none _)
   | (with_reducible refine LeO.ite ?_ ?_)
   | (with_reducible refine LeO.bind ?_ (fun _=>?_))
def spec_l3Do.T14:Bool×List (List Nat×List Nat):=(true,[([],[]),([],[]),([],[]),([1,2],[1,2]),([0,3],[0,3]),([],[]),([],[]),([5,6],[5,6]),([4,7,4],[4,7]),([8,8,0,1,2,3,4,5,6,7,8],[8])])
def spec_l3Do.B14:List Nat:=[0,0,0,6,15,0,0,96,255,511]
theorem spec_l3Do.tab14:rtab .any (opsOf Tryd.f81 14)=spec_l3Do.T14:=by kernel_rfl
theorem spec_l3Do.bits14:waitsOk spec_l3Do.T14.2 spec_l3Do.B14=true:=by kernel_rfl
theorem spec_l3Do.calls (k:Nat) (A0:Option Addr) (c0:Nat) (l0:List (S37)) (a1_0:Int) (a1_1:Int) (a1_2:Int) (a1_3:Int) (a1_4:ByteArray) (r:List (S37)) (w:World) (hr0:Kd.C k37 w A0 l0.length l0) (hc0:l0.length≤c0) (h:spec_l3Do.f k l0 a1_0 a1_1 a1_2 a1_3 a1_4=some r) :
  Calls Tryd.prog 81 #[.slice A0 l0.length c0,.agg #[.int .i64 a1_0,.int .i64 a1_1,.int .i64 a1_2,.int .i64 a1_3,.string a1_4]] w fun e w'=>∃ v0_:Value,e=.returned (v0_)∧Kd.R k37 37 w' w.heap.size (fun _=>True) v0_ r∧Below w.heap.size w w':=by
 have hu27:=Tryd.underlying27
 have hu37:=Tryd.underlying37
 have HR0:=a_ hr0
 have HC0:=a_ hc0
 clear hr0 hc0
 have HB:=a_ (Below.refl w.heap.size w)
 unfold spec_l3Do.f at h
 have H:=h
 clear h
 replace H:=bs_ H
 obtain ⟨t160,A30,H⟩:=H
 try dsimp only at H
 have A3:=a_ A30
 clear A30
 by_cases c4:a1_0=2
 ·rw [if_pos c4] at H
  have c4b0:(a1_0==2)=true:=beq_iff_eq.mpr c4
  have c4b1:(a1_0 != 2)=false:=be_ c4
  clear c4
  obtain ⟨y161,hy161⟩:∃ y_:List (S37),y_=(([]:List (S37))):=⟨_,rfl⟩
  replace H:(if y161.length+l0.length < 4398046511104 then ((some (y161++l0:List (S37))).bind fun y164=>(if t160≥0 then (if 0≤t160 then (if t160 < (y164.length:Int) then (some (y164.set (t160:Int).toNat (⟨(rd_T37 y164 t160).f0,(rd_T37 y164 t160).f1,a1_4⟩:S37))) else (none)) else (none)) else (some y164))) else (none))=some r:=by first|(rw [hy161];with_reducible exact H)|(have H2_:=(Option.bind_some _ _).symm.trans H;rw [hy161];with_reducible exact H2_)|(have H2_:=(Option.bind_some _ _).symm.trans H;with_reducible exact H2_)|with_reducible exact H|(rw [hy161];exact H)|exact H
  have Ny161:=a_ hy161
  clear hy161
  by_cases c5:y161.length+l0.length < 4398046511104
  ·rw [if_pos c5] at H
   have LMc5:=a_ c5
   clear c5
   obtain ⟨y164,hy164⟩:∃ y_:List (S37),y_=(y161++l0):=⟨_,rfl⟩
   replace H:(if t160≥0 then (if 0≤t160 then (if t160 < (y164.length:Int) then (some (y164.set (t160:Int).toNat (⟨(rd_T37 y164 t160).f0,(rd_T37 y164 t160).f1,a1_4⟩:S37))) else (none)) else (none)) else (some y164))=some r:=by first|(rw [hy164];with_reducible exact H)|(have H2_:=(Option.bind_some _ _).symm.trans H;rw [hy164];with_reducible exact H2_)|(have H2_:=(Option.bind_some _ _).symm.trans H;with_reducible exact H2_)|with_reducible exact H|(rw [hy164];exact H)|exact H
   have Ny164:=a_ hy164
   clear hy164
   by_cases c6:t160≥0
   ·rw [if_pos c6] at H
    have c6b0:decide (0≤t160)=true:=dt_ c6
    clear c6
    by_cases c7:0≤t160
    ·rw [if_pos c7] at H
     have c7b0:decide (0≤t160)=true:=dt_ c7
     clear c7
     by_cases c8:t160 < (y164.length:Int)
     ·rw [if_pos c8] at H
      have c8b0:decide (t160 < (y164.length:Int))=true:=dt_ c8
      clear c8
      obtain ⟨y167,hy167⟩:∃ y_:List (S37),y_=(y164.set (t160:Int).toNat (⟨(rd_T37 y164 t160).f0,(rd_T37 y164 t160).f1,a1_4⟩:S37)):=⟨_,rfl⟩
      replace H:(some y167)=some r:=by first|(rw [hy167];with_reducible exact H)|(have H2_:=(Option.bind_some _ _).symm.trans H;rw [hy167];with_reducible exact H2_)|(have H2_:=(Option.bind_some _ _).symm.trans H;with_reducible exact H2_)|with_reducible exact H|(rw [hy167];exact H)|exact H
      have Ny167:=a_ hy167
      clear hy167
      obtain rfl:=sj_ H
      go_enter Tryd.func81,Tryd.ntmps81
      go_wp2_with (first|((with_reducible refine gD_ (N:=3) rfl ?_);refine bx_ 3 (#[.int .i64 a1_0,.int .i64 a1_1,.int .i64 a1_2,.int .i64 a1_3,.string a1_4]) 27 ?_;intro gb159 hg w10 hbox hb;have n0_:=a_ (bS_ (bel_) hb);have n1_:=a_ (hbox);have n2_:=a_ ((by rw [hg];exact (below_size (bel_)):w.heap.size≤gb159));have n3_:=a_ ((by rw [hg];exact (below_size (bel_)):w.heap.size≤gb159));clear HB;have HB:=n0_;have BK159:=n1_;have GW159:=n2_;have GE159:=n3_;clear n0_ n1_ n2_ n3_;clear hb hbox hg;obtain ⟨Z11_0,Z11_1,Z11_2,Z11_3,Z11_4,Y11_0,Y11_1,Y11_2,Y11_3,Y11_4⟩:=op5_ BK159.out)|((with_reducible refine gC_ (f:=54) rfl ?_);refine gl_ 16 Tryd.func54 #[.slice A0 l0.length c0,.int .i64 a1_1] ?_;(with_reducible refine (spec_l2At.calls k _ _ l0 a1_1 t160 _ ?side1 ?side2 A3.out).mono ?_);(case side1=>exact cp_ HR0.out);(case side2=>exact HC0.out);rintro e w' ⟨rfl,⟨nd,rfl⟩⟩;refine ⟨_,rfl,?_⟩;(try (rw [drewN_self w10];generalize hq_:World.drewN w10 _=w10;have n0_:Aside0 (w10.heap[gb159]?=some (.cells #[.int .i64 a1_0,.int .i64 a1_1,.int .i64 a1_2,.int .i64 a1_3,.string a1_4] 27 (0,0))):=⟨by rw [←hq_];exact (bp_ BK159.out)⟩;have n1_:Aside0 (Below w.heap.size w w10):=⟨by rw [←hq_];exact (bel_)⟩;clear BK159 HB hq_;have BK159:=n0_;have HB:=n1_;clear n0_ n1_;obtain ⟨Zy159_0,Zy159_1,Zy159_2,Zy159_3,Zy159_4,Yy159_0,Yy159_1,Yy159_2,Yy159_3,Yy159_4⟩:=op5_ BK159.out)))|((with_reducible refine gD_ (N:=20) rfl ?_);refine Kd.R_lit k37 _ 37 ?hg (N:=20) ?hd (xs:=([]:List (S37))) (inner:=[]) (ok:=fun _=>True) (okp:=fun _=>True) ?hr ?hp (fun _ hk=>hk) trivial (Below.refl _ _) (Nat.le_refl _) (by simp) ?_;(case hd=>rfl);(case hg=>rfl);(case hr=>first|(go_simp;done)|(go_simp;rfl));(case hp=>exact (Reps.none _ _));intro v162 w12 ho13 hb hg_ hnew_;clear hg_ hnew_;(first|rw [←Ny161.out] at ho13|(simp only [Int.reduceToNat] at ho13;rw [←Ny161.out] at ho13));have HO163:=a_ (Kd.R_lower ho13 (below_size (bel_)));replace HB:=a_ (bS_ (bel_) hb);replace BK159:=a_ (bb_ BK159.out hb);clear hb ho13)|((with_reducible refine gate_builtin (b:=.append) (xs:=#[.tmp 20,.tmp 21]) rfl ?_);at_builtin;refine Kd.R_append_rows k37 (w0:=w) w.heap.size rfl (.tmp 20) (.tmp 21) 23 37 (.agg #[(.int .i64 0),(.int .i64 0),(.string ⟨#[]⟩)]) 32 rfl Tryd.underlying23 info37 rfl (by decide) (by omega) v162 y161 l0 _ _ _ (fun _=>True) (fun _=>False) rfl rfl ?aO ?aR (fun _ _ h=>h) (fun _ h=>h.elim) ?aF ?aB ?aS ?aL ?_;(case aR=>exact cx_ (Kd.C_below HR0.out HB.out));(case aB=>exact (bel_));(case aF=>exact (fun _ _=>trivial));(case aO=>exact (rp_ HO163.out));(case aS=>exact (below_size (bel_)));(case aL=>have:=LMc5.out;omega);intro v165 w14 ho hb hg hat;rw [←Ny164.out] at ho;replace BK159:=a_ (blk_grown (g:=gb159) (o:=.cells #[.int .i64 a1_0,.int .i64 a1_1,.int .i64 a1_2,.int .i64 a1_3,.string a1_4] 27 (0,0)) (bp_ BK159.out) hg (Kd.R_ne HO163.out BK159.out (by decide)));replace HB:=a_ (hb);have HO166:=a_ (ho);clear HO163;clear ho hb hg hat;obtain ⟨Z15_0,Z15_1,Z15_2,Z15_3,Z15_4,Y15_0,Y15_1,Y15_2,Y15_3,Y15_4⟩:=op5_ BK159.out;have p9:0≤(t160:Int):=od_;have q9:(t160:Int) < ((y164.length:Int):Int):=od_;obtain ⟨go9,co9,eo9,gb9,gl9,cl9,HG9⟩:=Kd.R_form HO166.out (by omega);(first|cases eo9|(injection eo9 with ea_ en_ ec_;(first|subst ea_|(injection ea_ with ea_;subst ea_));subst ec_;clear en_));have GB9:=a_ gb9;have GG9:=a_ HG9;clear gb9 gl9 HG9;obtain ⟨ce9,hcl9,hM9,hcc9,hfr9⟩:=Kd.R_elem HO166.out z37 (t160:Int) p9 q9;obtain rfl:=k37_openM hM9;have hx9_0:w14.cell? ⟨go9,(t160:Int).toNat * 3,none⟩=some (.int .i64 ((rd_T37 y164 t160).f0)):=hcc9 0 _ rfl;have hx9_1:w14.cell? ⟨go9,(t160:Int).toNat * 3+1,none⟩=some (.int .i64 ((rd_T37 y164 t160).f1)):=hcc9 1 _ rfl;have hx9_2:w14.cell? ⟨go9,(t160:Int).toNat * 3+2,none⟩=some (.string ((rd_T37 y164 t160).f2)):=hcc9 2 _ rfl;have hf9_0:w14.frozen? ⟨go9,(t160:Int).toNat * 3,none⟩=false:=hfr9 0;have hf9_1:w14.frozen? ⟨go9,(t160:Int).toNat * 3+1,none⟩=false:=hfr9 1;have hf9_2:w14.frozen? ⟨go9,(t160:Int).toNat * 3+2,none⟩=false:=hfr9 2;clear hcl9 hcc9 hfr9 hM9;replace p9:=eq_true p9;replace q9:=eq_true q9;have HX16:=a_ (show Kd.R k37 37 w14 w.heap.size (fun _=>True) (.slice (some ⟨go9,0,none⟩) y164.length co9) y164 from (rp_ HO166.out));obtain ⟨ce16,hcl16,hM16,hcc16,hfr16⟩:=Kd.R_elem HX16.out z37 (t160:Int) (od_) (by have h_:(t160:Int) < ((y164.length:Int):Int):=od_;first|exact h_|(have e_:=(Kd.R_reads' HO166.out).1;omega)|simpa using h_);obtain rfl:=k37_openM hM16;have HP16:=Kd.R_seg HX16.out (t160:Int) (od_) (by have h_:(t160:Int) < ((y164.length:Int):Int):=od_;first|exact h_|(have e_:=(Kd.R_reads' HO166.out).1;omega)|simpa using h_) (seg:=[.string a1_4]) (j:=2) hcl16 hcc16 (show 3≤3 from by decide) (x':=(⟨(rd_T37 y164 t160).f0,(rd_T37 y164 t160).f1,a1_4⟩:S37)) (k37_mkM _ _ _ (⟨(rd_T37 y164 t160).f0,(rd_T37 y164 t160).f1,a1_4⟩:S37) ) (fun _ hk=>hk);have hx16_2:=hcc16 2 _ rfl;(try simp only [show (k37).sz=3 from rfl,Nat.mul_one,Nat.add_zero] at hx16_2);have hf16_2:=hfr16 2;(try simp only [show (k37).sz=3 from rfl,Nat.mul_one,Nat.add_zero] at hf16_2);clear hcl16 hcc16 hfr16 hM16)|((with_reducible refine gate_store (t:=9) (p:=30) rfl ?_);refine store_event (t:=9) (p:=30) (v:=?vo_w17) (w1:=(w14.setCell ⟨go9,(t160:Int).toNat * 3+2,none⟩ (.string a1_4))) ?hg ?ho ?hn ?hr ?_;(case ho=>rfl);(case hg=>rfl);(case hn=>rfl);(case hr=>first|(go_simp;done)|(go_simp;rfl));intro w17 hw;have hg:w14.grownBy w17 (some go9):=(by rw [hw];exact HP16.2);have hp_:Kd.R k37 37 w17 w.heap.size (fun _=>True) (.slice (some ⟨go9,0,none⟩) y164.length co9) y167:=(by rw [hw,Ny167.out];exact HP16.1);clear HP16;have n0_:=a_ (blk_grown (g:=gb159) (o:=.cells #[.int .i64 a1_0,.int .i64 a1_1,.int .i64 a1_2,.int .i64 a1_3,.string a1_4] 27 (0,0)) (bp_ BK159.out) hg (Kd.R_ne HO166.out BK159.out (by decide)));have n1_:=a_ (hp_);have n2_:=a_ ((by rw [hw];exact wS_ (HB.out) GB9.out:Below w.heap.size w w17));clear BK159;clear HO166;clear HB;have BK159:=n0_;have HO166:=n1_;have HB:=n2_;clear n0_ n1_ n2_;clear hg hw hp_))
      go_ret
      exact ⟨_,fi_,by (with_reducible repeat (first|apply Kd.R_alloc|apply Kd.R_drewN|apply Kd.R_drew));exact HO166.out,bel_⟩
     ·rw [if_neg c8] at H
      exact absurd H (by simp)
    ·rw [if_neg c7] at H
     exact absurd H (by simp)
   ·rw [if_neg c6] at H
    have c6b0:decide (0≤t160)=false:=df_ c6
    clear c6
    obtain rfl:=sj_ H
    go_enter Tryd.func81,Tryd.ntmps81
    go_wp2_with (first|((with_reducible refine gD_ (N:=3) rfl ?_);refine bx_ 3 (#[.int .i64 a1_0,.int .i64 a1_1,.int .i64 a1_2,.int .i64 a1_3,.string a1_4]) 27 ?_;intro gb159 hg w18 hbox hb;have n0_:=a_ (bS_ (bel_) hb);have n1_:=a_ (hbox);have n2_:=a_ ((by rw [hg];exact (below_size (bel_)):w.heap.size≤gb159));have n3_:=a_ ((by rw [hg];exact (below_size (bel_)):w.heap.size≤gb159));clear HB;have HB:=n0_;have BK159:=n1_;have GW159:=n2_;have GE159:=n3_;clear n0_ n1_ n2_ n3_;clear hb hbox hg;obtain ⟨Z19_0,Z19_1,Z19_2,Z19_3,Z19_4,Y19_0,Y19_1,Y19_2,Y19_3,Y19_4⟩:=op5_ BK159.out)|((with_reducible refine gC_ (f:=54) rfl ?_);refine gl_ 16 Tryd.func54 #[.slice A0 l0.length c0,.int .i64 a1_1] ?_;(with_reducible refine (spec_l2At.calls k _ _ l0 a1_1 t160 _ ?side1 ?side2 A3.out).mono ?_);(case side1=>exact cp_ HR0.out);(case side2=>exact HC0.out);rintro e w' ⟨rfl,⟨nd,rfl⟩⟩;refine ⟨_,rfl,?_⟩)|((with_reducible refine gD_ (N:=20) rfl ?_);refine Kd.R_lit k37 _ 37 ?hg (N:=20) ?hd (xs:=([]:List (S37))) (inner:=[]) (ok:=fun _=>True) (okp:=fun _=>True) ?hr ?hp (fun _ hk=>hk) trivial (Below.refl _ _) (Nat.le_refl _) (by simp) ?_;(case hd=>rfl);(case hg=>rfl);(case hr=>first|(go_simp;done)|(go_simp;rfl));(case hp=>exact (Reps.none _ _));intro v162 w20 ho21 hb hg_ hnew_;clear hg_ hnew_;(first|rw [←Ny161.out] at ho21|(simp only [Int.reduceToNat] at ho21;rw [←Ny161.out] at ho21));have HO163:=a_ (Kd.R_lower ho21 (below_size (bel_)));replace HB:=a_ (bS_ (bel_) hb);replace BK159:=a_ (bb_ BK159.out hb);clear hb ho21)|((with_reducible refine gate_builtin (b:=.append) (xs:=#[.tmp 20,.tmp 21]) rfl ?_);at_builtin;refine Kd.R_append_rows k37 (w0:=w) w.heap.size rfl (.tmp 20) (.tmp 21) 23 37 (.agg #[(.int .i64 0),(.int .i64 0),(.string ⟨#[]⟩)]) 32 rfl Tryd.underlying23 info37 rfl (by decide) (by omega) v162 y161 l0 _ _ _ (fun _=>True) (fun _=>False) rfl rfl ?aO ?aR (fun _ _ h=>h) (fun _ h=>h.elim) ?aF ?aB ?aS ?aL ?_;(case aR=>exact cx_ (Kd.C_below HR0.out HB.out));(case aB=>exact (bel_));(case aF=>exact (fun _ _=>trivial));(case aO=>exact (rp_ HO163.out));(case aS=>exact (below_size (bel_)));(case aL=>have:=LMc5.out;omega);intro v165 w22 ho hb hg hat;rw [←Ny164.out] at ho;replace BK159:=a_ (blk_grown (g:=gb159) (o:=.cells #[.int .i64 a1_0,.int .i64 a1_1,.int .i64 a1_2,.int .i64 a1_3,.string a1_4] 27 (0,0)) (bp_ BK159.out) hg (Kd.R_ne HO163.out BK159.out (by decide)));replace HB:=a_ (hb);have HO166:=a_ (ho);clear HO163;clear ho hb hg hat))
    go_ret
    exact ⟨_,fi_,by (with_reducible repeat (first|apply Kd.R_alloc|apply Kd.R_drewN|apply Kd.R_drew));exact HO166.out,bel_⟩
  ·rw [if_neg c5] at H
   exact absurd H (by simp)
 ·rw [if_neg c4] at H
  have c4b0:(a1_0==2)=false:=bn_ c4
  have c4b1:(a1_0 != 2)=true:=bne_iff_ne.mpr c4
  replace H:=bs_ H
  obtain ⟨⟨t168,t169,t170⟩,A230,H⟩:=H
  try dsimp only at H
  have A23:=a_ A230
  clear A230
  by_cases c24:t170=true
  ·subst c24
   have H1:(if a1_0=1 then ((spec_l3Put.f k l0 (([(⟨a1_1,0,a1_4⟩:S37)]:List (S37))) t168 t169).bind fun t180=>(some t180)) else ((spec_l2End.f k l0 t160).bind fun t183=>((some (([]:List (S37)):List (S37))).bind fun y184=>(if 0≤t160 then (if t160≤t183 then (if t183≤(l0.length:Int) then ((some ((l0.take (t183:Int).toNat).drop (t160:Int).toNat:List (S37))).bind fun y187=>(if y184.length+y187.length < 4398046511104 then ((some (([]:List (S37)):List (S37))).bind fun y194=>(if t160≤(l0.length:Int) then ((some (l0.take (t160:Int).toNat:List (S37))).bind fun y197=>(if y194.length+y197.length < 4398046511104 then ((some (y194++y197:List (S37))).bind fun y201=>(if 0≤t183 then ((some (l0.drop (t183:Int).toNat:List (S37))).bind fun y204=>(if y201.length+y204.length < 4398046511104 then ((spec_l3Put.f k (y201++y204) (y184++y187) t168 t169).bind fun t211=>(some t211)) else (none))) else (none))) else (none))) else (none))) else (none))) else (none)) else (none)) else (none)))))=some r:=by rw [if_pos rfl] at H;exact H
   clear H
   have H:=H1
   clear H1
   by_cases c25:a1_0=1
   ·rw [if_pos c25] at H
    have c25b0:(a1_0==1)=true:=beq_iff_eq.mpr c25
    have c25b1:(a1_0 != 1)=false:=be_ c25
    clear c25
    obtain ⟨y177,hy177⟩:∃ y_:List (S37),y_=(([(⟨a1_1,0,a1_4⟩:S37)]:List (S37))):=⟨_,rfl⟩
    replace H:((spec_l3Put.f k l0 y177 t168 t169).bind fun t180=>(some t180))=some r:=by first|(rw [hy177];with_reducible exact H)|(have H2_:=(Option.bind_some _ _).symm.trans H;rw [hy177];with_reducible exact H2_)|(have H2_:=(Option.bind_some _ _).symm.trans H;with_reducible exact H2_)|with_reducible exact H|(rw [hy177];exact H)|exact H
    have Ny177:=a_ hy177
    clear hy177
    replace H:=bs_ H
    obtain ⟨t180,A260,H⟩:=H
    try dsimp only at H
    have A26:=a_ A260
    clear A260
    obtain rfl:=sj_ H
    go_enter Tryd.func81,Tryd.ntmps81
    go_wp2_with (first|((with_reducible refine gD_ (N:=3) rfl ?_);refine bx_ 3 (#[.int .i64 a1_0,.int .i64 a1_1,.int .i64 a1_2,.int .i64 a1_3,.string a1_4]) 27 ?_;intro gb159 hg w27 hbox hb;have n0_:=a_ (bS_ (bel_) hb);have n1_:=a_ (hbox);have n2_:=a_ ((by rw [hg];exact (below_size (bel_)):w.heap.size≤gb159));have n3_:=a_ ((by rw [hg];exact (below_size (bel_)):w.heap.size≤gb159));clear HB;have HB:=n0_;have BK159:=n1_;have GW159:=n2_;have GE159:=n3_;clear n0_ n1_ n2_ n3_;clear hb hbox hg;obtain ⟨Z28_0,Z28_1,Z28_2,Z28_3,Z28_4,Y28_0,Y28_1,Y28_2,Y28_3,Y28_4⟩:=op5_ BK159.out)|((with_reducible refine gC_ (f:=54) rfl ?_);refine gl_ 16 Tryd.func54 #[.slice A0 l0.length c0,.int .i64 a1_1] ?_;(with_reducible refine (spec_l2At.calls k _ _ l0 a1_1 t160 _ ?side1 ?side2 A3.out).mono ?_);(case side1=>exact cp_ HR0.out);(case side2=>exact HC0.out);rintro e w' ⟨rfl,⟨nd,rfl⟩⟩;refine ⟨_,rfl,?_⟩)|((with_reducible refine gC_ (f:=79) rfl ?_);refine gl_ 35 Tryd.func79 #[.slice A0 l0.length c0,.agg #[.int .i64 a1_0,.int .i64 a1_1,.int .i64 a1_2,.int .i64 a1_3,.string a1_4]] ?_;(with_reducible refine (spec_l3Where.calls k _ _ l0 a1_0 a1_1 a1_2 a1_3 a1_4 t168 t169 true _ ?side1 ?side2 A23.out).mono ?_);(case side1=>repeat (first|exact (Kd.C_below HR0.out (bel_))|(with_reducible refine Kd.C_alloc ?_ _)|(with_reducible refine Kd.C_drewN ?_ _)|(with_reducible refine Kd.C_drew ?_)));(case side2=>exact HC0.out);rintro e w29 ⟨rfl,hb⟩;refine ⟨_,rfl,?_⟩;replace HB:=a_ (bS_ (bel_) hb);replace BK159:=a_ (bb_ BK159.out hb);(try clear hb);obtain ⟨Z30_0,Z30_1,Z30_2,Z30_3,Z30_4,Y30_0,Y30_1,Y30_2,Y30_3,Y30_4⟩:=op5_ BK159.out)|((with_reducible refine gD_ (N:=53) rfl ?_);refine Kd.R_lit k37 _ 37 ?hg (N:=53) ?hd (xs:=([(⟨a1_1,0,a1_4⟩:S37)]:List (S37))) (inner:=[.int .i64 a1_1,.int .i64 0,.string a1_4]) (ok:=fun _=>True) (okp:=fun _=>True) ?hr ?hp (fun _ hk=>hk) trivial (Below.refl _ _) (Nat.le_refl _) (by simp) ?_;(case hd=>rfl);(case hg=>rfl);(case hr=>first|(go_simp;done)|(go_simp;rfl));(case hp=>exact (Reps.c3 (show Kd.M k37 _ _ _ (⟨a1_1,0,a1_4⟩:S37) [.int .i64 a1_1,.int .i64 0,.string a1_4] from (k37_mkM _ _ _ (⟨a1_1,0,a1_4⟩:S37) )) (Reps.none _ _)));intro v178 w31 ho32 hb hg_ hnew_;clear hg_ hnew_;(first|rw [←Ny177.out] at ho32|(simp only [Int.reduceToNat] at ho32;rw [←Ny177.out] at ho32));have HO179:=a_ (Kd.R_lower ho32 (below_size (bel_)));replace HB:=a_ (bS_ (bel_) hb);replace BK159:=a_ (bb_ BK159.out hb);clear hb ho32;obtain ⟨Ao33,co33,eo33⟩:=Kd.R_slice HO179.out;subst eo33)|((with_reducible refine gC_ (f:=108) rfl ?_);refine gl_ 56 Tryd.func108 #[.slice A0 l0.length c0,.slice Ao33 y177.length co33,.int .i64 t168,.int .i64 t169] ?_;(with_reducible refine (spec_l3Put.calls k _ _ l0 _ _ y177 t168 t169 t180 _ ?side1 ?side2 ?side3 ?side4 A26.out).mono ?_);(case side1=>exact cp_ HR0.out);(case side2=>exact HC0.out);(case side3=>exact cx_ (Kd.R_reads' HO179.out).2.2);(case side4=>exact (Kd.R_reads' HO179.out).2.1);rintro e w34 ⟨v181,rfl,ho0,hb⟩;refine ⟨_,rfl,?_⟩;have HO182:=a_ (Kd.R_lower (Kd.R_new' ho0 (Kd.R_lt (rp_ HO179.out))) (below_size (bel_)));replace HO179:=a_ (Kd.R_elder' (rp_ HO179.out) (Kd.R_base ho0) hb);replace HB:=a_ (bS_ (bel_) hb);replace BK159:=a_ (bb_ BK159.out hb);(try clear hb ho0)))
    go_ret
    exact ⟨_,fi_,by (with_reducible repeat (first|apply Kd.R_alloc|apply Kd.R_drewN|apply Kd.R_drew));exact Kd.R_mono HO182.out (fun _ hk=>trivial),bel_⟩
   ·rw [if_neg c25] at H
    have c25b0:(a1_0==1)=false:=bn_ c25
    have c25b1:(a1_0 != 1)=true:=bne_iff_ne.mpr c25
    replace H:=bs_ H
    obtain ⟨t183,A350,H⟩:=H
    try dsimp only at H
    have A35:=a_ A350
    clear A350
    obtain ⟨y184,hy184⟩:∃ y_:List (S37),y_=(([]:List (S37))):=⟨_,rfl⟩
    replace H:(if 0≤t160 then (if t160≤t183 then (if t183≤(l0.length:Int) then ((some ((l0.take (t183:Int).toNat).drop (t160:Int).toNat:List (S37))).bind fun y187=>(if y184.length+y187.length < 4398046511104 then ((some (([]:List (S37)):List (S37))).bind fun y194=>(if t160≤(l0.length:Int) then ((some (l0.take (t160:Int).toNat:List (S37))).bind fun y197=>(if y194.length+y197.length < 4398046511104 then ((some (y194++y197:List (S37))).bind fun y201=>(if 0≤t183 then ((some (l0.drop (t183:Int).toNat:List (S37))).bind fun y204=>(if y201.length+y204.length < 4398046511104 then ((spec_l3Put.f k (y201++y204) (y184++y187) t168 t169).bind fun t211=>(some t211)) else (none))) else (none))) else (none))) else (none))) else (none))) else (none)) else (none)) else (none))=some r:=by first|(rw [hy184];with_reducible exact H)|(have H2_:=(Option.bind_some _ _).symm.trans H;rw [hy184];with_reducible exact H2_)|(have H2_:=(Option.bind_some _ _).symm.trans H;with_reducible exact H2_)|with_reducible exact H|(rw [hy184];exact H)|exact H
    have Ny184:=a_ hy184
    clear hy184
    by_cases c36:0≤t160
    ·rw [if_pos c36] at H
     have c36b0:=eq_true c36
     have c36b1:decide (0≤t160)=true:=dt_ c36
     clear c36
     by_cases c37:t160≤t183
     ·rw [if_pos c37] at H
      have c37b0:=eq_true c37
      have c37b1:decide (t160≤t183)=true:=dt_ c37
      clear c37
      by_cases c38:t183≤(l0.length:Int)
      ·rw [if_pos c38] at H
       have c38b0:=eq_true c38
       have c38b1:decide (t183≤(l0.length:Int))=true:=dt_ c38
       clear c38
       obtain ⟨y187,hy187⟩:∃ y_:List (S37),y_=((l0.take (t183:Int).toNat).drop (t160:Int).toNat):=⟨_,rfl⟩
       replace H:(if y184.length+y187.length < 4398046511104 then ((some (([]:List (S37)):List (S37))).bind fun y194=>(if t160≤(l0.length:Int) then ((some (l0.take (t160:Int).toNat:List (S37))).bind fun y197=>(if y194.length+y197.length < 4398046511104 then ((some (y194++y197:List (S37))).bind fun y201=>(if 0≤t183 then ((some (l0.drop (t183:Int).toNat:List (S37))).bind fun y204=>(if y201.length+y204.length < 4398046511104 then ((spec_l3Put.f k (y201++y204) (y184++y187) t168 t169).bind fun t211=>(some t211)) else (none))) else (none))) else (none))) else (none))) else (none))=some r:=by first|(rw [hy187];with_reducible exact H)|(have H2_:=(Option.bind_some _ _).symm.trans H;rw [hy187];with_reducible exact H2_)|(have H2_:=(Option.bind_some _ _).symm.trans H;with_reducible exact H2_)|with_reducible exact H|(rw [hy187];exact H)|exact H
       have Ny187:=a_ hy187
       clear hy187
       by_cases c39:y184.length+y187.length < 4398046511104
       ·rw [if_pos c39] at H
        have LMc39:=a_ c39
        clear c39
        obtain ⟨y191,hy191⟩:∃ y_:List (S37),y_=(y184++y187):=⟨_,rfl⟩
        replace H:((some (([]:List (S37)):List (S37))).bind fun y194=>(if t160≤(l0.length:Int) then ((some (l0.take (t160:Int).toNat:List (S37))).bind fun y197=>(if y194.length+y197.length < 4398046511104 then ((some (y194++y197:List (S37))).bind fun y201=>(if 0≤t183 then ((some (l0.drop (t183:Int).toNat:List (S37))).bind fun y204=>(if y201.length+y204.length < 4398046511104 then ((spec_l3Put.f k (y201++y204) y191 t168 t169).bind fun t211=>(some t211)) else (none))) else (none))) else (none))) else (none)))=some r:=by first|(rw [hy191];with_reducible exact H)|(have H2_:=(Option.bind_some _ _).symm.trans H;rw [hy191];with_reducible exact H2_)|(have H2_:=(Option.bind_some _ _).symm.trans H;with_reducible exact H2_)|with_reducible exact H|(rw [hy191];exact H)|exact H
        have Ny191:=a_ hy191
        clear hy191
        obtain ⟨y194,hy194⟩:∃ y_:List (S37),y_=(([]:List (S37))):=⟨_,rfl⟩
        replace H:(if t160≤(l0.length:Int) then ((some (l0.take (t160:Int).toNat:List (S37))).bind fun y197=>(if y194.length+y197.length < 4398046511104 then ((some (y194++y197:List (S37))).bind fun y201=>(if 0≤t183 then ((some (l0.drop (t183:Int).toNat:List (S37))).bind fun y204=>(if y201.length+y204.length < 4398046511104 then ((spec_l3Put.f k (y201++y204) y191 t168 t169).bind fun t211=>(some t211)) else (none))) else (none))) else (none))) else (none))=some r:=by first|(rw [hy194];with_reducible exact H)|(have H2_:=(Option.bind_some _ _).symm.trans H;rw [hy194];with_reducible exact H2_)|(have H2_:=(Option.bind_some _ _).symm.trans H;with_reducible exact H2_)|with_reducible exact H|(rw [hy194];exact H)|exact H
        have Ny194:=a_ hy194
        clear hy194
        have c40b0:=eq_true (od_:0≤t160)
        by_cases c41:t160≤(l0.length:Int)
        ·rw [if_pos c41] at H
         have c41b0:=eq_true c41
         have c41b1:decide (t160≤(l0.length:Int))=true:=dt_ c41
         clear c41
         obtain ⟨y197,hy197⟩:∃ y_:List (S37),y_=(l0.take (t160:Int).toNat):=⟨_,rfl⟩
         replace H:(if y194.length+y197.length < 4398046511104 then ((some (y194++y197:List (S37))).bind fun y201=>(if 0≤t183 then ((some (l0.drop (t183:Int).toNat:List (S37))).bind fun y204=>(if y201.length+y204.length < 4398046511104 then ((spec_l3Put.f k (y201++y204) y191 t168 t169).bind fun t211=>(some t211)) else (none))) else (none))) else (none))=some r:=by first|(rw [hy197];with_reducible exact H)|(have H2_:=(Option.bind_some _ _).symm.trans H;rw [hy197];with_reducible exact H2_)|(have H2_:=(Option.bind_some _ _).symm.trans H;with_reducible exact H2_)|with_reducible exact H|(rw [hy197];exact H)|exact H
         have Ny197:=a_ hy197
         clear hy197
         by_cases c42:y194.length+y197.length < 4398046511104
         ·rw [if_pos c42] at H
          have LMc42:=a_ c42
          clear c42
          obtain ⟨y201,hy201⟩:∃ y_:List (S37),y_=(y194++y197):=⟨_,rfl⟩
          replace H:(if 0≤t183 then ((some (l0.drop (t183:Int).toNat:List (S37))).bind fun y204=>(if y201.length+y204.length < 4398046511104 then ((spec_l3Put.f k (y201++y204) y191 t168 t169).bind fun t211=>(some t211)) else (none))) else (none))=some r:=by first|(rw [hy201];with_reducible exact H)|(have H2_:=(Option.bind_some _ _).symm.trans H;rw [hy201];with_reducible exact H2_)|(have H2_:=(Option.bind_some _ _).symm.trans H;with_reducible exact H2_)|with_reducible exact H|(rw [hy201];exact H)|exact H
          have Ny201:=a_ hy201
          clear hy201
          by_cases c43:0≤t183
          ·rw [if_pos c43] at H
           have c43b0:=eq_true c43
           have c43b1:decide (0≤t183)=true:=dt_ c43
           clear c43
           have c44b0:=eq_true (od_:t183≤(l0.length:Int))
           obtain ⟨y204,hy204⟩:∃ y_:List (S37),y_=(l0.drop (t183:Int).toNat):=⟨_,rfl⟩
           replace H:(if y201.length+y204.length < 4398046511104 then ((spec_l3Put.f k (y201++y204) y191 t168 t169).bind fun t211=>(some t211)) else (none))=some r:=by first|(rw [hy204];with_reducible exact H)|(have H2_:=(Option.bind_some _ _).symm.trans H;rw [hy204];with_reducible exact H2_)|(have H2_:=(Option.bind_some _ _).symm.trans H;with_reducible exact H2_)|with_reducible exact H|(rw [hy204];exact H)|exact H
           have Ny204:=a_ hy204
           clear hy204
           by_cases c45:y201.length+y204.length < 4398046511104
           ·rw [if_pos c45] at H
            have LMc45:=a_ c45
            clear c45
            obtain ⟨y208,hy208⟩:∃ y_:List (S37),y_=(y201++y204):=⟨_,rfl⟩
            replace H:((spec_l3Put.f k y208 y191 t168 t169).bind fun t211=>(some t211))=some r:=by first|(rw [hy208];with_reducible exact H)|(have H2_:=(Option.bind_some _ _).symm.trans H;rw [hy208];with_reducible exact H2_)|(have H2_:=(Option.bind_some _ _).symm.trans H;with_reducible exact H2_)|with_reducible exact H|(rw [hy208];exact H)|exact H
            have Ny208:=a_ hy208
            clear hy208
            replace H:=bs_ H
            obtain ⟨t211,A460,H⟩:=H
            try dsimp only at H
            have A46:=a_ A460
            clear A460
            obtain rfl:=sj_ H
            go_enter Tryd.func81,Tryd.ntmps81
            try go_wp2_with (first|((with_reducible refine gD_ (N:=3) rfl ?_);refine bx_ 3 (#[.int .i64 a1_0,.int .i64 a1_1,.int .i64 a1_2,.int .i64 a1_3,.string a1_4]) 27 ?_;intro gb159 hg w47 hbox hb;have n0_:=a_ (bS_ (bel_) hb);have n1_:=a_ (hbox);have n2_:=a_ ((by rw [hg];exact (below_size (bel_)):w.heap.size≤gb159));have n3_:=a_ ((by rw [hg];exact (below_size (bel_)):w.heap.size≤gb159));clear HB;have HB:=n0_;have BK159:=n1_;have GW159:=n2_;have GE159:=n3_;clear n0_ n1_ n2_ n3_;clear hb hbox hg;obtain ⟨Z48_0,Z48_1,Z48_2,Z48_3,Z48_4,Y48_0,Y48_1,Y48_2,Y48_3,Y48_4⟩:=op5_ BK159.out)|((with_reducible refine gC_ (f:=54) rfl ?_);refine gl_ 16 Tryd.func54 #[.slice A0 l0.length c0,.int .i64 a1_1] ?_;(with_reducible refine (spec_l2At.calls k _ _ l0 a1_1 t160 _ ?side1 ?side2 A3.out).mono ?_);(case side1=>exact cp_ HR0.out);(case side2=>exact HC0.out);rintro e w' ⟨rfl,⟨nd,rfl⟩⟩;refine ⟨_,rfl,?_⟩)|((with_reducible refine gC_ (f:=79) rfl ?_);refine gl_ 35 Tryd.func79 #[.slice A0 l0.length c0,.agg #[.int .i64 a1_0,.int .i64 a1_1,.int .i64 a1_2,.int .i64 a1_3,.string a1_4]] ?_;(with_reducible refine (spec_l3Where.calls k _ _ l0 a1_0 a1_1 a1_2 a1_3 a1_4 t168 t169 true _ ?side1 ?side2 A23.out).mono ?_);(case side1=>repeat (first|exact (Kd.C_below HR0.out (bel_))|(with_reducible refine Kd.C_alloc ?_ _)|(with_reducible refine Kd.C_drewN ?_ _)|(with_reducible refine Kd.C_drew ?_)));(case side2=>exact HC0.out);rintro e w49 ⟨rfl,hb⟩;refine ⟨_,rfl,?_⟩;replace HB:=a_ (bS_ (bel_) hb);replace BK159:=a_ (bb_ BK159.out hb);(try clear hb);obtain ⟨Z50_0,Z50_1,Z50_2,Z50_3,Z50_4,Y50_0,Y50_1,Y50_2,Y50_3,Y50_4⟩:=op5_ BK159.out)|((with_reducible refine gC_ (f:=93) rfl ?_);refine gl_ 59 Tryd.func93 #[.slice A0 l0.length c0,.int .i64 t160] ?_;(with_reducible refine (spec_l2End.calls k _ _ l0 t160 t183 _ ?side1 ?side2 A35.out).mono ?_);(case side1=>exact cp_ HR0.out);(case side2=>exact HC0.out);rintro e w' ⟨rfl,⟨nd,rfl⟩⟩;refine ⟨_,rfl,?_⟩)|((with_reducible refine gD_ (N:=60) rfl ?_);refine Kd.R_lit k37 _ 37 ?hg (N:=60) ?hd (xs:=([]:List (S37))) (inner:=[]) (ok:=fun _=>True) (okp:=fun _=>True) ?hr ?hp (fun _ hk=>hk) trivial (Below.refl _ _) (Nat.le_refl _) (by simp) ?_;(case hd=>rfl);(case hg=>rfl);(case hr=>first|(go_simp;done)|(go_simp;rfl));(case hp=>exact (Reps.none _ _));intro v185 w51 ho52 hb hg_ hnew_;clear hg_ hnew_;(first|rw [←Ny184.out] at ho52|(simp only [Int.reduceToNat] at ho52;rw [←Ny184.out] at ho52));have HO186:=a_ (Kd.R_lower ho52 (below_size (bel_)));replace HB:=a_ (bS_ (bel_) hb);replace BK159:=a_ (bb_ BK159.out hb);clear hb ho52;have q53:(t183:Int)≤((l0.length:Int):Int):=od_;obtain ⟨i053,hi053,_,hsz53,_⟩:=info_parts info37;have hroom53:l0.length≤c0:=HC0.out;have hC53:Kd.C k37 _ A0 l0.length l0:=HR0.out;have ql53:(t160:Int)≤(t183:Int):=od_;have q053:(0:Int)≤(t160:Int):=od_;have hcut53:=cut_mid (P:=Tryd.prog) 23 37 .i64 .i64 Tryd.underlying23 hi053 3 hsz53 A0 l0.length c0 t160 t183 q053 ql53 q53 hroom53;have hr53:=Kd.C_mid (lo:=(t160:Int).toNat) (hi:=(t183:Int).toNat) (c:=c0) hC53 (by omega) (by omega) hroom53;obtain ⟨A53,hA53⟩:∃ A1,A1=(if c0=(t160:Int).toNat then A0 else (A0:Option Addr).map (·.add ((t160:Int).toNat * 3))):=⟨_,rfl⟩;obtain ⟨c53,hc53⟩:∃ c1,c1=c0 - (t160:Int).toNat:=⟨_,rfl⟩;have hy53:y187.length=(t183:Int).toNat - (t160:Int).toNat:=(by rw [Ny187.out,List.length_drop,List.length_take] <;> omega);rw [show ((l0).take (t183:Int).toNat).drop (t160:Int).toNat=y187 from Ny187.out.symm] at hr53;replace hr53:Kd.C k37 _ A53 y187.length y187:=(by rw [hA53];exact hr53);rw [←hy53,←hA53,←hc53] at hcut53;have HR190:=a_ hr53;have HC190:=a_ (show y187.length≤c53 from by rw [hy53,hc53];exact Nat.sub_le_sub_right (Nat.le_trans (by omega) hroom53) _);clear hr53 hC53 hroom53 hi053 hsz53 hc53;have KY53:=a_ hy53;have KA53:=a_ hA53;clear hy53 hA53;replace q53:=eq_true q53)|((with_reducible refine gate_builtin (b:=.append) (xs:=#[.tmp 60,.tmp 64]) rfl ?_);at_builtin;refine Kd.R_append_rows k37 (w0:=w) w.heap.size rfl (.tmp 60) (.tmp 64) 23 37 (.agg #[(.int .i64 0),(.int .i64 0),(.string ⟨#[]⟩)]) 32 rfl Tryd.underlying23 info37 rfl (by decide) (by omega) v185 y184 y187 _ _ _ (fun _=>True) (fun _=>False) rfl rfl ?aO ?aR (fun _ _ h=>h) (fun _ h=>h.elim) ?aF ?aB ?aS ?aL ?_;(case aR=>exact cx_ (Kd.C_below HR190.out HB.out));(case aB=>exact (bel_));(case aF=>exact (fun _ _=>trivial));(case aO=>exact (rp_ HO186.out));(case aS=>exact (below_size (bel_)));(case aL=>have:=LMc39.out;omega);intro v192 w54 ho hb hg hat;rw [←Ny191.out] at ho;replace BK159:=a_ (blk_grown (g:=gb159) (o:=.cells #[.int .i64 a1_0,.int .i64 a1_1,.int .i64 a1_2,.int .i64 a1_3,.string a1_4] 27 (0,0)) (bp_ BK159.out) hg (Kd.R_ne HO186.out BK159.out (by decide)));replace HB:=a_ (hb);have HO193:=a_ (ho);clear HO186;clear ho hb hg hat))
            have n0_:=a_ (Kd.R_drew HO193.out)
            have n1_:=a_ (bD_ BK159.out)
            have n2_:=a_ (below_drew1 HB.out)
            clear HO193
            clear BK159
            clear HB
            have HO193:=n0_
            have BK159:=n1_
            have HB:=n2_
            clear n0_ n1_ n2_
            have q56:(t160:Int)≤((l0.length:Int):Int):=od_
            obtain ⟨i056,hi056,_,hsz56,_⟩:=info_parts info37
            have hroom56:l0.length≤c0:=HC0.out
            have hC56:Kd.C k37 _ A0 l0.length l0:=HR0.out
            have hcut56:=cut_to (P:=Tryd.prog) 23 37 .i64 Tryd.underlying23 hi056 A0 l0.length c0 t160 (od_) q56 hroom56
            have hr56:=Kd.C_take (m:=(t160:Int).toNat) hC56 (by omega)
            have hy56:y197.length=(t160:Int).toNat:=(by rw [Ny197.out,List.length_take];omega)
            rw [←Ny197.out] at hr56
            rw [←hy56] at hcut56
            have HR200:=a_ hr56
            have HC200:=a_ (show y197.length≤c0 from by omega)
            clear hr56 hC56 hroom56 hi056 hsz56
            have KY56:=a_ hy56
            clear hy56
            replace q56:=eq_true q56
            have q57:(t183:Int)≤((l0.length:Int):Int):=od_
            obtain ⟨i057,hi057,_,hsz57,_⟩:=info_parts info37
            have hroom57:l0.length≤c0:=HC0.out
            have hC57:Kd.C k37 _ A0 l0.length l0:=HR0.out
            have q057:(0:Int)≤(t183:Int):=od_
            have hcut57:=cut_from (P:=Tryd.prog) 23 37 .i64 Tryd.underlying23 hi057 3 hsz57 A0 l0.length c0 t183 q057 q57
            have hr57:=Kd.C_drop (m:=(t183:Int).toNat) (c:=c0) hC57 (by omega) hroom57
            obtain ⟨A57,hA57⟩:∃ A1,A1=(if c0=(t183:Int).toNat then A0 else (A0:Option Addr).map (·.add ((t183:Int).toNat * 3))):=⟨_,rfl⟩
            obtain ⟨c57,hc57⟩:∃ c1,c1=c0 - (t183:Int).toNat:=⟨_,rfl⟩
            have hy57:y204.length=l0.length - (t183:Int).toNat:=(by rw [Ny204.out,List.length_drop] <;> omega)
            rw [show (l0).drop (t183:Int).toNat=y204 from Ny204.out.symm] at hr57
            replace hr57:Kd.C k37 _ A57 y204.length y204:=(by rw [hA57];exact hr57)
            rw [←hy57,←hA57,←hc57] at hcut57
            have HR207:=a_ hr57
            have HC207:=a_ (show y204.length≤c57 from by rw [hy57,hc57];exact Nat.sub_le_sub_right hroom57 _)
            clear hr57 hC57 hroom57 hi057 hsz57 hc57
            have KY57:=a_ hy57
            have KA57:=a_ hA57
            clear hy57 hA57
            replace q57:=eq_true q57
            refine start_ (n:=10) (S:=fun w'=>True) (ds:=[]) #[false,false,false,false,false,false,false,false,false,false] (by kernel_rfl) rfl rfl trivial (fun hHeld=>?_);refine with_tabW spec_l3Do.tab14 spec_l3Do.bits14 (fun HT_ HW_=>?_)
            generalize w54.drew=w55 at HO193 BK159 HB HR200 HR207 hHeld ⊢
            refine pa_ 1 67 ?_
            refine pa_ 2 68 ?_
            refine pa_ 3 69 ?_
            refine pa_ 5 71 ?_
            refine pa_ 6 72 ?_
            refine pa_ 7 73 ?_
            refine on_ 0 66 (fun K hK=>?_)
            refine Kd.R_lit_step k37 _ 37 ?hg (N:=66) ?hd (xs:=([]:List (S37))) (inner:=[]) (ok:=fun _=>True) (okp:=fun _=>True) ?hr ?hp (fun _ hk=>hk) trivial (Below.refl _ _) (Nat.le_refl _) (by simp) ?_;(case hd=>rfl);(case hg=>rfl);(case hr=>first|(go_simp;done)|(go_simp;rfl));(case hp=>exact (Reps.none _ _))
            intro v195 w58 ho59 hb hg_ hnew_
            clear hg_ hnew_
            (first|rw [←Ny194.out] at ho59|(simp only [Int.reduceToNat] at ho59;rw [←Ny194.out] at ho59))
            have n0_:=a_ (Kd.R_elder' (rp_ HO193.out) (Kd.R_base ho59) hb)
            have n1_:=a_ (Kd.R_lower (Kd.R_new' ho59 (Kd.R_lt (rp_ HO193.out))) (below_size (bel_)))
            have n2_:=a_ (bb_ BK159.out hb)
            have n3_:=a_ (bS_ (bel_) hb)
            clear HO193
            clear BK159
            clear HB
            have HO193:=n0_
            have HO196:=n1_
            have BK159:=n2_
            have HB:=n3_
            clear n0_ n1_ n2_ n3_
            clear hb ho59
            refine hK.out _ _ trivial (fun hHeld=>?_)
            clear hK K
            refine no_ 66 ?_
            refine on_ 4 70 (fun K hK=>?_)
            refine Kd.R_append_rows_step k37 (w0:=w) w.heap.size (by rfl) (.tmp 66) (.tmp 69) 23 37 (.agg #[(.int .i64 0),(.int .i64 0),(.string ⟨#[]⟩)]) 32 rfl Tryd.underlying23 info37 rfl (by decide) (by omega) v195 y194 y197 _ _ _ (fun k_=>some k_≠(v192:Value).ownBlock) (fun _=>False) rfl rfl ?aO ?aR (fun _ _ h=>h) (fun _ h=>h.elim) ?aF ?aB ?aS ?aL ?_
            (case aR=>exact cx_ (Kd.C_below HR200.out HB.out))
            (case aB=>exact (bel_))
            (case aF=>exact (fun k_ hk=>Kd.fresh' (Kd.R_lt (rp_ HO193.out)) k_ hk))
            (case aO=>exact (by (with_reducible repeat (first|apply Kd.R_alloc|apply Kd.R_drewN|apply Kd.R_drew));exact Kd.R_mono HO196.out (fun _ hk=>hk.2)))
            (case aS=>exact (below_size (bel_)))
            (case aL=>have:=LMc42.out;omega)
            intro v202 w60 ho hb hg hat
            rw [←Ny201.out] at ho
            have n0_:=a_ (blk_grown (g:=gb159) (o:=.cells #[.int .i64 a1_0,.int .i64 a1_1,.int .i64 a1_2,.int .i64 a1_3,.string a1_4] 27 (0,0)) (bp_ BK159.out) hg (Kd.R_ne HO196.out BK159.out (by decide)))
            have n1_:=a_ (Kd.R_after (ok:=(fun _=>True)) (rp_ HO193.out) hg hat)
            have n2_:=a_ (hb)
            have n3_:=a_ (ho)
            clear BK159
            clear HO193
            clear HB
            clear HO196
            have BK159:=n0_
            have HO193:=n1_
            have HB:=n2_
            have HO203:=n3_
            clear n0_ n1_ n2_ n3_
            clear ho hb hg hat
            refine hK.out _ _ trivial (fun hHeld=>?_)
            clear hK K
            refine no_ 70 ?_
            refine on_ 8 74 (fun K hK=>?_)
            refine Kd.R_append_rows_step k37 (w0:=w) w.heap.size (by rfl) (.tmp 70) (.tmp 73) 23 37 (.agg #[(.int .i64 0),(.int .i64 0),(.string ⟨#[]⟩)]) 32 rfl Tryd.underlying23 info37 rfl (by decide) (by omega) v202 y201 y204 _ _ _ (fun k_=>some k_≠(v192:Value).ownBlock) (fun _=>False) rfl rfl ?aO ?aR (fun _ _ h=>h) (fun _ h=>h.elim) ?aF ?aB ?aS ?aL ?_
            (case aR=>exact cx_ (Kd.C_below HR207.out HB.out))
            (case aB=>exact (bel_))
            (case aF=>exact (fun k_ hk=>Kd.fresh' (Kd.R_lt (rp_ HO193.out)) k_ hk))
            (case aO=>exact (rp_ HO203.out))
            (case aS=>exact (below_size (bel_)))
            (case aL=>have:=LMc45.out;omega)
            intro v209 w61 ho hb hg hat
            rw [←Ny208.out] at ho
            have n0_:=a_ (blk_grown (g:=gb159) (o:=.cells #[.int .i64 a1_0,.int .i64 a1_1,.int .i64 a1_2,.int .i64 a1_3,.string a1_4] 27 (0,0)) (bp_ BK159.out) hg (Kd.R_ne HO203.out BK159.out (by decide)))
            have n1_:=a_ (Kd.R_after (ok:=(fun _=>True)) (rp_ HO193.out) hg hat)
            have n2_:=a_ (hb)
            have n3_:=a_ (ho)
            clear BK159
            clear HO193
            clear HB
            clear HO203
            have BK159:=n0_
            have HO193:=n1_
            have HB:=n2_
            have HO210:=n3_
            clear n0_ n1_ n2_ n3_
            clear ho hb hg hat
            refine hK.out _ _ trivial (fun hHeld=>?_)
            clear hK K
            refine no_ 74 ?_
            refine pa_ 9 12 ?_
            refine done_ (done_of HT_.out (by kernel_rfl)) ?_
            obtain ⟨Ao62,co62,eo62⟩:=Kd.R_slice HO210.out
            subst eo62
            obtain ⟨Ao63,co63,eo63⟩:=Kd.R_slice HO193.out
            subst eo63
            try go_wp2_with (first|((with_reducible refine gC_ (f:=108) rfl ?_);refine gl_ 79 Tryd.func108 #[.slice Ao62 y208.length co62,.slice Ao63 y191.length co63,.int .i64 t168,.int .i64 t169] ?_;(with_reducible refine (spec_l3Put.calls k _ _ y208 _ _ y191 t168 t169 t211 _ ?side1 ?side2 ?side3 ?side4 A46.out).mono ?_);(case side1=>exact cx_ (Kd.R_reads' HO210.out).2.2);(case side2=>exact (Kd.R_reads' HO210.out).2.1);(case side3=>exact cx_ (Kd.R_reads' HO193.out).2.2);(case side4=>exact (Kd.R_reads' HO193.out).2.1);rintro e w64 ⟨v212,rfl,ho0,hb⟩;refine ⟨_,rfl,?_⟩;have HO213:=a_ (Kd.R_lower (Kd.R_new' (Kd.R_new' ho0 (Kd.R_lt (rp_ HO193.out))) (Kd.R_lt (rp_ HO210.out))) (below_size (bel_)));replace HO193:=a_ (Kd.R_elder' (rp_ HO193.out) (Kd.R_base ho0) hb);replace HO210:=a_ (Kd.R_elder' (rp_ HO210.out) (Kd.R_base ho0) hb);replace HB:=a_ (bS_ (bel_) hb);replace BK159:=a_ (bb_ BK159.out hb);(try clear hb ho0)))
            go_ret
            exact ⟨_,fi_,by (with_reducible repeat (first|apply Kd.R_alloc|apply Kd.R_drewN|apply Kd.R_drew));exact Kd.R_mono HO213.out (fun _ hk=>trivial),bel_⟩
           ·rw [if_neg c45] at H
            exact absurd H (by simp)
          ·rw [if_neg c43] at H
           exact absurd H (by simp)
         ·rw [if_neg c42] at H
          exact absurd H (by simp)
        ·rw [if_neg c41] at H
         exact absurd H (by simp)
       ·rw [if_neg c39] at H
        exact absurd H (by simp)
      ·rw [if_neg c38] at H
       exact absurd H (by simp)
     ·rw [if_neg c37] at H
      exact absurd H (by simp)
    ·rw [if_neg c36] at H
     exact absurd H (by simp)
  ·replace c24:=Bool.eq_false_iff.mpr c24
   subst c24
   have H1:((some (([]:List (S37)):List (S37))).bind fun y171=>(if y171.length+l0.length < 4398046511104 then (some (y171++l0)) else (none)))=some r:=by rw [if_neg (show ¬ (false=true) by decide)] at H;exact H
   clear H
   have H:=H1
   clear H1
   obtain ⟨y171,hy171⟩:∃ y_:List (S37),y_=(([]:List (S37))):=⟨_,rfl⟩
   replace H:(if y171.length+l0.length < 4398046511104 then (some (y171++l0)) else (none))=some r:=by first|(rw [hy171];with_reducible exact H)|(have H2_:=(Option.bind_some _ _).symm.trans H;rw [hy171];with_reducible exact H2_)|(have H2_:=(Option.bind_some _ _).symm.trans H;with_reducible exact H2_)|with_reducible exact H|(rw [hy171];exact H)|exact H
   have Ny171:=a_ hy171
   clear hy171
   by_cases c65:y171.length+l0.length < 4398046511104
   ·rw [if_pos c65] at H
    have LMc65:=a_ c65
    clear c65
    obtain ⟨y174,hy174⟩:∃ y_:List (S37),y_=(y171++l0):=⟨_,rfl⟩
    replace H:(some y174)=some r:=by first|(rw [hy174];with_reducible exact H)|(have H2_:=(Option.bind_some _ _).symm.trans H;rw [hy174];with_reducible exact H2_)|(have H2_:=(Option.bind_some _ _).symm.trans H;with_reducible exact H2_)|with_reducible exact H|(rw [hy174];exact H)|exact H
    have Ny174:=a_ hy174
    clear hy174
    obtain rfl:=sj_ H
    go_enter Tryd.func81,Tryd.ntmps81
    go_wp2_with (first|((with_reducible refine gD_ (N:=3) rfl ?_);refine bx_ 3 (#[.int .i64 a1_0,.int .i64 a1_1,.int .i64 a1_2,.int .i64 a1_3,.string a1_4]) 27 ?_;intro gb159 hg w66 hbox hb;have n0_:=a_ (bS_ (bel_) hb);have n1_:=a_ (hbox);have n2_:=a_ ((by rw [hg];exact (below_size (bel_)):w.heap.size≤gb159));have n3_:=a_ ((by rw [hg];exact (below_size (bel_)):w.heap.size≤gb159));clear HB;have HB:=n0_;have BK159:=n1_;have GW159:=n2_;have GE159:=n3_;clear n0_ n1_ n2_ n3_;clear hb hbox hg;obtain ⟨Z67_0,Z67_1,Z67_2,Z67_3,Z67_4,Y67_0,Y67_1,Y67_2,Y67_3,Y67_4⟩:=op5_ BK159.out)|((with_reducible refine gC_ (f:=54) rfl ?_);refine gl_ 16 Tryd.func54 #[.slice A0 l0.length c0,.int .i64 a1_1] ?_;(with_reducible refine (spec_l2At.calls k _ _ l0 a1_1 t160 _ ?side1 ?side2 A3.out).mono ?_);(case side1=>exact cp_ HR0.out);(case side2=>exact HC0.out);rintro e w' ⟨rfl,⟨nd,rfl⟩⟩;refine ⟨_,rfl,?_⟩)|((with_reducible refine gC_ (f:=79) rfl ?_);refine gl_ 35 Tryd.func79 #[.slice A0 l0.length c0,.agg #[.int .i64 a1_0,.int .i64 a1_1,.int .i64 a1_2,.int .i64 a1_3,.string a1_4]] ?_;(with_reducible refine (spec_l3Where.calls k _ _ l0 a1_0 a1_1 a1_2 a1_3 a1_4 t168 t169 false _ ?side1 ?side2 A23.out).mono ?_);(case side1=>repeat (first|exact (Kd.C_below HR0.out (bel_))|(with_reducible refine Kd.C_alloc ?_ _)|(with_reducible refine Kd.C_drewN ?_ _)|(with_reducible refine Kd.C_drew ?_)));(case side2=>exact HC0.out);rintro e w68 ⟨rfl,hb⟩;refine ⟨_,rfl,?_⟩;replace HB:=a_ (bS_ (bel_) hb);replace BK159:=a_ (bb_ BK159.out hb);(try clear hb))|((with_reducible refine gD_ (N:=41) rfl ?_);refine Kd.R_lit k37 _ 37 ?hg (N:=41) ?hd (xs:=([]:List (S37))) (inner:=[]) (ok:=fun _=>True) (okp:=fun _=>True) ?hr ?hp (fun _ hk=>hk) trivial (Below.refl _ _) (Nat.le_refl _) (by simp) ?_;(case hd=>rfl);(case hg=>rfl);(case hr=>first|(go_simp;done)|(go_simp;rfl));(case hp=>exact (Reps.none _ _));intro v172 w69 ho70 hb hg_ hnew_;clear hg_ hnew_;(first|rw [←Ny171.out] at ho70|(simp only [Int.reduceToNat] at ho70;rw [←Ny171.out] at ho70));have HO173:=a_ (Kd.R_lower ho70 (below_size (bel_)));replace HB:=a_ (bS_ (bel_) hb);replace BK159:=a_ (bb_ BK159.out hb);clear hb ho70)|((with_reducible refine gate_builtin (b:=.append) (xs:=#[.tmp 41,.tmp 42]) rfl ?_);at_builtin;refine Kd.R_append_rows k37 (w0:=w) w.heap.size rfl (.tmp 41) (.tmp 42) 23 37 (.agg #[(.int .i64 0),(.int .i64 0),(.string ⟨#[]⟩)]) 32 rfl Tryd.underlying23 info37 rfl (by decide) (by omega) v172 y171 l0 _ _ _ (fun _=>True) (fun _=>False) rfl rfl ?aO ?aR (fun _ _ h=>h) (fun _ h=>h.elim) ?aF ?aB ?aS ?aL ?_;(case aR=>exact cx_ (Kd.C_below HR0.out HB.out));(case aB=>exact (bel_));(case aF=>exact (fun _ _=>trivial));(case aO=>exact (rp_ HO173.out));(case aS=>exact (below_size (bel_)));(case aL=>have:=LMc65.out;omega);intro v175 w71 ho hb hg hat;rw [←Ny174.out] at ho;replace BK159:=a_ (blk_grown (g:=gb159) (o:=.cells #[.int .i64 a1_0,.int .i64 a1_1,.int .i64 a1_2,.int .i64 a1_3,.string a1_4] 27 (0,0)) (bp_ BK159.out) hg (Kd.R_ne HO173.out BK159.out (by decide)));replace HB:=a_ (hb);have HO176:=a_ (ho);clear HO173;clear ho hb hg hat))
    go_ret
    exact ⟨_,fi_,by (with_reducible repeat (first|apply Kd.R_alloc|apply Kd.R_drewN|apply Kd.R_drew));exact HO176.out,bel_⟩
   ·rw [if_neg c65] at H
    exact absurd H (by simp)

mutual
def spec_l71Tree.l0:Nat→List (S37)→Int→List Int→Int→Option ((List (S37))×Int)
 | 0,_,_,_,_=>none
 | k+1,x3,x4,x1000,x1001=>if x4 > 0 then (if (x3.length:Int) > 3 then ((spec_l6Rd_pick.f k x1000 x1001 3).bind fun bt244=>(spec_l71Tree.j1 k x3 x4 1 (decide (bt244.1 > 0)) x1000 bt244.2)) else (spec_l71Tree.j1 k x3 x4 1 false x1000 x1001)) else (spec_l71Tree.l1 k x3 0 x1000 x1001)
def spec_l71Tree.j1:Nat→List (S37)→Int→Int→Bool→List Int→Int→Option ((List (S37))×Int)
 | 0,_,_,_,_,_,_=>none
 | k+1,x3,x4,x5,x23,x1000,x1001=>if x23=true then ((spec_l6Rd_pick.f k x1000 x1001 (x3.length:Int)).bind fun bt246=>(if 0≤bt246.1 then (if bt246.1 < (x3.length:Int) then (spec_l71Tree.j2 k x3 x4 ((rd_T37 x3 bt246.1).f0) x1000 bt246.2) else (none)) else (none))) else (spec_l71Tree.j2 k x3 x4 x5 x1000 x1001)
def spec_l71Tree.j2:Nat→List (S37)→Int→Int→List Int→Int→Option ((List (S37))×Int)
 | 0,_,_,_,_,_=>none
 | k+1,x3,x4,x5,x1000,x1001=>(spec_l2Kids.f k x3 x5).bind fun t249=>(if (t249.length:Int) > 0 then ((spec_l6Rd_pick.f k x1000 x1001 2).bind fun bt252=>(spec_l71Tree.j3 k x3 x4 x5 t249 0 (bt252.1==0) x1000 bt252.2)) else (spec_l71Tree.j3 k x3 x4 x5 t249 0 false x1000 x1001))
def spec_l71Tree.j3:Nat→List (S37)→Int→Int→List Int→Int→Bool→List Int→Int→Option ((List (S37))×Int)
 | 0,_,_,_,_,_,_,_,_=>none
 | k+1,x3,x4,x5,x6,x7,x42,x1000,x1001=>if x42=true then ((spec_l6Rd_pick.f k x1000 x1001 (x6.length:Int)).bind fun bt254=>(if 0≤bt254.1 then (if bt254.1 < (x6.length:Int) then ((spec_l71Id.f k x1000 bt254.2).bind fun bt257=>((spec_l71Text.f k x1000 bt257.2).bind fun bt259=>((spec_l3Do.f k x3 1 bt257.1 x5 (rd x6 bt254.1) bt259.1).bind fun t261=>(spec_l71Tree.l0 k t261 (wrap64 (x4 - 1)) x1000 bt259.2)))) else (none)) else (none))) else ((spec_l71Id.f k x1000 x1001).bind fun bt264=>((spec_l71Text.f k x1000 bt264.2).bind fun bt266=>((spec_l3Do.f k x3 1 bt264.1 x5 x7 bt266.1).bind fun t268=>(spec_l71Tree.l0 k t268 (wrap64 (x4 - 1)) x1000 bt266.2))))
def spec_l71Tree.l1:Nat→List (S37)→Int→List Int→Int→Option ((List (S37))×Int)
 | 0,_,_,_,_=>none
 | k+1,x3,x8,x1000,x1001=>if x8 < (x3.length:Int) then (if 0≤x8 then ((spec_l1Text.f k ((rd_T37 x3 x8).f2)).bind fun t272=>(if t272=true then (spec_l71Tree.l1 k x3 (wrap64 (x8+1)) x1000 x1001) else ((spec_l6Rd_pick.f k x1000 x1001 2).bind fun bt273=>(if bt273.1=0 then (spec_l71Tree.l1 k (x3.set (x8:Int).toNat (⟨(rd_T37 x3 x8).f0,(rd_T37 x3 x8).f1,(⟨#[]⟩:ByteArray)⟩:S37)) (wrap64 (x8+1)) x1000 bt273.2) else (spec_l71Tree.l1 k x3 (wrap64 (x8+1)) x1000 bt273.2))))) else (none)) else ((spec_l6Rd_pick.f k x1000 x1001 24).bind fun bt276=>(if bt276.1=0 then ((spec_l6Rd_pick.f k x1000 bt276.2 (x3.length:Int)).bind fun bt278=>((spec_l6Rd_pick.f k x1000 bt278.2 5).bind fun bt280=>(if 0≤bt278.1 then (if bt278.1 < (x3.length:Int) then (some ((x3.set (bt278.1:Int).toNat (⟨(rd_T37 x3 bt278.1).f0,bt280.1,(rd_T37 x3 bt278.1).f2⟩:S37)),bt280.2)) else (none)) else (none)))) else (if bt276.1=1 then ((spec_l6Rd_pick.f k x1000 bt276.2 (x3.length:Int)).bind fun bt283=>(if 0≤bt283.1 then (if bt283.1 < (x3.length:Int) then (if x3.length < 4398046511104 then (some ((x3++[(⟨(rd_T37 x3 bt283.1).f0,(rd_T37 x3 bt283.1).f1,(rd_T37 x3 bt283.1).f2⟩:S37)]),bt283.2)) else (none)) else (none)) else (none))) else (if bt276.1=2 then (if 1≤(x3.length:Int) then (some ((x3.drop (1:Int).toNat),bt276.2)) else (none)) else (some (x3,bt276.2))))))
end
def spec_l71Tree.f (k:Nat) (s0_0:List Int) (s0_1:Int):Option ((List (S37))×Int):=(spec_TreeNew.f).bind fun t239=>((spec_l6Rd_pick.f k s0_0 s0_1 11).bind fun bt242=>(spec_l71Tree.l0 k t239 bt242.1 s0_0 bt242.2))
theorem spec_l71Tree.mono_l:∀ k,(∀ y0 y1 y2 y3,LeO (spec_l71Tree.l0 k y0 y1 y2 y3) (spec_l71Tree.l0 (k+1) y0 y1 y2 y3))∧(∀ y0 y1 y2 y3 y4 y5,LeO (spec_l71Tree.j1 k y0 y1 y2 y3 y4 y5) (spec_l71Tree.j1 (k+1) y0 y1 y2 y3 y4 y5))∧(∀ y0 y1 y2 y3 y4,LeO (spec_l71Tree.j2 k y0 y1 y2 y3 y4) (spec_l71Tree.j2 (k+1) y0 y1 y2 y3 y4))∧(∀ y0 y1 y2 y3 y4 y5 y6 y7,LeO (spec_l71Tree.j3 k y0 y1 y2 y3 y4 y5 y6 y7) (spec_l71Tree.j3 (k+1) y0 y1 y2 y3 y4 y5 y6 y7))∧(∀ y0 y1 y2 y3,LeO (spec_l71Tree.l1 k y0 y1 y2 y3) (spec_l71Tree.l1 (k+1) y0 y1 y2 y3))
 | 0=>⟨fun _ _ _ _ r h=>by simp [spec_l71Tree.l0] at h,fun _ _ _ _ _ _ r h=>by simp [spec_l71Tree.j1] at h,fun _ _ _ _ _ r h=>by simp [spec_l71Tree.j2] at h,fun _ _ _ _ _ _ _ _ r h=>by simp [spec_l71Tree.j3] at h,fun _ _ _ _ r h=>by simp [spec_l71Tree.l1] at h⟩
 | k+1=>by
  obtain ⟨ih0,ih1,ih2,ih3,ih4⟩:=spec_l71Tree.mono_l k
  refine ⟨?_,?_,?_,?_,?_⟩
  all_goals intros
  all_goals first|unfold spec_l71Tree.l0|unfold spec_l71Tree.j1|unfold spec_l71Tree.j2|unfold spec_l71Tree.j3|unfold spec_l71Tree.l1
  all_goals repeat' first
  | (with_reducible exact ih0 _ _ _ _)
  | (with_reducible exact ih1 _ _ _ _ _ _)
  | (with_reducible exact ih2 _ _ _ _ _)
  | (with_reducible exact ih3 _ _ _ _ _ _ _ _)
  | (with_reducible exact ih4 _ _ _ _)
  | (with_reducible exact spec_l1Text.mono _ _)
  | (with_reducible exact spec_l2Kids.mono _ _ _)
  | (with_reducible exact spec_l3Do.mono _ _ _ _ _ _ _)
  | (with_reducible exact spec_l6Rd_pick.mono _ _ _ _)
  | (with_reducible exact spec_l71Id.mono _ _ _)
  | (with_reducible exact spec_l71Text.mono _ _ _)
  | (with_reducible exact LeO.refl _)
  | (with_reducible exact LeO.none _)
  | (with_reducible refine LeO.ite ?_ ?_)
  | (with_reducible refine LeO.bind ?_ (fun _=>?_))
theorem spec_l71Tree.mono:∀ a0 a1 k,LeO (spec_l71Tree.f k a0 a1) (spec_l71Tree.f (k+1) a0 a1):=by
 intro a0 a1 k
 obtain ⟨ih0,ih1,ih2,ih3,ih4⟩:=spec_l71Tree.mono_l k
 unfold spec_l71Tree.f
 repeat' first
   | (with_reducible exact ih0 _ _ _ _)
   | (with_reducible exact ih1 _ _ _ _ _ _)
   | (with_reducible exact ih2 _ _ _ _ _)
   | (with_reducible exact ih3 _ _ _ _ _ _ _ _)
   | (with_reducible exact ih4 _ _ _ _)
   | (with_reducible exact spec_l1Text.mono _ _)
   | (with_reducible exact spec_l2Kids.mono _ _ _)
   | (with_reducible exact spec_l3Do.mono _ _ _ _ _ _ _)
   | (with_reducible exact spec_l6Rd_pick.mono _ _ _ _)
   | (with_reducible exact spec_l71Id.mono _ _ _)
   | (with_reducible exact spec_l71Text.mono _ _ _)
   | (with_reducible exact LeO.refl _)
   | (with_reducible exact LeO.none _)
   | (with_reducible refine LeO.ite ?_ ?_)
   | (with_reducible refine LeO.bind ?_ (fun _=>?_))
end Go.Proofs.YtlkheeegkifblaaDoor.P
