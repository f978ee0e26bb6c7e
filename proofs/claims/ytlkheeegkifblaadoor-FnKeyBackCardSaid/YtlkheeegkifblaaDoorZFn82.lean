/- FnKeyBack: a part. -/
import Derived.Test.YtlkheeegkifblaaDoorZFn81
set_option linter.unusedVariables false
set_option linter.unusedSimpArgs false
set_option linter.unusedSectionVars false
set_option maxHeartbeats 8000000
set_option maxRecDepth 100000
namespace Go.Proofs.YtlkheeegkifblaaDoor.P
open Go.RowKit Go.Proofs.YtlkheeegkifblaaDoorW.PrintWords Go.Proofs.YtlkheeegkifblaaDoorW.PrintLast
theorem spec_l71Text.mono_l:∀ k,(∀ y0 y1 y2 y3,LeO (spec_l71Text.l0 k y0 y1 y2 y3) (spec_l71Text.l0 (k+1) y0 y1 y2 y3))
 | 0=>fun _ _ _ _ r h=>by simp [spec_l71Text.l0] at h
 | k+1=>by
  have ih0:=spec_l71Text.mono_l k
  ·intro y0 y1 y2 y3
   unfold spec_l71Text.l0
   repeat' first
   | (with_reducible exact ih0 _ _ _ _)
   | (with_reducible exact spec_l6Rd_of.mono _ _ _ _)
   | (with_reducible exact spec_l6Rd_pick.mono _ _ _ _)
   | (with_reducible exact LeO.refl _)
   | (with_reducible exact LeO.none _)
   | (with_reducible refine LeO.ite ?_ ?_)
   | (with_reducible refine LeO.bind ?_ (fun _=>?_))
theorem spec_l71Text.mono:∀ a0 a1 k,LeO (spec_l71Text.f k a0 a1) (spec_l71Text.f (k+1) a0 a1):=by
 intro a0 a1 k
 have ih0:=spec_l71Text.mono_l k
 unfold spec_l71Text.f
 repeat' first
   | (with_reducible exact ih0 _ _ _ _)
   | (with_reducible exact spec_l6Rd_of.mono _ _ _ _)
   | (with_reducible exact spec_l6Rd_pick.mono _ _ _ _)
   | (with_reducible exact LeO.refl _)
   | (with_reducible exact LeO.none _)
   | (with_reducible refine LeO.ite ?_ ?_)
   | (with_reducible refine LeO.bind ?_ (fun _=>?_))
theorem spec_l71Text.calls (k:Nat) (g:Nat) (s0_0:List Int) (s0_1:Int) (r1:ByteArray) (r2:Int) (w0 w:World) (hI:IsS102 w0 w g s0_0 s0_1) (hB:Below w0.heap.size w0 w) (h:spec_l71Text.f k s0_0 s0_1=some (r1,r2)) :
  Calls Tryd.prog 112 #[.pointer (some ⟨g,0,none⟩)] w fun e w'=>e=.returned (.string r1)∧IsS102 w0 w' g s0_0 r2∧Below w0.heap.size w0 w'∧KeepBut w w' g none:=by
 have HI0:=a_ hI
 have HK:=a_ (KeepBut.refl w g none)
 have HL:=a_ hB.size
 clear hI
 have HW0:=a_ hB.size
 have HB:=a_ hB
 clear hB
 unfold spec_l71Text.f at h
 have H:=h
 clear h
 replace H:=bs_ H
 obtain ⟨⟨t225,t226⟩,A20,H⟩:=H
 try dsimp only at H
 have A2:=a_ A20
 clear A20
 have H':=a_ H
 clear H
 go_enter Tryd.func112,Tryd.ntmps112
 go_wp2_with (first|((with_reducible refine gC_ (f:=73) rfl ?_);refine gl_ 6 Tryd.func73 #[.pointer (some ⟨g,0,none⟩),.int .i64 4] ?_;(with_reducible refine (spec_l6Rd_pick.calls k g s0_0 s0_1 4 t225 t226 w0 _ ?side1 ?side2 A2.out).mono ?_);(case side1=>exact is_HI0);(case side2=>exact bel_);rintro e w3 ⟨rfl,hi,hb,hk⟩;refine ⟨_,rfl,?_⟩;replace HK:=a_ (KeepBut.trans (ke_) hk (.inl rfl));replace HB:=a_ (hb);replace HI0:=a_ (hi);(try clear hb hk hi)))
 go_loopg [3,4] k (fun kq v3 v4 w'=>∃ (x3_1:ByteArray) (x4_1:Int) (x1001_1:Int),v3=.string x3_1∧v4=.int .i64 x4_1∧Aside0 (spec_l71Text.l0 kq x3_1 x4_1 s0_0 x1001_1=some (r1,r2))∧Aside0 (kq≤k)∧Aside0 (IsS102 w0 w' g s0_0 x1001_1)∧Aside0 (KeepBut w w' g none)∧Aside0 (Below w0.heap.size w0 w'))
 case atStart=>exact ⟨((⟨#[]⟩:ByteArray)),(t225),(t226),(si_),(si_),H',⟨Nat.le_refl _⟩,⟨is_HI0⟩,⟨ke_⟩,⟨bel_⟩⟩
 case round =>
  clear H'
  try clear c1
  try clear p2
  obtain ⟨x3_1,x4_1,x1001_1,rfl,rfl,HA,HK1,HI0,HK,HB⟩:=hrel
  cases gk with
  | zero=>exact absurd HA.out (by simp [spec_l71Text.l0])
  | succ k1 =>
   have H:=HA.out
   clear HA
   simp only [spec_l71Text.l0] at H
   by_cases c4:x4_1 > 0
   ·rw [if_pos c4] at H
    have c4b0:decide (0 < x4_1)=true:=dt_ c4
    clear c4
    obtain ⟨y227,hy227⟩:∃ y_:List ByteArray,y_=(([(⟨#[97]⟩:ByteArray),(⟨#[98]⟩:ByteArray),(⟨#[99]⟩:ByteArray),(⟨#[100]⟩:ByteArray)]:List ByteArray)):=⟨_,rfl⟩
    replace H:((spec_l6Rd_of.f k1 s0_0 x1001_1 y227).bind fun bt230=>(if x3_1.size+bt230.1.size≤9223372036854775807 then (spec_l71Text.l0 k1 (x3_1++bt230.1) (wrap64 (x4_1 - 1)) s0_0 bt230.2) else (none)))=some (r1,r2):=by first|(rw [hy227];with_reducible exact H)|(have H2_:=(Option.bind_some _ _).symm.trans H;rw [hy227];with_reducible exact H2_)|(have H2_:=(Option.bind_some _ _).symm.trans H;with_reducible exact H2_)|with_reducible exact H|(rw [hy227];exact H)|exact H
    have Ny227:=a_ hy227
    clear hy227
    replace H:=bs_ H
    obtain ⟨⟨t230,t231⟩,A50,H⟩:=H
    try dsimp only at H
    have A5:=a_ A50
    clear A50
    by_cases c6:x3_1.size+t230.size≤9223372036854775807
    ·rw [if_pos c6] at H
     have c6b0:=eq_true c6
     have c6b1:decide (x3_1.size+t230.size≤9223372036854775807)=true:=dt_ c6
     try have c6b2:(9223372036854775807 < x3_1.size+t230.size)=False:=eq_false (Nat.not_lt.2 c6)
     have H':=a_ H
     clear H
     go_wp2_with (first|((with_reducible refine gD_ (N:=13) rfl ?_);refine Kd.R_lit Kd.string _ 9 ?hg (N:=13) ?hd (xs:=([(⟨#[97]⟩:ByteArray),(⟨#[98]⟩:ByteArray),(⟨#[99]⟩:ByteArray),(⟨#[100]⟩:ByteArray)]:List ByteArray)) (inner:=[.string (⟨#[97]⟩:ByteArray),.string (⟨#[98]⟩:ByteArray),.string (⟨#[99]⟩:ByteArray),.string (⟨#[100]⟩:ByteArray)]) (ok:=fun _=>True) (okp:=fun _=>True) ?hr ?hp (fun _ hk=>hk) trivial (Below.refl _ _) (Nat.le_refl _) (by simp) ?_;(case hd=>rfl);(case hg=>rfl);(case hr=>first|(go_simp;done)|(go_simp;rfl));(case hp=>exact (Reps.one (show Kd.M Kd.string _ _ _ (⟨#[97]⟩:ByteArray) [.string (⟨#[97]⟩:ByteArray)] from rfl) (Reps.one (show Kd.M Kd.string _ _ _ (⟨#[98]⟩:ByteArray) [.string (⟨#[98]⟩:ByteArray)] from rfl) (Reps.one (show Kd.M Kd.string _ _ _ (⟨#[99]⟩:ByteArray) [.string (⟨#[99]⟩:ByteArray)] from rfl) (Reps.one (show Kd.M Kd.string _ _ _ (⟨#[100]⟩:ByteArray) [.string (⟨#[100]⟩:ByteArray)] from rfl) (Reps.none _ _))))));intro v228 w7 ho8 hb hg_ hnew_;clear hg_ hnew_;(first|rw [←Ny227.out] at ho8|(simp only [Int.reduceToNat] at ho8;rw [←Ny227.out] at ho8));have HO229:=a_ (Kd.R_lower ho8 (keep_size (w:=w) (g:=g) (row:=none) (ke_)));replace HK:=a_ (KeepBut.trans (ke_) (KeepBut.of_below hb g none) (.inl rfl));replace HB:=a_ (bS_ (bel_) hb);replace HI0:=a_ (IsS102.below (is_HI0) hb);clear hb ho8;obtain ⟨Ao9,co9,eo9⟩:=Kd.R_slice HO229.out;subst eo9)|((with_reducible refine gC_ (f:=119) rfl ?_);refine gl_ 14 Tryd.func119 #[.pointer (some ⟨g,0,none⟩),.slice Ao9 y227.length co9] ?_;(with_reducible refine (spec_l6Rd_of.calls k1 g s0_0 x1001_1 _ _ y227 t230 t231 w0 _ ?side1 ?side2 ?side3 ?side4 ?side5 A5.out).mono ?_);(case side1=>exact is_HI0);(case side2=>exact bel_);(case side3=>exact cx_ (Kd.R_reads' HO229.out).2.2);(case side4=>exact (Kd.R_reads' HO229.out).2.1);(case side5=>exact far_slice (IsS102.own_ne HI0.out HO229.out (by decide)));rintro e w10 ⟨rfl,hi,hb,hk⟩;refine ⟨_,rfl,?_⟩;replace HO229:=a_ (Kd.R_mono (Kd.R_keep (IsS102.apart (show IsS102 w0 _ g s0_0 x1001_1 from is_HI0) (rp_ HO229.out) (by decide)) hk (fun _ h=>h.2)) (fun _ h=>h.1));replace HK:=a_ (KeepBut.trans (ke_) hk (.inl rfl));replace HB:=a_ (hb);replace HI0:=a_ (hi);(try clear hb hk hi)))
     go_roundg k1
     case measure=>have:=HK1.out;omega
     case rel=>exact ⟨(x3_1++t230),(wrap64 (x4_1 - 1)),(t231),(si_),(si_),H',⟨by have:=HK1.out;omega⟩,⟨is_HI0⟩,⟨ke_⟩,⟨bel_⟩⟩
    ·rw [if_neg c6] at H
     exact absurd H (by simp)
   ·rw [if_neg c4] at H
    have c4b0:decide (0 < x4_1)=false:=df_ c4
    clear c4
    replace H:=bs_ H
    obtain ⟨⟨t232,t233⟩,A110,H⟩:=H
    try dsimp only at H
    have A11:=a_ A110
    clear A110
    by_cases c12:t232=0
    ·rw [if_pos c12] at H
     have c12b0:(t232==0)=true:=beq_iff_eq.mpr c12
     have c12b1:(t232 != 0)=false:=be_ c12
     clear c12
     obtain ⟨y234,hy234⟩:∃ y_:List ByteArray,y_=(([(⟨#[101]⟩:ByteArray),(⟨#[32]⟩:ByteArray),(⟨#[97,97,97,97]⟩:ByteArray),(⟨#[39]⟩:ByteArray)]:List ByteArray)):=⟨_,rfl⟩
     replace H:((spec_l6Rd_of.f k1 s0_0 t233 y234).bind fun bt237=>(if x3_1.size+bt237.1.size≤9223372036854775807 then (some (x3_1++bt237.1,bt237.2)) else (none)))=some (r1,r2):=by first|(rw [hy234];with_reducible exact H)|(have H2_:=(Option.bind_some _ _).symm.trans H;rw [hy234];with_reducible exact H2_)|(have H2_:=(Option.bind_some _ _).symm.trans H;with_reducible exact H2_)|with_reducible exact H|(rw [hy234];exact H)|exact H
     have Ny234:=a_ hy234
     clear hy234
     replace H:=bs_ H
     obtain ⟨⟨t237,t238⟩,A130,H⟩:=H
     try dsimp only at H
     have A13:=a_ A130
     clear A130
     by_cases c14:x3_1.size+t237.size≤9223372036854775807
     ·rw [if_pos c14] at H
      have c14b0:=eq_true c14
      have c14b1:decide (x3_1.size+t237.size≤9223372036854775807)=true:=dt_ c14
      try have c14b2:(9223372036854775807 < x3_1.size+t237.size)=False:=eq_false (Nat.not_lt.2 c14)
      simp only [Option.some.injEq,Prod.mk.injEq] at H
      obtain ⟨rfl,rfl⟩:=H
      go_wp2_with (first|((with_reducible refine gC_ (f:=73) rfl ?_);refine gl_ 17 Tryd.func73 #[.pointer (some ⟨g,0,none⟩),.int .i64 40] ?_;(with_reducible refine (spec_l6Rd_pick.calls k1 g s0_0 x1001_1 40 t232 t233 w0 _ ?side1 ?side2 A11.out).mono ?_);(case side1=>exact is_HI0);(case side2=>exact bel_);rintro e w15 ⟨rfl,hi,hb,hk⟩;refine ⟨_,rfl,?_⟩;replace HK:=a_ (KeepBut.trans (ke_) hk (.inl rfl));replace HB:=a_ (hb);replace HI0:=a_ (hi);(try clear hb hk hi))|((with_reducible refine gD_ (N:=21) rfl ?_);refine Kd.R_lit Kd.string _ 9 ?hg (N:=21) ?hd (xs:=([(⟨#[101]⟩:ByteArray),(⟨#[32]⟩:ByteArray),(⟨#[97,97,97,97]⟩:ByteArray),(⟨#[39]⟩:ByteArray)]:List ByteArray)) (inner:=[.string (⟨#[101]⟩:ByteArray),.string (⟨#[32]⟩:ByteArray),.string (⟨#[97,97,97,97]⟩:ByteArray),.string (⟨#[39]⟩:ByteArray)]) (ok:=fun _=>True) (okp:=fun _=>True) ?hr ?hp (fun _ hk=>hk) trivial (Below.refl _ _) (Nat.le_refl _) (by simp) ?_;(case hd=>rfl);(case hg=>rfl);(case hr=>first|(go_simp;done)|(go_simp;rfl));(case hp=>exact (Reps.one (show Kd.M Kd.string _ _ _ (⟨#[101]⟩:ByteArray) [.string (⟨#[101]⟩:ByteArray)] from rfl) (Reps.one (show Kd.M Kd.string _ _ _ (⟨#[32]⟩:ByteArray) [.string (⟨#[32]⟩:ByteArray)] from rfl) (Reps.one (show Kd.M Kd.string _ _ _ (⟨#[97,97,97,97]⟩:ByteArray) [.string (⟨#[97,97,97,97]⟩:ByteArray)] from rfl) (Reps.one (show Kd.M Kd.string _ _ _ (⟨#[39]⟩:ByteArray) [.string (⟨#[39]⟩:ByteArray)] from rfl) (Reps.none _ _))))));intro v235 w16 ho17 hb hg_ hnew_;clear hg_ hnew_;(first|rw [←Ny234.out] at ho17|(simp only [Int.reduceToNat] at ho17;rw [←Ny234.out] at ho17));have HO236:=a_ (Kd.R_lower ho17 (keep_size (w:=w) (g:=g) (row:=none) (ke_)));replace HK:=a_ (KeepBut.trans (ke_) (KeepBut.of_below hb g none) (.inl rfl));replace HB:=a_ (bS_ (bel_) hb);replace HI0:=a_ (IsS102.below (is_HI0) hb);clear hb ho17;obtain ⟨Ao18,co18,eo18⟩:=Kd.R_slice HO236.out;subst eo18)|((with_reducible refine gC_ (f:=119) rfl ?_);refine gl_ 22 Tryd.func119 #[.pointer (some ⟨g,0,none⟩),.slice Ao18 y234.length co18] ?_;(with_reducible refine (spec_l6Rd_of.calls k1 g s0_0 t233 _ _ y234 t237 t238 w0 _ ?side1 ?side2 ?side3 ?side4 ?side5 A13.out).mono ?_);(case side1=>exact is_HI0);(case side2=>exact bel_);(case side3=>exact cx_ (Kd.R_reads' HO236.out).2.2);(case side4=>exact (Kd.R_reads' HO236.out).2.1);(case side5=>exact far_slice (IsS102.own_ne HI0.out HO236.out (by decide)));rintro e w19 ⟨rfl,hi,hb,hk⟩;refine ⟨_,rfl,?_⟩;replace HO236:=a_ (Kd.R_mono (Kd.R_keep (IsS102.apart (show IsS102 w0 _ g s0_0 t233 from is_HI0) (rp_ HO236.out) (by decide)) hk (fun _ h=>h.2)) (fun _ h=>h.1));replace HK:=a_ (KeepBut.trans (ke_) hk (.inl rfl));replace HB:=a_ (hb);replace HI0:=a_ (hi);(try clear hb hk hi)))
      go_ret
      exact ⟨fi_,is_HI0,bel_,ke_⟩
     ·rw [if_neg c14] at H
      exact absurd H (by simp)
    ·rw [if_neg c12] at H
     have c12b0:(t232==0)=false:=bn_ c12
     have c12b1:(t232 != 0)=true:=bne_iff_ne.mpr c12
     simp only [Option.some.injEq,Prod.mk.injEq] at H
     obtain ⟨rfl,rfl⟩:=H
     go_wp2_with (first|((with_reducible refine gC_ (f:=73) rfl ?_);refine gl_ 17 Tryd.func73 #[.pointer (some ⟨g,0,none⟩),.int .i64 40] ?_;(with_reducible refine (spec_l6Rd_pick.calls k1 g s0_0 x1001_1 40 t232 t233 w0 _ ?side1 ?side2 A11.out).mono ?_);(case side1=>exact is_HI0);(case side2=>exact bel_);rintro e w20 ⟨rfl,hi,hb,hk⟩;refine ⟨_,rfl,?_⟩;replace HK:=a_ (KeepBut.trans (ke_) hk (.inl rfl));replace HB:=a_ (hb);replace HI0:=a_ (hi);(try clear hb hk hi)))
     go_ret
     exact ⟨fi_,is_HI0,bel_,ke_⟩
mutual
def spec_l71Tree.l0:Nat→List (S37)→Int→List Int→Int→Option ((List (S37))×Int)
 | 0,_,_,_,_=>none
 | k+1,x3,x4,x1000,x1001=>if x4 > 0 then (if (x3.length:Int) > 3 then ((spec_l6Rd_pick.f k x1000 x1001 3).bind fun bt244=>(spec_l71Tree.j1 k x3 x4 1 (decide (bt244.1 > 0)) x1000 bt244.2)) else (spec_l71Tree.j1 k x3 x4 1 false x1000 x1001)) else (spec_l71Tree.l1 k x3 0 x1000 x1001)
def spec_l71Tree.j1:Nat→List (S37)→Int→Int→Bool→List Int→Int→Option ((List (S37))×Int)
 | 0,_,_,_,_,_,_=>none
 | k+1,x3,x4,x5,x23,x1000,x1001=>if x23=true then ((spec_l6Rd_pick.f k x1000 x1001 (x3.length:Int)).bind fun bt246=>(if 0≤bt246.1 then (if bt246.1 < (x3.length:Int) then (spec_l71Tree.j2 k x3 x4 ((rd_T37 x3 bt246.1).f0) x1000 bt246.2) else (none)) else (none))) else (spec_l71Tree.j2 k x3 x4 x5 x1000 x1001)
def spec_l71Tree.j2:Nat→List (S37)→Int→Int→List Int→Int→Option ((List (S37))×Int)
 | 0,_,_,_,_,_=>none
 | k+1,x3,x4,x5,x1000,x1001=>(spec_l2Kids.f k x3 x5).bind fun t249=>(if (t249.length:Int) > 0 then ((spec_l6Rd_pick.f k x1000 x1001 2).bind fun bt252=>(spec_l71Tree.j3 k x3 x4 x5 t249 0 (bt252.1==0) x1000 bt252.2)) else (spec_l71Tree.j3 k x3 x4 x5 t249 0 false x1000 x1001))
def spec_l71Tree.j3:Nat→List (S37)→Int→Int→List Int→Int→Bool→List Int→Int→Option ((List (S37))×Int)
 | 0,_,_,_,_,_,_,_,_=>none
 | k+1,x3,x4,x5,x6,x7,x42,x1000,x1001=>if x42=true then ((spec_l6Rd_pick.f k x1000 x1001 (x6.length:Int)).bind fun bt254=>(if 0≤bt254.1 then (if bt254.1 < (x6.length:Int) then ((spec_l71Id.f k x1000 bt254.2).bind fun bt257=>((spec_l71Text.f k x1000 bt257.2).bind fun bt259=>((spec_l3Do.f k x3 1 bt257.1 x5 (rd x6 bt254.1) bt259.1).bind fun t261=>(spec_l71Tree.l0 k t261 (wrap64 (x4 - 1)) x1000 bt259.2)))) else (none)) else (none))) else ((spec_l71Id.f k x1000 x1001).bind fun bt264=>((spec_l71Text.f k x1000 bt264.2).bind fun bt266=>((spec_l3Do.f k x3 1 bt264.1 x5 x7 bt266.1).bind fun t268=>(spec_l71Tree.l0 k t268 (wrap64 (x4 - 1)) x1000 bt266.2))))
def spec_l71Tree.l1:Nat→List (S37)→Int→List Int→Int→Option ((List (S37))×Int)
 | 0,_,_,_,_=>none
 | k+1,x3,x8,x1000,x1001=>if x8 < (x3.length:Int) then (if 0≤x8 then ((spec_l1Text.f k ((rd_T37 x3 x8).f2)).bind fun t272=>(if t272=true then (spec_l71Tree.l1 k x3 (wrap64 (x8+1)) x1000 x1001) else ((spec_l6Rd_pick.f k x1000 x1001 2).bind fun bt273=>(if bt273.1=0 then (spec_l71Tree.l1 k (x3.set (x8:Int).toNat (⟨(rd_T37 x3 x8).f0,(rd_T37 x3 x8).f1,(⟨#[]⟩:ByteArray)⟩:S37)) (wrap64 (x8+1)) x1000 bt273.2) else (spec_l71Tree.l1 k x3 (wrap64 (x8+1)) x1000 bt273.2))))) else (none)) else ((spec_l6Rd_pick.f k x1000 x1001 24).bind fun bt276=>(if bt276.1=0 then ((spec_l6Rd_pick.f k x1000 bt276.2 (x3.length:Int)).bind fun bt278=>((spec_l6Rd_pick.f k x1000 bt278.2 5).bind fun bt280=>(if 0≤bt278.1 then (if bt278.1 < (x3.length:Int) then (some ((x3.set (bt278.1:Int).toNat (⟨(rd_T37 x3 bt278.1).f0,bt280.1,(rd_T37 x3 bt278.1).f2⟩:S37)),bt280.2)) else (none)) else (none)))) else (if bt276.1=1 then ((spec_l6Rd_pick.f k x1000 bt276.2 (x3.length:Int)).bind fun bt283=>(if 0≤bt283.1 then (if bt283.1 < (x3.length:Int) then (if x3.length < 4398046511104 then (some ((x3++[(⟨(rd_T37 x3 bt283.1).f0,(rd_T37 x3 bt283.1).f1,(rd_T37 x3 bt283.1).f2⟩:S37)]),bt283.2)) else (none)) else (none)) else (none))) else (if bt276.1=2 then (if 1≤(x3.length:Int) then (some ((x3.drop (1:Int).toNat),bt276.2)) else (none)) else (some (x3,bt276.2))))))
end
def spec_l71Tree.f (k:Nat) (s0_0:List Int) (s0_1:Int):Option ((List (S37))×Int):=(spec_TreeNew.f).bind fun t239=>((spec_l6Rd_pick.f k s0_0 s0_1 11).bind fun bt242=>(spec_l71Tree.l0 k t239 bt242.1 s0_0 bt242.2))
theorem spec_l71Tree.mono_l:∀ k,(∀ y0 y1 y2 y3,LeO (spec_l71Tree.l0 k y0 y1 y2 y3) (spec_l71Tree.l0 (k+1) y0 y1 y2 y3))∧(∀ y0 y1 y2 y3 y4 y5,LeO (spec_l71Tree.j1 k y0 y1 y2 y3 y4 y5) (spec_l71Tree.j1 (k+1) y0 y1 y2 y3 y4 y5))∧(∀ y0 y1 y2 y3 y4,LeO (spec_l71Tree.j2 k y0 y1 y2 y3 y4) (spec_l71Tree.j2 (k+1) y0 y1 y2 y3 y4))∧(∀ y0 y1 y2 y3 y4 y5 y6 y7,LeO (spec_l71Tree.j3 k y0 y1 y2 y3 y4 y5 y6 y7) (spec_l71Tree.j3 (k+1) y0 y1 y2 y3 y4 y5 y6 y7))∧(∀ y0 y1 y2 y3,LeO (spec_l71Tree.l1 k y0 y1 y2 y3) (spec_l71Tree.l1 (k+1) y0 y1 y2 y3))
 | 0=>⟨fun _ _ _ _ r h=>by simp [spec_l71Tree.l0] at h,fun _ _ _ _ _ _ r h=>by simp [spec_l71Tree.j1] at h,fun _ _ _ _ _ r h=>by simp [spec_l71Tree.j2] at h,fun _ _ _ _ _ _ _ _ r h=>by simp [spec_l71Tree.j3] at h,fun _ _ _ _ r h=>by simp [spec_l71Tree.l1] at h⟩
 | k+1=>by
  obtain ⟨ih0,ih1,ih2,ih3,ih4⟩:=spec_l71Tree.mono_l k
  refine ⟨?_,?_,?_,?_,?_⟩
  all_goals intros
  all_goals first|unfold spec_l71Tree.l0|unfold spec_l71Tree.j1|unfold spec_l71Tree.j2|unfold spec_l71Tree.j3|unfold spec_l71Tree.l1
  all_goals repeat' first
  | (with_reducible exact ih0 _ _ _ _)
  | (with_reducible exact ih1 _ _ _ _ _ _)
  | (with_reducible exact ih2 _ _ _ _ _)
  | (with_reducible exact ih3 _ _ _ _ _ _ _ _)
  | (with_reducible exact ih4 _ _ _ _)
  | (with_reducible exact spec_l1Text.mono _ _)
  | (with_reducible exact spec_l2Kids.mono _ _ _)
  | (with_reducible exact spec_l3Do.mono _ _ _ _ _ _ _)
  | (with_reducible exact spec_l6Rd_pick.mono _ _ _ _)
  | (with_reducible exact spec_l71Id.mono _ _ _)
  | (with_reducible exact spec_l71Text.mono _ _ _)
  | (with_reducible exact LeO.refl _)
  | (with_reducible exact LeO.none _)
  | (with_reducible refine LeO.ite ?_ ?_)
  | (with_reducible refine LeO.bind ?_ (fun _=>?_))
theorem spec_l71Tree.mono:∀ a0 a1 k,LeO (spec_l71Tree.f k a0 a1) (spec_l71Tree.f (k+1) a0 a1):=by
 intro a0 a1 k
 obtain ⟨ih0,ih1,ih2,ih3,ih4⟩:=spec_l71Tree.mono_l k
 unfold spec_l71Tree.f
 repeat' first
   | (with_reducible exact ih0 _ _ _ _)
   | (with_reducible exact ih1 _ _ _ _ _ _)
   | (with_reducible exact ih2 _ _ _ _ _)
   | (with_reducible exact ih3 _ _ _ _ _ _ _ _)
   | (with_reducible exact ih4 _ _ _ _)
   | (with_reducible exact spec_l1Text.mono _ _)
   | (with_reducible exact spec_l2Kids.mono _ _ _)
   | (with_reducible exact spec_l3Do.mono _ _ _ _ _ _ _)
   | (with_reducible exact spec_l6Rd_pick.mono _ _ _ _)
   | (with_reducible exact spec_l71Id.mono _ _ _)
   | (with_reducible exact spec_l71Text.mono _ _ _)
   | (with_reducible exact LeO.refl _)
   | (with_reducible exact LeO.none _)
   | (with_reducible refine LeO.ite ?_ ?_)
   | (with_reducible refine LeO.bind ?_ (fun _=>?_))
theorem spec_l71Tree.calls (k:Nat) (g:Nat) (s0_0:List Int) (s0_1:Int) (r1:List (S37)) (r2:Int) (w0 w:World) (hI:IsS102 w0 w g s0_0 s0_1) (hB:Below w0.heap.size w0 w) (h:spec_l71Tree.f k s0_0 s0_1=some (r1,r2)) :
  Calls Tryd.prog 90 #[.pointer (some ⟨g,0,none⟩)] w fun e w'=>∃ v0_:Value,e=.returned (v0_)∧Kd.Q k37 37 w' w.heap.size (fun _=>True) v0_ r1∧IsS102 w0 w' g s0_0 r2∧Below w0.heap.size w0 w'∧KeepBut w w' g none:=by
 have hu27:=Tryd.underlying27
 have hu37:=Tryd.underlying37
 have HI0:=a_ hI
 have HK:=a_ (KeepBut.refl w g none)
 have HL:=a_ hB.size
 clear hI
 have HW0:=a_ hB.size
 have HB:=a_ hB
 clear hB
 unfold spec_l71Tree.f at h
 have H:=h
 clear h
 replace H:=bs_ H
 obtain ⟨t239,A20,H⟩:=H
 try dsimp only at H
 have A2:=a_ A20
 clear A20
 replace H:=bs_ H
 obtain ⟨⟨t242,t243⟩,A30,H⟩:=H
 try dsimp only at H
 have A3:=a_ A30
 clear A30
 have H':=a_ H
 clear H
 go_enter Tryd.func90,Tryd.ntmps90
 go_wp2_with (first|((with_reducible refine gC_ (f:=111) rfl ?_);refine gl_ 9 Tryd.func111 #[] ?_;(with_reducible refine (spec_TreeNew.calls  t239 _ A2.out).mono ?_);rintro e w4 ⟨v240,rfl,ho0,hb⟩;refine ⟨_,rfl,?_⟩;have HO241:=a_ (Kd.R_lower ho0 (keep_size (w:=w) (g:=g) (row:=none) (ke_)));replace HK:=a_ (KeepBut.trans (ke_) (KeepBut.of_below hb g none) (.inl rfl));replace HB:=a_ (bS_ (bel_) hb);replace HI0:=a_ (IsS102.below (is_HI0) hb);(try clear hb ho0))|((with_reducible refine gC_ (f:=73) rfl ?_);refine gl_ 11 Tryd.func73 #[.pointer (some ⟨g,0,none⟩),.int .i64 11] ?_;(with_reducible refine (spec_l6Rd_pick.calls k g s0_0 s0_1 11 t242 t243 w0 _ ?side1 ?side2 A3.out).mono ?_);(case side1=>exact is_HI0);(case side2=>exact bel_);rintro e w5 ⟨rfl,hi,hb,hk⟩;refine ⟨_,rfl,?_⟩;replace HO241:=a_ (Kd.R_mono (Kd.R_keep (IsS102.apart (show IsS102 w0 _ g s0_0 s0_1 from is_HI0) (rp_ HO241.out) (by decide)) hk (fun _ h=>h.2)) (fun _ h=>h.1));replace HK:=a_ (KeepBut.trans (ke_) hk (.inl rfl));replace HB:=a_ (hb);replace HI0:=a_ (hi);(try clear hb hk hi)))
 go_loopg [3,4] k (fun kq v3 v4 w'=>∃ (x3_1:List (S37)) (x4_1:Int) (x1001_1:Int),v4=.int .i64 x4_1∧Aside0 (spec_l71Tree.l0 kq x3_1 x4_1 s0_0 x1001_1=some (r1,r2))∧Aside0 (kq≤k)∧Aside0 (Kd.R k37 37 w' w.heap.size (fun _=>True) v3 x3_1)∧Aside0 (IsS102 w0 w' g s0_0 x1001_1)∧Aside0 (KeepBut w w' g none)∧Aside0 (Below w0.heap.size w0 w'))
 case atStart=>exact ⟨(t239),(t242),(t243),(si_),H',⟨Nat.le_refl _⟩,⟨by (with_reducible repeat (first|apply Kd.R_alloc|apply Kd.R_drewN|apply Kd.R_drew));exact HO241.out⟩,⟨is_HI0⟩,⟨ke_⟩,⟨bel_⟩⟩
 case round =>
  clear H'
  try clear c1
  try clear p2
  obtain ⟨x3_1,x4_1,x1001_1,rfl,HA,HK1,HO_3,HI0,HK,HB⟩:=hrel
  cases gk with
  | zero=>exact absurd HA.out (by simp [spec_l71Tree.l0])
  | succ k1 =>
   have H:=HA.out
   clear HA
   simp only [spec_l71Tree.l0] at H
   by_cases c6:x4_1 > 0
   ·rw [if_pos c6] at H
    have c6b0:decide (0 < x4_1)=true:=dt_ c6
    clear c6
    have HC7:=a_ H
    clear H
    go_upto_region 6 with (fail)
    go_cut [23] (fun v23 wc=>∃ (kq:Nat) (x23_6:Bool) (x1001_6:Int),v23=.bool x23_6∧Aside0 (spec_l71Tree.j1 kq x3_1 x4_1 1 x23_6 s0_0 x1001_6=some (r1,r2))∧Aside0 (kq≤k1)∧Aside0 (Kd.R k37 37 wc w.heap.size (fun _=>True) u3 x3_1)∧Aside0 (IsS102 w0 wc g s0_0 x1001_6)∧Aside0 (KeepBut w wc g none)∧Aside0 (Below w0.heap.size w0 wc))
    case first =>
     have H:=HC7.out
     clear HC7
     by_cases c8:(x3_1.length:Int) > 3
     ·rw [if_pos c8] at H
      have c8b0:decide (3 < (x3_1.length:Int))=true:=dt_ c8
      have c8b1:decide (3 < x3_1.length)=true:=dt_ (by omega)
      clear c8
      (first|rw [c8b0]|(simp only [i64_w,i32_w];rw [c8b0])|skip)
      replace H:=bs_ H
      obtain ⟨⟨t244,t245⟩,A90,H⟩:=H
      try dsimp only at H
      have A9:=a_ A90
      clear A90
      have H':=a_ H
      clear H
      obtain ⟨Ao10,co10,eo10⟩:=Kd.R_slice HO_3.out
      subst eo10
      go_wp2_with (first|(go_at_call 73;(with_reducible refine (spec_l6Rd_pick.calls k1 g s0_0 x1001_1 3 t244 t245 w0 _ ?side1 ?side2 A9.out).mono ?_);(case side1=>exact is_HI0);(case side2=>exact bel_);rintro e w11 ⟨rfl,hi,hb,hk⟩;replace HO_3:=a_ (Kd.R_mono (Kd.R_keep (IsS102.apart (show IsS102 w0 _ g s0_0 x1001_1 from is_HI0) (rp_ HO_3.out) (by decide)) hk (fun _ h=>h.2)) (fun _ h=>h.1));replace HK:=a_ (KeepBut.trans (ke_) hk (.inl rfl));replace HB:=a_ (hb);replace HI0:=a_ (hi);(try clear hb hk hi)))
      go_meet
      case rel=>exact ⟨_,(decide (t244 > 0)),(t245),(si_),H',⟨by have:=HK1.out;first|omega|exact Nat.le_refl _⟩,⟨by (with_reducible repeat (first|apply Kd.R_alloc|apply Kd.R_drewN|apply Kd.R_drew));exact HO_3.out⟩,⟨is_HI0⟩,⟨ke_⟩,⟨bel_⟩⟩
     ·rw [if_neg c8] at H
      have c8b0:decide (3 < (x3_1.length:Int))=false:=df_ c8
      have c8b1:decide (3 < x3_1.length)=false:=df_ (by omega)
      clear c8
      (first|rw [c8b0]|(simp only [i64_w,i32_w];rw [c8b0])|skip)
      have H':=a_ H
      clear H
      obtain ⟨Ao12,co12,eo12⟩:=Kd.R_slice HO_3.out
      subst eo12
      go_wp2
      go_meet
      case rel=>exact ⟨_,(false),(x1001_1),(si_),H',⟨by have:=HK1.out;first|omega|exact Nat.le_refl _⟩,⟨by (with_reducible repeat (first|apply Kd.R_alloc|apply Kd.R_drewN|apply Kd.R_drew));exact HO_3.out⟩,⟨is_HI0⟩,⟨ke_⟩,⟨bel_⟩⟩
    case rest =>
     clear HC7
     try clear c1
     try clear p2
     try clear c6
     try clear c6b0
     try clear c7
     try clear c8
     try clear c8b0
     try clear c8b1
     try clear c9
     try clear c11
     try clear p2
     obtain ⟨kq,x23_6,x1001_6,rfl,HA,HJ6,HO_3,HI0,HK,HB⟩:=hcut
     cases kq with
     | zero=>exact absurd HA.out (by simp [spec_l71Tree.j1])
     | succ kj6 =>
      have H:=HA.out
      clear HA
      simp only [spec_l71Tree.j1] at H
      have HC13:=a_ H
      clear H
      go_upto_if 23 with (fail)
      go_cut [5] (fun v5 wc=>∃ (kq:Nat) (x5_12:Int) (x1001_12:Int),v5=.int .i64 x5_12∧Aside0 (spec_l71Tree.j2 kq x3_1 x4_1 x5_12 s0_0 x1001_12=some (r1,r2))∧Aside0 (kq≤kj6)∧Aside0 (Kd.R k37 37 wc w.heap.size (fun _=>True) u3 x3_1)∧Aside0 (IsS102 w0 wc g s0_0 x1001_12)∧Aside0 (KeepBut w wc g none)∧Aside0 (Below w0.heap.size w0 wc))
      case first =>
       have H:=HC13.out
       clear HC13
       by_cases c14:x23_6=true
       ·subst c14
        have H1:((spec_l6Rd_pick.f kj6 s0_0 x1001_6 (x3_1.length:Int)).bind fun bt246=>(if 0≤bt246.1 then (if bt246.1 < (x3_1.length:Int) then (spec_l71Tree.j2 kj6 x3_1 x4_1 ((rd_T37 x3_1 bt246.1).f0) s0_0 bt246.2) else (none)) else (none)))=some (r1,r2):=by rw [if_pos rfl] at H;exact H
        clear H
        have H:=H1
        clear H1
        replace H:=bs_ H
        obtain ⟨⟨t246,t247⟩,A150,H⟩:=H
        try dsimp only at H
        have A15:=a_ A150
        clear A150
        by_cases c16:0≤t246
        ·rw [if_pos c16] at H
         have c16b0:decide (0≤t246)=true:=dt_ c16
         clear c16
         (first|rw [c16b0]|(simp only [i64_w,i32_w];rw [c16b0])|skip)
         by_cases c17:t246 < (x3_1.length:Int)
         ·rw [if_pos c17] at H
          have c17b0:decide (t246 < (x3_1.length:Int))=true:=dt_ c17
          clear c17
          have H':=a_ H
          clear H
          obtain ⟨Ao18,co18,eo18⟩:=Kd.R_slice HO_3.out
          subst eo18
          go_wp2_with (first|((with_reducible refine gC_ (f:=73) rfl ?_);refine gl_ 28 Tryd.func73 #[.pointer (some ⟨g,0,none⟩),.int .i64 (x3_1.length:Int)] ?_;(with_reducible refine (spec_l6Rd_pick.calls kj6 g s0_0 x1001_6 (x3_1.length:Int) t246 t247 w0 _ ?side1 ?side2 A15.out).mono ?_);(case side1=>exact is_HI0);(case side2=>exact bel_);rintro e w19 ⟨rfl,hi,hb,hk⟩;refine ⟨_,rfl,?_⟩;replace HO_3:=a_ (Kd.R_mono (Kd.R_keep (IsS102.apart (show IsS102 w0 _ g s0_0 x1001_6 from is_HI0) (rp_ HO_3.out) (by decide)) hk (fun _ h=>h.2)) (fun _ h=>h.1));replace HK:=a_ (KeepBut.trans (ke_) hk (.inl rfl));replace HB:=a_ (hb);replace HI0:=a_ (hi);(try clear hb hk hi);have p248:0≤(t246:Int):=od_;have q248:t246 < (x3_1.length:Int):=od_;obtain ⟨ad248,e248,hx248_0,hx248_1,hx248_2⟩:=at_T37 (Kd.R_reads' HO_3.out).2.2 t246 p248 q248;cases e248;replace p248:=eq_true p248;replace q248:=eq_true q248))
          go_meet
          case rel=>exact ⟨_,((rd_T37 x3_1 t246).f0),(t247),(si_),H',⟨by have:=HK1.out;have:=HJ6.out;first|omega|exact Nat.le_refl _⟩,⟨by (with_reducible repeat (first|apply Kd.R_alloc|apply Kd.R_drewN|apply Kd.R_drew));exact HO_3.out⟩,⟨is_HI0⟩,⟨ke_⟩,⟨bel_⟩⟩
         ·rw [if_neg c17] at H
          exact absurd H (by simp)
        ·rw [if_neg c16] at H
         exact absurd H (by simp)
       ·replace c14:=Bool.eq_false_iff.mpr c14
        subst c14
        have H1:(spec_l71Tree.j2 kj6 x3_1 x4_1 1 s0_0 x1001_6)=some (r1,r2):=by rw [if_neg (show ¬ (false=true) by decide)] at H;exact H
        clear H
        have H:=H1
        clear H1
        have H':=a_ H
        clear H
        go_wp2
        go_meet
        case rel=>exact ⟨_,(1),(x1001_6),(si_),H',⟨by have:=HK1.out;have:=HJ6.out;first|omega|exact Nat.le_refl _⟩,⟨by (with_reducible repeat (first|apply Kd.R_alloc|apply Kd.R_drewN|apply Kd.R_drew));exact HO_3.out⟩,⟨is_HI0⟩,⟨ke_⟩,⟨bel_⟩⟩
      case rest =>
       clear HC13
       try clear c1
       try clear p2
       try clear q2
       try clear hx2
       try clear c6
       try clear c6b0
       try clear c7
       try clear c8
       try clear c8b0
       try clear c8b1
       try clear c9
       try clear c11
       try clear c14
       try clear c16
       try clear c16b0
       try clear c17
       try clear c17b0
       try clear hx248_0
       try clear hx248_1
       try clear hx248_2
       try clear p2
       try clear p248
       try clear q248
       obtain ⟨kq,x5_12,x1001_12,rfl,HA,HJ12,HO_3,HI0,HK,HB⟩:=hcut
       cases kq with
       | zero=>exact absurd HA.out (by simp [spec_l71Tree.j2])
       | succ kj12 =>
        have H:=HA.out
        clear HA
        simp only [spec_l71Tree.j2] at H
        replace H:=bs_ H
        obtain ⟨t249,A200,H⟩:=H
        try dsimp only at H
        have A20:=a_ A200
        clear A200
        have HC21:=a_ H
        clear H
        obtain ⟨Ao22,co22,eo22⟩:=Kd.R_slice HO_3.out
        subst eo22
        go_upto_region 10 with (first|((with_reducible refine gC_ (f:=70) rfl ?_);refine gl_ 34 Tryd.func70 #[.slice Ao22 x3_1.length co22,.int .i64 x5_12] ?_;(with_reducible refine (spec_l2Kids.calls kj12 _ _ x3_1 x5_12 t249 _ ?side1 ?side2 A20.out).mono ?_);(case side1=>exact cx_ (Kd.R_reads' HO_3.out).2.2);(case side2=>exact (Kd.R_reads' HO_3.out).2.1);rintro e w23 ⟨v250,rfl,ho0,hb⟩;refine ⟨_,rfl,?_⟩;replace HO_3:=a_ (Kd.R_below (rp_ HO_3.out) hb);have HO251:=a_ (Kd.R_lower ho0 (keep_size (w:=w) (g:=g) (row:=none) (ke_)));replace HK:=a_ (KeepBut.trans (ke_) (KeepBut.of_below hb g none) (.inl rfl));replace HB:=a_ (bS_ (bel_) hb);replace HI0:=a_ (IsS102.below (is_HI0) hb);(try clear hb ho0)))
        (try simp only [Act.put,List.setIfInBounds_toArray,List.set_cons_zero,List.set_cons_succ])
        go_cut [42] (fun v42 wc=>∃ (kq:Nat) (x42_20:Bool) (x1001_20:Int),v42=.bool x42_20∧Aside0 (spec_l71Tree.j3 kq x3_1 x4_1 x5_12 t249 0 x42_20 s0_0 x1001_20=some (r1,r2))∧Aside0 (kq≤kj12)∧Aside0 (Kd.R k37 37 wc w.heap.size (fun _=>True) (.slice Ao22 x3_1.length co22) x3_1)∧Aside0 (Kd.R (Kd.int .i64) 3 wc w.heap.size (fun _=>True) v250 t249)∧Aside0 (IsS102 w0 wc g s0_0 x1001_20)∧Aside0 (KeepBut w wc g none)∧Aside0 (Below w0.heap.size w0 wc))
        case first =>
         have H:=HC21.out
         clear HC21
         by_cases c24:(t249.length:Int) > 0
         ·rw [if_pos c24] at H
          have c24b0:decide (0 < (t249.length:Int))=true:=dt_ c24
          have c24b1:decide (0 < t249.length)=true:=dt_ (by omega)
          clear c24
          (first|rw [c24b0]|(simp only [i64_w,i32_w];rw [c24b0])|skip)
          replace H:=bs_ H
          obtain ⟨⟨t252,t253⟩,A250,H⟩:=H
          try dsimp only at H
          have A25:=a_ A250
          clear A250
          have H':=a_ H
          clear H
          obtain ⟨Ao26,co26,eo26⟩:=Kd.R_slice HO251.out
          subst eo26
          go_wp2_with (first|(go_at_call 73;(with_reducible refine (spec_l6Rd_pick.calls kj12 g s0_0 x1001_12 2 t252 t253 w0 _ ?side1 ?side2 A25.out).mono ?_);(case side1=>exact is_HI0);(case side2=>exact bel_);rintro e w27 ⟨rfl,hi,hb,hk⟩;replace HO_3:=a_ (Kd.R_mono (Kd.R_keep (IsS102.apart (show IsS102 w0 _ g s0_0 x1001_12 from is_HI0) (rp_ HO_3.out) (by decide)) hk (fun _ h=>h.2)) (fun _ h=>h.1));replace HO251:=a_ (Kd.R_mono (Kd.R_keep (IsS102.apart (show IsS102 w0 _ g s0_0 x1001_12 from is_HI0) (rp_ HO251.out) (by decide)) hk (fun _ h=>h.2)) (fun _ h=>h.1));replace HK:=a_ (KeepBut.trans (ke_) hk (.inl rfl));replace HB:=a_ (hb);replace HI0:=a_ (hi);(try clear hb hk hi)))
          go_meet
          case rel=>exact ⟨_,((t252==0)),(t253),(si_),H',⟨by have:=HK1.out;have:=HJ6.out;have:=HJ12.out;first|omega|exact Nat.le_refl _⟩,⟨by (with_reducible repeat (first|apply Kd.R_alloc|apply Kd.R_drewN|apply Kd.R_drew));exact HO_3.out⟩,⟨by (with_reducible repeat (first|apply Kd.R_alloc|apply Kd.R_drewN|apply Kd.R_drew));exact HO251.out⟩,⟨is_HI0⟩,⟨ke_⟩,⟨bel_⟩⟩
         ·rw [if_neg c24] at H
          have c24b0:decide (0 < (t249.length:Int))=false:=df_ c24
          have c24b1:decide (0 < t249.length)=false:=df_ (by omega)
          clear c24
          (first|rw [c24b0]|(simp only [i64_w,i32_w];rw [c24b0])|skip)
          have H':=a_ H
          clear H
          obtain ⟨Ao28,co28,eo28⟩:=Kd.R_slice HO251.out
          subst eo28
          go_wp2
          go_meet
          case rel=>exact ⟨_,(false),(x1001_12),(si_),H',⟨by have:=HK1.out;have:=HJ6.out;have:=HJ12.out;first|omega|exact Nat.le_refl _⟩,⟨by (with_reducible repeat (first|apply Kd.R_alloc|apply Kd.R_drewN|apply Kd.R_drew));exact HO_3.out⟩,⟨by (with_reducible repeat (first|apply Kd.R_alloc|apply Kd.R_drewN|apply Kd.R_drew));exact HO251.out⟩,⟨is_HI0⟩,⟨ke_⟩,⟨bel_⟩⟩
        case rest =>
         clear HC21
         try clear c1
         try clear c2
         try clear p2
         try clear q2
         try clear hx2
         try clear c6
         try clear c6b0
         try clear c7
         try clear c8
         try clear c8b0
         try clear c8b1
         try clear c9
         try clear c11
         try clear c14
         try clear c16
         try clear c16b0
         try clear c17
         try clear c17b0
         try clear c24
         try clear c24b0
         try clear c24b1
         try clear p24
         try clear q24
         try clear hx24
         try clear hx248_0
         try clear hx248_1
         try clear hx248_2
         try clear p2
         try clear p248
         try clear q2
         try clear q248
         obtain ⟨kq,x42_20,x1001_20,rfl,HA,HJ20,HO_3,HO_6,HI0,HK,HB⟩:=hcut
         cases kq with
         | zero=>exact absurd HA.out (by simp [spec_l71Tree.j3])
         | succ kj20 =>
          have H:=HA.out
          clear HA
          simp only [spec_l71Tree.j3] at H
          by_cases c29:x42_20=true
          ·subst c29
           have H1:((spec_l6Rd_pick.f kj20 s0_0 x1001_20 (t249.length:Int)).bind fun bt254=>(if 0≤bt254.1 then (if bt254.1 < (t249.length:Int) then ((spec_l71Id.f kj20 s0_0 bt254.2).bind fun bt257=>((spec_l71Text.f kj20 s0_0 bt257.2).bind fun bt259=>((spec_l3Do.f kj20 x3_1 1 bt257.1 x5_12 (rd t249 bt254.1) bt259.1).bind fun t261=>(spec_l71Tree.l0 kj20 t261 (wrap64 (x4_1 - 1)) s0_0 bt259.2)))) else (none)) else (none)))=some (r1,r2):=by rw [if_pos rfl] at H;exact H
           clear H
           have H:=H1
           clear H1
           replace H:=bs_ H
           obtain ⟨⟨t254,t255⟩,A300,H⟩:=H
           try dsimp only at H
           have A30:=a_ A300
           clear A300
           by_cases c31:0≤t254
           ·rw [if_pos c31] at H
            have c31b0:decide (0≤t254)=true:=dt_ c31
            clear c31
            by_cases c32:t254 < (t249.length:Int)
            ·rw [if_pos c32] at H
             have c32b0:decide (t254 < (t249.length:Int))=true:=dt_ c32
             clear c32
             replace H:=bs_ H
             obtain ⟨⟨t257,t258⟩,A330,H⟩:=H
             try dsimp only at H
             have A33:=a_ A330
             clear A330
             replace H:=bs_ H
             obtain ⟨⟨t259,t260⟩,A340,H⟩:=H
             try dsimp only at H
             have A34:=a_ A340
             clear A340
             replace H:=bs_ H
             obtain ⟨t261,A350,H⟩:=H
             try dsimp only at H
             have A35:=a_ A350
             clear A350
             have H':=a_ H
             clear H
             obtain ⟨Ao36,co36,eo36⟩:=Kd.R_slice HO_6.out
             subst eo36
             go_wp2_with (first|((with_reducible refine gC_ (f:=73) rfl ?_);refine gl_ 47 Tryd.func73 #[.pointer (some ⟨g,0,none⟩),.int .i64 (t249.length:Int)] ?_;(with_reducible refine (spec_l6Rd_pick.calls kj20 g s0_0 x1001_20 (t249.length:Int) t254 t255 w0 _ ?side1 ?side2 A30.out).mono ?_);(case side1=>exact is_HI0);(case side2=>exact bel_);rintro e w37 ⟨rfl,hi,hb,hk⟩;refine ⟨_,rfl,?_⟩;replace HO_3:=a_ (Kd.R_mono (Kd.R_keep (IsS102.apart (show IsS102 w0 _ g s0_0 x1001_20 from is_HI0) (rp_ HO_3.out) (by decide)) hk (fun _ h=>h.2)) (fun _ h=>h.1));replace HO_6:=a_ (Kd.R_mono (Kd.R_keep (IsS102.apart (show IsS102 w0 _ g s0_0 x1001_20 from is_HI0) (rp_ HO_6.out) (by decide)) hk (fun _ h=>h.2)) (fun _ h=>h.1));replace HK:=a_ (KeepBut.trans (ke_) hk (.inl rfl));replace HB:=a_ (hb);replace HI0:=a_ (hi);(try clear hb hk hi);have p256:0≤(t254:Int):=od_;have q256:t254 < (t249.length:Int):=od_;obtain ⟨ad256,e256,hx256_0⟩:=Kd.at_int (Kd.R_reads' HO_6.out).2.2 t254 p256 q256;cases e256;replace p256:=eq_true p256;replace q256:=eq_true q256)|((with_reducible refine gC_ (f:=91) rfl ?_);refine gl_ 52 Tryd.func91 #[.pointer (some ⟨g,0,none⟩)] ?_;(with_reducible refine (spec_l71Id.calls kj20 g s0_0 t255 t257 t258 w0 _ ?side1 ?side2 A33.out).mono ?_);(case side1=>exact is_HI0);(case side2=>exact bel_);rintro e w38 ⟨rfl,hi,hb,hk⟩;refine ⟨_,rfl,?_⟩;replace HO_3:=a_ (Kd.R_mono (Kd.R_keep (IsS102.apart (show IsS102 w0 _ g s0_0 t255 from is_HI0) (rp_ HO_3.out) (by decide)) hk (fun _ h=>h.2)) (fun _ h=>h.1));replace HO_6:=a_ (Kd.R_mono (Kd.R_keep (IsS102.apart (show IsS102 w0 _ g s0_0 t255 from is_HI0) (rp_ HO_6.out) (by decide)) hk (fun _ h=>h.2)) (fun _ h=>h.1));replace HK:=a_ (KeepBut.trans (ke_) hk (.inl rfl));replace HB:=a_ (hb);replace HI0:=a_ (hi);(try clear hb hk hi))|((with_reducible refine gC_ (f:=112) rfl ?_);refine gl_ 56 Tryd.func112 #[.pointer (some ⟨g,0,none⟩)] ?_;(with_reducible refine (spec_l71Text.calls kj20 g s0_0 t258 t259 t260 w0 _ ?side1 ?side2 A34.out).mono ?_);(case side1=>exact is_HI0);(case side2=>exact bel_);rintro e w39 ⟨rfl,hi,hb,hk⟩;refine ⟨_,rfl,?_⟩;replace HO_3:=a_ (Kd.R_mono (Kd.R_keep (IsS102.apart (show IsS102 w0 _ g s0_0 t258 from is_HI0) (rp_ HO_3.out) (by decide)) hk (fun _ h=>h.2)) (fun _ h=>h.1));replace HO_6:=a_ (Kd.R_mono (Kd.R_keep (IsS102.apart (show IsS102 w0 _ g s0_0 t258 from is_HI0) (rp_ HO_6.out) (by decide)) hk (fun _ h=>h.2)) (fun _ h=>h.1));replace HK:=a_ (KeepBut.trans (ke_) hk (.inl rfl));replace HB:=a_ (hb);replace HI0:=a_ (hi);(try clear hb hk hi))|((with_reducible refine gC_ (f:=81) rfl ?_);refine gl_ 58 Tryd.func81 #[.slice Ao22 x3_1.length co22,.agg #[.int .i64 1,.int .i64 t257,.int .i64 x5_12,.int .i64 (rd t249 t254),.string t259]] ?_;(with_reducible refine (spec_l3Do.calls kj20 _ _ x3_1 1 t257 x5_12 (rd t249 t254) t259 t261 _ ?side1 ?side2 A35.out).mono ?_);(case side1=>exact cx_ (Kd.R_reads' HO_3.out).2.2);(case side2=>exact (Kd.R_reads' HO_3.out).2.1);rintro e w40 ⟨v262,rfl,ho0,hb⟩;refine ⟨_,rfl,?_⟩;replace HO_6:=a_ (Kd.R_below (rp_ HO_6.out) hb);have HO263:=a_ (Kd.R_lower (Kd.R_new' ho0 (Kd.R_lt (rp_ HO_3.out))) (keep_size (w:=w) (g:=g) (row:=none) (ke_)));replace HO_3:=a_ (Kd.R_elder' (rp_ HO_3.out) (Kd.R_base ho0) hb);replace HK:=a_ (KeepBut.trans (ke_) (KeepBut.of_below hb g none) (.inl rfl));replace HB:=a_ (bS_ (bel_) hb);replace HI0:=a_ (IsS102.below (is_HI0) hb);(try clear hb ho0)))
             go_roundg kj20
             case measure=>have:=HK1.out;have:=HJ6.out;have:=HJ12.out;have:=HJ20.out;omega
             case rel=>exact ⟨(t261),(wrap64 (x4_1 - 1)),(t260),(si_),H',⟨by have:=HK1.out;have:=HJ6.out;have:=HJ12.out;have:=HJ20.out;omega⟩,⟨by (with_reducible repeat (first|apply Kd.R_alloc|apply Kd.R_drewN|apply Kd.R_drew));exact Kd.R_mono HO263.out (fun _ hk=>trivial)⟩,⟨is_HI0⟩,⟨ke_⟩,⟨bel_⟩⟩
            ·rw [if_neg c32] at H
             exact absurd H (by simp)
           ·rw [if_neg c31] at H
            exact absurd H (by simp)
          ·replace c29:=Bool.eq_false_iff.mpr c29
           subst c29
           have H1:((spec_l71Id.f kj20 s0_0 x1001_20).bind fun bt264=>((spec_l71Text.f kj20 s0_0 bt264.2).bind fun bt266=>((spec_l3Do.f kj20 x3_1 1 bt264.1 x5_12 0 bt266.1).bind fun t268=>(spec_l71Tree.l0 kj20 t268 (wrap64 (x4_1 - 1)) s0_0 bt266.2))))=some (r1,r2):=by rw [if_neg (show ¬ (false=true) by decide)] at H;exact H
           clear H
           have H:=H1
           clear H1
           replace H:=bs_ H
           obtain ⟨⟨t264,t265⟩,A410,H⟩:=H
           try dsimp only at H
           have A41:=a_ A410
           clear A410
           replace H:=bs_ H
           obtain ⟨⟨t266,t267⟩,A420,H⟩:=H
           try dsimp only at H
           have A42:=a_ A420
           clear A420
           replace H:=bs_ H
           obtain ⟨t268,A430,H⟩:=H
           try dsimp only at H
           have A43:=a_ A430
           clear A430
           have H':=a_ H
           clear H
           go_wp2_with (first|((with_reducible refine gC_ (f:=91) rfl ?_);refine gl_ 52 Tryd.func91 #[.pointer (some ⟨g,0,none⟩)] ?_;(with_reducible refine (spec_l71Id.calls kj20 g s0_0 x1001_20 t264 t265 w0 _ ?side1 ?side2 A41.out).mono ?_);(case side1=>exact is_HI0);(case side2=>exact bel_);rintro e w44 ⟨rfl,hi,hb,hk⟩;refine ⟨_,rfl,?_⟩;replace HO_3:=a_ (Kd.R_mono (Kd.R_keep (IsS102.apart (show IsS102 w0 _ g s0_0 x1001_20 from is_HI0) (rp_ HO_3.out) (by decide)) hk (fun _ h=>h.2)) (fun _ h=>h.1));replace HO_6:=a_ (Kd.R_mono (Kd.R_keep (IsS102.apart (show IsS102 w0 _ g s0_0 x1001_20 from is_HI0) (rp_ HO_6.out) (by decide)) hk (fun _ h=>h.2)) (fun _ h=>h.1));replace HK:=a_ (KeepBut.trans (ke_) hk (.inl rfl));replace HB:=a_ (hb);replace HI0:=a_ (hi);(try clear hb hk hi))|((with_reducible refine gC_ (f:=112) rfl ?_);refine gl_ 56 Tryd.func112 #[.pointer (some ⟨g,0,none⟩)] ?_;(with_reducible refine (spec_l71Text.calls kj20 g s0_0 t265 t266 t267 w0 _ ?side1 ?side2 A42.out).mono ?_);(case side1=>exact is_HI0);(case side2=>exact bel_);rintro e w45 ⟨rfl,hi,hb,hk⟩;refine ⟨_,rfl,?_⟩;replace HO_3:=a_ (Kd.R_mono (Kd.R_keep (IsS102.apart (show IsS102 w0 _ g s0_0 t265 from is_HI0) (rp_ HO_3.out) (by decide)) hk (fun _ h=>h.2)) (fun _ h=>h.1));replace HO_6:=a_ (Kd.R_mono (Kd.R_keep (IsS102.apart (show IsS102 w0 _ g s0_0 t265 from is_HI0) (rp_ HO_6.out) (by decide)) hk (fun _ h=>h.2)) (fun _ h=>h.1));replace HK:=a_ (KeepBut.trans (ke_) hk (.inl rfl));replace HB:=a_ (hb);replace HI0:=a_ (hi);(try clear hb hk hi))|((with_reducible refine gC_ (f:=81) rfl ?_);refine gl_ 58 Tryd.func81 #[.slice Ao22 x3_1.length co22,.agg #[.int .i64 1,.int .i64 t264,.int .i64 x5_12,.int .i64 0,.string t266]] ?_;(with_reducible refine (spec_l3Do.calls kj20 _ _ x3_1 1 t264 x5_12 0 t266 t268 _ ?side1 ?side2 A43.out).mono ?_);(case side1=>exact cx_ (Kd.R_reads' HO_3.out).2.2);(case side2=>exact (Kd.R_reads' HO_3.out).2.1);rintro e w46 ⟨v269,rfl,ho0,hb⟩;refine ⟨_,rfl,?_⟩;replace HO_6:=a_ (Kd.R_below (rp_ HO_6.out) hb);have HO270:=a_ (Kd.R_lower (Kd.R_new' ho0 (Kd.R_lt (rp_ HO_3.out))) (keep_size (w:=w) (g:=g) (row:=none) (ke_)));replace HO_3:=a_ (Kd.R_elder' (rp_ HO_3.out) (Kd.R_base ho0) hb);replace HK:=a_ (KeepBut.trans (ke_) (KeepBut.of_below hb g none) (.inl rfl));replace HB:=a_ (bS_ (bel_) hb);replace HI0:=a_ (IsS102.below (is_HI0) hb);(try clear hb ho0)))
           go_roundg kj20
           case measure=>have:=HK1.out;have:=HJ6.out;have:=HJ12.out;have:=HJ20.out;omega
           case rel=>exact ⟨(t268),(wrap64 (x4_1 - 1)),(t267),(si_),H',⟨by have:=HK1.out;have:=HJ6.out;have:=HJ12.out;have:=HJ20.out;omega⟩,⟨by (with_reducible repeat (first|apply Kd.R_alloc|apply Kd.R_drewN|apply Kd.R_drew));exact Kd.R_mono HO270.out (fun _ hk=>trivial)⟩,⟨is_HI0⟩,⟨ke_⟩,⟨bel_⟩⟩
   ·rw [if_neg c6] at H
    have c6b0:decide (0 < x4_1)=false:=df_ c6
    clear c6
    have H':=a_ H
    clear H
    go_wp2
    go_loopg [8] k1 (fun kq v8 w'=>∃ (x3_2:List (S37)) (x8_2:Int) (x1001_2:Int),v8=.int .i64 x8_2∧Aside0 (spec_l71Tree.l1 kq x3_2 x8_2 s0_0 x1001_2=some (r1,r2))∧Aside0 (kq≤k1)∧Aside0 (Kd.R k37 37 w' w.heap.size (fun _=>True) u3 x3_2)∧Aside0 (IsS102 w0 w' g s0_0 x1001_2)∧Aside0 (KeepBut w w' g none)∧Aside0 (Below w0.heap.size w0 w'))
    case atStart=>exact ⟨(x3_1),(0),(x1001_1),(si_),H',⟨Nat.le_refl _⟩,⟨by (with_reducible repeat (first|apply Kd.R_alloc|apply Kd.R_drewN|apply Kd.R_drew));exact HO_3.out⟩,⟨is_HI0⟩,⟨ke_⟩,⟨bel_⟩⟩
    case round =>
     clear H'
     try clear c1
     try clear c2
     try clear p2
     try clear q2
     try clear hx2
     try clear c3
     try clear c6
     try clear c6b0
     try clear p6
     try clear c7
     try clear c8
     try clear c8b0
     try clear c8b1
     try clear c9
     try clear c11
     try clear c14
     try clear c16
     try clear c16b0
     try clear c17
     try clear c17b0
     try clear c24
     try clear c24b0
     try clear c24b1
     try clear p24
     try clear q24
     try clear hx24
     try clear p25
     try clear q25
     try clear hx25
     try clear c29
     try clear c31
     try clear c31b0
     try clear c32
     try clear c32b0
     try clear hx248_0
     try clear hx248_1
     try clear hx248_2
     try clear hx256_0
     try clear p2
     try clear p24
     try clear p248
     try clear p256
     try clear q2
     try clear q24
     try clear q248
     try clear q256
     obtain ⟨x3_2,x8_2,x1001_2,rfl,HA,HK2,HO_3,HI0,HK,HB⟩:=hrel
     cases gk with
     | zero=>exact absurd HA.out (by simp [spec_l71Tree.l1])
     | succ k2 =>
      have H:=HA.out
      clear HA
      simp only [spec_l71Tree.l1] at H
      by_cases c47:x8_2 < (x3_2.length:Int)
      ·rw [if_pos c47] at H
       have c47b0:decide (x8_2 < (x3_2.length:Int))=true:=dt_ c47
       clear c47
       by_cases c48:0≤x8_2
       ·rw [if_pos c48] at H
        have c48b0:decide (0≤x8_2)=true:=dt_ c48
        clear c48
        replace H:=bs_ H
        obtain ⟨t272,A490,H⟩:=H
        try dsimp only at H
        have A49:=a_ A490
        clear A490
        by_cases c50:t272=true
        ·subst c50
         have H1:(spec_l71Tree.l1 k2 x3_2 (wrap64 (x8_2+1)) s0_0 x1001_2)=some (r1,r2):=by rw [if_pos rfl] at H;exact H
         clear H
         have H:=H1
         clear H1
         have H':=a_ H
         clear H
         obtain ⟨Ao51,co51,eo51⟩:=Kd.R_slice HO_3.out
         subst eo51
         have p271:0≤(x8_2:Int):=od_
         have q271:x8_2 < (x3_2.length:Int):=od_
         obtain ⟨ad271,e271,hx271_0,hx271_1,hx271_2⟩:=at_T37 (Kd.R_reads' HO_3.out).2.2 x8_2 p271 q271
         cases e271
         replace p271:=eq_true p271
         replace q271:=eq_true q271
         go_wp2_with (first|((with_reducible refine gC_ (f:=87) rfl ?_);refine gl_ 70 Tryd.func87 #[.string ((rd_T37 x3_2 x8_2).f2)] ?_;(with_reducible refine (spec_l1Text.calls k2 ((rd_T37 x3_2 x8_2).f2) true _ A49.out).mono ?_);rintro e w' ⟨rfl,⟨nd,rfl⟩⟩;refine ⟨_,rfl,?_⟩))
         go_roundg k2
         case measure=>have:=HK1.out;have:=HK2.out;omega
         case rel=>exact ⟨(x3_2),(wrap64 (x8_2+1)),(x1001_2),(si_),H',⟨by have:=HK1.out;have:=HK2.out;omega⟩,⟨by (with_reducible repeat (first|apply Kd.R_alloc|apply Kd.R_drewN|apply Kd.R_drew));exact HO_3.out⟩,⟨is_HI0⟩,⟨ke_⟩,⟨bel_⟩⟩
        ·replace c50:=Bool.eq_false_iff.mpr c50
         subst c50
         have H1:((spec_l6Rd_pick.f k2 s0_0 x1001_2 2).bind fun bt273=>(if bt273.1=0 then (spec_l71Tree.l1 k2 (x3_2.set (x8_2:Int).toNat (⟨(rd_T37 x3_2 x8_2).f0,(rd_T37 x3_2 x8_2).f1,(⟨#[]⟩:ByteArray)⟩:S37)) (wrap64 (x8_2+1)) s0_0 bt273.2) else (spec_l71Tree.l1 k2 x3_2 (wrap64 (x8_2+1)) s0_0 bt273.2)))=some (r1,r2):=by rw [if_neg (show ¬ (false=true) by decide)] at H;exact H
         clear H
         have H:=H1
         clear H1
         replace H:=bs_ H
         obtain ⟨⟨t273,t274⟩,A520,H⟩:=H
         try dsimp only at H
         have A52:=a_ A520
         clear A520
         by_cases c53:t273=0
         ·rw [if_pos c53] at H
          have c53b0:(t273==0)=true:=beq_iff_eq.mpr c53
          have c53b1:(t273 != 0)=false:=be_ c53
          clear c53
          obtain ⟨y275,hy275⟩:∃ y_:List (S37),y_=(x3_2.set (x8_2:Int).toNat (⟨(rd_T37 x3_2 x8_2).f0,(rd_T37 x3_2 x8_2).f1,(⟨#[]⟩:ByteArray)⟩:S37)):=⟨_,rfl⟩
          replace H:(spec_l71Tree.l1 k2 y275 (wrap64 (x8_2+1)) s0_0 t274)=some (r1,r2):=by first|(rw [hy275];with_reducible exact H)|(have H2_:=(Option.bind_some _ _).symm.trans H;rw [hy275];with_reducible exact H2_)|(have H2_:=(Option.bind_some _ _).symm.trans H;with_reducible exact H2_)|with_reducible exact H|(rw [hy275];exact H)|exact H
          have Ny275:=a_ hy275
          clear hy275
          have H':=a_ H
          clear H
          obtain ⟨Ao55,co55,eo55⟩:=Kd.R_slice HO_3.out
          subst eo55
          have p271:0≤(x8_2:Int):=od_
          have q271:x8_2 < (x3_2.length:Int):=od_
          obtain ⟨ad271,e271,hx271_0,hx271_1,hx271_2⟩:=at_T37 (Kd.R_reads' HO_3.out).2.2 x8_2 p271 q271
          cases e271
          replace p271:=eq_true p271
          replace q271:=eq_true q271
          go_wp2_with (first|((with_reducible refine gC_ (f:=87) rfl ?_);refine gl_ 70 Tryd.func87 #[.string ((rd_T37 x3_2 x8_2).f2)] ?_;(with_reducible refine (spec_l1Text.calls k2 ((rd_T37 x3_2 x8_2).f2) false _ A49.out).mono ?_);rintro e w' ⟨rfl,⟨nd,rfl⟩⟩;refine ⟨_,rfl,?_⟩;(try (rw [drewN_self wr];generalize hq_:World.drewN wr _=wr;have n0_:Aside0 (Kd.R k37 37 wr w.heap.size (fun _=>True) (.slice (some ad271) x3_2.length co55) x3_2):=⟨by rw [←hq_];exact (rp_ HO_3.out)⟩;have n1_:Aside0 (IsS102 w0 wr g s0_0 x1001_2):=⟨by rw [←hq_];exact (is_HI0)⟩;have n2_:Aside0 (KeepBut w wr g none):=⟨by rw [←hq_];exact (ke_)⟩;have n3_:Aside0 (Below w0.heap.size w0 wr):=⟨by rw [←hq_];exact (bel_)⟩;clear HO_3 HI0 HK HB hq_;have HO_3:=n0_;have HI0:=n1_;have HK:=n2_;have HB:=n3_;clear n0_ n1_ n2_ n3_)))|(go_at_call 73;(with_reducible refine (spec_l6Rd_pick.calls k2 g s0_0 x1001_2 2 t273 t274 w0 _ ?side1 ?side2 A52.out).mono ?_);(case side1=>exact is_HI0);(case side2=>exact bel_);rintro e w56 ⟨rfl,hi,hb,hk⟩;replace HO_3:=a_ (Kd.R_mono (Kd.R_keep (IsS102.apart (show IsS102 w0 _ g s0_0 x1001_2 from is_HI0) (rp_ HO_3.out) (by decide)) hk (fun _ h=>h.2)) (fun _ h=>h.1));replace HK:=a_ (KeepBut.trans (ke_) hk (.inl rfl));replace HB:=a_ (hb);replace HI0:=a_ (hi);(try clear hb hk hi);have p54:0≤(x8_2:Int):=od_;have q54:(x8_2:Int) < ((x3_2.length:Int):Int):=od_;obtain ⟨go54,co54,eo54,gb54,gl54,cl54,HG54⟩:=Kd.R_form HO_3.out (by omega);(first|cases eo54|(injection eo54 with ea_ en_ ec_;(first|subst ea_|(injection ea_ with ea_;subst ea_));subst ec_;clear en_));have GB54:=a_ gb54;have GG54:=a_ HG54;clear gb54 gl54 HG54;(first|simp only [add_plain] at hx271_0|skip);(first|simp only [add_plain] at hx271_1|skip);(first|simp only [add_plain] at hx271_2|skip);obtain ⟨ce54,hcl54,hM54,hcc54,hfr54⟩:=Kd.R_elem HO_3.out z37 (x8_2:Int) p54 q54;obtain rfl:=k37_openM hM54;have hx54_0:w56.cell? ⟨go54,(x8_2:Int).toNat * 3,none⟩=some (.int .i64 ((rd_T37 x3_2 x8_2).f0)):=hcc54 0 _ rfl;have hx54_1:w56.cell? ⟨go54,(x8_2:Int).toNat * 3+1,none⟩=some (.int .i64 ((rd_T37 x3_2 x8_2).f1)):=hcc54 1 _ rfl;have hx54_2:w56.cell? ⟨go54,(x8_2:Int).toNat * 3+2,none⟩=some (.string ((rd_T37 x3_2 x8_2).f2)):=hcc54 2 _ rfl;have hf54_0:w56.frozen? ⟨go54,(x8_2:Int).toNat * 3,none⟩=false:=hfr54 0;have hf54_1:w56.frozen? ⟨go54,(x8_2:Int).toNat * 3+1,none⟩=false:=hfr54 1;have hf54_2:w56.frozen? ⟨go54,(x8_2:Int).toNat * 3+2,none⟩=false:=hfr54 2;clear hcl54 hcc54 hfr54 hM54;replace p54:=eq_true p54;replace q54:=eq_true q54;have HX57:=a_ (show Kd.R k37 37 w56 w.heap.size (fun _=>True) (.slice (some ⟨go54,0,none⟩) x3_2.length co55) x3_2 from (rp_ HO_3.out));obtain ⟨ce57,hcl57,hM57,hcc57,hfr57⟩:=Kd.R_elem HX57.out z37 (x8_2:Int) (od_) (by have h_:(x8_2:Int) < ((x3_2.length:Int):Int):=od_;first|exact h_|(have e_:=(Kd.R_reads' HO_3.out).1;omega)|simpa using h_);obtain rfl:=k37_openM hM57;have HP57:=Kd.R_seg HX57.out (x8_2:Int) (od_) (by have h_:(x8_2:Int) < ((x3_2.length:Int):Int):=od_;first|exact h_|(have e_:=(Kd.R_reads' HO_3.out).1;omega)|simpa using h_) (seg:=[.string (⟨#[]⟩:ByteArray)]) (j:=2) hcl57 hcc57 (show 3≤3 from by decide) (x':=(⟨(rd_T37 x3_2 x8_2).f0,(rd_T37 x3_2 x8_2).f1,(⟨#[]⟩:ByteArray)⟩:S37)) (k37_mkM _ _ _ (⟨(rd_T37 x3_2 x8_2).f0,(rd_T37 x3_2 x8_2).f1,(⟨#[]⟩:ByteArray)⟩:S37) ) (fun _ hk=>hk);have hx57_2:=hcc57 2 _ rfl;(try simp only [show (k37).sz=3 from rfl,Nat.mul_one,Nat.add_zero] at hx57_2);have hf57_2:=hfr57 2;(try simp only [show (k37).sz=3 from rfl,Nat.mul_one,Nat.add_zero] at hf57_2);clear hcl57 hcc57 hfr57 hM57)|((with_reducible refine gate_store (t:=9) (p:=80) rfl ?_);refine store_event (t:=9) (p:=80) (v:=?vo_w58) (w1:=(w56.setCell ⟨go54,(x8_2:Int).toNat * 3+2,none⟩ (.string (⟨#[]⟩:ByteArray)))) ?hg ?ho ?hn ?hr ?_;(case ho=>rfl);(case hg=>rfl);(case hn=>rfl);(case hr=>first|(go_simp;done)|(go_simp;rfl));intro w58 hw;have hg:w56.grownBy w58 (some go54):=(by rw [hw];exact HP57.2);have hp_:Kd.R k37 37 w58 w.heap.size (fun _=>True) (.slice (some ⟨go54,0,none⟩) x3_2.length co55) y275:=(by rw [hw,Ny275.out];exact HP57.1);clear HP57;have n0_:=a_ (hp_);have n1_:=a_ (IsS102.grown (is_HI0) hg (IsS102.own_ne HI0.out HO_3.out (by decide)));have n2_:=a_ ((by rw [hw];exact wS_ (HB.out) (Nat.le_trans HL.out GB54.out):Below w0.heap.size w0 w58));have n3_:=a_ (KeepBut.trans (ke_) (KeepBut.of_grown hg g) (Kd.R_base2 HO_3.out));clear HO_3;clear HI0;clear HB;clear HK;have HO_3:=n0_;have HI0:=n1_;have HB:=n2_;have HK:=n3_;clear n0_ n1_ n2_ n3_;clear hg hw hp_))
          go_roundg k2
          case measure=>have:=HK1.out;have:=HK2.out;omega
          case rel=>exact ⟨(y275),(wrap64 (x8_2+1)),(t274),(si_),H',⟨by have:=HK1.out;have:=HK2.out;omega⟩,⟨by (with_reducible repeat (first|apply Kd.R_alloc|apply Kd.R_drewN|apply Kd.R_drew));exact HO_3.out⟩,⟨is_HI0⟩,⟨ke_⟩,⟨bel_⟩⟩
         ·rw [if_neg c53] at H
          have c53b0:(t273==0)=false:=bn_ c53
          have c53b1:(t273 != 0)=true:=bne_iff_ne.mpr c53
          have H':=a_ H
          clear H
          obtain ⟨Ao59,co59,eo59⟩:=Kd.R_slice HO_3.out
          subst eo59
          have p271:0≤(x8_2:Int):=od_
          have q271:x8_2 < (x3_2.length:Int):=od_
          obtain ⟨ad271,e271,hx271_0,hx271_1,hx271_2⟩:=at_T37 (Kd.R_reads' HO_3.out).2.2 x8_2 p271 q271
          cases e271
          replace p271:=eq_true p271
          replace q271:=eq_true q271
          go_wp2_with (first|((with_reducible refine gC_ (f:=87) rfl ?_);refine gl_ 70 Tryd.func87 #[.string ((rd_T37 x3_2 x8_2).f2)] ?_;(with_reducible refine (spec_l1Text.calls k2 ((rd_T37 x3_2 x8_2).f2) false _ A49.out).mono ?_);rintro e w' ⟨rfl,⟨nd,rfl⟩⟩;refine ⟨_,rfl,?_⟩)|(go_at_call 73;(with_reducible refine (spec_l6Rd_pick.calls k2 g s0_0 x1001_2 2 t273 t274 w0 _ ?side1 ?side2 A52.out).mono ?_);(case side1=>exact is_HI0);(case side2=>exact bel_);rintro e w60 ⟨rfl,hi,hb,hk⟩;replace HO_3:=a_ (Kd.R_mono (Kd.R_keep (IsS102.apart (show IsS102 w0 _ g s0_0 x1001_2 from is_HI0) (rp_ HO_3.out) (by decide)) hk (fun _ h=>h.2)) (fun _ h=>h.1));replace HK:=a_ (KeepBut.trans (ke_) hk (.inl rfl));replace HB:=a_ (hb);replace HI0:=a_ (hi);(try clear hb hk hi)))
          go_roundg k2
          case measure=>have:=HK1.out;have:=HK2.out;omega
          case rel=>exact ⟨(x3_2),(wrap64 (x8_2+1)),(t274),(si_),H',⟨by have:=HK1.out;have:=HK2.out;omega⟩,⟨by (with_reducible repeat (first|apply Kd.R_alloc|apply Kd.R_drewN|apply Kd.R_drew));exact HO_3.out⟩,⟨is_HI0⟩,⟨ke_⟩,⟨bel_⟩⟩
       ·rw [if_neg c48] at H
        exact absurd H (by simp)
      ·rw [if_neg c47] at H
       have c47b0:decide (x8_2 < (x3_2.length:Int))=false:=df_ c47
       clear c47
       replace H:=bs_ H
       obtain ⟨⟨t276,t277⟩,A610,H⟩:=H
       try dsimp only at H
       have A61:=a_ A610
       clear A610
       by_cases c62:t276=0
       ·rw [if_pos c62] at H
        have c62b0:(t276==0)=true:=beq_iff_eq.mpr c62
        have c62b1:(t276 != 0)=false:=be_ c62
        clear c62
        replace H:=bs_ H
        obtain ⟨⟨t278,t279⟩,A630,H⟩:=H
        try dsimp only at H
        have A63:=a_ A630
        clear A630
        replace H:=bs_ H
        obtain ⟨⟨t280,t281⟩,A640,H⟩:=H
        try dsimp only at H
        have A64:=a_ A640
        clear A640
        by_cases c65:0≤t278
        ·rw [if_pos c65] at H
         have c65b0:decide (0≤t278)=true:=dt_ c65
         clear c65
         by_cases c66:t278 < (x3_2.length:Int)
         ·rw [if_pos c66] at H
          have c66b0:decide (t278 < (x3_2.length:Int))=true:=dt_ c66
          clear c66
          obtain ⟨y282,hy282⟩:∃ y_:List (S37),y_=(x3_2.set (t278:Int).toNat (⟨(rd_T37 x3_2 t278).f0,t280,(rd_T37 x3_2 t278).f2⟩:S37)):=⟨_,rfl⟩
          replace H:(some (y282,t281))=some (r1,r2):=by first|(rw [hy282];with_reducible exact H)|(have H2_:=(Option.bind_some _ _).symm.trans H;rw [hy282];with_reducible exact H2_)|(have H2_:=(Option.bind_some _ _).symm.trans H;with_reducible exact H2_)|with_reducible exact H|(rw [hy282];exact H)|exact H
          have Ny282:=a_ hy282
          clear hy282
          simp only [Option.some.injEq,Prod.mk.injEq] at H
          obtain ⟨rfl,rfl⟩:=H
          obtain ⟨Ao68,co68,eo68⟩:=Kd.R_slice HO_3.out
          subst eo68
          go_wp2_with (first|((with_reducible refine gC_ (f:=73) rfl ?_);refine gl_ 82 Tryd.func73 #[.pointer (some ⟨g,0,none⟩),.int .i64 24] ?_;(with_reducible refine (spec_l6Rd_pick.calls k2 g s0_0 x1001_2 24 t276 t277 w0 _ ?side1 ?side2 A61.out).mono ?_);(case side1=>exact is_HI0);(case side2=>exact bel_);rintro e w69 ⟨rfl,hi,hb,hk⟩;refine ⟨_,rfl,?_⟩;replace HO_3:=a_ (Kd.R_mono (Kd.R_keep (IsS102.apart (show IsS102 w0 _ g s0_0 x1001_2 from is_HI0) (rp_ HO_3.out) (by decide)) hk (fun _ h=>h.2)) (fun _ h=>h.1));replace HK:=a_ (KeepBut.trans (ke_) hk (.inl rfl));replace HB:=a_ (hb);replace HI0:=a_ (hi);(try clear hb hk hi))|((with_reducible refine gC_ (f:=73) rfl ?_);refine gl_ 89 Tryd.func73 #[.pointer (some ⟨g,0,none⟩),.int .i64 (x3_2.length:Int)] ?_;(with_reducible refine (spec_l6Rd_pick.calls k2 g s0_0 t277 (x3_2.length:Int) t278 t279 w0 _ ?side1 ?side2 A63.out).mono ?_);(case side1=>exact is_HI0);(case side2=>exact bel_);rintro e w70 ⟨rfl,hi,hb,hk⟩;refine ⟨_,rfl,?_⟩;replace HO_3:=a_ (Kd.R_mono (Kd.R_keep (IsS102.apart (show IsS102 w0 _ g s0_0 t277 from is_HI0) (rp_ HO_3.out) (by decide)) hk (fun _ h=>h.2)) (fun _ h=>h.1));replace HK:=a_ (KeepBut.trans (ke_) hk (.inl rfl));replace HB:=a_ (hb);replace HI0:=a_ (hi);(try clear hb hk hi))|((with_reducible refine gC_ (f:=73) rfl ?_);refine gl_ 91 Tryd.func73 #[.pointer (some ⟨g,0,none⟩),.int .i64 5] ?_;(with_reducible refine (spec_l6Rd_pick.calls k2 g s0_0 t279 5 t280 t281 w0 _ ?side1 ?side2 A64.out).mono ?_);(case side1=>exact is_HI0);(case side2=>exact bel_);rintro e w71 ⟨rfl,hi,hb,hk⟩;refine ⟨_,rfl,?_⟩;replace HO_3:=a_ (Kd.R_mono (Kd.R_keep (IsS102.apart (show IsS102 w0 _ g s0_0 t279 from is_HI0) (rp_ HO_3.out) (by decide)) hk (fun _ h=>h.2)) (fun _ h=>h.1));replace HK:=a_ (KeepBut.trans (ke_) hk (.inl rfl));replace HB:=a_ (hb);replace HI0:=a_ (hi);(try clear hb hk hi);have p67:0≤(t278:Int):=od_;have q67:(t278:Int) < ((x3_2.length:Int):Int):=od_;obtain ⟨go67,co67,eo67,gb67,gl67,cl67,HG67⟩:=Kd.R_form HO_3.out (by omega);(first|cases eo67|(injection eo67 with ea_ en_ ec_;(first|subst ea_|(injection ea_ with ea_;subst ea_));subst ec_;clear en_));have GB67:=a_ gb67;have GG67:=a_ HG67;clear gb67 gl67 HG67;obtain ⟨ce67,hcl67,hM67,hcc67,hfr67⟩:=Kd.R_elem HO_3.out z37 (t278:Int) p67 q67;obtain rfl:=k37_openM hM67;have hx67_0:w71.cell? ⟨go67,(t278:Int).toNat * 3,none⟩=some (.int .i64 ((rd_T37 x3_2 t278).f0)):=hcc67 0 _ rfl;have hx67_1:w71.cell? ⟨go67,(t278:Int).toNat * 3+1,none⟩=some (.int .i64 ((rd_T37 x3_2 t278).f1)):=hcc67 1 _ rfl;have hx67_2:w71.cell? ⟨go67,(t278:Int).toNat * 3+2,none⟩=some (.string ((rd_T37 x3_2 t278).f2)):=hcc67 2 _ rfl;have hf67_0:w71.frozen? ⟨go67,(t278:Int).toNat * 3,none⟩=false:=hfr67 0;have hf67_1:w71.frozen? ⟨go67,(t278:Int).toNat * 3+1,none⟩=false:=hfr67 1;have hf67_2:w71.frozen? ⟨go67,(t278:Int).toNat * 3+2,none⟩=false:=hfr67 2;clear hcl67 hcc67 hfr67 hM67;replace p67:=eq_true p67;replace q67:=eq_true q67;have HX72:=a_ (show Kd.R k37 37 w71 w.heap.size (fun _=>True) (.slice (some ⟨go67,0,none⟩) x3_2.length co68) x3_2 from (rp_ HO_3.out));obtain ⟨ce72,hcl72,hM72,hcc72,hfr72⟩:=Kd.R_elem HX72.out z37 (t278:Int) (od_) (by have h_:(t278:Int) < ((x3_2.length:Int):Int):=od_;first|exact h_|(have e_:=(Kd.R_reads' HO_3.out).1;omega)|simpa using h_);obtain rfl:=k37_openM hM72;have HP72:=Kd.R_seg HX72.out (t278:Int) (od_) (by have h_:(t278:Int) < ((x3_2.length:Int):Int):=od_;first|exact h_|(have e_:=(Kd.R_reads' HO_3.out).1;omega)|simpa using h_) (seg:=[.int .i64 t280]) (j:=1) hcl72 hcc72 (show 2≤3 from by decide) (x':=(⟨(rd_T37 x3_2 t278).f0,t280,(rd_T37 x3_2 t278).f2⟩:S37)) (k37_mkM _ _ _ (⟨(rd_T37 x3_2 t278).f0,t280,(rd_T37 x3_2 t278).f2⟩:S37) ) (fun _ hk=>hk);have hx72_1:=hcc72 1 _ rfl;(try simp only [show (k37).sz=3 from rfl,Nat.mul_one,Nat.add_zero] at hx72_1);have hf72_1:=hfr72 1;(try simp only [show (k37).sz=3 from rfl,Nat.mul_one,Nat.add_zero] at hf72_1);clear hcl72 hcc72 hfr72 hM72)|((with_reducible refine gate_store (t:=3) (p:=93) rfl ?_);refine store_event (t:=3) (p:=93) (v:=?vo_w73) (w1:=(w71.setCell ⟨go67,(t278:Int).toNat * 3+1,none⟩ (.int .i64 t280))) ?hg ?ho ?hn ?hr ?_;(case ho=>rfl);(case hg=>rfl);(case hn=>rfl);(case hr=>first|(go_simp;done)|(go_simp;rfl));intro w73 hw;have hg:w71.grownBy w73 (some go67):=(by rw [hw];exact HP72.2);have hp_:Kd.R k37 37 w73 w.heap.size (fun _=>True) (.slice (some ⟨go67,0,none⟩) x3_2.length co68) y282:=(by rw [hw,Ny282.out];exact HP72.1);clear HP72;have n0_:=a_ (hp_);have n1_:=a_ (IsS102.grown (is_HI0) hg (IsS102.own_ne HI0.out HO_3.out (by decide)));have n2_:=a_ ((by rw [hw];exact wS_ (HB.out) (Nat.le_trans HL.out GB67.out):Below w0.heap.size w0 w73));have n3_:=a_ (KeepBut.trans (ke_) (KeepBut.of_grown hg g) (Kd.R_base2 HO_3.out));clear HO_3;clear HI0;clear HB;clear HK;have HO_3:=n0_;have HI0:=n1_;have HB:=n2_;have HK:=n3_;clear n0_ n1_ n2_ n3_;clear hg hw hp_))
          go_ret
          exact ⟨_,fi_,Kd.Q_of_R (rp_ HO_3.out),is_HI0,bel_,ke_⟩
         ·rw [if_neg c66] at H
          exact absurd H (by simp)
        ·rw [if_neg c65] at H
         exact absurd H (by simp)
       ·rw [if_neg c62] at H
        have c62b0:(t276==0)=false:=bn_ c62
        have c62b1:(t276 != 0)=true:=bne_iff_ne.mpr c62
        by_cases c74:t276=1
        ·rw [if_pos c74] at H
         have c74b0:(t276==1)=true:=beq_iff_eq.mpr c74
         have c74b1:(t276 != 1)=false:=be_ c74
         clear c74
         replace H:=bs_ H
         obtain ⟨⟨t283,t284⟩,A750,H⟩:=H
         try dsimp only at H
         have A75:=a_ A750
         clear A750
         by_cases c76:0≤t283
         ·rw [if_pos c76] at H
          have c76b0:decide (0≤t283)=true:=dt_ c76
          clear c76
          by_cases c77:t283 < (x3_2.length:Int)
          ·rw [if_pos c77] at H
           have c77b0:decide (t283 < (x3_2.length:Int))=true:=dt_ c77
           clear c77
           by_cases c78:x3_2.length < 4398046511104
           ·rw [if_pos c78] at H
            have LMc78:=a_ c78
            clear c78
            obtain ⟨y286,hy286⟩:∃ y_:List (S37),y_=(x3_2++[(⟨(rd_T37 x3_2 t283).f0,(rd_T37 x3_2 t283).f1,(rd_T37 x3_2 t283).f2⟩:S37)]):=⟨_,rfl⟩
            replace H:(some (y286,t284))=some (r1,r2):=by first|(rw [hy286];with_reducible exact H)|(have H2_:=(Option.bind_some _ _).symm.trans H;rw [hy286];with_reducible exact H2_)|(have H2_:=(Option.bind_some _ _).symm.trans H;with_reducible exact H2_)|with_reducible exact H|(rw [hy286];exact H)|exact H
            have Ny286:=a_ hy286
            clear hy286
            simp only [Option.some.injEq,Prod.mk.injEq] at H
            obtain ⟨rfl,rfl⟩:=H
            obtain ⟨Ao79,co79,eo79⟩:=Kd.R_slice HO_3.out
            subst eo79
            go_wp2_with (first|((with_reducible refine gC_ (f:=73) rfl ?_);refine gl_ 82 Tryd.func73 #[.pointer (some ⟨g,0,none⟩),.int .i64 24] ?_;(with_reducible refine (spec_l6Rd_pick.calls k2 g s0_0 x1001_2 24 t276 t277 w0 _ ?side1 ?side2 A61.out).mono ?_);(case side1=>exact is_HI0);(case side2=>exact bel_);rintro e w80 ⟨rfl,hi,hb,hk⟩;refine ⟨_,rfl,?_⟩;replace HO_3:=a_ (Kd.R_mono (Kd.R_keep (IsS102.apart (show IsS102 w0 _ g s0_0 x1001_2 from is_HI0) (rp_ HO_3.out) (by decide)) hk (fun _ h=>h.2)) (fun _ h=>h.1));replace HK:=a_ (KeepBut.trans (ke_) hk (.inl rfl));replace HB:=a_ (hb);replace HI0:=a_ (hi);(try clear hb hk hi))|((with_reducible refine gC_ (f:=73) rfl ?_);refine gl_ 101 Tryd.func73 #[.pointer (some ⟨g,0,none⟩),.int .i64 (x3_2.length:Int)] ?_;(with_reducible refine (spec_l6Rd_pick.calls k2 g s0_0 t277 (x3_2.length:Int) t283 t284 w0 _ ?side1 ?side2 A75.out).mono ?_);(case side1=>exact is_HI0);(case side2=>exact bel_);rintro e w81 ⟨rfl,hi,hb,hk⟩;refine ⟨_,rfl,?_⟩;replace HO_3:=a_ (Kd.R_mono (Kd.R_keep (IsS102.apart (show IsS102 w0 _ g s0_0 t277 from is_HI0) (rp_ HO_3.out) (by decide)) hk (fun _ h=>h.2)) (fun _ h=>h.1));replace HK:=a_ (KeepBut.trans (ke_) hk (.inl rfl));replace HB:=a_ (hb);replace HI0:=a_ (hi);(try clear hb hk hi);have p285:0≤(t283:Int):=od_;have q285:t283 < (x3_2.length:Int):=od_;obtain ⟨ad285,e285,hx285_0,hx285_1,hx285_2⟩:=at_T37 (Kd.R_reads' HO_3.out).2.2 t283 p285 q285;cases e285;replace p285:=eq_true p285;replace q285:=eq_true q285)|((with_reducible refine gate_builtin (b:=.append) (xs:=#[.tmp 96,.tmp 104]) rfl ?_);at_builtin;refine Kd.R_append k37 w.heap.size rfl (.tmp 96) (.tmp 104) 23 37 (.agg #[(.int .i64 0),(.int .i64 0),(.string ⟨#[]⟩)]) 32 rfl Tryd.underlying23 info37 rfl (by decide) (by omega) (.slice (some ad285) x3_2.length co79) x3_2 (⟨(rd_T37 x3_2 t283).f0,(rd_T37 x3_2 t283).f1,(rd_T37 x3_2 t283).f2⟩:S37) [.int .i64 ((rd_T37 x3_2 t283).f0),.int .i64 ((rd_T37 x3_2 t283).f1),.string ((rd_T37 x3_2 t283).f2)] (fun _=>True) (fun _=>False) rfl rfl ?aP (fun _ hk=>hk.elim) ?aF ?aO (Below.refl _ _) ?aS ?aL ?_;(case aP=>exact k37_mkM _ _ _ (⟨(rd_T37 x3_2 t283).f0,(rd_T37 x3_2 t283).f1,(rd_T37 x3_2 t283).f2⟩:S37));(case aF=>exact (fun _ _=>trivial));(case aO=>exact (rp_ HO_3.out));(case aS=>exact (keep_size (w:=w) (g:=g) (row:=none) (ke_)));(case aL=>have:=LMc78.out;omega);intro v287 w82 ho hb hg hat;rw [←Ny286.out] at ho;replace HB:=a_ (below_weaken (bel_) HL.out hb);replace HI0:=a_ (IsS102.grown (is_HI0) hg (IsS102.own_ne HI0.out HO_3.out (by decide)));replace HK:=a_ (KeepBut.trans (ke_) (KeepBut.of_grown hg g) (Kd.R_base2 HO_3.out));have HO288:=a_ (ho);clear HO_3;clear ho hb hg hat))
            go_ret
            exact ⟨_,fi_,Kd.Q_of_R (rp_ HO288.out),is_HI0,bel_,ke_⟩
           ·rw [if_neg c78] at H
            exact absurd H (by simp)
          ·rw [if_neg c77] at H
           exact absurd H (by simp)
         ·rw [if_neg c76] at H
          exact absurd H (by simp)
        ·rw [if_neg c74] at H
         have c74b0:(t276==1)=false:=bn_ c74
         have c74b1:(t276 != 1)=true:=bne_iff_ne.mpr c74
         by_cases c83:t276=2
         ·rw [if_pos c83] at H
          have c83b0:(t276==2)=true:=beq_iff_eq.mpr c83
          have c83b1:(t276 != 2)=false:=be_ c83
          clear c83
          by_cases c84:1≤(x3_2.length:Int)
          ·rw [if_pos c84] at H
           have c84b0:=eq_true c84
           have c84b1:decide (1≤(x3_2.length:Int))=true:=dt_ c84
           clear c84
           obtain ⟨y289,hy289⟩:∃ y_:List (S37),y_=(x3_2.drop (1:Int).toNat):=⟨_,rfl⟩
           replace H:(some (y289,t277))=some (r1,r2):=by first|(rw [hy289];with_reducible exact H)|(have H2_:=(Option.bind_some _ _).symm.trans H;rw [hy289];with_reducible exact H2_)|(have H2_:=(Option.bind_some _ _).symm.trans H;with_reducible exact H2_)|with_reducible exact H|(rw [hy289];exact H)|exact H
           have Ny289:=a_ hy289
           clear hy289
           simp only [Option.some.injEq,Prod.mk.injEq] at H
           obtain ⟨rfl,rfl⟩:=H
           obtain ⟨Ao85,co85,eo85⟩:=Kd.R_slice HO_3.out
           subst eo85
           go_wp2_with (first|((with_reducible refine gC_ (f:=73) rfl ?_);refine gl_ 82 Tryd.func73 #[.pointer (some ⟨g,0,none⟩),.int .i64 24] ?_;(with_reducible refine (spec_l6Rd_pick.calls k2 g s0_0 x1001_2 24 t276 t277 w0 _ ?side1 ?side2 A61.out).mono ?_);(case side1=>exact is_HI0);(case side2=>exact bel_);rintro e w86 ⟨rfl,hi,hb,hk⟩;refine ⟨_,rfl,?_⟩;replace HO_3:=a_ (Kd.R_mono (Kd.R_keep (IsS102.apart (show IsS102 w0 _ g s0_0 x1001_2 from is_HI0) (rp_ HO_3.out) (by decide)) hk (fun _ h=>h.2)) (fun _ h=>h.1));replace HK:=a_ (KeepBut.trans (ke_) hk (.inl rfl));replace HB:=a_ (hb);replace HI0:=a_ (hi);(try clear hb hk hi);have q87:(1:Int)≤((x3_2.length:Int):Int):=od_;obtain ⟨i087,hi087,_,hsz87,_⟩:=info_parts info37;have hcut87:=cut_from (P:=Tryd.prog) 23 37 .i64 Tryd.underlying23 hi087 3 hsz87 Ao85 x3_2.length co85 1 (by omega) q87;have hr87:=Kd.Q_drop (k:=(1:Int).toNat) (Kd.Q_of_R HO_3.out) (by omega);obtain ⟨A87,hA87⟩:∃ A1,A1=(if co85=(1:Int).toNat then Ao85 else (Ao85:Option Addr).map (·.add ((1:Int).toNat * 3))):=⟨_,rfl⟩;obtain ⟨c87,hc87⟩:∃ c1,c1=co85 - (1:Int).toNat:=⟨_,rfl⟩;have hy87:y289.length=x3_2.length - (1:Int).toNat:=(by rw [Ny289.out,List.length_drop]);rw [←Ny289.out] at hr87;rw [←hy87,←hA87,←hc87] at hcut87;replace hr87:Kd.Q k37 37 w86 w.heap.size (fun _=>True) (.slice A87 y289.length c87) y289:=(by rw [hA87,hc87,hy87];exact hr87);have HE87:Aside0 ((Value.slice A87 y289.length c87).ownBlock=(.slice Ao85 x3_2.length co85:Value).ownBlock):=⟨by rw [hA87];split <;> (cases (Ao85:Option Addr) <;> rfl)⟩;clear hy87 hi087 hsz87 HO_3 hA87 hc87;have HO291:=a_ hr87;clear hr87;replace q87:=eq_true q87))
           go_ret
           exact ⟨_,fi_,by (with_reducible repeat (first|apply Kd.Q_alloc|apply Kd.Q_drewN|apply Kd.Q_drew));exact HO291.out,is_HI0,bel_,ke_⟩
          ·rw [if_neg c84] at H
           exact absurd H (by simp)
         ·rw [if_neg c83] at H
          have c83b0:(t276==2)=false:=bn_ c83
          have c83b1:(t276 != 2)=true:=bne_iff_ne.mpr c83
          simp only [Option.some.injEq,Prod.mk.injEq] at H
          obtain ⟨rfl,rfl⟩:=H
          obtain ⟨Ao88,co88,eo88⟩:=Kd.R_slice HO_3.out
          subst eo88
          go_wp2_with (first|((with_reducible refine gC_ (f:=73) rfl ?_);refine gl_ 82 Tryd.func73 #[.pointer (some ⟨g,0,none⟩),.int .i64 24] ?_;(with_reducible refine (spec_l6Rd_pick.calls k2 g s0_0 x1001_2 24 t276 t277 w0 _ ?side1 ?side2 A61.out).mono ?_);(case side1=>exact is_HI0);(case side2=>exact bel_);rintro e w89 ⟨rfl,hi,hb,hk⟩;refine ⟨_,rfl,?_⟩;replace HO_3:=a_ (Kd.R_mono (Kd.R_keep (IsS102.apart (show IsS102 w0 _ g s0_0 x1001_2 from is_HI0) (rp_ HO_3.out) (by decide)) hk (fun _ h=>h.2)) (fun _ h=>h.1));replace HK:=a_ (KeepBut.trans (ke_) hk (.inl rfl));replace HB:=a_ (hb);replace HI0:=a_ (hi);(try clear hb hk hi)))
          go_ret
          exact ⟨_,fi_,Kd.Q_of_R (rp_ HO_3.out),is_HI0,bel_,ke_⟩
mutual
def spec_l71Row.l0:Nat→List (S37)→Int→List Int→Int→Option ((List (S37))×Int×Int)
 | 0,_,_,_,_=>none
 | k+1,x4,x5,x1000,x1001=>if x5 < 6 then ((spec_l6Rd_pick.f k x1000 x1001 12).bind fun bt296=>(spec_l71Row.j1 k x4 x5 (decide (bt296.1 > 0)) x1000 bt296.2)) else (spec_l71Row.j1 k x4 x5 false x1000 x1001)
def spec_l71Row.j1:Nat→List (S37)→Int→Bool→List Int→Int→Option ((List (S37))×Int×Int)
 | 0,_,_,_,_,_=>none
 | k+1,x4,x5,x15,x1000,x1001=>if x15=true then ((spec_l6Rd_pick.f k x1000 x1001 (x4.length:Int)).bind fun bt306=>(if 0≤bt306.1 then (if bt306.1 < (x4.length:Int) then ((spec_l1Made.f ((rd_T37 x4 bt306.1).f0)).bind fun t309=>(if t309=true then (some (x4,(rd_T37 x4 bt306.1).f0,bt306.2)) else (if x5=3 then ((spec_l71Tree.f k x1000 bt306.2).bind fun bt310=>(spec_l71Row.l0 k bt310.1 (wrap64 (x5+1)) x1000 bt310.2)) else (spec_l71Row.l0 k x4 (wrap64 (x5+1)) x1000 bt306.2)))) else (none)) else (none))) else ((spec_l71Id.f k x1000 x1001).bind fun bt298=>((some (([1,2,3,bt298.1,0]:List Int):List Int)).bind fun y300=>((spec_l6Rd_pick.f k x1000 bt298.2 5).bind fun bt303=>(if 0≤bt303.1 then (if bt303.1 < (y300.length:Int) then (some (x4,rd y300 bt303.1,bt303.2)) else (none)) else (none)))))
end
def spec_l71Row.f (k:Nat) (s0_0:List Int) (s0_1:Int):Option ((List (S37))×Int×Int):=(spec_l71Tree.f k s0_0 s0_1).bind fun bt292=>(spec_l71Row.l0 k bt292.1 0 s0_0 bt292.2)
theorem spec_l71Row.mono_l:∀ k,(∀ y0 y1 y2 y3,LeO (spec_l71Row.l0 k y0 y1 y2 y3) (spec_l71Row.l0 (k+1) y0 y1 y2 y3))∧(∀ y0 y1 y2 y3 y4,LeO (spec_l71Row.j1 k y0 y1 y2 y3 y4) (spec_l71Row.j1 (k+1) y0 y1 y2 y3 y4))
 | 0=>⟨fun _ _ _ _ r h=>by simp [spec_l71Row.l0] at h,fun _ _ _ _ _ r h=>by simp [spec_l71Row.j1] at h⟩
 | k+1=>by
  obtain ⟨ih0,ih1⟩:=spec_l71Row.mono_l k
  refine ⟨?_,?_⟩
  all_goals intros
  all_goals first|unfold spec_l71Row.l0|unfold spec_l71Row.j1
  all_goals repeat' first
  | (with_reducible exact ih0 _ _ _ _)
  | (with_reducible exact ih1 _ _ _ _ _)
  | (with_reducible exact spec_l6Rd_pick.mono _ _ _ _)
  | (with_reducible exact spec_l71Id.mono _ _ _)
  | (with_reducible exact spec_l71Tree.mono _ _ _)
  | (with_reducible exact LeO.refl _)
  | (with_reducible exact LeO.none _)
  | (with_reducible refine LeO.ite ?_ ?_)
  | (with_reducible refine LeO.bind ?_ (fun _=>?_))
theorem spec_l71Row.mono:∀ a0 a1 k,LeO (spec_l71Row.f k a0 a1) (spec_l71Row.f (k+1) a0 a1):=by
 intro a0 a1 k
 obtain ⟨ih0,ih1⟩:=spec_l71Row.mono_l k
 unfold spec_l71Row.f
 repeat' first
   | (with_reducible exact ih0 _ _ _ _)
   | (with_reducible exact ih1 _ _ _ _ _)
   | (with_reducible exact spec_l6Rd_pick.mono _ _ _ _)
   | (with_reducible exact spec_l71Id.mono _ _ _)
   | (with_reducible exact spec_l71Tree.mono _ _ _)
   | (with_reducible exact LeO.refl _)
   | (with_reducible exact LeO.none _)
   | (with_reducible refine LeO.ite ?_ ?_)
   | (with_reducible refine LeO.bind ?_ (fun _=>?_))
def spec_l71Row.T10:Bool×List (List Nat×List Nat):=(true,[([],[]),([],[]),([1],[1]),([2],[2]),([],[]),([4,2],[4]),([3,5],[3,5]),([6],[6]),([0,5,0],[0]),([7,8,0,1,2,3,4,5,6,7,8],[7])])
def spec_l71Row.B10:List Nat:=[0,0,2,6,0,22,62,126,55,511]
theorem spec_l71Row.tab10:rtab .any (opsOf Tryd.f51 10)=spec_l71Row.T10:=by kernel_rfl
theorem spec_l71Row.bits10:waitsOk spec_l71Row.T10.2 spec_l71Row.B10=true:=by kernel_rfl
theorem spec_l71Row.calls (k:Nat) (g:Nat) (s0_0:List Int) (s0_1:Int) (r1:List (S37)) (r2:Int) (r3:Int) (w0 w:World) (hI:IsS102 w0 w g s0_0 s0_1) (hB:Below w0.heap.size w0 w) (h:spec_l71Row.f k s0_0 s0_1=some (r1,r2,r3)) :
  Calls Tryd.prog 51 #[.pointer (some ⟨g,0,none⟩)] w fun e w'=>∃ v0_:Value,e=.returned (.tuple #[v0_,.int .i64 r2])∧Kd.Q k37 37 w' w.heap.size (fun _=>True) v0_ r1∧IsS102 w0 w' g s0_0 r3∧Below w0.heap.size w0 w'∧KeepBut w w' g none:=by
 have HI0:=a_ hI
 have HK:=a_ (KeepBut.refl w g none)
 have HL:=a_ hB.size
 clear hI
 have HW0:=a_ hB.size
 have HB:=a_ hB
 clear hB
 unfold spec_l71Row.f at h
 have H:=h
 clear h
 replace H:=bs_ H
 obtain ⟨⟨t292,t295⟩,A20,H⟩:=H
 try dsimp only at H
 have A2:=a_ A20
 clear A20
 have H':=a_ H
 clear H
 go_enter Tryd.func51,Tryd.ntmps51
 go_wp2_with (first|((with_reducible refine gC_ (f:=90) rfl ?_);refine gl_ 8 Tryd.func90 #[.pointer (some ⟨g,0,none⟩)] ?_;(with_reducible refine (spec_l71Tree.calls k g s0_0 s0_1 t292 t295 w0 _ ?side1 ?side2 A2.out).mono ?_);(case side1=>exact is_HI0);(case side2=>exact bel_);rintro e w3 ⟨v293,rfl,ho0,hi,hb,hk⟩;refine ⟨_,rfl,?_⟩;have HO294:=a_ (Kd.Q_lower ho0 (keep_size (w:=w) (g:=g) (row:=none) (ke_)));replace HK:=a_ (KeepBut.trans (ke_) hk (.inl rfl));replace HB:=a_ (hb);replace HI0:=a_ (hi);(try clear hb hk hi ho0)))
 go_loopg [4,5] k (fun kq v4 v5 w'=>∃ (x4_1:List (S37)) (x5_1:Int) (x1001_1:Int),v5=.int .i64 x5_1∧Aside0 (spec_l71Row.l0 kq x4_1 x5_1 s0_0 x1001_1=some (r1,r2,r3))∧Aside0 (kq≤k)∧Aside0 (Kd.Q k37 37 w' w.heap.size (fun _=>True) v4 x4_1)∧Aside0 (IsS102 w0 w' g s0_0 x1001_1)∧Aside0 (KeepBut w w' g none)∧Aside0 (Below w0.heap.size w0 w'))
 case atStart=>exact ⟨(t292),(0),(t295),(si_),H',⟨Nat.le_refl _⟩,⟨by (with_reducible repeat (first|apply Kd.Q_alloc|apply Kd.Q_drewN|apply Kd.Q_drew));exact HO294.out⟩,⟨is_HI0⟩,⟨ke_⟩,⟨bel_⟩⟩
 case round =>
  clear H'
  try clear p2
  obtain ⟨x4_1,x5_1,x1001_1,rfl,HA,HK1,HO_4,HI0,HK,HB⟩:=hrel
  cases gk with
  | zero=>exact absurd HA.out (by simp [spec_l71Row.l0])
  | succ k1 =>
   have H:=HA.out
   clear HA
   simp only [spec_l71Row.l0] at H
   have HC4:=a_ H
   clear H
   go_upto_region 3 with (fail)
   go_cut [15] (fun v15 wc=>∃ (kq:Nat) (x15_3:Bool) (x1001_3:Int),v15=.bool x15_3∧Aside0 (spec_l71Row.j1 kq x4_1 x5_1 x15_3 s0_0 x1001_3=some (r1,r2,r3))∧Aside0 (kq≤k1)∧Aside0 (Kd.Q k37 37 wc w.heap.size (fun _=>True) u4 x4_1)∧Aside0 (IsS102 w0 wc g s0_0 x1001_3)∧Aside0 (KeepBut w wc g none)∧Aside0 (Below w0.heap.size w0 wc))
   case first =>
    have H:=HC4.out
    clear HC4
    by_cases c5:x5_1 < 6
    ·rw [if_pos c5] at H
     have c5b0:decide (x5_1 < 6)=true:=dt_ c5
     clear c5
     (first|rw [c5b0]|(simp only [i64_w,i32_w];rw [c5b0])|skip)
     replace H:=bs_ H
     obtain ⟨⟨t296,t297⟩,A60,H⟩:=H
     try dsimp only at H
     have A6:=a_ A60
     clear A60
     have H':=a_ H
     clear H
     go_wp2_with (first|(go_at_call 73;(with_reducible refine (spec_l6Rd_pick.calls k1 g s0_0 x1001_1 12 t296 t297 w0 _ ?side1 ?side2 A6.out).mono ?_);(case side1=>exact is_HI0);(case side2=>exact bel_);rintro e w7 ⟨rfl,hi,hb,hk⟩;replace HO_4:=a_ (Kd.Q_mono (Kd.Q_keep (IsS102.apartQ (show IsS102 w0 _ g s0_0 x1001_1 from is_HI0) (qp_ HO_4.out) (by decide)) hk (fun _ h=>h.2)) (fun _ h=>h.1));replace HK:=a_ (KeepBut.trans (ke_) hk (.inl rfl));replace HB:=a_ (hb);replace HI0:=a_ (hi);(try clear hb hk hi)))
     go_meet
     case rel=>exact ⟨_,(decide (t296 > 0)),(t297),(si_),H',⟨by have:=HK1.out;first|omega|exact Nat.le_refl _⟩,⟨by (with_reducible repeat (first|apply Kd.Q_alloc|apply Kd.Q_drewN|apply Kd.Q_drew));exact HO_4.out⟩,⟨is_HI0⟩,⟨ke_⟩,⟨bel_⟩⟩
    ·rw [if_neg c5] at H
     have c5b0:decide (x5_1 < 6)=false:=df_ c5
     clear c5
     (first|rw [c5b0]|(simp only [i64_w,i32_w];rw [c5b0])|skip)
     have H':=a_ H
     clear H
     go_wp2
     go_meet
     case rel=>exact ⟨_,(false),(x1001_1),(si_),H',⟨by have:=HK1.out;first|omega|exact Nat.le_refl _⟩,⟨by (with_reducible repeat (first|apply Kd.Q_alloc|apply Kd.Q_drewN|apply Kd.Q_drew));exact HO_4.out⟩,⟨is_HI0⟩,⟨ke_⟩,⟨bel_⟩⟩
   case rest =>
    clear HC4
    try clear p2
    try clear c5
    try clear c5b0
    try clear p2
    obtain ⟨kq,x15_3,x1001_3,rfl,HA,HJ3,HO_4,HI0,HK,HB⟩:=hcut
    cases kq with
    | zero=>exact absurd HA.out (by simp [spec_l71Row.j1])
    | succ kj3 =>
     have H:=HA.out
     clear HA
     simp only [spec_l71Row.j1] at H
     by_cases c8:x15_3=true
     ·subst c8
      have H1:((spec_l6Rd_pick.f kj3 s0_0 x1001_3 (x4_1.length:Int)).bind fun bt306=>(if 0≤bt306.1 then (if bt306.1 < (x4_1.length:Int) then ((spec_l1Made.f ((rd_T37 x4_1 bt306.1).f0)).bind fun t309=>(if t309=true then (some (x4_1,(rd_T37 x4_1 bt306.1).f0,bt306.2)) else (if x5_1=3 then ((spec_l71Tree.f kj3 s0_0 bt306.2).bind fun bt310=>(spec_l71Row.l0 kj3 bt310.1 (wrap64 (x5_1+1)) s0_0 bt310.2)) else (spec_l71Row.l0 kj3 x4_1 (wrap64 (x5_1+1)) s0_0 bt306.2)))) else (none)) else (none)))=some (r1,r2,r3):=by rw [if_pos rfl] at H;exact H
      clear H
      have H:=H1
      clear H1
      replace H:=bs_ H
      obtain ⟨⟨t306,t307⟩,A90,H⟩:=H
      try dsimp only at H
      have A9:=a_ A90
      clear A90
      by_cases c10:0≤t306
      ·rw [if_pos c10] at H
       have c10b0:decide (0≤t306)=true:=dt_ c10
       clear c10
       by_cases c11:t306 < (x4_1.length:Int)
       ·rw [if_pos c11] at H
        have c11b0:decide (t306 < (x4_1.length:Int))=true:=dt_ c11
        clear c11
        replace H:=bs_ H
        obtain ⟨t309,A120,H⟩:=H
        try dsimp only at H
        have A12:=a_ A120
        clear A120
        by_cases c13:t309=true
        ·subst c13
         have H1:(some (x4_1,(rd_T37 x4_1 t306).f0,t307))=some (r1,r2,r3):=by rw [if_pos rfl] at H;exact H
         clear H
         have H:=H1
         clear H1
         simp only [Option.some.injEq,Prod.mk.injEq] at H
         obtain ⟨rfl,rfl,rfl⟩:=H
         obtain ⟨Ao14,co14,eo14,_⟩:=Kd.Q_slice HO_4.out
         subst eo14
         go_wp2_with (first|((with_reducible refine gC_ (f:=73) rfl ?_);refine gl_ 22 Tryd.func73 #[.pointer (some ⟨g,0,none⟩),.int .i64 (x4_1.length:Int)] ?_;(with_reducible refine (spec_l6Rd_pick.calls kj3 g s0_0 x1001_3 (x4_1.length:Int) t306 t307 w0 _ ?side1 ?side2 A9.out).mono ?_);(case side1=>exact is_HI0);(case side2=>exact bel_);rintro e w15 ⟨rfl,hi,hb,hk⟩;refine ⟨_,rfl,?_⟩;replace HO_4:=a_ (Kd.Q_mono (Kd.Q_keep (IsS102.apartQ (show IsS102 w0 _ g s0_0 x1001_3 from is_HI0) (qp_ HO_4.out) (by decide)) hk (fun _ h=>h.2)) (fun _ h=>h.1));replace HK:=a_ (KeepBut.trans (ke_) hk (.inl rfl));replace HB:=a_ (hb);replace HI0:=a_ (hi);(try clear hb hk hi);have p308:0≤(t306:Int):=od_;have q308:t306 < (x4_1.length:Int):=od_;obtain ⟨ad308,e308,hx308_0,hx308_1,hx308_2⟩:=at_T37 (Kd.Q_reads' HO_4.out).2.2 t306 p308 q308;cases e308;replace p308:=eq_true p308;replace q308:=eq_true q308)|((with_reducible refine gC_ (f:=53) rfl ?_);refine gl_ 27 Tryd.func53 #[.int .i64 ((rd_T37 x4_1 t306).f0)] ?_;(with_reducible refine (spec_l1Made.calls ((rd_T37 x4_1 t306).f0) true _ A12.out).mono ?_);rintro e w' ⟨rfl,⟨nd,rfl⟩⟩;refine ⟨_,rfl,?_⟩))
         go_ret2
         exact ⟨_,fi_,by (with_reducible repeat (first|apply Kd.Q_alloc|apply Kd.Q_drewN|apply Kd.Q_drew));exact HO_4.out,is_HI0,bel_,ke_⟩
        ·replace c13:=Bool.eq_false_iff.mpr c13
         subst c13
         have H1:(if x5_1=3 then ((spec_l71Tree.f kj3 s0_0 t307).bind fun bt310=>(spec_l71Row.l0 kj3 bt310.1 (wrap64 (x5_1+1)) s0_0 bt310.2)) else (spec_l71Row.l0 kj3 x4_1 (wrap64 (x5_1+1)) s0_0 t307))=some (r1,r2,r3):=by rw [if_neg (show ¬ (false=true) by decide)] at H;exact H
         clear H
         have H:=H1
         clear H1
         by_cases c16:x5_1=3
         ·rw [if_pos c16] at H
          have c16b0:(x5_1==3)=true:=beq_iff_eq.mpr c16
          have c16b1:(x5_1 != 3)=false:=be_ c16
          clear c16
          replace H:=bs_ H
          obtain ⟨⟨t310,t313⟩,A170,H⟩:=H
          try dsimp only at H
          have A17:=a_ A170
          clear A170
          have H':=a_ H
          clear H
          obtain ⟨Ao18,co18,eo18,_⟩:=Kd.Q_slice HO_4.out
          subst eo18
          go_wp2_with (first|((with_reducible refine gC_ (f:=73) rfl ?_);refine gl_ 22 Tryd.func73 #[.pointer (some ⟨g,0,none⟩),.int .i64 (x4_1.length:Int)] ?_;(with_reducible refine (spec_l6Rd_pick.calls kj3 g s0_0 x1001_3 (x4_1.length:Int) t306 t307 w0 _ ?side1 ?side2 A9.out).mono ?_);(case side1=>exact is_HI0);(case side2=>exact bel_);rintro e w19 ⟨rfl,hi,hb,hk⟩;refine ⟨_,rfl,?_⟩;replace HO_4:=a_ (Kd.Q_mono (Kd.Q_keep (IsS102.apartQ (show IsS102 w0 _ g s0_0 x1001_3 from is_HI0) (qp_ HO_4.out) (by decide)) hk (fun _ h=>h.2)) (fun _ h=>h.1));replace HK:=a_ (KeepBut.trans (ke_) hk (.inl rfl));replace HB:=a_ (hb);replace HI0:=a_ (hi);(try clear hb hk hi);have p308:0≤(t306:Int):=od_;have q308:t306 < (x4_1.length:Int):=od_;obtain ⟨ad308,e308,hx308_0,hx308_1,hx308_2⟩:=at_T37 (Kd.Q_reads' HO_4.out).2.2 t306 p308 q308;cases e308;replace p308:=eq_true p308;replace q308:=eq_true q308)|((with_reducible refine gC_ (f:=53) rfl ?_);refine gl_ 27 Tryd.func53 #[.int .i64 ((rd_T37 x4_1 t306).f0)] ?_;(with_reducible refine (spec_l1Made.calls ((rd_T37 x4_1 t306).f0) false _ A12.out).mono ?_);rintro e w' ⟨rfl,⟨nd,rfl⟩⟩;refine ⟨_,rfl,?_⟩)|((with_reducible refine gC_ (f:=90) rfl ?_);refine gl_ 33 Tryd.func90 #[.pointer (some ⟨g,0,none⟩)] ?_;(with_reducible refine (spec_l71Tree.calls kj3 g s0_0 t307 t310 t313 w0 _ ?side1 ?side2 A17.out).mono ?_);(case side1=>exact is_HI0);(case side2=>exact bel_);rintro e w20 ⟨v311,rfl,ho0,hi,hb,hk⟩;refine ⟨_,rfl,?_⟩;have HO312:=a_ (Kd.Q_lower (Kd.Q_new' ho0 (Kd.Q_lt (qp_ HO_4.out))) (keep_size (w:=w) (g:=g) (row:=none) (ke_)));replace HO_4:=a_ (Kd.Q_mono (Kd.Q_told (Kd.Q_oldK (IsS102.apartQ (show IsS102 w0 _ g s0_0 t307 from is_HI0) (qp_ HO_4.out) (by decide)) hk) (Kd.Q_base ho0)) (fun _ h_=>h_.1));replace HK:=a_ (KeepBut.trans (ke_) hk (.inl rfl));replace HB:=a_ (hb);replace HI0:=a_ (hi);(try clear hb hk hi ho0)))
          go_roundg kj3
          case measure=>have:=HK1.out;have:=HJ3.out;omega
          case rel=>exact ⟨(t310),(wrap64 (x5_1+1)),(t313),(si_),H',⟨by have:=HK1.out;have:=HJ3.out;omega⟩,⟨by (with_reducible repeat (first|apply Kd.Q_alloc|apply Kd.Q_drewN|apply Kd.Q_drew));exact Kd.Q_mono HO312.out (fun _ hk=>trivial)⟩,⟨is_HI0⟩,⟨ke_⟩,⟨bel_⟩⟩
         ·rw [if_neg c16] at H
          have c16b0:(x5_1==3)=false:=bn_ c16
          have c16b1:(x5_1 != 3)=true:=bne_iff_ne.mpr c16
          have H':=a_ H
          clear H
          obtain ⟨Ao21,co21,eo21,_⟩:=Kd.Q_slice HO_4.out
          subst eo21
          go_wp2_with (first|((with_reducible refine gC_ (f:=73) rfl ?_);refine gl_ 22 Tryd.func73 #[.pointer (some ⟨g,0,none⟩),.int .i64 (x4_1.length:Int)] ?_;(with_reducible refine (spec_l6Rd_pick.calls kj3 g s0_0 x1001_3 (x4_1.length:Int) t306 t307 w0 _ ?side1 ?side2 A9.out).mono ?_);(case side1=>exact is_HI0);(case side2=>exact bel_);rintro e w22 ⟨rfl,hi,hb,hk⟩;refine ⟨_,rfl,?_⟩;replace HO_4:=a_ (Kd.Q_mono (Kd.Q_keep (IsS102.apartQ (show IsS102 w0 _ g s0_0 x1001_3 from is_HI0) (qp_ HO_4.out) (by decide)) hk (fun _ h=>h.2)) (fun _ h=>h.1));replace HK:=a_ (KeepBut.trans (ke_) hk (.inl rfl));replace HB:=a_ (hb);replace HI0:=a_ (hi);(try clear hb hk hi);have p308:0≤(t306:Int):=od_;have q308:t306 < (x4_1.length:Int):=od_;obtain ⟨ad308,e308,hx308_0,hx308_1,hx308_2⟩:=at_T37 (Kd.Q_reads' HO_4.out).2.2 t306 p308 q308;cases e308;replace p308:=eq_true p308;replace q308:=eq_true q308)|((with_reducible refine gC_ (f:=53) rfl ?_);refine gl_ 27 Tryd.func53 #[.int .i64 ((rd_T37 x4_1 t306).f0)] ?_;(with_reducible refine (spec_l1Made.calls ((rd_T37 x4_1 t306).f0) false _ A12.out).mono ?_);rintro e w' ⟨rfl,⟨nd,rfl⟩⟩;refine ⟨_,rfl,?_⟩))
          go_roundg kj3
          case measure=>have:=HK1.out;have:=HJ3.out;omega
          case rel=>exact ⟨(x4_1),(wrap64 (x5_1+1)),(t307),(si_),H',⟨by have:=HK1.out;have:=HJ3.out;omega⟩,⟨by (with_reducible repeat (first|apply Kd.Q_alloc|apply Kd.Q_drewN|apply Kd.Q_drew));exact HO_4.out⟩,⟨is_HI0⟩,⟨ke_⟩,⟨bel_⟩⟩
       ·rw [if_neg c11] at H
        exact absurd H (by simp)
      ·rw [if_neg c10] at H
       exact absurd H (by simp)
     ·replace c8:=Bool.eq_false_iff.mpr c8
      subst c8
      have H1:((spec_l71Id.f kj3 s0_0 x1001_3).bind fun bt298=>((some (([1,2,3,bt298.1,0]:List Int):List Int)).bind fun y300=>((spec_l6Rd_pick.f kj3 s0_0 bt298.2 5).bind fun bt303=>(if 0≤bt303.1 then (if bt303.1 < (y300.length:Int) then (some (x4_1,rd y300 bt303.1,bt303.2)) else (none)) else (none)))))=some (r1,r2,r3):=by rw [if_neg (show ¬ (false=true) by decide)] at H;exact H
      clear H
      have H:=H1
      clear H1
      replace H:=bs_ H
      obtain ⟨⟨t298,t299⟩,A230,H⟩:=H
      try dsimp only at H
      have A23:=a_ A230
      clear A230
      obtain ⟨y300,hy300⟩:∃ y_:List Int,y_=(([1,2,3,t298,0]:List Int)):=⟨_,rfl⟩
      replace H:((spec_l6Rd_pick.f kj3 s0_0 t299 5).bind fun bt303=>(if 0≤bt303.1 then (if bt303.1 < (y300.length:Int) then (some (x4_1,rd y300 bt303.1,bt303.2)) else (none)) else (none)))=some (r1,r2,r3):=by first|(rw [hy300];with_reducible exact H)|(have H2_:=(Option.bind_some _ _).symm.trans H;rw [hy300];with_reducible exact H2_)|(have H2_:=(Option.bind_some _ _).symm.trans H;with_reducible exact H2_)|with_reducible exact H|(rw [hy300];exact H)|exact H
      have Ny300:=a_ hy300
      clear hy300
      replace H:=bs_ H
      obtain ⟨⟨t303,t304⟩,A240,H⟩:=H
      try dsimp only at H
      have A24:=a_ A240
      clear A240
      by_cases c25:0≤t303
      ·rw [if_pos c25] at H
       have c25b0:decide (0≤t303)=true:=dt_ c25
       clear c25
       by_cases c26:t303 < (y300.length:Int)
       ·rw [if_pos c26] at H
        have c26b0:decide (t303 < (y300.length:Int))=true:=dt_ c26
        clear c26
        simp only [Option.some.injEq,Prod.mk.injEq] at H
        obtain ⟨rfl,rfl,rfl⟩:=H
        try go_wp2
        have pi305:(0≤(t303:Int))=True:=eq_true (od_)
        have qi305:(t303 < (y300.length:Int))=True:=eq_true (od_)
        have n0_:=a_ (Kd.Q_drew HO_4.out)
        have n1_:=a_ (IsS102.drew HI0.out)
        have n2_:=a_ (keep_drew HK.out)
        have n3_:=a_ (below_drew1 HB.out)
        clear HO_4
        clear HI0
        clear HK
        clear HB
        have HO_4:=n0_
        have HI0:=n1_
        have HK:=n2_
        have HB:=n3_
        clear n0_ n1_ n2_ n3_
        refine start_ (n:=10) (S:=fun w'=>True) (ds:=[]) #[false,false,false,false,false,false,false,false,false,false] (by kernel_rfl) rfl rfl trivial (fun hHeld=>?_);refine with_tabW spec_l71Row.tab10 spec_l71Row.bits10 (fun HT_ HW_=>?_)
        generalize wc.drew=w27 at HO_4 HI0 HK HB hHeld ⊢
        refine pa_ 0 34 ?_
        refine pa_ 1 35 ?_
        refine pa_ 4 38 ?_
        refine on_ 2 36 (fun K hK=>?_)
        refine goes_ Tryd.func91 (by kernel_rfl) rfl #[.pointer (some ⟨g,0,none⟩)] (by rfl) rfl rfl ar_ ?_
        with_reducible refine (spec_l71Id.calls kj3 g s0_0 x1001_3 t298 t299 w0 _ ?side1 ?side2 A23.out).mono ?_
        (case side1=>exact is_HI0)
        (case side2=>exact bel_)
        rintro e w28 ⟨rfl,hi,hb,hk⟩
        refine ⟨_,rfl,?_⟩
        have n0_:=a_ (Kd.Q_mono (Kd.Q_keep (IsS102.apartQ (show IsS102 w0 _ g s0_0 x1001_3 from is_HI0) (qp_ HO_4.out) (by decide)) hk (fun _ h=>h.2)) (fun _ h=>h.1))
        have n1_:=a_ (KeepBut.trans (ke_) hk (.inl rfl))
        have n2_:=a_ (hb)
        have n3_:=a_ (hi)
        clear HO_4
        clear HK
        clear HB
        clear HI0
        have HO_4:=n0_
        have HK:=n1_
        have HB:=n2_
        have HI0:=n3_
        clear n0_ n1_ n2_ n3_
        (try clear hb)
        (try clear hb2)
        (try clear hk)
        (try clear hi)
        refine hK.out _ _ trivial (fun hHeld=>?_)
        clear hK K
        refine no_ 36 ?_
        refine join_ (σ:=Value×Addr) 3 #[true,true,true,true,true,true,false,false,true,false] (fun s_=>[(37,s_.1),(39,.int .i64 t303),(2,u4)]) (fun s_ w'=>(Kd.R (Kd.int .i64) 3 w' w.heap.size (fun _=>True) s_.1 y300)∧(Kd.Q k37 37 w' w.heap.size (fun _=>True) u4 x4_1)∧(∃ c_,(s_.1:Value)=.slice (some s_.2) y300.length c_)∧(IsS102 w0 w' g s0_0 t304)∧(KeepBut w w' g none)∧(Below w0.heap.size w0 w')) ?_ ?_
        rotate_left
        ·intro hCont
         refine two_ (i:=3) (j:=5) (Ni:=some 37) (Nj:=some 39) #[true,true,true,true,true,false,false,false,false,false] #[true,true,true,false,true,true,false,false,false,false] rfl rfl rfl rfl (two_of HT_.out (by kernel_rfl)) (by decide) (by decide) (fun K hK=>?_) (fun K hK=>?_)
         ·skip
          refine Kd.R_lit_step (Kd.int .i64) _ 3 ?hg (N:=37) ?hd (xs:=([1,2,3,t298,0]:List Int)) (inner:=[.int .i64 1,.int .i64 2,.int .i64 3,.int .i64 t298,.int .i64 0]) (ok:=fun _=>True) (okp:=fun _=>True) ?hr ?hp (fun _ hk=>hk) trivial (Below.refl _ _) (Nat.le_refl _) (by simp) ?_;(case hd=>rfl);(case hg=>rfl);(case hr=>first|(go_simp;done)|(go_simp;rfl));(case hp=>exact (Reps.one (show Kd.M (Kd.int .i64) _ _ _ 1 [.int .i64 1] from rfl) (Reps.one (show Kd.M (Kd.int .i64) _ _ _ 2 [.int .i64 2] from rfl) (Reps.one (show Kd.M (Kd.int .i64) _ _ _ 3 [.int .i64 3] from rfl) (Reps.one (show Kd.M (Kd.int .i64) _ _ _ t298 [.int .i64 t298] from rfl) (Reps.one (show Kd.M (Kd.int .i64) _ _ _ 0 [.int .i64 0] from rfl) (Reps.none _ _)))))))
          intro v301 w29 ho30 hb hg_ hnew_
          clear hg_ hnew_
          (first|rw [←Ny300.out] at ho30|(simp only [Int.reduceToNat] at ho30;rw [←Ny300.out] at ho30))
          have n0_:=a_ (Kd.Q_below (qp_ HO_4.out) hb)
          have n1_:=a_ (Kd.R_lower ho30 (keep_size (w:=w) (g:=g) (row:=none) (ke_)))
          have n2_:=a_ (IsS102.below (is_HI0) hb)
          have n3_:=a_ (KeepBut.trans (ke_) (KeepBut.of_below hb g none) (.inl rfl))
          have n4_:=a_ (bS_ (bel_) hb)
          clear HO_4
          clear HI0
          clear HK
          clear HB
          have HO_4:=n0_
          have HO302:=n1_
          have HI0:=n2_
          have HK:=n3_
          have HB:=n4_
          clear n0_ n1_ n2_ n3_ n4_
          clear hb ho30
          obtain ⟨Ao31,co31,eo31⟩:=Kd.R_slice HO302.out
          subst eo31
          obtain ⟨ado31,fo31,_⟩:=Kd.at_int (Kd.R_reads' HO302.out).2.2 0 (by decide) (by rw [Ny300.out];simp)
          cases fo31
          refine hK.out _ _ trivial (fun hHeld=>?_)
          clear hK K
          refine no_ 37 ?_
          refine on_ 5 39 (fun K hK=>?_)
          refine goes_ Tryd.func73 (by kernel_rfl) rfl #[.pointer (some ⟨g,0,none⟩),.int .i64 5] (by rfl) rfl rfl ar_ ?_
          with_reducible refine (spec_l6Rd_pick.calls kj3 g s0_0 t299 5 t303 t304 w0 _ ?side1 ?side2 A24.out).mono ?_
          (case side1=>exact is_HI0)
          (case side2=>exact bel_)
          rintro e w32 ⟨rfl,hi,hb,hk⟩
          refine ⟨_,rfl,?_⟩
          have n0_:=a_ (Kd.Q_mono (Kd.Q_keep (IsS102.apartQ (show IsS102 w0 _ g s0_0 t299 from is_HI0) (qp_ HO_4.out) (by decide)) hk (fun _ h=>h.2)) (fun _ h=>h.1))
          have n1_:=a_ (Kd.R_mono (Kd.R_keep (IsS102.apart (show IsS102 w0 _ g s0_0 t299 from is_HI0) (rp_ HO302.out) (by decide)) hk (fun _ h=>h.2)) (fun _ h=>h.1))
          have n2_:=a_ (KeepBut.trans (ke_) hk (.inl rfl))
          have n3_:=a_ (hb)
          have n4_:=a_ (hi)
          clear HO_4
          clear HO302
          clear HK
          clear HB
          clear HI0
          have HO_4:=n0_
          have HO302:=n1_
          have HK:=n2_
          have HB:=n3_
          have HI0:=n4_
          clear n0_ n1_ n2_ n3_ n4_
          (try clear hb)
          (try clear hb2)
          (try clear hk)
          (try clear hi)
          refine hK.out _ _ trivial (fun hHeld=>?_)
          clear hK K
          refine no_ 39 ?_
          refine pa_ 8 2 ?_
          exact norm_ (by simp only [putAll,Act.put,List.setIfInBounds_toArray,List.set_cons_zero,List.set_cons_succ]) (hCont (.slice (some ado31) y300.length co31,ado31) _ ⟨(rp_ HO302.out),(qp_ HO_4.out),⟨_,rfl⟩,(is_HI0),(ke_),(bel_)⟩)
         ·skip
          refine goes_ Tryd.func73 (by kernel_rfl) rfl #[.pointer (some ⟨g,0,none⟩),.int .i64 5] (by rfl) rfl rfl ar_ ?_
          with_reducible refine (spec_l6Rd_pick.calls kj3 g s0_0 t299 5 t303 t304 w0 _ ?side1 ?side2 A24.out).mono ?_
          (case side1=>exact is_HI0)
          (case side2=>exact bel_)
          rintro e w29 ⟨rfl,hi,hb,hk⟩
          refine ⟨_,rfl,?_⟩
          have n0_:=a_ (Kd.Q_mono (Kd.Q_keep (IsS102.apartQ (show IsS102 w0 _ g s0_0 t299 from is_HI0) (qp_ HO_4.out) (by decide)) hk (fun _ h=>h.2)) (fun _ h=>h.1))
          have n1_:=a_ (KeepBut.trans (ke_) hk (.inl rfl))
          have n2_:=a_ (hb)
          have n3_:=a_ (hi)
          clear HO_4
          clear HK
          clear HB
          clear HI0
          have HO_4:=n0_
          have HK:=n1_
          have HB:=n2_
          have HI0:=n3_
          clear n0_ n1_ n2_ n3_
          (try clear hb)
          (try clear hb2)
          (try clear hk)
          (try clear hi)
          refine hK.out _ _ trivial (fun hHeld=>?_)
          clear hK K
          refine no_ 39 ?_
          refine pa_ 8 2 ?_
          refine on_ 3 37 (fun K hK=>?_)
          refine Kd.R_lit_step (Kd.int .i64) _ 3 ?hg (N:=37) ?hd (xs:=([1,2,3,t298,0]:List Int)) (inner:=[.int .i64 1,.int .i64 2,.int .i64 3,.int .i64 t298,.int .i64 0]) (ok:=fun _=>True) (okp:=fun _=>True) ?hr ?hp (fun _ hk=>hk) trivial (Below.refl _ _) (Nat.le_refl _) (by simp) ?_;(case hd=>rfl);(case hg=>rfl);(case hr=>first|(go_simp;done)|(go_simp;rfl));(case hp=>exact (Reps.one (show Kd.M (Kd.int .i64) _ _ _ 1 [.int .i64 1] from rfl) (Reps.one (show Kd.M (Kd.int .i64) _ _ _ 2 [.int .i64 2] from rfl) (Reps.one (show Kd.M (Kd.int .i64) _ _ _ 3 [.int .i64 3] from rfl) (Reps.one (show Kd.M (Kd.int .i64) _ _ _ t298 [.int .i64 t298] from rfl) (Reps.one (show Kd.M (Kd.int .i64) _ _ _ 0 [.int .i64 0] from rfl) (Reps.none _ _)))))))
          intro v301 w30 ho31 hb hg_ hnew_
          clear hg_ hnew_
          (first|rw [←Ny300.out] at ho31|(simp only [Int.reduceToNat] at ho31;rw [←Ny300.out] at ho31))
          have n0_:=a_ (Kd.Q_below (qp_ HO_4.out) hb)
          have n1_:=a_ (Kd.R_lower ho31 (keep_size (w:=w) (g:=g) (row:=none) (ke_)))
          have n2_:=a_ (IsS102.below (is_HI0) hb)
          have n3_:=a_ (KeepBut.trans (ke_) (KeepBut.of_below hb g none) (.inl rfl))
          have n4_:=a_ (bS_ (bel_) hb)
          clear HO_4
          clear HI0
          clear HK
          clear HB
          have HO_4:=n0_
          have HO302:=n1_
          have HI0:=n2_
          have HK:=n3_
          have HB:=n4_
          clear n0_ n1_ n2_ n3_ n4_
          clear hb ho31
          obtain ⟨Ao32,co32,eo32⟩:=Kd.R_slice HO302.out
          subst eo32
          obtain ⟨ado32,fo32,_⟩:=Kd.at_int (Kd.R_reads' HO302.out).2.2 0 (by decide) (by rw [Ny300.out];simp)
          cases fo32
          refine hK.out _ _ trivial (fun hHeld=>?_)
          clear hK K
          refine no_ 37 ?_
          exact norm_ (by simp only [putAll,Act.put,List.setIfInBounds_toArray,List.set_cons_zero,List.set_cons_succ]) (hCont (.slice (some ado32) y300.length co32,ado32) _ ⟨(rp_ HO302.out),(qp_ HO_4.out),⟨_,rfl⟩,(is_HI0),(ke_),(bel_)⟩)
        rintro ⟨v301,adz_v301⟩ w33 ⟨h0_,h1_,h2_,h3_,h4_,h5_⟩
        have n0_:Aside0 (Kd.R (Kd.int .i64) 3 w33 w.heap.size (fun _=>True) v301 y300):=⟨h0_⟩
        have n1_:Aside0 (Kd.Q k37 37 w33 w.heap.size (fun _=>True) u4 x4_1):=⟨h1_⟩
        have n2_:Aside0 (∃ c_,(v301:Value)=.slice (some adz_v301) y300.length c_):=⟨h2_⟩
        have n3_:Aside0 (IsS102 w0 w33 g s0_0 t304):=⟨h3_⟩
        have n4_:Aside0 (KeepBut w w33 g none):=⟨h4_⟩
        have n5_:Aside0 (Below w0.heap.size w0 w33):=⟨h5_⟩
        clear HO_4
        clear HI0
        clear HK
        clear HB
        clear h0_ h1_ h2_ h3_ h4_ h5_
        have HO302:=n0_
        have HO_4:=n1_
        have HA_HO302:=n2_
        have HI0:=n3_
        have HK:=n4_
        have HB:=n5_
        clear n0_ n1_ n2_ n3_ n4_ n5_
        have hHeld:=trivial
        obtain ⟨co34,eo34⟩:=HA_HO302.out
        clear HA_HO302
        subst eo34
        refine norm_ (a':=?_) ?_ ?_
        rotate_left
        ·simp only [putAll,Act.put,List.setIfInBounds_toArray,List.set_cons_zero,List.set_cons_succ]
         rfl
        refine pa_ 6 40 ?_
        refine on_ 7 41 (fun K hK=>?_)
        (have p305:0≤(t303:Int):=od_;have q305:t303 < (y300.length:Int):=od_;obtain ⟨ad305,e305,hx305_0⟩:=Kd.at_int (Kd.R_reads' HO302.out).2.2 t303 p305 q305;obtain rfl:adz_v301=ad305:=(by injection e305))
        refine value_ (w1:=?_) (v:=?_) (by rfl) rfl ?_ ?_
        rotate_left 2
        ·go_simp
         constructor
         ·rfl
         ·rfl
        clear hx305_0
        refine hK.out _ _ trivial (fun hHeld=>?_)
        clear hK K
        refine no_ 41 ?_
        refine pa_ 9 3 ?_
        refine done_ (done_of HT_.out (by kernel_rfl)) ?_
        try go_wp2
        go_ret2
        exact ⟨_,fi_,by (with_reducible repeat (first|apply Kd.Q_alloc|apply Kd.Q_drewN|apply Kd.Q_drew));exact HO_4.out,is_HI0,bel_,ke_⟩
       ·rw [if_neg c26] at H
        exact absurd H (by simp)
      ·rw [if_neg c25] at H
       exact absurd H (by simp)
def spec_l6Open.f (l0:List Int):Option (List Int×Int):=if (l0.length:Int) > 2000 then (if 2000≤(l0.length:Int) then (some (l0.take 2000,0)) else (none)) else (some (l0,0))
theorem spec_l6Open.calls (A0:Option Addr) (c0:Nat) (l0:List Int) (r1:List Int) (r2:Int) (w0 w:World) (hB:Below w0.heap.size w0 w) (hr0:Kd.C (Kd.int .u8) w0 A0 l0.length l0) (hc0:l0.length≤c0) (h:spec_l6Open.f l0=some (r1,r2)) :
  Calls Tryd.prog 52 #[.slice A0 l0.length c0] w fun e w'=>∃ g_:Nat,e=.returned (.pointer (some ⟨g_,0,none⟩))∧IsS102 w0 w' g_ r1 r2∧Below w0.heap.size w0 w'∧Below w.heap.size w w':=by
 have hu102:=Tryd.underlying102
 have HR0:=a_ hr0
 have HC0:=a_ hc0
 clear hr0 hc0
 have HBW:=a_ (Below.refl w.heap.size w)
 have HW0:=a_ hB.size
 have HB:=a_ hB
 clear hB
 unfold spec_l6Open.f at h
 have H:=h
 clear h
 by_cases c2:(l0.length:Int) > 2000
 ·rw [if_pos c2] at H
  have c2b0:decide (2000 < (l0.length:Int))=true:=dt_ c2
  have c2b1:decide (2000 < l0.length)=true:=dt_ (by omega)
  clear c2
  by_cases c3:2000≤(l0.length:Int)
  ·rw [if_pos c3] at H
   have c3b0:=eq_true c3
   have c3b1:decide (2000≤(l0.length:Int))=true:=dt_ c3
   clear c3
   simp only [Option.some.injEq,Prod.mk.injEq] at H
   obtain ⟨rfl,rfl⟩:=H
   obtain ⟨i04,hi04,_,hsz4,_⟩:=info_parts info5
   obtain ⟨hcut4,hA4,hC4⟩:=print_take_of (P:=Tryd.prog) (Value.int .u8) 0 22 5 .i64 Tryd.underlying22 hi04 hsz4 A0 c0 l0 2000 (by omega) (od_) HC0.out
   have HR314:=a_ (Kd.C_of_reads (h1:=fun _=>rfl) (hA4 _ (Kd.reads_of_C HR0.out)))
   have HC314:=a_ hC4
   clear hA4 hC4 hi04 hsz4
   go_enter Tryd.func52,Tryd.ntmps52
   go_wp2_with (first|((with_reducible refine gD_ (N:=10) rfl ?_);refine bx_ 10 (#[.slice A0 (l0.take 2000).length c0,.int .i64 0]) 102 ?_;intro gb315 hg w5 hbox hb;have n0_:=a_ (bS_ HBW.out hb);have n1_:=a_ (bS_ (bel_) hb);have n2_:=a_ (hbox);have n3_:=a_ ((by rw [hg];exact (below_size (by repeat (first|(with_reducible first|exact HBW.out|apply wA_|apply pw_below_drewN|apply below_drew1)|exact HBW.out))):w.heap.size≤gb315));have n4_:=a_ ((Nat.le_trans HW0.out (by rw [hg];exact (below_size (by repeat (first|(with_reducible first|exact HBW.out|apply wA_|apply pw_below_drewN|apply below_drew1)|exact HBW.out))):w.heap.size≤gb315):w0.heap.size≤gb315));clear HBW;clear HB;have HBW:=n0_;have HB:=n1_;have BK315:=n2_;have GW315:=n3_;have GE315:=n4_;clear n0_ n1_ n2_ n3_ n4_;clear hb hbox hg))
   go_ret
   exact ⟨_,rfl,(show IsS102 w0 _ gb315 (l0.take 2000) 0 from ⟨_,_,by (with_reducible repeat (first|refine bN_ ?_ _|refine bD_ ?_|refine bA_ ?_ _));exact BK315.out,GE315.out,HR314.out⟩),bel_,by repeat (first|(with_reducible first|exact HBW.out|apply wA_|apply pw_below_drewN|apply below_drew1|refine wS_ ?_ GW315.out)|exact HBW.out)⟩
  ·rw [if_neg c3] at H
   exact absurd H (by simp)
 ·rw [if_neg c2] at H
  have c2b0:decide (2000 < (l0.length:Int))=false:=df_ c2
  have c2b1:decide (2000 < l0.length)=false:=df_ (by omega)
  clear c2
  simp only [Option.some.injEq,Prod.mk.injEq] at H
  obtain ⟨rfl,rfl⟩:=H
  go_enter Tryd.func52,Tryd.ntmps52
  go_wp2_with (first|((with_reducible refine gD_ (N:=10) rfl ?_);refine bx_ 10 (#[.slice A0 l0.length c0,.int .i64 0]) 102 ?_;intro gb316 hg w6 hbox hb;have n0_:=a_ (bS_ HBW.out hb);have n1_:=a_ (bS_ (bel_) hb);have n2_:=a_ (hbox);have n3_:=a_ ((by rw [hg];exact (below_size (by repeat (first|(with_reducible first|exact HBW.out|apply wA_|apply pw_below_drewN|apply below_drew1)|exact HBW.out))):w.heap.size≤gb316));have n4_:=a_ ((Nat.le_trans HW0.out (by rw [hg];exact (below_size (by repeat (first|(with_reducible first|exact HBW.out|apply wA_|apply pw_below_drewN|apply below_drew1)|exact HBW.out))):w.heap.size≤gb316):w0.heap.size≤gb316));clear HBW;clear HB;have HBW:=n0_;have HB:=n1_;have BK316:=n2_;have GW316:=n3_;have GE316:=n4_;clear n0_ n1_ n2_ n3_ n4_;clear hb hbox hg))
  go_ret
  exact ⟨_,rfl,(show IsS102 w0 _ gb316 l0 0 from ⟨_,_,by (with_reducible repeat (first|refine bN_ ?_ _|refine bD_ ?_|refine bA_ ?_ _));exact BK316.out,GE316.out,HR0.out⟩),bel_,by repeat (first|(with_reducible first|exact HBW.out|apply wA_|apply pw_below_drewN|apply below_drew1|refine wS_ ?_ GW316.out)|exact HBW.out)⟩
def spec_l1Root.f (a0:Int):Option (Bool):=(spec_l6In.f a0 1 3).bind fun t325=>(some t325)
theorem spec_l1Root.calls (a0:Int) (r:Bool) (w:World) (h:spec_l1Root.f a0=some r) :
  Calls Tryd.prog 59 #[.int .i64 a0] w fun e w'=>e=.returned (.bool r)∧Drawn0 w w':=by
 unfold spec_l1Root.f at h
 have H:=h
 clear h
 replace H:=bs_ H
 obtain ⟨t325,A20,H⟩:=H
 try dsimp only at H
 have A2:=a_ A20
 clear A20
 obtain rfl:=sj_ H
 go_enter Tryd.func59,Tryd.ntmps59
 go_wp2_with (first|((with_reducible refine gC_ (f:=92) rfl ?_);refine gl_ 4 Tryd.func92 #[.int .i64 a0,.int .i64 1,.int .i64 3] ?_;(with_reducible refine (spec_l6In.calls a0 1 3 t325 _ A2.out).mono ?_);rintro e w' ⟨rfl,⟨nd,rfl⟩⟩;refine ⟨_,rfl,?_⟩))
 go_ret
 exact ⟨si_,by repeat (first|exact Drawn0.refl _|apply Drawn0.step)⟩
def spec_RowOk.f (k:Nat) (a0_0:Int) (a0_1:Int) (a0_2:ByteArray):Option (Bool):=(spec_l1Root.f a0_0).bind fun t327=>(if t327=true then (if a0_1=0 then (some (a0_2.toList==([]:List UInt8))) else (some false)) else ((spec_l1Made.f a0_0).bind fun t328=>(if t328=true then ((spec_l6In.f a0_1 1 18).bind fun t329=>(if t329=true then ((spec_l1Text.f k a0_2).bind fun t330=>(some t330)) else (some false))) else (some false))))
theorem spec_RowOk.mono:∀ a0 a1 a2 k,LeO (spec_RowOk.f k a0 a1 a2) (spec_RowOk.f (k+1) a0 a1 a2):=by
 intro a0 a1 a2 k
 unfold spec_RowOk.f
 repeat' first
   | (with_reducible exact spec_l1Text.mono _ _)
   | (with_reducible exact LeO.refl _)
   | (with_reducible exact LeO.none _)
   | (with_reducible refine LeO.ite ?_ ?_)
   | (with_reducible refine LeO.bind ?_ (fun _=>?_))
theorem spec_RowOk.calls (k:Nat) (a0_0:Int) (a0_1:Int) (a0_2:ByteArray) (r:Bool) (w:World) (h:spec_RowOk.f k a0_0 a0_1 a0_2=some r) :
  Calls Tryd.prog 58 #[.agg #[.int .i64 a0_0,.int .i64 a0_1,.string a0_2]] w fun e w'=>e=.returned (.bool r)∧Below w.heap.size w w':=by
 have hu37:=Tryd.underlying37
 have HB:=a_ (Below.refl w.heap.size w)
 unfold spec_RowOk.f at h
 have H:=h
 clear h
 replace H:=bs_ H
 obtain ⟨t327,A20,H⟩:=H
 try dsimp only at H
 have A2:=a_ A20
 clear A20
 by_cases c3:t327=true
 ·subst c3
  have H1:(if a0_1=0 then (some (a0_2.toList==([]:List UInt8))) else (some false))=some r:=by rw [if_pos rfl] at H;exact H
  clear H
  have H:=H1
  clear H1
  by_cases c4:a0_1=0
  ·rw [if_pos c4] at H
   have c4b0:(a0_1==0)=true:=beq_iff_eq.mpr c4
   have c4b1:(a0_1 != 0)=false:=be_ c4
   clear c4
   obtain rfl:=sj_ H
   go_enter Tryd.func58,Tryd.ntmps58
   go_wp2_with (first|((with_reducible refine gD_ (N:=1) rfl ?_);refine bx_ 1 (#[.int .i64 a0_0,.int .i64 a0_1,.string a0_2]) 37 ?_;intro gb326 hg w5 hbox hb;have n0_:=a_ (bS_ (bel_) hb);have n1_:=a_ (hbox);have n2_:=a_ ((by rw [hg];exact (below_size (bel_)):w.heap.size≤gb326));have n3_:=a_ ((by rw [hg];exact (below_size (bel_)):w.heap.size≤gb326));clear HB;have HB:=n0_;have BK326:=n1_;have GW326:=n2_;have GE326:=n3_;clear n0_ n1_ n2_ n3_;clear hb hbox hg;obtain ⟨Z6_0,Z6_1,Z6_2,Y6_0,Y6_1,Y6_2⟩:=op3_ BK326.out)|((with_reducible refine gC_ (f:=59) rfl ?_);refine gl_ 5 Tryd.func59 #[.int .i64 a0_0] ?_;(with_reducible refine (spec_l1Root.calls a0_0 true _ A2.out).mono ?_);rintro e w' ⟨rfl,⟨nd,rfl⟩⟩;refine ⟨_,rfl,?_⟩))
   go_ret
   exact ⟨fi_,bel_⟩
  ·rw [if_neg c4] at H
   have c4b0:(a0_1==0)=false:=bn_ c4
   have c4b1:(a0_1 != 0)=true:=bne_iff_ne.mpr c4
   obtain rfl:=sj_ H
   go_enter Tryd.func58,Tryd.ntmps58
   go_wp2_with (first|((with_reducible refine gD_ (N:=1) rfl ?_);refine bx_ 1 (#[.int .i64 a0_0,.int .i64 a0_1,.string a0_2]) 37 ?_;intro gb326 hg w7 hbox hb;have n0_:=a_ (bS_ (bel_) hb);have n1_:=a_ (hbox);have n2_:=a_ ((by rw [hg];exact (below_size (bel_)):w.heap.size≤gb326));have n3_:=a_ ((by rw [hg];exact (below_size (bel_)):w.heap.size≤gb326));clear HB;have HB:=n0_;have BK326:=n1_;have GW326:=n2_;have GE326:=n3_;clear n0_ n1_ n2_ n3_;clear hb hbox hg;obtain ⟨Z8_0,Z8_1,Z8_2,Y8_0,Y8_1,Y8_2⟩:=op3_ BK326.out)|((with_reducible refine gC_ (f:=59) rfl ?_);refine gl_ 5 Tryd.func59 #[.int .i64 a0_0] ?_;(with_reducible refine (spec_l1Root.calls a0_0 true _ A2.out).mono ?_);rintro e w' ⟨rfl,⟨nd,rfl⟩⟩;refine ⟨_,rfl,?_⟩))
   go_ret
   exact ⟨fi_,bel_⟩
 ·replace c3:=Bool.eq_false_iff.mpr c3
  subst c3
  have H1:((spec_l1Made.f a0_0).bind fun t328=>(if t328=true then ((spec_l6In.f a0_1 1 18).bind fun t329=>(if t329=true then ((spec_l1Text.f k a0_2).bind fun t330=>(some t330)) else (some false))) else (some false)))=some r:=by rw [if_neg (show ¬ (false=true) by decide)] at H;exact H
  clear H
  have H:=H1
  clear H1
  replace H:=bs_ H
  obtain ⟨t328,A90,H⟩:=H
  try dsimp only at H
  have A9:=a_ A90
  clear A90
  by_cases c10:t328=true
  ·subst c10
   have H1:((spec_l6In.f a0_1 1 18).bind fun t329=>(if t329=true then ((spec_l1Text.f k a0_2).bind fun t330=>(some t330)) else (some false)))=some r:=by rw [if_pos rfl] at H;exact H
   clear H
   have H:=H1
   clear H1
   replace H:=bs_ H
   obtain ⟨t329,A110,H⟩:=H
   try dsimp only at H
   have A11:=a_ A110
   clear A110
   by_cases c12:t329=true
   ·subst c12
    have H1:((spec_l1Text.f k a0_2).bind fun t330=>(some t330))=some r:=by rw [if_pos rfl] at H;exact H
    clear H
    have H:=H1
    clear H1
    replace H:=bs_ H
    obtain ⟨t330,A130,H⟩:=H
    try dsimp only at H
    have A13:=a_ A130
    clear A130
    obtain rfl:=sj_ H
    go_enter Tryd.func58,Tryd.ntmps58
    go_wp2_with (first|((with_reducible refine gD_ (N:=1) rfl ?_);refine bx_ 1 (#[.int .i64 a0_0,.int .i64 a0_1,.string a0_2]) 37 ?_;intro gb326 hg w14 hbox hb;have n0_:=a_ (bS_ (bel_) hb);have n1_:=a_ (hbox);have n2_:=a_ ((by rw [hg];exact (below_size (bel_)):w.heap.size≤gb326));have n3_:=a_ ((by rw [hg];exact (below_size (bel_)):w.heap.size≤gb326));clear HB;have HB:=n0_;have BK326:=n1_;have GW326:=n2_;have GE326:=n3_;clear n0_ n1_ n2_ n3_;clear hb hbox hg;obtain ⟨Z15_0,Z15_1,Z15_2,Y15_0,Y15_1,Y15_2⟩:=op3_ BK326.out)|((with_reducible refine gC_ (f:=59) rfl ?_);refine gl_ 5 Tryd.func59 #[.int .i64 a0_0] ?_;(with_reducible refine (spec_l1Root.calls a0_0 false _ A2.out).mono ?_);rintro e w' ⟨rfl,⟨nd,rfl⟩⟩;refine ⟨_,rfl,?_⟩)|((with_reducible refine gC_ (f:=53) rfl ?_);refine gl_ 16 Tryd.func53 #[.int .i64 a0_0] ?_;(with_reducible refine (spec_l1Made.calls a0_0 true _ A9.out).mono ?_);rintro e w' ⟨rfl,⟨nd,rfl⟩⟩;refine ⟨_,rfl,?_⟩)|(go_at_call 92;(with_reducible refine (spec_l6In.calls a0_1 1 18 true _ A11.out).mono ?_);rintro e w' ⟨rfl,⟨nd,rfl⟩⟩)|(go_at_call 87;(with_reducible refine (spec_l1Text.calls k a0_2 t330 _ A13.out).mono ?_);rintro e w' ⟨rfl,⟨nd,rfl⟩⟩))
    go_ret
    exact ⟨fi_,bel_⟩
   ·replace c12:=Bool.eq_false_iff.mpr c12
    subst c12
    have H1:(some false)=some r:=by rw [if_neg (show ¬ (false=true) by decide)] at H;exact H
    clear H
    have H:=H1
    clear H1
    obtain rfl:=sj_ H
    go_enter Tryd.func58,Tryd.ntmps58
    go_wp2_with (first|((with_reducible refine gD_ (N:=1) rfl ?_);refine bx_ 1 (#[.int .i64 a0_0,.int .i64 a0_1,.string a0_2]) 37 ?_;intro gb326 hg w16 hbox hb;have n0_:=a_ (bS_ (bel_) hb);have n1_:=a_ (hbox);have n2_:=a_ ((by rw [hg];exact (below_size (bel_)):w.heap.size≤gb326));have n3_:=a_ ((by rw [hg];exact (below_size (bel_)):w.heap.size≤gb326));clear HB;have HB:=n0_;have BK326:=n1_;have GW326:=n2_;have GE326:=n3_;clear n0_ n1_ n2_ n3_;clear hb hbox hg;obtain ⟨Z17_0,Z17_1,Z17_2,Y17_0,Y17_1,Y17_2⟩:=op3_ BK326.out)|((with_reducible refine gC_ (f:=59) rfl ?_);refine gl_ 5 Tryd.func59 #[.int .i64 a0_0] ?_;(with_reducible refine (spec_l1Root.calls a0_0 false _ A2.out).mono ?_);rintro e w' ⟨rfl,⟨nd,rfl⟩⟩;refine ⟨_,rfl,?_⟩)|((with_reducible refine gC_ (f:=53) rfl ?_);refine gl_ 16 Tryd.func53 #[.int .i64 a0_0] ?_;(with_reducible refine (spec_l1Made.calls a0_0 true _ A9.out).mono ?_);rintro e w' ⟨rfl,⟨nd,rfl⟩⟩;refine ⟨_,rfl,?_⟩)|(go_at_call 92;(with_reducible refine (spec_l6In.calls a0_1 1 18 false _ A11.out).mono ?_);rintro e w' ⟨rfl,⟨nd,rfl⟩⟩))
    go_ret
    exact ⟨fi_,bel_⟩
  ·replace c10:=Bool.eq_false_iff.mpr c10
   subst c10
   have H1:(some false)=some r:=by rw [if_neg (show ¬ (false=true) by decide)] at H;exact H
   clear H
   have H:=H1
   clear H1
   obtain rfl:=sj_ H
   go_enter Tryd.func58,Tryd.ntmps58
   go_wp2_with (first|((with_reducible refine gD_ (N:=1) rfl ?_);refine bx_ 1 (#[.int .i64 a0_0,.int .i64 a0_1,.string a0_2]) 37 ?_;intro gb326 hg w18 hbox hb;have n0_:=a_ (bS_ (bel_) hb);have n1_:=a_ (hbox);have n2_:=a_ ((by rw [hg];exact (below_size (bel_)):w.heap.size≤gb326));have n3_:=a_ ((by rw [hg];exact (below_size (bel_)):w.heap.size≤gb326));clear HB;have HB:=n0_;have BK326:=n1_;have GW326:=n2_;have GE326:=n3_;clear n0_ n1_ n2_ n3_;clear hb hbox hg;obtain ⟨Z19_0,Z19_1,Z19_2,Y19_0,Y19_1,Y19_2⟩:=op3_ BK326.out)|((with_reducible refine gC_ (f:=59) rfl ?_);refine gl_ 5 Tryd.func59 #[.int .i64 a0_0] ?_;(with_reducible refine (spec_l1Root.calls a0_0 false _ A2.out).mono ?_);rintro e w' ⟨rfl,⟨nd,rfl⟩⟩;refine ⟨_,rfl,?_⟩)|((with_reducible refine gC_ (f:=53) rfl ?_);refine gl_ 16 Tryd.func53 #[.int .i64 a0_0] ?_;(with_reducible refine (spec_l1Made.calls a0_0 false _ A9.out).mono ?_);rintro e w' ⟨rfl,⟨nd,rfl⟩⟩;refine ⟨_,rfl,?_⟩))
   go_ret
   exact ⟨fi_,bel_⟩
mutual
def spec_TreeOk.l0:Nat→List (S37)→Int→Int→Option (Bool)
 | 0,_,_,_=>none
 | k+1,x0,x3,x4=>if x4 < (x0.length:Int) then (if 0≤x4 then ((spec_RowOk.f k ((rd_T37 x0 x4).f0) ((rd_T37 x0 x4).f1) ((rd_T37 x0 x4).f2)).bind fun t333=>(if t333=true then (if x4 > 0 then (if 0≤(wrap64 (x4 - 1)) then (if (wrap64 (x4 - 1)) < (x0.length:Int) then (spec_TreeOk.j1 k x0 x3 x4 (decide (((rd_T37 x0 x4).f1) > (wrap64 (((rd_T37 x0 (wrap64 (x4 - 1))).f1)+1))))) else (none)) else (none)) else (spec_TreeOk.j1 k x0 x3 x4 false)) else (spec_TreeOk.j1 k x0 x3 x4 true))) else (none)) else (if x3=3 then (if 0 < (x0.length:Int) then (some (((rd_T37 x0 0).f0)==1)) else (none)) else (some false))
def spec_TreeOk.j1:Nat→List (S37)→Int→Int→Bool→Option (Bool)
 | 0,_,_,_,_=>none
 | k+1,x0,x3,x4,x36=>if x36=true then (some false) else (if 0≤x4 then (if x4 < (x0.length:Int) then ((spec_l1Root.f ((rd_T37 x0 x4).f0)).bind fun t337=>(if t337=true then (if ((rd_T37 x0 x4).f0)=(wrap64 (x3+1)) then (spec_TreeOk.j2 k x0 (wrap64 (x3+1)) x4) else (some false)) else (spec_TreeOk.j2 k x0 x3 x4))) else (none)) else (none))
def spec_TreeOk.j2:Nat→List (S37)→Int→Int→Option (Bool)
 | 0,_,_,_=>none
 | k+1,x0,x3,x4=>spec_TreeOk.l1 k x0 x3 x4 0
def spec_TreeOk.l1:Nat→List (S37)→Int→Int→Int→Option (Bool)
 | 0,_,_,_,_=>none
 | k+1,x0,x3,x4,x5=>if x5 < x4 then (if 0≤x5 then (if x5 < (x0.length:Int) then (if 0≤x4 then (if x4 < (x0.length:Int) then (if ((rd_T37 x0 x5).f0)=((rd_T37 x0 x4).f0) then (some false) else (spec_TreeOk.l1 k x0 x3 x4 (wrap64 (x5+1)))) else (none)) else (none)) else (none)) else (none)) else (spec_TreeOk.l0 k x0 x3 (wrap64 (x4+1)))
end
def spec_TreeOk.f (k:Nat) (l0:List (S37)):Option (Bool):=spec_TreeOk.l0 k l0 0 0
theorem spec_TreeOk.mono_l:∀ k,(∀ y0 y1 y2,LeO (spec_TreeOk.l0 k y0 y1 y2) (spec_TreeOk.l0 (k+1) y0 y1 y2))∧(∀ y0 y1 y2 y3,LeO (spec_TreeOk.j1 k y0 y1 y2 y3) (spec_TreeOk.j1 (k+1) y0 y1 y2 y3))∧(∀ y0 y1 y2,LeO (spec_TreeOk.j2 k y0 y1 y2) (spec_TreeOk.j2 (k+1) y0 y1 y2))∧(∀ y0 y1 y2 y3,LeO (spec_TreeOk.l1 k y0 y1 y2 y3) (spec_TreeOk.l1 (k+1) y0 y1 y2 y3))
 | 0=>⟨fun _ _ _ r h=>by simp [spec_TreeOk.l0] at h,fun _ _ _ _ r h=>by simp [spec_TreeOk.j1] at h,fun _ _ _ r h=>by simp [spec_TreeOk.j2] at h,fun _ _ _ _ r h=>by simp [spec_TreeOk.l1] at h⟩
 | k+1=>by
  obtain ⟨ih0,ih1,ih2,ih3⟩:=spec_TreeOk.mono_l k
  refine ⟨?_,?_,?_,?_⟩
  all_goals intros
  all_goals first|unfold spec_TreeOk.l0|unfold spec_TreeOk.j1|unfold spec_TreeOk.j2|unfold spec_TreeOk.l1
  all_goals repeat' first
  | (with_reducible exact ih0 _ _ _)
  | (with_reducible exact ih1 _ _ _ _)
  | (with_reducible exact ih2 _ _ _)
  | (with_reducible exact ih3 _ _ _ _)
  | (with_reducible exact spec_RowOk.mono _ _ _ _)
  | (with_reducible exact LeO.refl _)
  | (with_reducible exact LeO.none _)
  | (with_reducible refine LeO.ite ?_ ?_)
  | (with_reducible refine LeO.bind ?_ (fun _=>?_))
theorem spec_TreeOk.mono:∀ a0 k,LeO (spec_TreeOk.f k a0) (spec_TreeOk.f (k+1) a0):=by
 intro a0 k
 obtain ⟨ih0,ih1,ih2,ih3⟩:=spec_TreeOk.mono_l k
 unfold spec_TreeOk.f
 repeat' first
   | (with_reducible exact ih0 _ _ _)
   | (with_reducible exact ih1 _ _ _ _)
   | (with_reducible exact ih2 _ _ _)
   | (with_reducible exact ih3 _ _ _ _)
   | (with_reducible exact spec_RowOk.mono _ _ _ _)
   | (with_reducible exact LeO.refl _)
   | (with_reducible exact LeO.none _)
   | (with_reducible refine LeO.ite ?_ ?_)
   | (with_reducible refine LeO.bind ?_ (fun _=>?_))
def spec_TreeOk.T5:Bool×List (List Nat×List Nat):=(true,[([],[]),([],[]),([0,1],[0,1]),([2],[2]),([3],[3]),([4],[4]),([5,4],[5]),([6],[6]),([7,6],[6,7]),([8,6,6],[6,8]),([9],[9]),([9],[9]),([10,11,9],[9,10,11]),([12,9],[9,12]),([13,9],[9,13]),([9],[9]),([9],[9]),([16,9],[9,16]),([15,17,9],[9,15,17]),([18,9],[9,18]),([19,9],[9,19]),([20,9],[9,20]),([14,21,9],[9,14,21]),([9,22,6],[6,9,22]),([6,23],[6,23])])
def spec_TreeOk.B5:List Nat:=[0,0,3,7,15,31,63,127,255,511,1023,1023,4095,8191,16383,1023,1023,66559,230399,492543,1016831,2065407,4194303,8388607,16777215]
theorem spec_TreeOk.tab5:rtab .any (opsOf Tryd.f19 5)=spec_TreeOk.T5:=by kernel_rfl
theorem spec_TreeOk.bits5:waitsOk spec_TreeOk.T5.2 spec_TreeOk.B5=true:=by kernel_rfl
def spec_TreeOk.T14:Bool×List (List Nat×List Nat):=(true,[([],[]),([],[]),([0,1],[0,1]),([2],[2]),([3],[3]),([],[]),([],[]),([5,6],[5,6]),([7],[7]),([8],[8]),([4,9],[4,9])])
def spec_TreeOk.B14:List Nat:=[0,0,3,7,15,0,0,96,224,480,1023]
theorem spec_TreeOk.tab14:rtab .any (opsOf Tryd.f19 14)=spec_TreeOk.T14:=by kernel_rfl
theorem spec_TreeOk.bits14:waitsOk spec_TreeOk.T14.2 spec_TreeOk.B14=true:=by kernel_rfl
end Go.Proofs.YtlkheeegkifblaaDoor.P
