/- Joined by a program (wip/shake.py): the declarations that 'YtdpklbomhdpimaaDoorCardFnServerForm' reaches. -/
import Derived.Test.YtdpklbomhdpimaaDoorZLs2
set_option linter.unusedVariables false
set_option linter.unusedSimpArgs false
set_option linter.unusedSectionVars false
set_option maxHeartbeats 8000000
set_option maxRecDepth 100000
namespace Go.Proofs.YtdpklbomhdpimaaDoor.P
open Go.RowKit Go.Proofs.YtdpklbomhdpimaaDoorW.PrintWords Go.Proofs.YtdpklbomhdpimaaDoorW.PrintLast
def spec_l72Log.l0:Nat→List (S44)→List (S69)→List Int→Int→List Int→Int→Option ((List (S44))×Int)
 | 0,_,_,_,_,_,_=>none
 | k+1,x3,x4,x5,x6,x1000,x1001=>if x6 > 0 then ((spec_l6Rd_pick.f k x1000 x1001 3).bind fun bt323=>(if 0≤(wrap64 ((wrap64 (1+bt323.1)) - 1)) then (if (wrap64 ((wrap64 (1+bt323.1)) - 1)) < (x5.length:Int) then ((spec_l72Op.f k x1000 bt323.2 x4 (wrap64 (1+bt323.1)) (rd x5 (wrap64 ((wrap64 (1+bt323.1)) - 1)))).bind fun bt326=>(if bt326.1=1 then ((spec_l12Seq.f k x3 (wrap64 (1+bt323.1))).bind fun t335=>(if x3.length < 2199023255552 then ((spec_l3Do.f k x4 bt326.1 bt326.2.1 bt326.2.2.1 bt326.2.2.2.1 bt326.2.2.2.2.1).bind fun t339=>(spec_l72Log.l0 k (x3++[(⟨wrap64 (1+bt323.1),wrap64 (t335+1),(⟨bt326.1,bt326.2.1,bt326.2.2.1,bt326.2.2.2.1,bt326.2.2.2.2.1⟩:S42)⟩:S44)]) t339 (x5.set ((wrap64 ((wrap64 (1+bt323.1)) - 1)):Int).toNat (wrap64 ((rd x5 (wrap64 ((wrap64 (1+bt323.1)) - 1)))+1))) (wrap64 (x6 - 1)) x1000 bt326.2.2.2.2.2)) else (none))) else ((spec_l12Seq.f k x3 (wrap64 (1+bt323.1))).bind fun t342=>(if x3.length < 2199023255552 then ((spec_l3Do.f k x4 bt326.1 bt326.2.1 bt326.2.2.1 bt326.2.2.2.1 bt326.2.2.2.2.1).bind fun t346=>(spec_l72Log.l0 k (x3++[(⟨wrap64 (1+bt323.1),wrap64 (t342+1),(⟨bt326.1,bt326.2.1,bt326.2.2.1,bt326.2.2.2.1,bt326.2.2.2.2.1⟩:S42)⟩:S44)]) t346 x5 (wrap64 (x6 - 1)) x1000 bt326.2.2.2.2.2)) else (none))))) else (none)) else (none))) else ((spec_l6Rd_pick.f k x1000 x1001 24).bind fun bt349=>(if bt349.1=0 then ((spec_l6Rd_pick.f k x1000 bt349.2 3).bind fun bt351=>((spec_l6Rd_pick.f k x1000 bt351.2 4).bind fun bt353=>((spec_l71Op.f k x1000 bt353.2).bind fun bt355=>(if x3.length < 2199023255552 then (some ((x3++[(⟨wrap64 (1+bt351.1),wrap64 (1+bt353.1),(⟨bt355.1,bt355.2.1,bt355.2.2.1,bt355.2.2.2.1,bt355.2.2.2.2.1⟩:S42)⟩:S44)]),bt355.2.2.2.2.2)) else (none))))) else (if bt349.1=1 then (if (x3.length:Int) > 0 then ((spec_l6Rd_pick.f k x1000 bt349.2 (x3.length:Int)).bind fun bt364=>((spec_l6Rd_pick.f k x1000 bt364.2 4).bind fun bt366=>(if 0≤bt364.1 then (if bt364.1 < (x3.length:Int) then (some ((x3.set (bt364.1:Int).toNat (⟨(rd_T44 x3 bt364.1).f0,bt366.1,(⟨(rd_T44 x3 bt364.1).f2.f0,(rd_T44 x3 bt364.1).f2.f1,(rd_T44 x3 bt364.1).f2.f2,(rd_T44 x3 bt364.1).f2.f3,(rd_T44 x3 bt364.1).f2.f4⟩:S42)⟩:S44)),bt366.2)) else (none)) else (none)))) else (some (x3,bt349.2))) else (some (x3,bt349.2)))))
def spec_l72Log.f (k:Nat) (s0_0:List Int) (s0_1:Int):Option ((List (S44))×Int):=(spec_TreeNew.f).bind fun t315=>((spec_l6Rd_pick.f k s0_0 s0_1 14).bind fun bt321=>(spec_l72Log.l0 k (([]:List (S44))) t315 (([0,0,0]:List Int)) bt321.1 s0_0 bt321.2))
theorem spec_l72Log.mono_l:∀ k,(∀ y0 y1 y2 y3 y4 y5,LeO (spec_l72Log.l0 k y0 y1 y2 y3 y4 y5) (spec_l72Log.l0 (k+1) y0 y1 y2 y3 y4 y5))
 | 0=>fun _ _ _ _ _ _ r h=>by simp [spec_l72Log.l0] at h
 | k+1=>by
  have ih0:=spec_l72Log.mono_l k
  ·intro y0 y1 y2 y3 y4 y5
   unfold spec_l72Log.l0
   repeat' first
   | (with_reducible exact ih0 _ _ _ _ _ _)
   | (with_reducible exact spec_l12Seq.mono _ _ _)
   | (with_reducible exact spec_l3Do.mono _ _ _ _ _ _ _)
   | (with_reducible exact spec_l6Rd_pick.mono _ _ _ _)
   | (with_reducible exact spec_l71Op.mono _ _ _)
   | (with_reducible exact spec_l72Op.mono _ _ _ _ _ _)
   | (with_reducible exact LeO.refl _)
   | (with_reducible exact LeO.none _)
   | (with_reducible refine LeO.ite ?_ ?_)
   | (with_reducible refine LeO.bind ?_ (fun _=>?_))
   | exact ih0 _ _ _ _ _ _
   | exact spec_l12Seq.mono _ _ _
   | exact spec_l3Do.mono _ _ _ _ _ _ _
   | exact spec_l6Rd_pick.mono _ _ _ _
   | exact spec_l71Op.mono _ _ _
   | exact spec_l72Op.mono _ _ _ _ _ _
   | exact LeO.none _
   | refine LeO.ite ?_ ?_
   | refine LeO.bind ?_ (fun _=>?_)
theorem spec_l72Log.mono:∀ a0 a1 k,LeO (spec_l72Log.f k a0 a1) (spec_l72Log.f (k+1) a0 a1):=by
 intro a0 a1 k
 have ih0:=spec_l72Log.mono_l k
 unfold spec_l72Log.f
 repeat' first
   | (with_reducible exact ih0 _ _ _ _ _ _)
   | (with_reducible exact spec_l12Seq.mono _ _ _)
   | (with_reducible exact spec_l3Do.mono _ _ _ _ _ _ _)
   | (with_reducible exact spec_l6Rd_pick.mono _ _ _ _)
   | (with_reducible exact spec_l71Op.mono _ _ _)
   | (with_reducible exact spec_l72Op.mono _ _ _ _ _ _)
   | (with_reducible exact LeO.refl _)
   | (with_reducible exact LeO.none _)
   | (with_reducible refine LeO.ite ?_ ?_)
   | (with_reducible refine LeO.bind ?_ (fun _=>?_))
   | exact ih0 _ _ _ _ _ _
   | exact spec_l12Seq.mono _ _ _
   | exact spec_l3Do.mono _ _ _ _ _ _ _
   | exact spec_l6Rd_pick.mono _ _ _ _
   | exact spec_l71Op.mono _ _ _
   | exact spec_l72Op.mono _ _ _ _ _ _
   | exact LeO.none _
   | refine LeO.ite ?_ ?_
   | refine LeO.bind ?_ (fun _=>?_)
def spec_l72Log.T11:Bool×List (List Nat×List Nat):=(true,[([],[]),([],[]),([],[]),([],[]),([2,3],[2,3]),([4],[4]),([],[]),([1,5,6],[1,5,6]),([7],[7]),([0,8,4],[0,8]),([9,9,0,1,2,3,4,5,6,7,8,9],[0,2,9])])
def spec_l72Log.B11:List Nat:=[0,0,0,0,12,28,0,126,254,511,1023]
theorem spec_l72Log.tab11:rtab .any (opsOf Tryd.f88 11)=spec_l72Log.T11:=by kernel_rfl
theorem spec_l72Log.bits11:waitsOk spec_l72Log.T11.2 spec_l72Log.B11=true:=by kernel_rfl
theorem spec_l72Log.calls (k:Nat) (g:Nat) (s0_0:List Int) (s0_1:Int) (r1:List (S44)) (r2:Int) (w0 w:World) (hI:IsS145 w0 w g s0_0 s0_1) (hB:Below w0.heap.size w0 w) (h:spec_l72Log.f k s0_0 s0_1=some (r1,r2)) :
  Calls Tryd.prog 88 #[.pointer (some ⟨g,0,none⟩)] w fun e w'=>∃ v0_:Value,e=.returned (v0_)∧Kd.R k44 44 w' w.heap.size (fun _=>True) v0_ r1∧IsS145 w0 w' g s0_0 r2∧Below w0.heap.size w0 w'∧KeepBut w w' g none:=by
 have hu42:=Tryd.underlying42
 have hu44:=Tryd.underlying44
 have HI0:=a_ hI
 have HK:=a_ (KeepBut.refl w g none)
 have HL:=a_ hB.size
 clear hI
 have HW0:=a_ hB.size
 have HB:=a_ hB
 clear hB
 unfold spec_l72Log.f at h
 have H:=h
 clear h
 obtain ⟨y312,hy312⟩:∃ y_:List (S44),y_=(([]:List (S44))):=⟨_,rfl⟩
 replace H:((spec_TreeNew.f).bind fun t315=>((spec_l6Rd_pick.f k s0_0 s0_1 14).bind fun bt321=>(spec_l72Log.l0 k y312 t315 (([0,0,0]:List Int)) bt321.1 s0_0 bt321.2)))=some (r1,r2):=by first|(rw [hy312];with_reducible exact H)|(have H2_:=(Option.bind_some _ _).symm.trans H;rw [hy312];with_reducible exact H2_)|(have H2_:=(Option.bind_some _ _).symm.trans H;with_reducible exact H2_)|with_reducible exact H|(rw [hy312];exact H)|exact H
 have Ny312:=a_ hy312
 clear hy312
 replace H:=bs_ H
 obtain ⟨t315,A20,H⟩:=H
 try dsimp only at H
 have A2:=a_ A20
 clear A20
 obtain ⟨y318,hy318⟩:∃ y_:List Int,y_=(([0,0,0]:List Int)):=⟨_,rfl⟩
 replace H:((spec_l6Rd_pick.f k s0_0 s0_1 14).bind fun bt321=>(spec_l72Log.l0 k y312 t315 y318 bt321.1 s0_0 bt321.2))=some (r1,r2):=by first|(rw [hy318];with_reducible exact H)|(have H2_:=(Option.bind_some _ _).symm.trans H;rw [hy318];with_reducible exact H2_)|(have H2_:=(Option.bind_some _ _).symm.trans H;with_reducible exact H2_)|with_reducible exact H|(rw [hy318];exact H)|exact H
 have Ny318:=a_ hy318
 clear hy318
 replace H:=bs_ H
 obtain ⟨⟨t321,t322⟩,A30,H⟩:=H
 try dsimp only at H
 have A3:=a_ A30
 clear A30
 have H':=a_ H
 clear H
 go_enter Tryd.func88,Tryd.ntmps88
 go_wp2_with (first|((with_reducible refine gD_ (N:=9) rfl ?_);refine Kd.R_lit k44 _ 44 ?hg (N:=9) ?hd (xs:=([]:List (S44))) (inner:=[]) (ok:=fun _=>True) (okp:=fun _=>True) ?hr ?hp (fun _ hk=>hk) trivial (Below.refl _ _) (Nat.le_refl _) (by simp) ?_;(case hd=>rfl);(case hg=>rfl);(case hr=>first|(go_simp;done)|(go_simp;rfl));(case hp=>exact (Reps.none _ _));intro v313 w4 ho5 hb hg_ hnew_;clear hg_ hnew_;(first|rw [←Ny312.out] at ho5|(simp only [Int.reduceToNat] at ho5;rw [←Ny312.out] at ho5));have HO314:=a_ (Kd.R_lower ho5 (keep_size (w:=w) (g:=g) (row:=none) (ke_)));replace HK:=a_ (KeepBut.trans (ke_) (KeepBut.of_below hb g none) (.inl rfl));replace HB:=a_ (bS_ (bel_) hb);replace HI0:=a_ (IsS145.below (is_HI0) hb);clear hb ho5)|((with_reducible refine gC_ (f:=100) rfl ?_);refine gl_ 10 Tryd.func100 #[] ?_;(with_reducible refine (spec_TreeNew.calls  t315 _ A2.out).mono ?_);rintro e w6 ⟨v316,rfl,ho0,hb⟩;refine ⟨_,rfl,?_⟩;replace HO314:=a_ (Kd.R_below (rp_ HO314.out) hb);have HO317:=a_ (Kd.R_lower ho0 (keep_size (w:=w) (g:=g) (row:=none) (ke_)));replace HK:=a_ (KeepBut.trans (ke_) (KeepBut.of_below hb g none) (.inl rfl));replace HB:=a_ (bS_ (bel_) hb);replace HI0:=a_ (IsS145.below (is_HI0) hb);(try clear hb ho0))|((with_reducible refine gD_ (N:=11) rfl ?_);refine Kd.R_lit (Kd.int .i64) _ 3 ?hg (N:=11) ?hd (xs:=([0,0,0]:List Int)) (inner:=[.int .i64 0,.int .i64 0,.int .i64 0]) (ok:=fun _=>True) (okp:=fun _=>True) ?hr ?hp (fun _ hk=>hk) trivial (Below.refl _ _) (Nat.le_refl _) (by simp) ?_;(case hd=>rfl);(case hg=>rfl);(case hr=>first|(go_simp;done)|(go_simp;rfl));(case hp=>exact (Reps.one (show Kd.M (Kd.int .i64) _ _ _ 0 [.int .i64 0] from rfl) (Reps.one (show Kd.M (Kd.int .i64) _ _ _ 0 [.int .i64 0] from rfl) (Reps.one (show Kd.M (Kd.int .i64) _ _ _ 0 [.int .i64 0] from rfl) (Reps.none _ _)))));intro v319 w7 ho8 hb hg_ hnew_;clear hg_ hnew_;(first|rw [←Ny318.out] at ho8|(simp only [Int.reduceToNat] at ho8;rw [←Ny318.out] at ho8));replace HO314:=a_ (Kd.R_below (rp_ HO314.out) hb);replace HO317:=a_ (Kd.R_below (rp_ HO317.out) hb);have HO320:=a_ (Kd.R_lower ho8 (keep_size (w:=w) (g:=g) (row:=none) (ke_)));replace HK:=a_ (KeepBut.trans (ke_) (KeepBut.of_below hb g none) (.inl rfl));replace HB:=a_ (bS_ (bel_) hb);replace HI0:=a_ (IsS145.below (is_HI0) hb);clear hb ho8)|((with_reducible refine gC_ (f:=74) rfl ?_);refine gl_ 13 Tryd.func74 #[.pointer (some ⟨g,0,none⟩),.int .i64 14] ?_;(with_reducible refine (spec_l6Rd_pick.calls k g s0_0 s0_1 14 t321 t322 w0 _ ?side1 ?side2 A3.out).mono ?_);(case side1=>exact is_HI0);(case side2=>exact bel_);rintro e w9 ⟨rfl,hi,hb,hk⟩;refine ⟨_,rfl,?_⟩;replace HO314:=a_ (Kd.R_mono (Kd.R_keep (IsS145.apart (show IsS145 w0 _ g s0_0 s0_1 from is_HI0) (rp_ HO314.out) (by decide)) hk (fun _ h=>h.2)) (fun _ h=>h.1));replace HO317:=a_ (Kd.R_mono (Kd.R_keep (IsS145.apart (show IsS145 w0 _ g s0_0 s0_1 from is_HI0) (rp_ HO317.out) (by decide)) hk (fun _ h=>h.2)) (fun _ h=>h.1));replace HO320:=a_ (Kd.R_mono (Kd.R_keep (IsS145.apart (show IsS145 w0 _ g s0_0 s0_1 from is_HI0) (rp_ HO320.out) (by decide)) hk (fun _ h=>h.2)) (fun _ h=>h.1));replace HK:=a_ (KeepBut.trans (ke_) hk (.inl rfl));replace HB:=a_ (hb);replace HI0:=a_ (hi);(try clear hb hk hi)))
 go_loopg [3,4,6] k (fun kq v3 v4 v6 w'=>∃ (x3_1:List (S44)) (x4_1:List (S69)) (x5_1:List Int) (x6_1:Int) (x1001_1:Int),v6=.int .i64 x6_1∧Aside0 (spec_l72Log.l0 kq x3_1 x4_1 x5_1 x6_1 s0_0 x1001_1=some (r1,r2))∧Aside0 (kq≤k)∧Aside0 (Kd.R k44 44 w' w.heap.size (fun _=>True) v3 x3_1)∧Aside0 (Kd.R k69 69 w' w.heap.size (fun _=>True) v4 x4_1)∧Aside0 (Kd.R (Kd.int .i64) 3 w' w.heap.size (fun _=>True) v319 x5_1)∧Aside0 (IsS145 w0 w' g s0_0 x1001_1)∧Aside0 (KeepBut w w' g none)∧Aside0 (Below w0.heap.size w0 w'))
 case atStart=>exact ⟨(y312),(t315),(y318),(t321),(t322),(si_),H',⟨Nat.le_refl _⟩,⟨by (with_reducible repeat (first|apply Kd.R_alloc|apply Kd.R_drewN|apply Kd.R_drew));exact HO314.out⟩,⟨by (with_reducible repeat (first|apply Kd.R_alloc|apply Kd.R_drewN|apply Kd.R_drew));exact HO317.out⟩,⟨by (with_reducible repeat (first|apply Kd.R_alloc|apply Kd.R_drewN|apply Kd.R_drew));exact HO320.out⟩,⟨is_HI0⟩,⟨ke_⟩,⟨bel_⟩⟩
 case round =>
  clear H'
  try clear c1
  try clear p2
  try clear c7
  try clear c8
  obtain ⟨x3_1,x4_1,x5_1,x6_1,x1001_1,rfl,HA,HK1,HO_3,HO_4,HO_5,HI0,HK,HB⟩:=hrel
  cases gk with
  | zero=>exact absurd HA.out (by simp [spec_l72Log.l0])
  | succ k1 =>
   have H:=HA.out
   clear HA
   simp only [spec_l72Log.l0] at H
   by_cases c10:x6_1 > 0
   ·rw [if_pos c10] at H
    have c10b0:decide (0 < x6_1)=true:=dt_ c10
    clear c10
    replace H:=bs_ H
    obtain ⟨⟨t323,t324⟩,A110,H⟩:=H
    try dsimp only at H
    have A11:=a_ A110
    clear A110
    obtain ⟨ji12,hji12⟩:∃ j_:Int,(wrap64 ((wrap64 (1+t323)) - 1))=j_:=⟨_,rfl⟩
    replace H:(if 0≤(ji12) then (if (ji12) < (x5_1.length:Int) then ((spec_l72Op.f k1 s0_0 t324 x4_1 (wrap64 (1+t323)) (rd x5_1 (ji12))).bind fun bt326=>(if bt326.1=1 then ((spec_l12Seq.f k1 x3_1 (wrap64 (1+t323))).bind fun t335=>(if x3_1.length < 2199023255552 then ((spec_l3Do.f k1 x4_1 bt326.1 bt326.2.1 bt326.2.2.1 bt326.2.2.2.1 bt326.2.2.2.2.1).bind fun t339=>(spec_l72Log.l0 k1 (x3_1++[(⟨wrap64 (1+t323),wrap64 (t335+1),(⟨bt326.1,bt326.2.1,bt326.2.2.1,bt326.2.2.2.1,bt326.2.2.2.2.1⟩:S42)⟩:S44)]) t339 (x5_1.set ((ji12):Int).toNat (wrap64 ((rd x5_1 (ji12))+1))) (wrap64 (x6_1 - 1)) s0_0 bt326.2.2.2.2.2)) else (none))) else ((spec_l12Seq.f k1 x3_1 (wrap64 (1+t323))).bind fun t342=>(if x3_1.length < 2199023255552 then ((spec_l3Do.f k1 x4_1 bt326.1 bt326.2.1 bt326.2.2.1 bt326.2.2.2.1 bt326.2.2.2.2.1).bind fun t346=>(spec_l72Log.l0 k1 (x3_1++[(⟨wrap64 (1+t323),wrap64 (t342+1),(⟨bt326.1,bt326.2.1,bt326.2.2.1,bt326.2.2.2.1,bt326.2.2.2.2.1⟩:S42)⟩:S44)]) t346 x5_1 (wrap64 (x6_1 - 1)) s0_0 bt326.2.2.2.2.2)) else (none))))) else (none)) else (none))=some (r1,r2):=by first|(rw [hji12] at H;exact H)|(simp only [hji12] at H ⊢;exact H)
    (try rw [hji12] at A11)
    have hji12w:(IntKind.i64.wrap ((wrap64 (1+t323)) - 1))=ji12:=(i64_w _).trans hji12
    by_cases c13:0≤(ji12)
    ·rw [if_pos c13] at H
     have c13b0:decide (0≤(ji12))=true:=dt_ c13
     clear c13
     by_cases c14:(ji12) < (x5_1.length:Int)
     ·rw [if_pos c14] at H
      have c14b0:decide ((ji12) < (x5_1.length:Int))=true:=dt_ c14
      clear c14
      replace H:=bs_ H
      obtain ⟨⟨t326,t327,t328,t329,t330,t331⟩,A150,H⟩:=H
      try dsimp only at H
      have A15:=a_ A150
      clear A150
      by_cases c16:t326=1
      ·rw [if_pos c16] at H
       have c16b0:(t326==1)=true:=beq_iff_eq.mpr c16
       have c16b1:(t326 != 1)=false:=be_ c16
       clear c16
       obtain ⟨y334,hy334⟩:∃ y_:List Int,y_=(x5_1.set ((ji12):Int).toNat (wrap64 ((rd x5_1 (ji12))+1))):=⟨_,rfl⟩
       replace H:((spec_l12Seq.f k1 x3_1 (wrap64 (1+t323))).bind fun t335=>(if x3_1.length < 2199023255552 then ((spec_l3Do.f k1 x4_1 t326 t327 t328 t329 t330).bind fun t339=>(spec_l72Log.l0 k1 (x3_1++[(⟨wrap64 (1+t323),wrap64 (t335+1),(⟨t326,t327,t328,t329,t330⟩:S42)⟩:S44)]) t339 y334 (wrap64 (x6_1 - 1)) s0_0 t331)) else (none)))=some (r1,r2):=by first|(rw [hy334];with_reducible exact H)|(have H2_:=(Option.bind_some _ _).symm.trans H;rw [hy334];with_reducible exact H2_)|(have H2_:=(Option.bind_some _ _).symm.trans H;with_reducible exact H2_)|with_reducible exact H|(rw [hy334];exact H)|exact H
       have Ny334:=a_ hy334
       clear hy334
       replace H:=bs_ H
       obtain ⟨t335,A180,H⟩:=H
       try dsimp only at H
       have A18:=a_ A180
       clear A180
       by_cases c19:x3_1.length < 2199023255552
       ·rw [if_pos c19] at H
        have LMc19:=a_ c19
        clear c19
        obtain ⟨y336,hy336⟩:∃ y_:List (S44),y_=(x3_1++[(⟨wrap64 (1+t323),wrap64 (t335+1),(⟨t326,t327,t328,t329,t330⟩:S42)⟩:S44)]):=⟨_,rfl⟩
        replace H:((spec_l3Do.f k1 x4_1 t326 t327 t328 t329 t330).bind fun t339=>(spec_l72Log.l0 k1 y336 t339 y334 (wrap64 (x6_1 - 1)) s0_0 t331))=some (r1,r2):=by first|(rw [hy336];with_reducible exact H)|(have H2_:=(Option.bind_some _ _).symm.trans H;rw [hy336];with_reducible exact H2_)|(have H2_:=(Option.bind_some _ _).symm.trans H;with_reducible exact H2_)|with_reducible exact H|(rw [hy336];exact H)|exact H
        have Ny336:=a_ hy336
        clear hy336
        replace H:=bs_ H
        obtain ⟨t339,A200,H⟩:=H
        try dsimp only at H
        have A20:=a_ A200
        clear A200
        have H':=a_ H
        clear H
        try go_wp2_with (first|((with_reducible refine gC_ (f:=74) rfl ?_);refine gl_ 19 Tryd.func74 #[.pointer (some ⟨g,0,none⟩),.int .i64 3] ?_;(with_reducible refine (spec_l6Rd_pick.calls k1 g s0_0 x1001_1 3 t323 t324 w0 _ ?side1 ?side2 A11.out).mono ?_);(case side1=>exact is_HI0);(case side2=>exact bel_);rintro e w21 ⟨rfl,hi,hb,hk⟩;refine ⟨_,rfl,?_⟩;replace HO_3:=a_ (Kd.R_mono (Kd.R_keep (IsS145.apart (show IsS145 w0 _ g s0_0 x1001_1 from is_HI0) (rp_ HO_3.out) (by decide)) hk (fun _ h=>h.2)) (fun _ h=>h.1));replace HO_4:=a_ (Kd.R_mono (Kd.R_keep (IsS145.apart (show IsS145 w0 _ g s0_0 x1001_1 from is_HI0) (rp_ HO_4.out) (by decide)) hk (fun _ h=>h.2)) (fun _ h=>h.1));replace HO_5:=a_ (Kd.R_mono (Kd.R_keep (IsS145.apart (show IsS145 w0 _ g s0_0 x1001_1 from is_HI0) (rp_ HO_5.out) (by decide)) hk (fun _ h=>h.2)) (fun _ h=>h.1));replace HK:=a_ (KeepBut.trans (ke_) hk (.inl rfl));replace HB:=a_ (hb);replace HI0:=a_ (hi);(try clear hb hk hi);obtain ⟨Ao22,co22,eo22⟩:=Kd.R_slice HO_5.out;subst eo22;have p325:0≤((ji12):Int):=od_;have q325:(ji12) < (x5_1.length:Int):=od_;obtain ⟨ad325,e325,hx325_0⟩:=Kd.at_int (Kd.R_reads' HO_5.out).2.2 (ji12) p325 q325;cases e325;replace p325:=eq_true p325;replace q325:=eq_true q325;obtain ⟨Ao23,co23,eo23⟩:=Kd.R_slice HO_4.out;subst eo23)|((with_reducible refine gC_ (f:=124) rfl ?_);refine goesL_ (some 29) rfl rfl Tryd.func124 (by kernel_rfl) rfl #[.pointer (some ⟨g,0,none⟩),.slice Ao23 x4_1.length co23,.int .i64 (wrap64 (1+t323)),.int .i64 (rd x5_1 (ji12))] rfl (by (try simp only [List.map_toArray,List.map_cons,List.map_nil]);first|done|(simp only [hji12];rfl)|rfl|(simp only [List.length_drop,List.length_take];rfl)) ?_;(with_reducible refine (spec_l72Op.calls k1 g s0_0 t324 _ _ x4_1 (wrap64 (1+t323)) (rd x5_1 (ji12)) t326 t327 t328 t329 t330 t331 w0 _ ?side1 ?side2 ?side3 ?side4 A15.out).mono ?_);(case side1=>exact is_HI0);(case side2=>exact bel_);(case side3=>exact Kd.C_foot_own (IsS145.apart (show IsS145 w0 _ g s0_0 t324 from is_HI0) (rp_ HO_4.out) (by decide)) (fun _ h_=>h_.2));(case side4=>exact (Kd.R_reads' HO_4.out).2.1);rintro e w24 ⟨rfl,hi,hb,hk⟩;refine ⟨_,rfl,?_⟩;replace HO_3:=a_ (Kd.R_mono (Kd.R_keep (IsS145.apart (show IsS145 w0 _ g s0_0 t324 from is_HI0) (rp_ HO_3.out) (by decide)) hk (fun _ h=>h.2)) (fun _ h=>h.1));replace HO_4:=a_ (Kd.R_mono (Kd.R_keep (IsS145.apart (show IsS145 w0 _ g s0_0 t324 from is_HI0) (rp_ HO_4.out) (by decide)) hk (fun _ h=>h.2)) (fun _ h=>h.1));replace HO_5:=a_ (Kd.R_mono (Kd.R_keep (IsS145.apart (show IsS145 w0 _ g s0_0 t324 from is_HI0) (rp_ HO_5.out) (by decide)) hk (fun _ h=>h.2)) (fun _ h=>h.1));replace HK:=a_ (KeepBut.trans (ke_) hk (.inl rfl));replace HB:=a_ (hb);replace HI0:=a_ (hi);(try clear hb hk hi))|((with_reducible refine gD_ (N:=8) rfl ?_);refine bx_ 8 (#[.int .i64 0,.int .i64 0,.int .i64 0,.int .i64 0,.string (⟨#[]⟩:ByteArray)]) 42 ?_;intro gb332 hg w25 hbox hb;have n0_:=a_ (Kd.R_below (rp_ HO_3.out) hb);have n1_:=a_ (Kd.R_below (rp_ HO_4.out) hb);have n2_:=a_ (Kd.R_below (rp_ HO_5.out) hb);have n3_:=a_ (IsS145.below (is_HI0) hb);have n4_:=a_ (KeepBut.trans (ke_) (KeepBut.of_below hb g none) (.inl rfl));have n5_:=a_ (bS_ (bel_) hb);have n6_:=a_ (hbox);have n7_:=a_ ((by rw [hg];exact (keep_size (w:=w) (g:=g) (row:=none) (ke_)):w.heap.size≤gb332));have n8_:=a_ ((Nat.le_trans HW0.out (by rw [hg];exact (keep_size (w:=w) (g:=g) (row:=none) (ke_)):w.heap.size≤gb332):w0.heap.size≤gb332));have n9_:=a_ ((by rw [hg];exact Nat.ne_of_lt (IsS145.lt (show IsS145 w0 _ g s0_0 t331 from is_HI0)):g≠gb332));have n10_:=a_ ((by rw [hg];exact Nat.ne_of_gt (IsS145.lt (show IsS145 w0 _ g s0_0 t331 from is_HI0)):gb332≠g));clear HO_3;clear HO_4;clear HO_5;clear HI0;clear HK;clear HB;have HO_3:=n0_;have HO_4:=n1_;have HO_5:=n2_;have HI0:=n3_;have HK:=n4_;have HB:=n5_;have BK332:=n6_;have GW332:=n7_;have GE332:=n8_;have NB0_332:=n9_;have NB332_0:=n10_;clear n0_ n1_ n2_ n3_ n4_ n5_ n6_ n7_ n8_ n9_ n10_;clear hb hbox hg;have hnb26:=NB332_0.out;have hnc26:=NB0_332.out;have Z27_0:=cz_ BK332.out 0 (.int .i64 0);have Z27_1:=cz_ BK332.out 1 (.int .i64 0);have Z27_2:=cz_ BK332.out 2 (.int .i64 0);have Z27_3:=cz_ BK332.out 3 (.int .i64 0);have Z27_4:=cz_ BK332.out 4 (.string (⟨#[]⟩:ByteArray));have Y27_0:=bF_ BK332.out 0;have Y27_1:=bF_ BK332.out 1;have Y27_2:=bF_ BK332.out 2;have Y27_3:=bF_ BK332.out 3;have Y27_4:=bF_ BK332.out 4)|((with_reducible refine gate_store (t:=42) (p:=8) rfl ?_);refine store_event (t:=42) (p:=8) (v:=?vo_w28) (w1:=(((((w25.setCell ⟨gb332,0,none⟩ (.int .i64 t326)).setCell ⟨gb332,1,none⟩ (.int .i64 t327)).setCell ⟨gb332,2,none⟩ (.int .i64 t328)).setCell ⟨gb332,3,none⟩ (.int .i64 t329)).setCell ⟨gb332,4,none⟩ (.string t330))) ?hg ?ho ?hn ?hr ?_;(case ho=>rfl);(case hg=>rfl);(case hn=>rfl);(case hr=>first|(go_simp;done)|(go_simp;rfl));intro w28 hw;have n0_:Aside0 (Kd.R k44 44 w28 w.heap.size (fun _=>True) u3 x3_1):=⟨(by rw [hw];exact (by (with_reducible repeat (first|apply Kd.R_alloc|apply Kd.R_drewN|apply Kd.R_drew));exact Kd.R_mono (Kd.R_far (p:=⟨gb332,4,none⟩) (Kd.R_far (p:=⟨gb332,3,none⟩) (Kd.R_far (p:=⟨gb332,2,none⟩) (Kd.R_far (p:=⟨gb332,1,none⟩) (Kd.R_far (p:=⟨gb332,0,none⟩) (Kd.R_types HO_3.out BK332.out (by decide)) (fun _ hk=>hk.2) (.int .i64 t326)) (fun _ hk=>hk.2) (.int .i64 t327)) (fun _ hk=>hk.2) (.int .i64 t328)) (fun _ hk=>hk.2) (.int .i64 t329)) (fun _ hk=>hk.2) (.string t330)) (fun _ hk=>trivial)))⟩;have n1_:Aside0 (Kd.R k69 69 w28 w.heap.size (fun _=>True) (.slice Ao23 x4_1.length co23) x4_1):=⟨(by rw [hw];exact (by (with_reducible repeat (first|apply Kd.R_alloc|apply Kd.R_drewN|apply Kd.R_drew));exact Kd.R_mono (Kd.R_far (p:=⟨gb332,4,none⟩) (Kd.R_far (p:=⟨gb332,3,none⟩) (Kd.R_far (p:=⟨gb332,2,none⟩) (Kd.R_far (p:=⟨gb332,1,none⟩) (Kd.R_far (p:=⟨gb332,0,none⟩) (Kd.R_types HO_4.out BK332.out (by decide)) (fun _ hk=>hk.2) (.int .i64 t326)) (fun _ hk=>hk.2) (.int .i64 t327)) (fun _ hk=>hk.2) (.int .i64 t328)) (fun _ hk=>hk.2) (.int .i64 t329)) (fun _ hk=>hk.2) (.string t330)) (fun _ hk=>trivial)))⟩;have n2_:Aside0 (Kd.R (Kd.int .i64) 3 w28 w.heap.size (fun _=>True) (.slice (some ad325) x5_1.length co22) x5_1):=⟨(by rw [hw];exact (by (with_reducible repeat (first|apply Kd.R_alloc|apply Kd.R_drewN|apply Kd.R_drew));exact Kd.R_mono (Kd.R_far (p:=⟨gb332,4,none⟩) (Kd.R_far (p:=⟨gb332,3,none⟩) (Kd.R_far (p:=⟨gb332,2,none⟩) (Kd.R_far (p:=⟨gb332,1,none⟩) (Kd.R_far (p:=⟨gb332,0,none⟩) (Kd.R_types HO_5.out BK332.out (by decide)) (fun _ hk=>hk.2) (.int .i64 t326)) (fun _ hk=>hk.2) (.int .i64 t327)) (fun _ hk=>hk.2) (.int .i64 t328)) (fun _ hk=>hk.2) (.int .i64 t329)) (fun _ hk=>hk.2) (.string t330)) (fun _ hk=>trivial)))⟩;have n3_:Aside0 (w28.heap[gb332]?=some (.cells #[.int .i64 t326,.int .i64 t327,.int .i64 t328,.int .i64 t329,.string t330] 42 (0,0))):=⟨(by rw [hw];exact (by (with_reducible repeat (first|refine bN_ ?_ _|refine bD_ ?_|refine bA_ ?_ _));refine blk_put (cs:=#[.int .i64 t326,.int .i64 t327,.int .i64 t328,.int .i64 t329,.string (⟨#[]⟩:ByteArray)]) ?_ 4 _ rfl;(with_reducible repeat (first|refine bN_ ?_ _|refine bD_ ?_|refine bA_ ?_ _));refine blk_put (cs:=#[.int .i64 t326,.int .i64 t327,.int .i64 t328,.int .i64 0,.string (⟨#[]⟩:ByteArray)]) ?_ 3 _ rfl;(with_reducible repeat (first|refine bN_ ?_ _|refine bD_ ?_|refine bA_ ?_ _));refine blk_put (cs:=#[.int .i64 t326,.int .i64 t327,.int .i64 0,.int .i64 0,.string (⟨#[]⟩:ByteArray)]) ?_ 2 _ rfl;(with_reducible repeat (first|refine bN_ ?_ _|refine bD_ ?_|refine bA_ ?_ _));refine blk_put (cs:=#[.int .i64 t326,.int .i64 0,.int .i64 0,.int .i64 0,.string (⟨#[]⟩:ByteArray)]) ?_ 1 _ rfl;(with_reducible repeat (first|refine bN_ ?_ _|refine bD_ ?_|refine bA_ ?_ _));refine blk_put (cs:=#[.int .i64 0,.int .i64 0,.int .i64 0,.int .i64 0,.string (⟨#[]⟩:ByteArray)]) ?_ 0 _ rfl;(with_reducible repeat (first|refine bN_ ?_ _|refine bD_ ?_|refine bA_ ?_ _));exact BK332.out))⟩;have n4_:Aside0 (IsS145 w0 w28 g s0_0 t331):=⟨(by rw [hw];exact (is_HI0))⟩;have n5_:Aside0 (KeepBut w w28 g none):=⟨(by rw [hw];exact (kf_ HK.out))⟩;have n6_:Aside0 (Below w0.heap.size w0 w28):=⟨(by rw [hw];exact (bel_))⟩;clear hw;clear HO_3;clear HO_4;clear HO_5;clear BK332;clear HI0;clear HK;clear HB;have HO_3:=n0_;have HO_4:=n1_;have HO_5:=n2_;have BK332:=n3_;have HI0:=n4_;have HK:=n5_;have HB:=n6_;clear n0_ n1_ n2_ n3_ n4_ n5_ n6_;have Z29_0:=cz_ BK332.out 0 (.int .i64 t326);have Z29_1:=cz_ BK332.out 1 (.int .i64 t327);have Z29_2:=cz_ BK332.out 2 (.int .i64 t328);have Z29_3:=cz_ BK332.out 3 (.int .i64 t329);have Z29_4:=cz_ BK332.out 4 (.string t330);have Y29_0:=bF_ BK332.out 0;have Y29_1:=bF_ BK332.out 1;have Y29_2:=bF_ BK332.out 2;have Y29_3:=bF_ BK332.out 3;have Y29_4:=bF_ BK332.out 4;have p333:0≤((ji12):Int):=od_;have q333:(ji12) < (x5_1.length:Int):=od_;obtain ⟨ad333,e333,hx333_0⟩:=Kd.at_int (Kd.R_reads' HO_5.out).2.2 (ji12) p333 q333;obtain rfl:ad325=ad333:=(by injection e333);replace p333:=eq_true p333;replace q333:=eq_true q333;have p17:0≤((ji12):Int):=od_;have q17:((ji12):Int) < ((x5_1.length:Int):Int):=od_;obtain ⟨go17,co17,eo17,gb17,gl17,cl17,HG17⟩:=Kd.R_form HO_5.out (by omega);(first|cases eo17|(injection eo17 with ea_ en_ ec_;(first|subst ea_|(injection ea_ with ea_;subst ea_));subst ec_;clear en_));have GB17:=a_ gb17;have GG17:=a_ HG17;clear gb17 gl17 HG17;(first|simp only [add_plain] at hx325_0|skip);(first|simp only [add_plain] at hx333_0|skip);obtain ⟨hx17_0,hf17_0⟩:=Kd.R_celln 0 HO_5.out ((ji12):Int) p17 q17;replace p17:=eq_true p17;replace q17:=eq_true q17;obtain ⟨hy30_,hz30_⟩:=Kd.R_celln 0 HO_5.out ((ji12):Int) (od_) (od_);have HP30:=Kd.R_putg HO_5.out ((ji12):Int) (wrap64 ((rd x5_1 (ji12))+1)))|((with_reducible refine gate_store (t:=3) (p:=42) rfl ?_);refine store_event (t:=3) (p:=42) (v:=?vo_w31) (w1:=(w28.setCell ⟨go17,((ji12):Int).toNat,none⟩ (.int .i64 (wrap64 ((rd x5_1 (ji12))+1))))) ?hg ?ho ?hn ?hr ?_;(case ho=>rfl);(case hg=>rfl);(case hn=>rfl);(case hr=>first|(go_simp;done)|(go_simp;rfl));intro w31 hw;have hg:w28.grownBy w31 (some go17):=(by rw [hw];exact HP30.2);have hp_:Kd.R (Kd.int .i64) 3 w31 w.heap.size (fun _=>True) (.slice (some ⟨go17,0,none⟩) x5_1.length co22) y334:=(by rw [hw,Ny334.out];exact HP30.1);clear HP30;have n0_:=a_ (Kd.R_over' (v:=(.slice (some ⟨go17,0,none⟩) x5_1.length co22)) (rp_ HO_3.out) (Kd.R_typed HO_5.out) (by decide) hg);have n1_:=a_ (Kd.R_over' (v:=(.slice (some ⟨go17,0,none⟩) x5_1.length co22)) (rp_ HO_4.out) (Kd.R_typed HO_5.out) (by decide) hg);have n2_:=a_ (hp_);have n3_:=a_ (IsS145.grown (is_HI0) hg (IsS145.own_ne HI0.out HO_5.out (by decide)));have n4_:=a_ (blk_grown (g:=gb332) (o:=.cells #[.int .i64 t326,.int .i64 t327,.int .i64 t328,.int .i64 t329,.string t330] 42 (0,0)) (bp_ BK332.out) hg (Kd.R_ne HO_5.out BK332.out (by decide)));have n5_:=a_ ((by rw [hw];exact wS_ (HB.out) (Nat.le_trans HL.out GB17.out):Below w0.heap.size w0 w31));have n6_:=a_ (KeepBut.trans (kf_ HK.out) (KeepBut.of_grown hg g) (Kd.R_base2 HO_5.out));clear HO_3;clear HO_4;clear HO_5;clear HI0;clear BK332;clear HB;clear HK;have HO_3:=n0_;have HO_4:=n1_;have HO_5:=n2_;have HI0:=n3_;have BK332:=n4_;have HB:=n5_;have HK:=n6_;clear n0_ n1_ n2_ n3_ n4_ n5_ n6_;clear hg hw hp_))
        have n0_:=a_ (Kd.R_drew HO_3.out)
        have n1_:=a_ (Kd.R_drew HO_4.out)
        have n2_:=a_ (Kd.R_drew HO_5.out)
        have n3_:=a_ (bD_ BK332.out)
        have n4_:=a_ (IsS145.drew HI0.out)
        have n5_:=a_ (keep_drew HK.out)
        have n6_:=a_ (below_drew1 HB.out)
        clear HO_3
        clear HO_4
        clear HO_5
        clear BK332
        clear HI0
        clear HK
        clear HB
        have HO_3:=n0_
        have HO_4:=n1_
        have HO_5:=n2_
        have BK332:=n3_
        have HI0:=n4_
        have HK:=n5_
        have HB:=n6_
        clear n0_ n1_ n2_ n3_ n4_ n5_ n6_
        obtain ⟨Ao33,co33,eo33⟩:=Kd.R_slice HO_3.out
        (first|subst eo33|(injection eo33 with f1_ f2_ f3_;have f4_:=f1_.symm;have f5_:=f3_.symm;clear f1_ f2_ f3_;subst f4_;subst f5_))
        refine start_ (n:=11) (S:=fun w'=>w'.cell? ⟨gb332,0,none⟩=some (.int .i64 t326)∧w'.cell? ⟨gb332,1,none⟩=some (.int .i64 t327)∧w'.cell? ⟨gb332,2,none⟩=some (.int .i64 t328)∧w'.cell? ⟨gb332,3,none⟩=some (.int .i64 t329)∧w'.cell? ⟨gb332,4,none⟩=some (.string t330)) (ds:=[]) #[false,false,false,false,false,false,false,false,false,false,false] (by kernel_rfl) rfl rfl ⟨(bC_ BK332.out 0).trans rfl,(bC_ BK332.out 1).trans rfl,(bC_ BK332.out 2).trans rfl,(bC_ BK332.out 3).trans rfl,(bC_ BK332.out 4).trans rfl⟩ (fun hHeld=>?_);refine with_tabW spec_l72Log.tab11 spec_l72Log.bits11 (fun HT_ HW_=>?_)
        generalize w31.drew=w32 at HO_3 HO_4 HO_5 BK332 HI0 HK HB hHeld ⊢
        refine pa_ 0 43 ?_
        refine pa_ 1 44 ?_
        refine pa_ 2 45 ?_
        refine pa_ 3 46 ?_
        refine ta5_ 6 49 hHeld ?_
        refine on_ 4 47 (fun K hK=>?_)
        refine goes_ Tryd.func90 (by kernel_rfl) rfl #[.slice Ao33 x3_1.length co33,.int .i64 (wrap64 (1+t323))] (by rfl) rfl rfl ar_ ?_
        with_reducible refine (spec_l12Seq.calls k1 _ _ x3_1 (wrap64 (1+t323)) t335 _ ?side1 ?side2 A18.out).mono ?_
        (case side1=>exact cx_ (Kd.R_reads' HO_3.out).2.2)
        (case side2=>exact (Kd.R_reads' HO_3.out).2.1)
        rintro e w' ⟨rfl,⟨nd,rfl⟩⟩
        refine ⟨_,rfl,?_⟩
        refine hK.out _ _ ⟨(bC_ BK332.out 0).trans rfl,(bC_ BK332.out 1).trans rfl,(bC_ BK332.out 2).trans rfl,(bC_ BK332.out 3).trans rfl,(bC_ BK332.out 4).trans rfl⟩ (fun hHeld=>?_)
        clear hK K
        refine no_ 47 ?_
        refine pa_ 5 48 ?_
        refine pa_ 7 50 ?_
        refine on_ 8 51 (fun K hK=>?_)
        refine value_ (w1:=?_) (v:=?_) (by rfl) rfl ?_ ?_
        rotate_left 2
        ·go_simp
         constructor
         ·rfl
         ·rfl
        refine hK.out _ _ ⟨(bC_ (bA_ BK332.out _) 0).trans rfl,(bC_ (bA_ BK332.out _) 1).trans rfl,(bC_ (bA_ BK332.out _) 2).trans rfl,(bC_ (bA_ BK332.out _) 3).trans rfl,(bC_ (bA_ BK332.out _) 4).trans rfl⟩ (fun hHeld=>?_)
        clear hK K
        refine no_ 51 ?_
        refine on_ 9 52 (fun K hK=>?_)
        refine Kd.R_append_step k44 w.heap.size (by rfl) (.tmp 43) (.tmp 51) 23 44 (.agg #[(.int .i64 0),(.int .i64 0),(.int .i64 0),(.int .i64 0),(.int .i64 0),(.int .i64 0),(.string ⟨#[]⟩)]) 64 rfl Tryd.underlying23 info44 rfl (by decide) (by omega) (.slice Ao33 x3_1.length co33) x3_1 (⟨wrap64 (1+t323),wrap64 (t335+1),(⟨t326,t327,t328,t329,t330⟩:S42)⟩:S44) [.int .i64 (wrap64 (1+t323)),.int .i64 (wrap64 (t335+1)),.int .i64 t326,.int .i64 t327,.int .i64 t328,.int .i64 t329,.string t330] (fun _=>True) (fun _=>False) rfl rfl ?aP (fun _ hk=>hk.elim) ?aF ?aO (Below.refl _ _) ?aS ?aL ?_
        (case aP=>exact k44_mkM _ _ _ (⟨wrap64 (1+t323),wrap64 (t335+1),(⟨t326,t327,t328,t329,t330⟩:S42)⟩:S44))
        (case aF=>exact (fun _ _=>trivial))
        (case aO=>exact (rp_ HO_3.out))
        (case aS=>exact (keep_size (w:=w) (g:=g) (row:=none) (kf_ HK.out)))
        (case aL=>have:=LMc19.out;omega)
        intro v337 w34 ho hb hg hat
        rw [←Ny336.out] at ho
        have n0_:=a_ (Kd.R_over' (rp_ HO_4.out) (Kd.R_typed (rp_ HO_3.out)) (by decide) hg)
        have n1_:=a_ (Kd.R_over' (rp_ HO_5.out) (Kd.R_typed (rp_ HO_3.out)) (by decide) hg)
        have n2_:=a_ (IsS145.grown (is_HI0) hg (IsS145.own_ne HI0.out HO_3.out (by decide)))
        have n3_:=a_ (blk_grown (g:=gb332) (o:=.cells #[.int .i64 t326,.int .i64 t327,.int .i64 t328,.int .i64 t329,.string t330] 42 (0,0)) (bp_ BK332.out) hg (Kd.R_ne HO_3.out BK332.out (by decide)))
        have n4_:=a_ (below_weaken (bel_) HL.out hb)
        have n5_:=a_ (KeepBut.trans (kf_ HK.out) (KeepBut.of_grown hg g) (Kd.R_base2 HO_3.out))
        have n6_:=a_ (ho)
        clear HO_4
        clear HO_5
        clear HI0
        clear BK332
        clear HB
        clear HK
        clear HO_3
        have HO_4:=n0_
        have HO_5:=n1_
        have HI0:=n2_
        have BK332:=n3_
        have HB:=n4_
        have HK:=n5_
        have HO338:=n6_
        clear n0_ n1_ n2_ n3_ n4_ n5_ n6_
        clear ho hb hg hat
        refine hK.out _ _ ⟨(bC_ BK332.out 0).trans rfl,(bC_ BK332.out 1).trans rfl,(bC_ BK332.out 2).trans rfl,(bC_ BK332.out 3).trans rfl,(bC_ BK332.out 4).trans rfl⟩ (fun hHeld=>?_)
        clear hK K
        refine no_ 52 ?_
        refine pa_ 10 3 ?_
        refine done_ (done_of HT_.out (by kernel_rfl)) ?_
        have Z35_0:=cz_ BK332.out 0 (.int .i64 t326)
        have Z35_1:=cz_ BK332.out 1 (.int .i64 t327)
        have Z35_2:=cz_ BK332.out 2 (.int .i64 t328)
        have Z35_3:=cz_ BK332.out 3 (.int .i64 t329)
        have Z35_4:=cz_ BK332.out 4 (.string t330)
        have Y35_0:=bF_ BK332.out 0
        have Y35_1:=bF_ BK332.out 1
        have Y35_2:=bF_ BK332.out 2
        have Y35_3:=bF_ BK332.out 3
        have Y35_4:=bF_ BK332.out 4
        try go_wp2_with (first|((with_reducible refine gC_ (f:=125) rfl ?_);refine gl_ 55 Tryd.func125 #[.slice Ao23 x4_1.length co23,.agg #[.int .i64 t326,.int .i64 t327,.int .i64 t328,.int .i64 t329,.string t330]] ?_;(with_reducible refine (spec_l3Do.calls k1 _ _ x4_1 t326 t327 t328 t329 t330 t339 _ ?side1 ?side2 A20.out).mono ?_);(case side1=>exact cx_ (Kd.R_reads' HO_4.out).2.2);(case side2=>exact (Kd.R_reads' HO_4.out).2.1);rintro e w36 ⟨v340,rfl,ho0,hb⟩;refine ⟨_,rfl,?_⟩;replace HO_5:=a_ (Kd.R_below (rp_ HO_5.out) hb);replace HO338:=a_ (Kd.R_below (rp_ HO338.out) hb);have HO341:=a_ (Kd.R_lower (Kd.R_new' ho0 (Kd.R_lt (rp_ HO_4.out))) (keep_size (w:=w) (g:=g) (row:=none) (kf_ HK.out)));replace HO_4:=a_ (Kd.R_elder' (rp_ HO_4.out) (Kd.R_base ho0) hb);replace HK:=a_ (KeepBut.trans (kf_ HK.out) (KeepBut.of_below hb g none) (.inl rfl));replace HB:=a_ (bS_ (bel_) hb);replace HI0:=a_ (IsS145.below (is_HI0) hb);replace BK332:=a_ (bb_ BK332.out hb);(try clear hb ho0)))
        go_roundg k1
        case measure=>have:=HK1.out;omega
        case rel=>exact ⟨(y336),(t339),(y334),(wrap64 (x6_1 - 1)),(t331),(si_),H',⟨by have:=HK1.out;omega⟩,⟨by (with_reducible repeat (first|apply Kd.R_alloc|apply Kd.R_drewN|apply Kd.R_drew));exact HO338.out⟩,⟨by (with_reducible repeat (first|apply Kd.R_alloc|apply Kd.R_drewN|apply Kd.R_drew));exact Kd.R_mono HO341.out (fun _ hk=>trivial)⟩,⟨by (with_reducible repeat (first|apply Kd.R_alloc|apply Kd.R_drewN|apply Kd.R_drew));exact HO_5.out⟩,⟨is_HI0⟩,⟨kf_ HK.out⟩,⟨bel_⟩⟩
       ·rw [if_neg c19] at H
        exact absurd H (by simp)
      ·rw [if_neg c16] at H
       have c16b0:(t326==1)=false:=bn_ c16
       have c16b1:(t326 != 1)=true:=bne_iff_ne.mpr c16
       replace H:=bs_ H
       obtain ⟨t342,A370,H⟩:=H
       try dsimp only at H
       have A37:=a_ A370
       clear A370
       by_cases c38:x3_1.length < 2199023255552
       ·rw [if_pos c38] at H
        have LMc38:=a_ c38
        clear c38
        obtain ⟨y343,hy343⟩:∃ y_:List (S44),y_=(x3_1++[(⟨wrap64 (1+t323),wrap64 (t342+1),(⟨t326,t327,t328,t329,t330⟩:S42)⟩:S44)]):=⟨_,rfl⟩
        replace H:((spec_l3Do.f k1 x4_1 t326 t327 t328 t329 t330).bind fun t346=>(spec_l72Log.l0 k1 y343 t346 x5_1 (wrap64 (x6_1 - 1)) s0_0 t331))=some (r1,r2):=by first|(rw [hy343];with_reducible exact H)|(have H2_:=(Option.bind_some _ _).symm.trans H;rw [hy343];with_reducible exact H2_)|(have H2_:=(Option.bind_some _ _).symm.trans H;with_reducible exact H2_)|with_reducible exact H|(rw [hy343];exact H)|exact H
        have Ny343:=a_ hy343
        clear hy343
        replace H:=bs_ H
        obtain ⟨t346,A390,H⟩:=H
        try dsimp only at H
        have A39:=a_ A390
        clear A390
        have H':=a_ H
        clear H
        try go_wp2_with (first|((with_reducible refine gC_ (f:=74) rfl ?_);refine gl_ 19 Tryd.func74 #[.pointer (some ⟨g,0,none⟩),.int .i64 3] ?_;(with_reducible refine (spec_l6Rd_pick.calls k1 g s0_0 x1001_1 3 t323 t324 w0 _ ?side1 ?side2 A11.out).mono ?_);(case side1=>exact is_HI0);(case side2=>exact bel_);rintro e w40 ⟨rfl,hi,hb,hk⟩;refine ⟨_,rfl,?_⟩;replace HO_3:=a_ (Kd.R_mono (Kd.R_keep (IsS145.apart (show IsS145 w0 _ g s0_0 x1001_1 from is_HI0) (rp_ HO_3.out) (by decide)) hk (fun _ h=>h.2)) (fun _ h=>h.1));replace HO_4:=a_ (Kd.R_mono (Kd.R_keep (IsS145.apart (show IsS145 w0 _ g s0_0 x1001_1 from is_HI0) (rp_ HO_4.out) (by decide)) hk (fun _ h=>h.2)) (fun _ h=>h.1));replace HO_5:=a_ (Kd.R_mono (Kd.R_keep (IsS145.apart (show IsS145 w0 _ g s0_0 x1001_1 from is_HI0) (rp_ HO_5.out) (by decide)) hk (fun _ h=>h.2)) (fun _ h=>h.1));replace HK:=a_ (KeepBut.trans (ke_) hk (.inl rfl));replace HB:=a_ (hb);replace HI0:=a_ (hi);(try clear hb hk hi);obtain ⟨Ao41,co41,eo41⟩:=Kd.R_slice HO_5.out;subst eo41;have p325:0≤((ji12):Int):=od_;have q325:(ji12) < (x5_1.length:Int):=od_;obtain ⟨ad325,e325,hx325_0⟩:=Kd.at_int (Kd.R_reads' HO_5.out).2.2 (ji12) p325 q325;cases e325;replace p325:=eq_true p325;replace q325:=eq_true q325;obtain ⟨Ao42,co42,eo42⟩:=Kd.R_slice HO_4.out;subst eo42)|((with_reducible refine gC_ (f:=124) rfl ?_);refine goesL_ (some 29) rfl rfl Tryd.func124 (by kernel_rfl) rfl #[.pointer (some ⟨g,0,none⟩),.slice Ao42 x4_1.length co42,.int .i64 (wrap64 (1+t323)),.int .i64 (rd x5_1 (ji12))] rfl (by (try simp only [List.map_toArray,List.map_cons,List.map_nil]);first|done|(simp only [hji12];rfl)|rfl|(simp only [List.length_drop,List.length_take];rfl)) ?_;(with_reducible refine (spec_l72Op.calls k1 g s0_0 t324 _ _ x4_1 (wrap64 (1+t323)) (rd x5_1 (ji12)) t326 t327 t328 t329 t330 t331 w0 _ ?side1 ?side2 ?side3 ?side4 A15.out).mono ?_);(case side1=>exact is_HI0);(case side2=>exact bel_);(case side3=>exact Kd.C_foot_own (IsS145.apart (show IsS145 w0 _ g s0_0 t324 from is_HI0) (rp_ HO_4.out) (by decide)) (fun _ h_=>h_.2));(case side4=>exact (Kd.R_reads' HO_4.out).2.1);rintro e w43 ⟨rfl,hi,hb,hk⟩;refine ⟨_,rfl,?_⟩;replace HO_3:=a_ (Kd.R_mono (Kd.R_keep (IsS145.apart (show IsS145 w0 _ g s0_0 t324 from is_HI0) (rp_ HO_3.out) (by decide)) hk (fun _ h=>h.2)) (fun _ h=>h.1));replace HO_4:=a_ (Kd.R_mono (Kd.R_keep (IsS145.apart (show IsS145 w0 _ g s0_0 t324 from is_HI0) (rp_ HO_4.out) (by decide)) hk (fun _ h=>h.2)) (fun _ h=>h.1));replace HO_5:=a_ (Kd.R_mono (Kd.R_keep (IsS145.apart (show IsS145 w0 _ g s0_0 t324 from is_HI0) (rp_ HO_5.out) (by decide)) hk (fun _ h=>h.2)) (fun _ h=>h.1));replace HK:=a_ (KeepBut.trans (ke_) hk (.inl rfl));replace HB:=a_ (hb);replace HI0:=a_ (hi);(try clear hb hk hi))|((with_reducible refine gD_ (N:=8) rfl ?_);refine bx_ 8 (#[.int .i64 0,.int .i64 0,.int .i64 0,.int .i64 0,.string (⟨#[]⟩:ByteArray)]) 42 ?_;intro gb332 hg w44 hbox hb;have n0_:=a_ (Kd.R_below (rp_ HO_3.out) hb);have n1_:=a_ (Kd.R_below (rp_ HO_4.out) hb);have n2_:=a_ (Kd.R_below (rp_ HO_5.out) hb);have n3_:=a_ (IsS145.below (is_HI0) hb);have n4_:=a_ (KeepBut.trans (ke_) (KeepBut.of_below hb g none) (.inl rfl));have n5_:=a_ (bS_ (bel_) hb);have n6_:=a_ (hbox);have n7_:=a_ ((by rw [hg];exact (keep_size (w:=w) (g:=g) (row:=none) (ke_)):w.heap.size≤gb332));have n8_:=a_ ((Nat.le_trans HW0.out (by rw [hg];exact (keep_size (w:=w) (g:=g) (row:=none) (ke_)):w.heap.size≤gb332):w0.heap.size≤gb332));have n9_:=a_ ((by rw [hg];exact Nat.ne_of_lt (IsS145.lt (show IsS145 w0 _ g s0_0 t331 from is_HI0)):g≠gb332));have n10_:=a_ ((by rw [hg];exact Nat.ne_of_gt (IsS145.lt (show IsS145 w0 _ g s0_0 t331 from is_HI0)):gb332≠g));clear HO_3;clear HO_4;clear HO_5;clear HI0;clear HK;clear HB;have HO_3:=n0_;have HO_4:=n1_;have HO_5:=n2_;have HI0:=n3_;have HK:=n4_;have HB:=n5_;have BK332:=n6_;have GW332:=n7_;have GE332:=n8_;have NB0_332:=n9_;have NB332_0:=n10_;clear n0_ n1_ n2_ n3_ n4_ n5_ n6_ n7_ n8_ n9_ n10_;clear hb hbox hg;have hnb45:=NB332_0.out;have hnc45:=NB0_332.out;have Z46_0:=cz_ BK332.out 0 (.int .i64 0);have Z46_1:=cz_ BK332.out 1 (.int .i64 0);have Z46_2:=cz_ BK332.out 2 (.int .i64 0);have Z46_3:=cz_ BK332.out 3 (.int .i64 0);have Z46_4:=cz_ BK332.out 4 (.string (⟨#[]⟩:ByteArray));have Y46_0:=bF_ BK332.out 0;have Y46_1:=bF_ BK332.out 1;have Y46_2:=bF_ BK332.out 2;have Y46_3:=bF_ BK332.out 3;have Y46_4:=bF_ BK332.out 4))
        have n0_:Aside0 (Kd.R k44 44 (((((w44.setCell ⟨gb332,0,none⟩ (.int .i64 t326)).setCell ⟨gb332,1,none⟩ (.int .i64 t327)).setCell ⟨gb332,2,none⟩ (.int .i64 t328)).setCell ⟨gb332,3,none⟩ (.int .i64 t329)).setCell ⟨gb332,4,none⟩ (.string t330)) w.heap.size (fun _=>True) u3 x3_1):=⟨by (with_reducible repeat (first|apply Kd.R_alloc|apply Kd.R_drewN|apply Kd.R_drew));exact Kd.R_mono (Kd.R_far (p:=⟨gb332,4,none⟩) (Kd.R_far (p:=⟨gb332,3,none⟩) (Kd.R_far (p:=⟨gb332,2,none⟩) (Kd.R_far (p:=⟨gb332,1,none⟩) (Kd.R_far (p:=⟨gb332,0,none⟩) (Kd.R_types HO_3.out BK332.out (by decide)) (fun _ hk=>hk.2) (.int .i64 t326)) (fun _ hk=>hk.2) (.int .i64 t327)) (fun _ hk=>hk.2) (.int .i64 t328)) (fun _ hk=>hk.2) (.int .i64 t329)) (fun _ hk=>hk.2) (.string t330)) (fun _ hk=>trivial)⟩
        have n1_:Aside0 (Kd.R k69 69 (((((w44.setCell ⟨gb332,0,none⟩ (.int .i64 t326)).setCell ⟨gb332,1,none⟩ (.int .i64 t327)).setCell ⟨gb332,2,none⟩ (.int .i64 t328)).setCell ⟨gb332,3,none⟩ (.int .i64 t329)).setCell ⟨gb332,4,none⟩ (.string t330)) w.heap.size (fun _=>True) (.slice Ao42 x4_1.length co42) x4_1):=⟨by (with_reducible repeat (first|apply Kd.R_alloc|apply Kd.R_drewN|apply Kd.R_drew));exact Kd.R_mono (Kd.R_far (p:=⟨gb332,4,none⟩) (Kd.R_far (p:=⟨gb332,3,none⟩) (Kd.R_far (p:=⟨gb332,2,none⟩) (Kd.R_far (p:=⟨gb332,1,none⟩) (Kd.R_far (p:=⟨gb332,0,none⟩) (Kd.R_types HO_4.out BK332.out (by decide)) (fun _ hk=>hk.2) (.int .i64 t326)) (fun _ hk=>hk.2) (.int .i64 t327)) (fun _ hk=>hk.2) (.int .i64 t328)) (fun _ hk=>hk.2) (.int .i64 t329)) (fun _ hk=>hk.2) (.string t330)) (fun _ hk=>trivial)⟩
        have n2_:Aside0 (Kd.R (Kd.int .i64) 3 (((((w44.setCell ⟨gb332,0,none⟩ (.int .i64 t326)).setCell ⟨gb332,1,none⟩ (.int .i64 t327)).setCell ⟨gb332,2,none⟩ (.int .i64 t328)).setCell ⟨gb332,3,none⟩ (.int .i64 t329)).setCell ⟨gb332,4,none⟩ (.string t330)) w.heap.size (fun _=>True) (.slice (some ad325) x5_1.length co41) x5_1):=⟨by (with_reducible repeat (first|apply Kd.R_alloc|apply Kd.R_drewN|apply Kd.R_drew));exact Kd.R_mono (Kd.R_far (p:=⟨gb332,4,none⟩) (Kd.R_far (p:=⟨gb332,3,none⟩) (Kd.R_far (p:=⟨gb332,2,none⟩) (Kd.R_far (p:=⟨gb332,1,none⟩) (Kd.R_far (p:=⟨gb332,0,none⟩) (Kd.R_types HO_5.out BK332.out (by decide)) (fun _ hk=>hk.2) (.int .i64 t326)) (fun _ hk=>hk.2) (.int .i64 t327)) (fun _ hk=>hk.2) (.int .i64 t328)) (fun _ hk=>hk.2) (.int .i64 t329)) (fun _ hk=>hk.2) (.string t330)) (fun _ hk=>trivial)⟩
        have n3_:Aside0 ((((((w44.setCell ⟨gb332,0,none⟩ (.int .i64 t326)).setCell ⟨gb332,1,none⟩ (.int .i64 t327)).setCell ⟨gb332,2,none⟩ (.int .i64 t328)).setCell ⟨gb332,3,none⟩ (.int .i64 t329)).setCell ⟨gb332,4,none⟩ (.string t330)).heap[gb332]?=some (.cells #[.int .i64 t326,.int .i64 t327,.int .i64 t328,.int .i64 t329,.string t330] 42 (0,0))):=⟨by (with_reducible repeat (first|refine bN_ ?_ _|refine bD_ ?_|refine bA_ ?_ _));refine blk_put (cs:=#[.int .i64 t326,.int .i64 t327,.int .i64 t328,.int .i64 t329,.string (⟨#[]⟩:ByteArray)]) ?_ 4 _ rfl;(with_reducible repeat (first|refine bN_ ?_ _|refine bD_ ?_|refine bA_ ?_ _));refine blk_put (cs:=#[.int .i64 t326,.int .i64 t327,.int .i64 t328,.int .i64 0,.string (⟨#[]⟩:ByteArray)]) ?_ 3 _ rfl;(with_reducible repeat (first|refine bN_ ?_ _|refine bD_ ?_|refine bA_ ?_ _));refine blk_put (cs:=#[.int .i64 t326,.int .i64 t327,.int .i64 0,.int .i64 0,.string (⟨#[]⟩:ByteArray)]) ?_ 2 _ rfl;(with_reducible repeat (first|refine bN_ ?_ _|refine bD_ ?_|refine bA_ ?_ _));refine blk_put (cs:=#[.int .i64 t326,.int .i64 0,.int .i64 0,.int .i64 0,.string (⟨#[]⟩:ByteArray)]) ?_ 1 _ rfl;(with_reducible repeat (first|refine bN_ ?_ _|refine bD_ ?_|refine bA_ ?_ _));refine blk_put (cs:=#[.int .i64 0,.int .i64 0,.int .i64 0,.int .i64 0,.string (⟨#[]⟩:ByteArray)]) ?_ 0 _ rfl;(with_reducible repeat (first|refine bN_ ?_ _|refine bD_ ?_|refine bA_ ?_ _));exact BK332.out⟩
        have n4_:Aside0 (IsS145 w0 (((((w44.setCell ⟨gb332,0,none⟩ (.int .i64 t326)).setCell ⟨gb332,1,none⟩ (.int .i64 t327)).setCell ⟨gb332,2,none⟩ (.int .i64 t328)).setCell ⟨gb332,3,none⟩ (.int .i64 t329)).setCell ⟨gb332,4,none⟩ (.string t330)) g s0_0 t331):=⟨is_HI0⟩
        have n5_:Aside0 (KeepBut w (((((w44.setCell ⟨gb332,0,none⟩ (.int .i64 t326)).setCell ⟨gb332,1,none⟩ (.int .i64 t327)).setCell ⟨gb332,2,none⟩ (.int .i64 t328)).setCell ⟨gb332,3,none⟩ (.int .i64 t329)).setCell ⟨gb332,4,none⟩ (.string t330)) g none):=⟨kf_ HK.out⟩
        have n6_:Aside0 (Below w0.heap.size w0 (((((w44.setCell ⟨gb332,0,none⟩ (.int .i64 t326)).setCell ⟨gb332,1,none⟩ (.int .i64 t327)).setCell ⟨gb332,2,none⟩ (.int .i64 t328)).setCell ⟨gb332,3,none⟩ (.int .i64 t329)).setCell ⟨gb332,4,none⟩ (.string t330))):=⟨bel_⟩
        (try clear HO_3)
        (try clear HO_4)
        (try clear HO_5)
        (try clear BK332)
        (try clear HI0)
        (try clear HK)
        (try clear HB)
        generalize (((((w44.setCell ⟨gb332,0,none⟩ (.int .i64 t326)).setCell ⟨gb332,1,none⟩ (.int .i64 t327)).setCell ⟨gb332,2,none⟩ (.int .i64 t328)).setCell ⟨gb332,3,none⟩ (.int .i64 t329)).setCell ⟨gb332,4,none⟩ (.string t330))=w47 at n0_ n1_ n2_ n3_ n4_ n5_ n6_ ⊢
        have HO_3:=n0_
        have HO_4:=n1_
        have HO_5:=n2_
        have BK332:=n3_
        have HI0:=n4_
        have HK:=n5_
        have HB:=n6_
        clear n0_ n1_ n2_ n3_ n4_ n5_ n6_
        have n0_:=a_ (Kd.R_drew HO_3.out)
        have n1_:=a_ (Kd.R_drew HO_4.out)
        have n2_:=a_ (Kd.R_drew HO_5.out)
        have n3_:=a_ (bD_ BK332.out)
        have n4_:=a_ (IsS145.drew HI0.out)
        have n5_:=a_ (keep_drew HK.out)
        have n6_:=a_ (below_drew1 HB.out)
        clear HO_3
        clear HO_4
        clear HO_5
        clear BK332
        clear HI0
        clear HK
        clear HB
        have HO_3:=n0_
        have HO_4:=n1_
        have HO_5:=n2_
        have BK332:=n3_
        have HI0:=n4_
        have HK:=n5_
        have HB:=n6_
        clear n0_ n1_ n2_ n3_ n4_ n5_ n6_
        obtain ⟨Ao49,co49,eo49⟩:=Kd.R_slice HO_3.out
        (first|subst eo49|(injection eo49 with f1_ f2_ f3_;have f4_:=f1_.symm;have f5_:=f3_.symm;clear f1_ f2_ f3_;subst f4_;subst f5_))
        refine start_ (n:=11) (S:=fun w'=>w'.cell? ⟨gb332,0,none⟩=some (.int .i64 t326)∧w'.cell? ⟨gb332,1,none⟩=some (.int .i64 t327)∧w'.cell? ⟨gb332,2,none⟩=some (.int .i64 t328)∧w'.cell? ⟨gb332,3,none⟩=some (.int .i64 t329)∧w'.cell? ⟨gb332,4,none⟩=some (.string t330)) (ds:=[]) #[false,false,false,false,false,false,false,false,false,false,false] (by kernel_rfl) rfl rfl ⟨(bC_ BK332.out 0).trans rfl,(bC_ BK332.out 1).trans rfl,(bC_ BK332.out 2).trans rfl,(bC_ BK332.out 3).trans rfl,(bC_ BK332.out 4).trans rfl⟩ (fun hHeld=>?_);refine with_tabW spec_l72Log.tab11 spec_l72Log.bits11 (fun HT_ HW_=>?_)
        generalize w47.drew=w48 at HO_3 HO_4 HO_5 BK332 HI0 HK HB hHeld ⊢
        refine pa_ 0 43 ?_
        refine pa_ 1 44 ?_
        refine pa_ 2 45 ?_
        refine pa_ 3 46 ?_
        refine ta5_ 6 49 hHeld ?_
        refine on_ 4 47 (fun K hK=>?_)
        refine goes_ Tryd.func90 (by kernel_rfl) rfl #[.slice Ao49 x3_1.length co49,.int .i64 (wrap64 (1+t323))] (by rfl) rfl rfl ar_ ?_
        with_reducible refine (spec_l12Seq.calls k1 _ _ x3_1 (wrap64 (1+t323)) t342 _ ?side1 ?side2 A37.out).mono ?_
        (case side1=>exact cx_ (Kd.R_reads' HO_3.out).2.2)
        (case side2=>exact (Kd.R_reads' HO_3.out).2.1)
        rintro e w' ⟨rfl,⟨nd,rfl⟩⟩
        refine ⟨_,rfl,?_⟩
        refine hK.out _ _ ⟨(bC_ BK332.out 0).trans rfl,(bC_ BK332.out 1).trans rfl,(bC_ BK332.out 2).trans rfl,(bC_ BK332.out 3).trans rfl,(bC_ BK332.out 4).trans rfl⟩ (fun hHeld=>?_)
        clear hK K
        refine no_ 47 ?_
        refine pa_ 5 48 ?_
        refine pa_ 7 50 ?_
        refine on_ 8 51 (fun K hK=>?_)
        refine value_ (w1:=?_) (v:=?_) (by rfl) rfl ?_ ?_
        rotate_left 2
        ·go_simp
         constructor
         ·rfl
         ·rfl
        refine hK.out _ _ ⟨(bC_ (bA_ BK332.out _) 0).trans rfl,(bC_ (bA_ BK332.out _) 1).trans rfl,(bC_ (bA_ BK332.out _) 2).trans rfl,(bC_ (bA_ BK332.out _) 3).trans rfl,(bC_ (bA_ BK332.out _) 4).trans rfl⟩ (fun hHeld=>?_)
        clear hK K
        refine no_ 51 ?_
        refine on_ 9 52 (fun K hK=>?_)
        refine Kd.R_append_step k44 w.heap.size (by rfl) (.tmp 43) (.tmp 51) 23 44 (.agg #[(.int .i64 0),(.int .i64 0),(.int .i64 0),(.int .i64 0),(.int .i64 0),(.int .i64 0),(.string ⟨#[]⟩)]) 64 rfl Tryd.underlying23 info44 rfl (by decide) (by omega) (.slice Ao49 x3_1.length co49) x3_1 (⟨wrap64 (1+t323),wrap64 (t342+1),(⟨t326,t327,t328,t329,t330⟩:S42)⟩:S44) [.int .i64 (wrap64 (1+t323)),.int .i64 (wrap64 (t342+1)),.int .i64 t326,.int .i64 t327,.int .i64 t328,.int .i64 t329,.string t330] (fun _=>True) (fun _=>False) rfl rfl ?aP (fun _ hk=>hk.elim) ?aF ?aO (Below.refl _ _) ?aS ?aL ?_
        (case aP=>exact k44_mkM _ _ _ (⟨wrap64 (1+t323),wrap64 (t342+1),(⟨t326,t327,t328,t329,t330⟩:S42)⟩:S44))
        (case aF=>exact (fun _ _=>trivial))
        (case aO=>exact (rp_ HO_3.out))
        (case aS=>exact (keep_size (w:=w) (g:=g) (row:=none) (kf_ HK.out)))
        (case aL=>have:=LMc38.out;omega)
        intro v344 w50 ho hb hg hat
        rw [←Ny343.out] at ho
        have n0_:=a_ (Kd.R_over' (rp_ HO_4.out) (Kd.R_typed (rp_ HO_3.out)) (by decide) hg)
        have n1_:=a_ (Kd.R_over' (rp_ HO_5.out) (Kd.R_typed (rp_ HO_3.out)) (by decide) hg)
        have n2_:=a_ (IsS145.grown (is_HI0) hg (IsS145.own_ne HI0.out HO_3.out (by decide)))
        have n3_:=a_ (blk_grown (g:=gb332) (o:=.cells #[.int .i64 t326,.int .i64 t327,.int .i64 t328,.int .i64 t329,.string t330] 42 (0,0)) (bp_ BK332.out) hg (Kd.R_ne HO_3.out BK332.out (by decide)))
        have n4_:=a_ (below_weaken (bel_) HL.out hb)
        have n5_:=a_ (KeepBut.trans (kf_ HK.out) (KeepBut.of_grown hg g) (Kd.R_base2 HO_3.out))
        have n6_:=a_ (ho)
        clear HO_4
        clear HO_5
        clear HI0
        clear BK332
        clear HB
        clear HK
        clear HO_3
        have HO_4:=n0_
        have HO_5:=n1_
        have HI0:=n2_
        have BK332:=n3_
        have HB:=n4_
        have HK:=n5_
        have HO345:=n6_
        clear n0_ n1_ n2_ n3_ n4_ n5_ n6_
        clear ho hb hg hat
        refine hK.out _ _ ⟨(bC_ BK332.out 0).trans rfl,(bC_ BK332.out 1).trans rfl,(bC_ BK332.out 2).trans rfl,(bC_ BK332.out 3).trans rfl,(bC_ BK332.out 4).trans rfl⟩ (fun hHeld=>?_)
        clear hK K
        refine no_ 52 ?_
        refine pa_ 10 3 ?_
        refine done_ (done_of HT_.out (by kernel_rfl)) ?_
        have Z51_0:=cz_ BK332.out 0 (.int .i64 t326)
        have Z51_1:=cz_ BK332.out 1 (.int .i64 t327)
        have Z51_2:=cz_ BK332.out 2 (.int .i64 t328)
        have Z51_3:=cz_ BK332.out 3 (.int .i64 t329)
        have Z51_4:=cz_ BK332.out 4 (.string t330)
        have Y51_0:=bF_ BK332.out 0
        have Y51_1:=bF_ BK332.out 1
        have Y51_2:=bF_ BK332.out 2
        have Y51_3:=bF_ BK332.out 3
        have Y51_4:=bF_ BK332.out 4
        try go_wp2_with (first|((with_reducible refine gC_ (f:=125) rfl ?_);refine gl_ 55 Tryd.func125 #[.slice Ao42 x4_1.length co42,.agg #[.int .i64 t326,.int .i64 t327,.int .i64 t328,.int .i64 t329,.string t330]] ?_;(with_reducible refine (spec_l3Do.calls k1 _ _ x4_1 t326 t327 t328 t329 t330 t346 _ ?side1 ?side2 A39.out).mono ?_);(case side1=>exact cx_ (Kd.R_reads' HO_4.out).2.2);(case side2=>exact (Kd.R_reads' HO_4.out).2.1);rintro e w52 ⟨v347,rfl,ho0,hb⟩;refine ⟨_,rfl,?_⟩;replace HO_5:=a_ (Kd.R_below (rp_ HO_5.out) hb);replace HO345:=a_ (Kd.R_below (rp_ HO345.out) hb);have HO348:=a_ (Kd.R_lower (Kd.R_new' ho0 (Kd.R_lt (rp_ HO_4.out))) (keep_size (w:=w) (g:=g) (row:=none) (kf_ HK.out)));replace HO_4:=a_ (Kd.R_elder' (rp_ HO_4.out) (Kd.R_base ho0) hb);replace HK:=a_ (KeepBut.trans (kf_ HK.out) (KeepBut.of_below hb g none) (.inl rfl));replace HB:=a_ (bS_ (bel_) hb);replace HI0:=a_ (IsS145.below (is_HI0) hb);replace BK332:=a_ (bb_ BK332.out hb);(try clear hb ho0)))
        go_roundg k1
        case measure=>have:=HK1.out;omega
        case rel=>exact ⟨(y343),(t346),(x5_1),(wrap64 (x6_1 - 1)),(t331),(si_),H',⟨by have:=HK1.out;omega⟩,⟨by (with_reducible repeat (first|apply Kd.R_alloc|apply Kd.R_drewN|apply Kd.R_drew));exact HO345.out⟩,⟨by (with_reducible repeat (first|apply Kd.R_alloc|apply Kd.R_drewN|apply Kd.R_drew));exact Kd.R_mono HO348.out (fun _ hk=>trivial)⟩,⟨by (with_reducible repeat (first|apply Kd.R_alloc|apply Kd.R_drewN|apply Kd.R_drew));exact HO_5.out⟩,⟨is_HI0⟩,⟨kf_ HK.out⟩,⟨bel_⟩⟩
       ·rw [if_neg c38] at H
        exact absurd H (by simp)
     ·rw [if_neg c14] at H
      exact absurd H (by simp)
    ·rw [if_neg c13] at H
     exact absurd H (by simp)
   ·rw [if_neg c10] at H
    have c10b0:decide (0 < x6_1)=false:=df_ c10
    clear c10
    replace H:=bs_ H
    obtain ⟨⟨t349,t350⟩,A530,H⟩:=H
    try dsimp only at H
    have A53:=a_ A530
    clear A530
    by_cases c54:t349=0
    ·rw [if_pos c54] at H
     have c54b0:(t349==0)=true:=beq_iff_eq.mpr c54
     have c54b1:(t349 != 0)=false:=be_ c54
     clear c54
     replace H:=bs_ H
     obtain ⟨⟨t351,t352⟩,A550,H⟩:=H
     try dsimp only at H
     have A55:=a_ A550
     clear A550
     replace H:=bs_ H
     obtain ⟨⟨t353,t354⟩,A560,H⟩:=H
     try dsimp only at H
     have A56:=a_ A560
     clear A560
     replace H:=bs_ H
     obtain ⟨⟨t355,t356,t357,t358,t359,t360⟩,A570,H⟩:=H
     try dsimp only at H
     have A57:=a_ A570
     clear A570
     by_cases c58:x3_1.length < 2199023255552
     ·rw [if_pos c58] at H
      have LMc58:=a_ c58
      clear c58
      obtain ⟨y361,hy361⟩:∃ y_:List (S44),y_=(x3_1++[(⟨wrap64 (1+t351),wrap64 (1+t353),(⟨t355,t356,t357,t358,t359⟩:S42)⟩:S44)]):=⟨_,rfl⟩
      replace H:(some (y361,t360))=some (r1,r2):=by first|(rw [hy361];with_reducible exact H)|(have H2_:=(Option.bind_some _ _).symm.trans H;rw [hy361];with_reducible exact H2_)|(have H2_:=(Option.bind_some _ _).symm.trans H;with_reducible exact H2_)|with_reducible exact H|(rw [hy361];exact H)|exact H
      have Ny361:=a_ hy361
      clear hy361
      simp only [Option.some.injEq,Prod.mk.injEq] at H
      obtain ⟨rfl,rfl⟩:=H
      go_wp2_with (first|((with_reducible refine gC_ (f:=74) rfl ?_);refine gl_ 57 Tryd.func74 #[.pointer (some ⟨g,0,none⟩),.int .i64 24] ?_;(with_reducible refine (spec_l6Rd_pick.calls k1 g s0_0 x1001_1 24 t349 t350 w0 _ ?side1 ?side2 A53.out).mono ?_);(case side1=>exact is_HI0);(case side2=>exact bel_);rintro e w59 ⟨rfl,hi,hb,hk⟩;refine ⟨_,rfl,?_⟩;replace HO_3:=a_ (Kd.R_mono (Kd.R_keep (IsS145.apart (show IsS145 w0 _ g s0_0 x1001_1 from is_HI0) (rp_ HO_3.out) (by decide)) hk (fun _ h=>h.2)) (fun _ h=>h.1));replace HO_4:=a_ (Kd.R_mono (Kd.R_keep (IsS145.apart (show IsS145 w0 _ g s0_0 x1001_1 from is_HI0) (rp_ HO_4.out) (by decide)) hk (fun _ h=>h.2)) (fun _ h=>h.1));replace HO_5:=a_ (Kd.R_mono (Kd.R_keep (IsS145.apart (show IsS145 w0 _ g s0_0 x1001_1 from is_HI0) (rp_ HO_5.out) (by decide)) hk (fun _ h=>h.2)) (fun _ h=>h.1));replace HK:=a_ (KeepBut.trans (ke_) hk (.inl rfl));replace HB:=a_ (hb);replace HI0:=a_ (hi);(try clear hb hk hi))|((with_reducible refine gC_ (f:=74) rfl ?_);refine gl_ 62 Tryd.func74 #[.pointer (some ⟨g,0,none⟩),.int .i64 3] ?_;(with_reducible refine (spec_l6Rd_pick.calls k1 g s0_0 t350 3 t351 t352 w0 _ ?side1 ?side2 A55.out).mono ?_);(case side1=>exact is_HI0);(case side2=>exact bel_);rintro e w60 ⟨rfl,hi,hb,hk⟩;refine ⟨_,rfl,?_⟩;replace HO_3:=a_ (Kd.R_mono (Kd.R_keep (IsS145.apart (show IsS145 w0 _ g s0_0 t350 from is_HI0) (rp_ HO_3.out) (by decide)) hk (fun _ h=>h.2)) (fun _ h=>h.1));replace HO_4:=a_ (Kd.R_mono (Kd.R_keep (IsS145.apart (show IsS145 w0 _ g s0_0 t350 from is_HI0) (rp_ HO_4.out) (by decide)) hk (fun _ h=>h.2)) (fun _ h=>h.1));replace HO_5:=a_ (Kd.R_mono (Kd.R_keep (IsS145.apart (show IsS145 w0 _ g s0_0 t350 from is_HI0) (rp_ HO_5.out) (by decide)) hk (fun _ h=>h.2)) (fun _ h=>h.1));replace HK:=a_ (KeepBut.trans (ke_) hk (.inl rfl));replace HB:=a_ (hb);replace HI0:=a_ (hi);(try clear hb hk hi))|((with_reducible refine gC_ (f:=74) rfl ?_);refine gl_ 65 Tryd.func74 #[.pointer (some ⟨g,0,none⟩),.int .i64 4] ?_;(with_reducible refine (spec_l6Rd_pick.calls k1 g s0_0 t352 4 t353 t354 w0 _ ?side1 ?side2 A56.out).mono ?_);(case side1=>exact is_HI0);(case side2=>exact bel_);rintro e w61 ⟨rfl,hi,hb,hk⟩;refine ⟨_,rfl,?_⟩;replace HO_3:=a_ (Kd.R_mono (Kd.R_keep (IsS145.apart (show IsS145 w0 _ g s0_0 t352 from is_HI0) (rp_ HO_3.out) (by decide)) hk (fun _ h=>h.2)) (fun _ h=>h.1));replace HO_4:=a_ (Kd.R_mono (Kd.R_keep (IsS145.apart (show IsS145 w0 _ g s0_0 t352 from is_HI0) (rp_ HO_4.out) (by decide)) hk (fun _ h=>h.2)) (fun _ h=>h.1));replace HO_5:=a_ (Kd.R_mono (Kd.R_keep (IsS145.apart (show IsS145 w0 _ g s0_0 t352 from is_HI0) (rp_ HO_5.out) (by decide)) hk (fun _ h=>h.2)) (fun _ h=>h.1));replace HK:=a_ (KeepBut.trans (ke_) hk (.inl rfl));replace HB:=a_ (hb);replace HI0:=a_ (hi);(try clear hb hk hi))|((with_reducible refine gC_ (f:=96) rfl ?_);refine gl_ 68 Tryd.func96 #[.pointer (some ⟨g,0,none⟩)] ?_;(with_reducible refine (spec_l71Op.calls k1 g s0_0 t354 t355 t356 t357 t358 t359 t360 w0 _ ?side1 ?side2 A57.out).mono ?_);(case side1=>exact is_HI0);(case side2=>exact bel_);rintro e w62 ⟨rfl,hi,hb,hk⟩;refine ⟨_,rfl,?_⟩;replace HO_3:=a_ (Kd.R_mono (Kd.R_keep (IsS145.apart (show IsS145 w0 _ g s0_0 t354 from is_HI0) (rp_ HO_3.out) (by decide)) hk (fun _ h=>h.2)) (fun _ h=>h.1));replace HO_4:=a_ (Kd.R_mono (Kd.R_keep (IsS145.apart (show IsS145 w0 _ g s0_0 t354 from is_HI0) (rp_ HO_4.out) (by decide)) hk (fun _ h=>h.2)) (fun _ h=>h.1));replace HO_5:=a_ (Kd.R_mono (Kd.R_keep (IsS145.apart (show IsS145 w0 _ g s0_0 t354 from is_HI0) (rp_ HO_5.out) (by decide)) hk (fun _ h=>h.2)) (fun _ h=>h.1));replace HK:=a_ (KeepBut.trans (ke_) hk (.inl rfl));replace HB:=a_ (hb);replace HI0:=a_ (hi);(try clear hb hk hi))|((with_reducible refine gate_builtin (b:=.append) (xs:=#[.tmp 60,.tmp 70]) rfl ?_);at_builtin;refine Kd.R_append k44 w.heap.size rfl (.tmp 60) (.tmp 70) 23 44 (.agg #[(.int .i64 0),(.int .i64 0),(.int .i64 0),(.int .i64 0),(.int .i64 0),(.int .i64 0),(.string ⟨#[]⟩)]) 64 rfl Tryd.underlying23 info44 rfl (by decide) (by omega) u3 x3_1 (⟨wrap64 (1+t351),wrap64 (1+t353),(⟨t355,t356,t357,t358,t359⟩:S42)⟩:S44) [.int .i64 (wrap64 (1+t351)),.int .i64 (wrap64 (1+t353)),.int .i64 t355,.int .i64 t356,.int .i64 t357,.int .i64 t358,.string t359] (fun _=>True) (fun _=>False) rfl rfl ?aP (fun _ hk=>hk.elim) ?aF ?aO (Below.refl _ _) ?aS ?aL ?_;(case aP=>exact k44_mkM _ _ _ (⟨wrap64 (1+t351),wrap64 (1+t353),(⟨t355,t356,t357,t358,t359⟩:S42)⟩:S44));(case aF=>exact (fun _ _=>trivial));(case aO=>exact (rp_ HO_3.out));(case aS=>exact (keep_size (w:=w) (g:=g) (row:=none) (ke_)));(case aL=>have:=LMc58.out;omega);intro v362 w63 ho hb hg hat;rw [←Ny361.out] at ho;replace HO_4:=a_ (Kd.R_over' (rp_ HO_4.out) (Kd.R_typed (rp_ HO_3.out)) (by decide) hg);replace HO_5:=a_ (Kd.R_over' (rp_ HO_5.out) (Kd.R_typed (rp_ HO_3.out)) (by decide) hg);replace HB:=a_ (below_weaken (bel_) HL.out hb);replace HI0:=a_ (IsS145.grown (is_HI0) hg (IsS145.own_ne HI0.out HO_3.out (by decide)));replace HK:=a_ (KeepBut.trans (ke_) (KeepBut.of_grown hg g) (Kd.R_base2 HO_3.out));have HO363:=a_ (ho);clear HO_3;clear ho hb hg hat))
      go_ret
      exact ⟨_,fi_,by (with_reducible repeat (first|apply Kd.R_alloc|apply Kd.R_drewN|apply Kd.R_drew));exact HO363.out,is_HI0,bel_,ke_⟩
     ·rw [if_neg c58] at H
      exact absurd H (by simp)
    ·rw [if_neg c54] at H
     have c54b0:(t349==0)=false:=bn_ c54
     have c54b1:(t349 != 0)=true:=bne_iff_ne.mpr c54
     by_cases c64:t349=1
     ·rw [if_pos c64] at H
      have c64b0:(t349==1)=true:=beq_iff_eq.mpr c64
      have c64b1:(t349 != 1)=false:=be_ c64
      clear c64
      by_cases c65:(x3_1.length:Int) > 0
      ·rw [if_pos c65] at H
       have c65b0:decide (0 < (x3_1.length:Int))=true:=dt_ c65
       have c65b1:decide (0 < x3_1.length)=true:=dt_ (by omega)
       clear c65
       replace H:=bs_ H
       obtain ⟨⟨t364,t365⟩,A660,H⟩:=H
       try dsimp only at H
       have A66:=a_ A660
       clear A660
       replace H:=bs_ H
       obtain ⟨⟨t366,t367⟩,A670,H⟩:=H
       try dsimp only at H
       have A67:=a_ A670
       clear A670
       by_cases c68:0≤t364
       ·rw [if_pos c68] at H
        have c68b0:decide (0≤t364)=true:=dt_ c68
        clear c68
        by_cases c69:t364 < (x3_1.length:Int)
        ·rw [if_pos c69] at H
         have c69b0:decide (t364 < (x3_1.length:Int))=true:=dt_ c69
         clear c69
         obtain ⟨y368,hy368⟩:∃ y_:List (S44),y_=(x3_1.set (t364:Int).toNat (⟨(rd_T44 x3_1 t364).f0,t366,(⟨(rd_T44 x3_1 t364).f2.f0,(rd_T44 x3_1 t364).f2.f1,(rd_T44 x3_1 t364).f2.f2,(rd_T44 x3_1 t364).f2.f3,(rd_T44 x3_1 t364).f2.f4⟩:S42)⟩:S44)):=⟨_,rfl⟩
         replace H:(some (y368,t367))=some (r1,r2):=by first|(rw [hy368];with_reducible exact H)|(have H2_:=(Option.bind_some _ _).symm.trans H;rw [hy368];with_reducible exact H2_)|(have H2_:=(Option.bind_some _ _).symm.trans H;with_reducible exact H2_)|with_reducible exact H|(rw [hy368];exact H)|exact H
         have Ny368:=a_ hy368
         clear hy368
         simp only [Option.some.injEq,Prod.mk.injEq] at H
         obtain ⟨rfl,rfl⟩:=H
         go_wp2_with (first|((with_reducible refine gC_ (f:=74) rfl ?_);refine gl_ 57 Tryd.func74 #[.pointer (some ⟨g,0,none⟩),.int .i64 24] ?_;(with_reducible refine (spec_l6Rd_pick.calls k1 g s0_0 x1001_1 24 t349 t350 w0 _ ?side1 ?side2 A53.out).mono ?_);(case side1=>exact is_HI0);(case side2=>exact bel_);rintro e w71 ⟨rfl,hi,hb,hk⟩;refine ⟨_,rfl,?_⟩;replace HO_3:=a_ (Kd.R_mono (Kd.R_keep (IsS145.apart (show IsS145 w0 _ g s0_0 x1001_1 from is_HI0) (rp_ HO_3.out) (by decide)) hk (fun _ h=>h.2)) (fun _ h=>h.1));replace HO_4:=a_ (Kd.R_mono (Kd.R_keep (IsS145.apart (show IsS145 w0 _ g s0_0 x1001_1 from is_HI0) (rp_ HO_4.out) (by decide)) hk (fun _ h=>h.2)) (fun _ h=>h.1));replace HO_5:=a_ (Kd.R_mono (Kd.R_keep (IsS145.apart (show IsS145 w0 _ g s0_0 x1001_1 from is_HI0) (rp_ HO_5.out) (by decide)) hk (fun _ h=>h.2)) (fun _ h=>h.1));replace HK:=a_ (KeepBut.trans (ke_) hk (.inl rfl));replace HB:=a_ (hb);replace HI0:=a_ (hi);(try clear hb hk hi);obtain ⟨Ao72,co72,eo72⟩:=Kd.R_slice HO_3.out;subst eo72)|((with_reducible refine gC_ (f:=74) rfl ?_);refine gl_ 81 Tryd.func74 #[.pointer (some ⟨g,0,none⟩),.int .i64 (x3_1.length:Int)] ?_;(with_reducible refine (spec_l6Rd_pick.calls k1 g s0_0 t350 (x3_1.length:Int) t364 t365 w0 _ ?side1 ?side2 A66.out).mono ?_);(case side1=>exact is_HI0);(case side2=>exact bel_);rintro e w73 ⟨rfl,hi,hb,hk⟩;refine ⟨_,rfl,?_⟩;replace HO_3:=a_ (Kd.R_mono (Kd.R_keep (IsS145.apart (show IsS145 w0 _ g s0_0 t350 from is_HI0) (rp_ HO_3.out) (by decide)) hk (fun _ h=>h.2)) (fun _ h=>h.1));replace HO_4:=a_ (Kd.R_mono (Kd.R_keep (IsS145.apart (show IsS145 w0 _ g s0_0 t350 from is_HI0) (rp_ HO_4.out) (by decide)) hk (fun _ h=>h.2)) (fun _ h=>h.1));replace HO_5:=a_ (Kd.R_mono (Kd.R_keep (IsS145.apart (show IsS145 w0 _ g s0_0 t350 from is_HI0) (rp_ HO_5.out) (by decide)) hk (fun _ h=>h.2)) (fun _ h=>h.1));replace HK:=a_ (KeepBut.trans (ke_) hk (.inl rfl));replace HB:=a_ (hb);replace HI0:=a_ (hi);(try clear hb hk hi))|((with_reducible refine gC_ (f:=74) rfl ?_);refine gl_ 83 Tryd.func74 #[.pointer (some ⟨g,0,none⟩),.int .i64 4] ?_;(with_reducible refine (spec_l6Rd_pick.calls k1 g s0_0 t365 4 t366 t367 w0 _ ?side1 ?side2 A67.out).mono ?_);(case side1=>exact is_HI0);(case side2=>exact bel_);rintro e w74 ⟨rfl,hi,hb,hk⟩;refine ⟨_,rfl,?_⟩;replace HO_3:=a_ (Kd.R_mono (Kd.R_keep (IsS145.apart (show IsS145 w0 _ g s0_0 t365 from is_HI0) (rp_ HO_3.out) (by decide)) hk (fun _ h=>h.2)) (fun _ h=>h.1));replace HO_4:=a_ (Kd.R_mono (Kd.R_keep (IsS145.apart (show IsS145 w0 _ g s0_0 t365 from is_HI0) (rp_ HO_4.out) (by decide)) hk (fun _ h=>h.2)) (fun _ h=>h.1));replace HO_5:=a_ (Kd.R_mono (Kd.R_keep (IsS145.apart (show IsS145 w0 _ g s0_0 t365 from is_HI0) (rp_ HO_5.out) (by decide)) hk (fun _ h=>h.2)) (fun _ h=>h.1));replace HK:=a_ (KeepBut.trans (ke_) hk (.inl rfl));replace HB:=a_ (hb);replace HI0:=a_ (hi);(try clear hb hk hi);have p70:0≤(t364:Int):=od_;have q70:(t364:Int) < ((x3_1.length:Int):Int):=od_;obtain ⟨go70,co70,eo70,gb70,gl70,cl70,HG70⟩:=Kd.R_form HO_3.out (by omega);(first|cases eo70|(injection eo70 with ea_ en_ ec_;(first|subst ea_|(injection ea_ with ea_;subst ea_));subst ec_;clear en_));have GB70:=a_ gb70;have GG70:=a_ HG70;clear gb70 gl70 HG70;obtain ⟨ce70,hcl70,hM70,hcc70,hfr70⟩:=Kd.R_elem HO_3.out z44 (t364:Int) p70 q70;obtain rfl:=k44_openM hM70;have hx70_0:w74.cell? ⟨go70,(t364:Int).toNat * 7,none⟩=some (.int .i64 ((rd_T44 x3_1 t364).f0)):=hcc70 0 _ rfl;have hx70_1:w74.cell? ⟨go70,(t364:Int).toNat * 7+1,none⟩=some (.int .i64 ((rd_T44 x3_1 t364).f1)):=hcc70 1 _ rfl;have hx70_2:w74.cell? ⟨go70,(t364:Int).toNat * 7+2,none⟩=some (.int .i64 ((rd_T44 x3_1 t364).f2.f0)):=hcc70 2 _ rfl;have hx70_3:w74.cell? ⟨go70,(t364:Int).toNat * 7+3,none⟩=some (.int .i64 ((rd_T44 x3_1 t364).f2.f1)):=hcc70 3 _ rfl;have hx70_4:w74.cell? ⟨go70,(t364:Int).toNat * 7+4,none⟩=some (.int .i64 ((rd_T44 x3_1 t364).f2.f2)):=hcc70 4 _ rfl;have hx70_5:w74.cell? ⟨go70,(t364:Int).toNat * 7+5,none⟩=some (.int .i64 ((rd_T44 x3_1 t364).f2.f3)):=hcc70 5 _ rfl;have hx70_6:w74.cell? ⟨go70,(t364:Int).toNat * 7+6,none⟩=some (.string ((rd_T44 x3_1 t364).f2.f4)):=hcc70 6 _ rfl;have hf70_0:w74.frozen? ⟨go70,(t364:Int).toNat * 7,none⟩=false:=hfr70 0;have hf70_1:w74.frozen? ⟨go70,(t364:Int).toNat * 7+1,none⟩=false:=hfr70 1;have hf70_2:w74.frozen? ⟨go70,(t364:Int).toNat * 7+2,none⟩=false:=hfr70 2;have hf70_3:w74.frozen? ⟨go70,(t364:Int).toNat * 7+3,none⟩=false:=hfr70 3;have hf70_4:w74.frozen? ⟨go70,(t364:Int).toNat * 7+4,none⟩=false:=hfr70 4;have hf70_5:w74.frozen? ⟨go70,(t364:Int).toNat * 7+5,none⟩=false:=hfr70 5;have hf70_6:w74.frozen? ⟨go70,(t364:Int).toNat * 7+6,none⟩=false:=hfr70 6;clear hcl70 hcc70 hfr70 hM70;replace p70:=eq_true p70;replace q70:=eq_true q70;have HX75:=a_ (show Kd.R k44 44 w74 w.heap.size (fun _=>True) (.slice (some ⟨go70,0,none⟩) x3_1.length co72) x3_1 from (rp_ HO_3.out));obtain ⟨ce75,hcl75,hM75,hcc75,hfr75⟩:=Kd.R_elem HX75.out z44 (t364:Int) (od_) (by have h_:(t364:Int) < ((x3_1.length:Int):Int):=od_;first|exact h_|(have e_:=(Kd.R_reads' HO_3.out).1;omega)|simpa using h_);obtain rfl:=k44_openM hM75;have HP75:=Kd.R_seg HX75.out (t364:Int) (od_) (by have h_:(t364:Int) < ((x3_1.length:Int):Int):=od_;first|exact h_|(have e_:=(Kd.R_reads' HO_3.out).1;omega)|simpa using h_) (seg:=[.int .i64 t366]) (j:=1) hcl75 hcc75 (show 2≤7 from by decide) (x':=(⟨(rd_T44 x3_1 t364).f0,t366,(⟨(rd_T44 x3_1 t364).f2.f0,(rd_T44 x3_1 t364).f2.f1,(rd_T44 x3_1 t364).f2.f2,(rd_T44 x3_1 t364).f2.f3,(rd_T44 x3_1 t364).f2.f4⟩:S42)⟩:S44)) (k44_mkM _ _ _ (⟨(rd_T44 x3_1 t364).f0,t366,(⟨(rd_T44 x3_1 t364).f2.f0,(rd_T44 x3_1 t364).f2.f1,(rd_T44 x3_1 t364).f2.f2,(rd_T44 x3_1 t364).f2.f3,(rd_T44 x3_1 t364).f2.f4⟩:S42)⟩:S44) ) (fun _ hk=>hk);have hx75_1:=hcc75 1 _ rfl;(try simp only [show (k44).sz=7 from rfl,Nat.mul_one,Nat.add_zero] at hx75_1);have hf75_1:=hfr75 1;(try simp only [show (k44).sz=7 from rfl,Nat.mul_one,Nat.add_zero] at hf75_1);clear hcl75 hcc75 hfr75 hM75)|((with_reducible refine gate_store (t:=3) (p:=85) rfl ?_);refine store_event (t:=3) (p:=85) (v:=?vo_w76) (w1:=(w74.setCell ⟨go70,(t364:Int).toNat * 7+1,none⟩ (.int .i64 t366))) ?hg ?ho ?hn ?hr ?_;(case ho=>rfl);(case hg=>rfl);(case hn=>rfl);(case hr=>first|(go_simp;done)|(go_simp;rfl));intro w76 hw;have hg:w74.grownBy w76 (some go70):=(by rw [hw];exact HP75.2);have hp_:Kd.R k44 44 w76 w.heap.size (fun _=>True) (.slice (some ⟨go70,0,none⟩) x3_1.length co72) y368:=(by rw [hw,Ny368.out];exact HP75.1);clear HP75;have n0_:=a_ (hp_);have n1_:=a_ (Kd.R_over' (v:=(.slice (some ⟨go70,0,none⟩) x3_1.length co72)) (rp_ HO_4.out) (Kd.R_typed HO_3.out) (by decide) hg);have n2_:=a_ (Kd.R_over' (v:=(.slice (some ⟨go70,0,none⟩) x3_1.length co72)) (rp_ HO_5.out) (Kd.R_typed HO_3.out) (by decide) hg);have n3_:=a_ (IsS145.grown (is_HI0) hg (IsS145.own_ne HI0.out HO_3.out (by decide)));have n4_:=a_ ((by rw [hw];exact wS_ (HB.out) (Nat.le_trans HL.out GB70.out):Below w0.heap.size w0 w76));have n5_:=a_ (KeepBut.trans (ke_) (KeepBut.of_grown hg g) (Kd.R_base2 HO_3.out));clear HO_3;clear HO_4;clear HO_5;clear HI0;clear HB;clear HK;have HO_3:=n0_;have HO_4:=n1_;have HO_5:=n2_;have HI0:=n3_;have HB:=n4_;have HK:=n5_;clear n0_ n1_ n2_ n3_ n4_ n5_;clear hg hw hp_))
         go_ret
         exact ⟨_,fi_,by (with_reducible repeat (first|apply Kd.R_alloc|apply Kd.R_drewN|apply Kd.R_drew));exact HO_3.out,is_HI0,bel_,ke_⟩
        ·rw [if_neg c69] at H
         exact absurd H (by simp)
       ·rw [if_neg c68] at H
        exact absurd H (by simp)
      ·rw [if_neg c65] at H
       have c65b0:decide (0 < (x3_1.length:Int))=false:=df_ c65
       have c65b1:decide (0 < x3_1.length)=false:=df_ (by omega)
       clear c65
       simp only [Option.some.injEq,Prod.mk.injEq] at H
       obtain ⟨rfl,rfl⟩:=H
       go_wp2_with (first|((with_reducible refine gC_ (f:=74) rfl ?_);refine gl_ 57 Tryd.func74 #[.pointer (some ⟨g,0,none⟩),.int .i64 24] ?_;(with_reducible refine (spec_l6Rd_pick.calls k1 g s0_0 x1001_1 24 t349 t350 w0 _ ?side1 ?side2 A53.out).mono ?_);(case side1=>exact is_HI0);(case side2=>exact bel_);rintro e w77 ⟨rfl,hi,hb,hk⟩;refine ⟨_,rfl,?_⟩;replace HO_3:=a_ (Kd.R_mono (Kd.R_keep (IsS145.apart (show IsS145 w0 _ g s0_0 x1001_1 from is_HI0) (rp_ HO_3.out) (by decide)) hk (fun _ h=>h.2)) (fun _ h=>h.1));replace HO_4:=a_ (Kd.R_mono (Kd.R_keep (IsS145.apart (show IsS145 w0 _ g s0_0 x1001_1 from is_HI0) (rp_ HO_4.out) (by decide)) hk (fun _ h=>h.2)) (fun _ h=>h.1));replace HO_5:=a_ (Kd.R_mono (Kd.R_keep (IsS145.apart (show IsS145 w0 _ g s0_0 x1001_1 from is_HI0) (rp_ HO_5.out) (by decide)) hk (fun _ h=>h.2)) (fun _ h=>h.1));replace HK:=a_ (KeepBut.trans (ke_) hk (.inl rfl));replace HB:=a_ (hb);replace HI0:=a_ (hi);(try clear hb hk hi);obtain ⟨Ao78,co78,eo78⟩:=Kd.R_slice HO_3.out;subst eo78))
       go_ret
       exact ⟨_,fi_,by (with_reducible repeat (first|apply Kd.R_alloc|apply Kd.R_drewN|apply Kd.R_drew));exact HO_3.out,is_HI0,bel_,ke_⟩
     ·rw [if_neg c64] at H
      have c64b0:(t349==1)=false:=bn_ c64
      have c64b1:(t349 != 1)=true:=bne_iff_ne.mpr c64
      simp only [Option.some.injEq,Prod.mk.injEq] at H
      obtain ⟨rfl,rfl⟩:=H
      go_wp2_with (first|((with_reducible refine gC_ (f:=74) rfl ?_);refine gl_ 57 Tryd.func74 #[.pointer (some ⟨g,0,none⟩),.int .i64 24] ?_;(with_reducible refine (spec_l6Rd_pick.calls k1 g s0_0 x1001_1 24 t349 t350 w0 _ ?side1 ?side2 A53.out).mono ?_);(case side1=>exact is_HI0);(case side2=>exact bel_);rintro e w79 ⟨rfl,hi,hb,hk⟩;refine ⟨_,rfl,?_⟩;replace HO_3:=a_ (Kd.R_mono (Kd.R_keep (IsS145.apart (show IsS145 w0 _ g s0_0 x1001_1 from is_HI0) (rp_ HO_3.out) (by decide)) hk (fun _ h=>h.2)) (fun _ h=>h.1));replace HO_4:=a_ (Kd.R_mono (Kd.R_keep (IsS145.apart (show IsS145 w0 _ g s0_0 x1001_1 from is_HI0) (rp_ HO_4.out) (by decide)) hk (fun _ h=>h.2)) (fun _ h=>h.1));replace HO_5:=a_ (Kd.R_mono (Kd.R_keep (IsS145.apart (show IsS145 w0 _ g s0_0 x1001_1 from is_HI0) (rp_ HO_5.out) (by decide)) hk (fun _ h=>h.2)) (fun _ h=>h.1));replace HK:=a_ (KeepBut.trans (ke_) hk (.inl rfl));replace HB:=a_ (hb);replace HI0:=a_ (hi);(try clear hb hk hi)))
      go_ret
      exact ⟨_,fi_,by (with_reducible repeat (first|apply Kd.R_alloc|apply Kd.R_drewN|apply Kd.R_drew));exact HO_3.out,is_HI0,bel_,ke_⟩

def spec_l72Server.f (k:Nat) (s0_0:List Int) (s0_1:Int):Option ((List (S44))×Int×Bool×Int):=(spec_l72Log.f k s0_0 s0_1).bind fun bt370=>((spec_l6Rd_pick.f k s0_0 bt370.2 8).bind fun bt374=>((spec_l6Rd_pick.f k s0_0 bt374.2 (wrap64 ((bt370.1.length:Int)+1))).bind fun bt377=>((spec_l6Rd_pick.f k s0_0 bt377.2 24).bind fun bt379=>(some (bt370.1,wrap64 (bt377.1+(wrap64 (Int.tdiv bt379.1 23))),decide (bt374.1 > 0),bt379.2)))))
theorem spec_l72Server.mono:∀ a0 a1 k,LeO (spec_l72Server.f k a0 a1) (spec_l72Server.f (k+1) a0 a1):=by
 intro a0 a1 k
 unfold spec_l72Server.f
 repeat' first
   | (with_reducible exact spec_l6Rd_pick.mono _ _ _ _)
   | (with_reducible exact spec_l72Log.mono _ _ _)
   | (with_reducible exact LeO.refl _)
   | (with_reducible exact LeO.none _)
   | (with_reducible refine LeO.ite ?_ ?_)
   | (with_reducible refine LeO.bind ?_ (fun _=>?_))
   | exact spec_l6Rd_pick.mono _ _ _ _
   | exact spec_l72Log.mono _ _ _
   | exact LeO.none _
   | refine LeO.ite ?_ ?_
   | refine LeO.bind ?_ (fun _=>?_)
theorem spec_l72Server.calls (k:Nat) (g:Nat) (s0_0:List Int) (s0_1:Int) (r1:List (S44)) (r2:Int) (r3:Bool) (r4:Int) (w0 w:World) (hI:IsS145 w0 w g s0_0 s0_1) (hB:Below w0.heap.size w0 w) (h:spec_l72Server.f k s0_0 s0_1=some (r1,r2,r3,r4)) :
  Calls Tryd.prog 73 #[.pointer (some ⟨g,0,none⟩)] w fun e w'=>∃ v0_:Value,e=.returned (.agg #[v0_,.int .i64 r2,.bool r3])∧Kd.R k44 44 w' w.heap.size (fun _=>True) v0_ r1∧IsS145 w0 w' g s0_0 r4∧Below w0.heap.size w0 w'∧KeepBut w w' g none:=by
 have hu25:=Tryd.underlying25
 have HI0:=a_ hI
 have HK:=a_ (KeepBut.refl w g none)
 have HL:=a_ hB.size
 clear hI
 have HW0:=a_ hB.size
 have HB:=a_ hB
 clear hB
 have H:((spec_l72Log.f k s0_0 s0_1).bind fun bt370=>((spec_l6Rd_pick.f k s0_0 bt370.2 8).bind fun bt374=>((spec_l6Rd_pick.f k s0_0 bt374.2 (wrap64 ((bt370.1.length:Int)+1))).bind fun bt377=>((spec_l6Rd_pick.f k s0_0 bt377.2 24).bind fun bt379=>(some (bt370.1,wrap64 (bt377.1+(wrap64 (Int.tdiv bt379.1 23))),decide (bt374.1 > 0),bt379.2))))))=some (r1,r2,r3,r4):=h
 clear h
 replace H:=bs_ H
 obtain ⟨⟨t370,t373⟩,A20,H⟩:=H
 replace H:((spec_l6Rd_pick.f k s0_0 t373 8).bind fun bt374=>((spec_l6Rd_pick.f k s0_0 bt374.2 (wrap64 ((t370.length:Int)+1))).bind fun bt377=>((spec_l6Rd_pick.f k s0_0 bt377.2 24).bind fun bt379=>(some (t370,wrap64 (bt377.1+(wrap64 (Int.tdiv bt379.1 23))),decide (bt374.1 > 0),bt379.2)))))=some (r1,r2,r3,r4):=H
 have A2:=a_ A20
 clear A20
 replace H:=bs_ H
 obtain ⟨⟨t374,t375⟩,A30,H⟩:=H
 replace H:((spec_l6Rd_pick.f k s0_0 t375 (wrap64 ((t370.length:Int)+1))).bind fun bt377=>((spec_l6Rd_pick.f k s0_0 bt377.2 24).bind fun bt379=>(some (t370,wrap64 (bt377.1+(wrap64 (Int.tdiv bt379.1 23))),decide (t374 > 0),bt379.2))))=some (r1,r2,r3,r4):=H
 have A3:=a_ A30
 clear A30
 replace H:=bs_ H
 obtain ⟨⟨t377,t378⟩,A40,H⟩:=H
 replace H:((spec_l6Rd_pick.f k s0_0 t378 24).bind fun bt379=>(some (t370,wrap64 (t377+(wrap64 (Int.tdiv bt379.1 23))),decide (t374 > 0),bt379.2)))=some (r1,r2,r3,r4):=H
 have A4:=a_ A40
 clear A40
 replace H:=bs_ H
 obtain ⟨⟨t379,t380⟩,A50,H⟩:=H
 replace H:(some (t370,wrap64 (t377+(wrap64 (Int.tdiv t379 23))),decide (t374 > 0),t380))=some (r1,r2,r3,r4):=H
 have A5:=a_ A50
 clear A50
 simp only [Option.some.injEq,Prod.mk.injEq] at H
 obtain ⟨rfl,rfl,rfl,rfl⟩:=H
 go_enter Tryd.func73,Tryd.ntmps73
 go_wp2_with (first|((with_reducible refine gD_ (N:=2) rfl ?_);refine box_event ?hg (N:=2) ?hd (cs:=#[.slice none 0 0,.int .i64 0,.bool false]) (t:=25) ?hr ?_;(case hd=>rfl);(case hg=>rfl);(case hr=>first|(go_simp;done)|(go_simp;rfl));intro gb369 hg w6 hbox hb;have n0_:=a_ (IsS145.below (by repeat (first|(with_reducible first|exact HI0.out|apply IsS145.alloc|apply IsS145.drewN|apply IsS145.drew|apply IsS145.set_1)|exact HI0.out)) hb);have n1_:=a_ (KeepBut.trans (by repeat (first|(with_reducible first|exact HK.out|apply KeepBut.set_|apply keep_drewN|apply keep_drew|apply keep_alloc)|exact HK.out)) (KeepBut.of_below hb g none) (.inl rfl));have n2_:=a_ (bS_ (by repeat (first|(with_reducible first|exact HB.out|apply wA_|apply pw_below_drewN|apply below_drew1|refine wS_ ?_ (IsS145.ge HI0.out))|exact HB.out)) hb);have n3_:=a_ (hbox);have n4_:=a_ ((by rw [hg];exact (keep_size (w:=w) (g:=g) (row:=none) (by repeat (first|(with_reducible first|exact HK.out|apply KeepBut.set_|apply keep_drewN|apply keep_drew|apply keep_alloc)|exact HK.out))):w.heap.size≤gb369));have n5_:=a_ ((Nat.le_trans HW0.out (by rw [hg];exact (keep_size (w:=w) (g:=g) (row:=none) (by repeat (first|(with_reducible first|exact HK.out|apply KeepBut.set_|apply keep_drewN|apply keep_drew|apply keep_alloc)|exact HK.out))):w.heap.size≤gb369):w0.heap.size≤gb369));have n6_:=a_ ((by rw [hg];exact Nat.ne_of_lt (IsS145.lt (show IsS145 w0 _ g s0_0 s0_1 from by repeat (first|(with_reducible first|exact HI0.out|apply IsS145.alloc|apply IsS145.drewN|apply IsS145.drew|apply IsS145.set_1)|exact HI0.out))):g≠gb369));have n7_:=a_ ((by rw [hg];exact Nat.ne_of_gt (IsS145.lt (show IsS145 w0 _ g s0_0 s0_1 from by repeat (first|(with_reducible first|exact HI0.out|apply IsS145.alloc|apply IsS145.drewN|apply IsS145.drew|apply IsS145.set_1)|exact HI0.out))):gb369≠g));clear HI0;clear HK;clear HB;have HI0:=n0_;have HK:=n1_;have HB:=n2_;have BK369:=n3_;have GW369:=n4_;have GE369:=n5_;have NB0_369:=n6_;have NB369_0:=n7_;clear n0_ n1_ n2_ n3_ n4_ n5_ n6_ n7_;clear hb hbox hg)|((with_reducible refine gC_ (f:=88) rfl ?_);refine goesL_ (some 5) rfl rfl Tryd.func88 (by kernel_rfl) rfl #[.pointer (some ⟨g,0,none⟩)] rfl (by (try simp only [List.map_toArray,List.map_cons,List.map_nil]);first|done|rfl|(simp only [List.length_drop,List.length_take];rfl)) ?_;(with_reducible refine (spec_l72Log.calls k g s0_0 s0_1 t370 t373 w0 _ ?side1 ?side2 A2.out).mono ?_);(case side1=>repeat (first|(with_reducible first|exact HI0.out|apply IsS145.alloc|apply IsS145.drewN|apply IsS145.drew|apply IsS145.set_1|refine IsS145.far ?_ NB0_369.out _)|exact HI0.out));(case side2=>repeat (first|(with_reducible first|exact HB.out|apply wA_|apply pw_below_drewN|apply below_drew1|refine wS_ ?_ (IsS145.ge HI0.out)|refine wS_ ?_ GE369.out)|exact HB.out));rintro e w7 ⟨v371,rfl,ho0,hi,hb,hk⟩;refine ⟨_,rfl,?_⟩;have n0_:=a_ (KeepBut.blk hk (g':=gb369) (o:=.cells #[.slice none 0 0,.int .i64 0,.bool false] 25 (0,0)) (by (with_reducible repeat (first|refine bN_ ?_ _|refine bD_ ?_|refine bA_ ?_ _));exact BK369.out) NB369_0.out (by simp));have n1_:=a_ (Kd.R_lower ho0 (keep_size (w:=w) (g:=g) (row:=none) (by repeat (first|(with_reducible first|exact HK.out|apply KeepBut.set_|apply keep_drewN|apply keep_drew|apply keep_alloc|refine keep_far ?_ GW369.out _)|exact HK.out))));have n2_:=a_ (KeepBut.trans (by repeat (first|(with_reducible first|exact HK.out|apply KeepBut.set_|apply keep_drewN|apply keep_drew|apply keep_alloc|refine keep_far ?_ GW369.out _)|exact HK.out)) hk (.inl rfl));have n3_:=a_ (hb);have n4_:=a_ (hi);clear BK369;clear HK;clear HB;clear HI0;have BK369:=n0_;have HO372:=n1_;have HK:=n2_;have HB:=n3_;have HI0:=n4_;clear n0_ n1_ n2_ n3_ n4_;(try clear hb);(try clear hb2);(try clear hk);(try clear hi);(try clear ho0))|((with_reducible refine gC_ (f:=74) rfl ?_);refine goesL_ (some 7) rfl rfl Tryd.func74 (by kernel_rfl) rfl #[.pointer (some ⟨g,0,none⟩),.int .i64 8] rfl (by (try simp only [List.map_toArray,List.map_cons,List.map_nil]);first|done|rfl|(simp only [List.length_drop,List.length_take];rfl)) ?_;(with_reducible refine (spec_l6Rd_pick.calls k g s0_0 t373 8 t374 t375 w0 _ ?side1 ?side2 A3.out).mono ?_);(case side1=>repeat (first|(with_reducible first|exact HI0.out|apply IsS145.alloc|apply IsS145.drewN|apply IsS145.drew|apply IsS145.set_1|refine IsS145.far ?_ NB0_369.out _)|exact HI0.out));(case side2=>repeat (first|(with_reducible first|exact HB.out|apply wA_|apply pw_below_drewN|apply below_drew1|refine wS_ ?_ (IsS145.ge HI0.out)|refine wS_ ?_ GE369.out)|exact HB.out));rintro e w8 ⟨rfl,hi,hb,hk⟩;refine ⟨_,rfl,?_⟩;have n0_:=a_ (KeepBut.blk hk (g':=gb369) (o:=.cells #[.slice none 0 0,.int .i64 0,.bool false] 25 (0,0)) (by (with_reducible repeat (first|refine bN_ ?_ _|refine bD_ ?_|refine bA_ ?_ _));exact BK369.out) NB369_0.out (by simp));have n1_:=a_ (Kd.R_mono (Kd.R_keep (IsS145.apart (show IsS145 w0 _ g s0_0 t373 from by repeat (first|(with_reducible first|exact HI0.out|apply IsS145.alloc|apply IsS145.drewN|apply IsS145.drew|apply IsS145.set_1|refine IsS145.far ?_ NB0_369.out _)|exact HI0.out)) (by (with_reducible repeat (first|apply Kd.R_alloc|apply Kd.R_drewN|apply Kd.R_drew));exact HO372.out) (by decide)) hk (fun _ h=>h.2)) (fun _ h=>h.1));have n2_:=a_ (KeepBut.trans (by repeat (first|(with_reducible first|exact HK.out|apply KeepBut.set_|apply keep_drewN|apply keep_drew|apply keep_alloc|refine keep_far ?_ GW369.out _)|exact HK.out)) hk (.inl rfl));have n3_:=a_ (hb);have n4_:=a_ (hi);clear BK369;clear HO372;clear HK;clear HB;clear HI0;have BK369:=n0_;have HO372:=n1_;have HK:=n2_;have HB:=n3_;have HI0:=n4_;clear n0_ n1_ n2_ n3_ n4_;(try clear hb);(try clear hb2);(try clear hk);(try clear hi);obtain ⟨Ao9,co9,eo9⟩:=Kd.R_slice HO372.out;subst eo9)|((with_reducible refine gD_ (N:=3) rfl ?_);refine box_event ?hg (N:=3) ?hd (cs:=#[.slice none 0 0,.int .i64 0,.bool false]) (t:=25) ?hr ?_;(case hd=>rfl);(case hg=>rfl);(case hr=>first|(go_simp;done)|(go_simp;rfl));intro gb376 hg w10 hbox hb;have n0_:=a_ (Kd.R_below (by (with_reducible repeat (first|apply Kd.R_alloc|apply Kd.R_drewN|apply Kd.R_drew));exact HO372.out) hb);have n1_:=a_ (IsS145.below (by repeat (first|(with_reducible first|exact HI0.out|apply IsS145.alloc|apply IsS145.drewN|apply IsS145.drew|apply IsS145.set_1|refine IsS145.far ?_ NB0_369.out _)|exact HI0.out)) hb);have n2_:=a_ (blk_below (g:=gb369) (o:=.cells #[.slice none 0 0,.int .i64 0,.bool false] 25 (0,0)) (by (with_reducible repeat (first|refine bN_ ?_ _|refine bD_ ?_|refine bA_ ?_ _));exact BK369.out) hb);have n3_:=a_ (KeepBut.trans (by repeat (first|(with_reducible first|exact HK.out|apply KeepBut.set_|apply keep_drewN|apply keep_drew|apply keep_alloc|refine keep_far ?_ GW369.out _)|exact HK.out)) (KeepBut.of_below hb g none) (.inl rfl));have n4_:=a_ (bS_ (by repeat (first|(with_reducible first|exact HB.out|apply wA_|apply pw_below_drewN|apply below_drew1|refine wS_ ?_ (IsS145.ge HI0.out)|refine wS_ ?_ GE369.out)|exact HB.out)) hb);have n5_:=a_ (hbox);have n6_:=a_ ((by rw [hg];exact (keep_size (w:=w) (g:=g) (row:=none) (by repeat (first|(with_reducible first|exact HK.out|apply KeepBut.set_|apply keep_drewN|apply keep_drew|apply keep_alloc|refine keep_far ?_ GW369.out _)|exact HK.out))):w.heap.size≤gb376));have n7_:=a_ ((Nat.le_trans HW0.out (by rw [hg];exact (keep_size (w:=w) (g:=g) (row:=none) (by repeat (first|(with_reducible first|exact HK.out|apply KeepBut.set_|apply keep_drewN|apply keep_drew|apply keep_alloc|refine keep_far ?_ GW369.out _)|exact HK.out))):w.heap.size≤gb376):w0.heap.size≤gb376));have n8_:=a_ ((by rw [hg];exact Nat.ne_of_lt (blk_lt (g:=gb369) (o:=.cells #[.slice none 0 0,.int .i64 0,.bool false] 25 (0,0)) (by (with_reducible repeat (first|refine bN_ ?_ _|refine bD_ ?_|refine bA_ ?_ _));exact BK369.out)):gb369≠gb376));have n9_:=a_ ((by rw [hg];exact Nat.ne_of_gt (blk_lt (g:=gb369) (o:=.cells #[.slice none 0 0,.int .i64 0,.bool false] 25 (0,0)) (by (with_reducible repeat (first|refine bN_ ?_ _|refine bD_ ?_|refine bA_ ?_ _));exact BK369.out)):gb376≠gb369));have n10_:=a_ ((by rw [hg];exact Nat.ne_of_lt (IsS145.lt (show IsS145 w0 _ g s0_0 t375 from by repeat (first|(with_reducible first|exact HI0.out|apply IsS145.alloc|apply IsS145.drewN|apply IsS145.drew|apply IsS145.set_1|refine IsS145.far ?_ NB0_369.out _)|exact HI0.out))):g≠gb376));have n11_:=a_ ((by rw [hg];exact Nat.ne_of_gt (IsS145.lt (show IsS145 w0 _ g s0_0 t375 from by repeat (first|(with_reducible first|exact HI0.out|apply IsS145.alloc|apply IsS145.drewN|apply IsS145.drew|apply IsS145.set_1|refine IsS145.far ?_ NB0_369.out _)|exact HI0.out))):gb376≠g));clear HO372;clear HI0;clear BK369;clear HK;clear HB;have HO372:=n0_;have HI0:=n1_;have BK369:=n2_;have HK:=n3_;have HB:=n4_;have BK376:=n5_;have GW376:=n6_;have GE376:=n7_;have NB369_376:=n8_;have NB376_369:=n9_;have NB0_376:=n10_;have NB376_0:=n11_;clear n0_ n1_ n2_ n3_ n4_ n5_ n6_ n7_ n8_ n9_ n10_ n11_;clear hb hbox hg;have hnb11:=NB376_369.out;have hnc11:=NB369_376.out;have hnb12:=NB376_0.out;have hnc12:=NB0_376.out;have Z13_0:w10.cell? ⟨gb376,0,none⟩=some (.slice none 0 0):=(bC_ BK376.out 0).trans rfl;have Z13_1:w10.cell? ⟨gb376,1,none⟩=some (.int .i64 0):=(bC_ BK376.out 1).trans rfl;have Z13_2:w10.cell? ⟨gb376,2,none⟩=some (.bool false):=(bC_ BK376.out 2).trans rfl;have Y13_0:=bF_ BK376.out 0;have Y13_1:=bF_ BK376.out 1;have Y13_2:=bF_ BK376.out 2)|((with_reducible refine gC_ (f:=74) rfl ?_);refine goesL_ (some 15) rfl rfl Tryd.func74 (by kernel_rfl) rfl #[.pointer (some ⟨g,0,none⟩),.int .i64 (wrap64 ((t370.length:Int)+1))] rfl (by (try simp only [List.map_toArray,List.map_cons,List.map_nil]);first|done|rfl|(simp only [List.length_drop,List.length_take];rfl)) ?_;(with_reducible refine (spec_l6Rd_pick.calls k g s0_0 t375 (wrap64 ((t370.length:Int)+1)) t377 t378 w0 _ ?side1 ?side2 A4.out).mono ?_);(case side1=>repeat (first|(with_reducible first|exact HI0.out|apply IsS145.alloc|apply IsS145.drewN|apply IsS145.drew|apply IsS145.set_1|refine IsS145.far ?_ NB0_369.out _|refine IsS145.far ?_ NB0_376.out _)|exact HI0.out));(case side2=>repeat (first|(with_reducible first|exact HB.out|apply wA_|apply pw_below_drewN|apply below_drew1|refine wS_ ?_ (IsS145.ge HI0.out)|refine wS_ ?_ GE369.out|refine wS_ ?_ GE376.out)|exact HB.out));rintro e w14 ⟨rfl,hi,hb,hk⟩;refine ⟨_,rfl,?_⟩;have n0_:=a_ (KeepBut.blk hk (g':=gb369) (o:=.cells #[.slice none 0 0,.int .i64 0,.bool false] 25 (0,0)) (by (with_reducible repeat (first|refine bN_ ?_ _|refine bD_ ?_|refine bA_ ?_ _));refine blk_far ?_ NB369_376.out _;(with_reducible repeat (first|refine bN_ ?_ _|refine bD_ ?_|refine bA_ ?_ _));refine blk_far ?_ NB369_376.out _;(with_reducible repeat (first|refine bN_ ?_ _|refine bD_ ?_|refine bA_ ?_ _));refine blk_far ?_ NB369_376.out _;(with_reducible repeat (first|refine bN_ ?_ _|refine bD_ ?_|refine bA_ ?_ _));exact BK369.out) NB369_0.out (by simp));have n1_:=a_ (Kd.R_mono (Kd.R_keep (IsS145.apart (show IsS145 w0 _ g s0_0 t375 from by repeat (first|(with_reducible first|exact HI0.out|apply IsS145.alloc|apply IsS145.drewN|apply IsS145.drew|apply IsS145.set_1|refine IsS145.far ?_ NB0_369.out _|refine IsS145.far ?_ NB0_376.out _)|exact HI0.out)) (by (with_reducible repeat (first|apply Kd.R_alloc|apply Kd.R_drewN|apply Kd.R_drew));exact (Kd.R_mono (Kd.R_far (p:=⟨gb376,2,none⟩) (Kd.R_far (p:=⟨gb376,1,none⟩) (Kd.R_far (p:=⟨gb376,0,none⟩) (Kd.R_types HO372.out BK376.out (by decide)) (fun _ hk=>hk.2) (.slice Ao9 t370.length co9)) (fun _ hk=>hk.2) (.int .i64 0)) (fun _ hk=>hk.2) (.bool (decide (t374 > 0)))) (fun _ h_=>h_.1))) (by decide)) hk (fun _ h=>h.2)) (fun _ h=>h.1));have n2_:=a_ (KeepBut.blk hk (g':=gb376) (o:=.cells #[.slice Ao9 t370.length co9,.int .i64 0,.bool (decide (t374 > 0))] 25 (0,0)) (by (with_reducible repeat (first|refine bN_ ?_ _|refine bD_ ?_|refine bA_ ?_ _));refine blk_put (cs:=#[.slice Ao9 t370.length co9,.int .i64 0,.bool false]) ?_ 2 _ rfl;(with_reducible repeat (first|refine bN_ ?_ _|refine bD_ ?_|refine bA_ ?_ _));refine blk_put (cs:=#[.slice Ao9 t370.length co9,.int .i64 0,.bool false]) ?_ 1 _ rfl;(with_reducible repeat (first|refine bN_ ?_ _|refine bD_ ?_|refine bA_ ?_ _));refine blk_put (cs:=#[.slice none 0 0,.int .i64 0,.bool false]) ?_ 0 _ rfl;(with_reducible repeat (first|refine bN_ ?_ _|refine bD_ ?_|refine bA_ ?_ _));exact BK376.out) NB376_0.out (by simp));have n3_:=a_ (KeepBut.trans (by repeat (first|(with_reducible first|exact HK.out|apply KeepBut.set_|apply keep_drewN|apply keep_drew|apply keep_alloc|refine keep_far ?_ GW369.out _|refine keep_far ?_ GW376.out _)|exact HK.out)) hk (.inl rfl));have n4_:=a_ (hb);have n5_:=a_ (hi);clear BK369;clear HO372;clear BK376;clear HK;clear HB;clear HI0;have BK369:=n0_;have HO372:=n1_;have BK376:=n2_;have HK:=n3_;have HB:=n4_;have HI0:=n5_;clear n0_ n1_ n2_ n3_ n4_ n5_;(try clear hb);(try clear hb2);(try clear hk);(try clear hi))|((with_reducible refine gC_ (f:=74) rfl ?_);refine goesL_ (some 17) rfl rfl Tryd.func74 (by kernel_rfl) rfl #[.pointer (some ⟨g,0,none⟩),.int .i64 24] rfl (by (try simp only [List.map_toArray,List.map_cons,List.map_nil]);first|done|rfl|(simp only [List.length_drop,List.length_take];rfl)) ?_;(with_reducible refine (spec_l6Rd_pick.calls k g s0_0 t378 24 t379 t380 w0 _ ?side1 ?side2 A5.out).mono ?_);(case side1=>repeat (first|(with_reducible first|exact HI0.out|apply IsS145.alloc|apply IsS145.drewN|apply IsS145.drew|apply IsS145.set_1|refine IsS145.far ?_ NB0_369.out _|refine IsS145.far ?_ NB0_376.out _)|exact HI0.out));(case side2=>repeat (first|(with_reducible first|exact HB.out|apply wA_|apply pw_below_drewN|apply below_drew1|refine wS_ ?_ (IsS145.ge HI0.out)|refine wS_ ?_ GE369.out|refine wS_ ?_ GE376.out)|exact HB.out));rintro e w15 ⟨rfl,hi,hb,hk⟩;refine ⟨_,rfl,?_⟩;have n0_:=a_ (KeepBut.blk hk (g':=gb369) (o:=.cells #[.slice none 0 0,.int .i64 0,.bool false] 25 (0,0)) (by (with_reducible repeat (first|refine bN_ ?_ _|refine bD_ ?_|refine bA_ ?_ _));exact BK369.out) NB369_0.out (by simp));have n1_:=a_ (Kd.R_mono (Kd.R_keep (IsS145.apart (show IsS145 w0 _ g s0_0 t378 from by repeat (first|(with_reducible first|exact HI0.out|apply IsS145.alloc|apply IsS145.drewN|apply IsS145.drew|apply IsS145.set_1|refine IsS145.far ?_ NB0_369.out _|refine IsS145.far ?_ NB0_376.out _)|exact HI0.out)) (by (with_reducible repeat (first|apply Kd.R_alloc|apply Kd.R_drewN|apply Kd.R_drew));exact HO372.out) (by decide)) hk (fun _ h=>h.2)) (fun _ h=>h.1));have n2_:=a_ (KeepBut.blk hk (g':=gb376) (o:=.cells #[.slice Ao9 t370.length co9,.int .i64 0,.bool (decide (t374 > 0))] 25 (0,0)) (by (with_reducible repeat (first|refine bN_ ?_ _|refine bD_ ?_|refine bA_ ?_ _));exact BK376.out) NB376_0.out (by simp));have n3_:=a_ (KeepBut.trans (by repeat (first|(with_reducible first|exact HK.out|apply KeepBut.set_|apply keep_drewN|apply keep_drew|apply keep_alloc|refine keep_far ?_ GW369.out _|refine keep_far ?_ GW376.out _)|exact HK.out)) hk (.inl rfl));have n4_:=a_ (hb);have n5_:=a_ (hi);clear BK369;clear HO372;clear BK376;clear HK;clear HB;clear HI0;have BK369:=n0_;have HO372:=n1_;have BK376:=n2_;have HK:=n3_;have HB:=n4_;have HI0:=n5_;clear n0_ n1_ n2_ n3_ n4_ n5_;(try clear hb);(try clear hb2);(try clear hk);(try clear hi);have Z16_0:w15.cell? ⟨gb376,0,none⟩=some (.slice Ao9 t370.length co9):=(bC_ BK376.out 0).trans rfl;have Z16_1:w15.cell? ⟨gb376,1,none⟩=some (.int .i64 0):=(bC_ BK376.out 1).trans rfl;have Z16_2:w15.cell? ⟨gb376,2,none⟩=some (.bool (decide (t374 > 0))):=(bC_ BK376.out 2).trans rfl;have Y16_0:=bF_ BK376.out 0;have Y16_1:=bF_ BK376.out 1;have Y16_2:=bF_ BK376.out 2;have hnb17:=NB369_0.out;have hnc17:=NB0_369.out;have Z18_0:w15.cell? ⟨gb369,0,none⟩=some (.slice none 0 0):=(bC_ BK369.out 0).trans rfl;have Z18_1:w15.cell? ⟨gb369,1,none⟩=some (.int .i64 0):=(bC_ BK369.out 1).trans rfl;have Z18_2:w15.cell? ⟨gb369,2,none⟩=some (.bool false):=(bC_ BK369.out 2).trans rfl;have Y18_0:=bF_ BK369.out 0;have Y18_1:=bF_ BK369.out 1;have Y18_2:=bF_ BK369.out 2))
 refine bodyPost_ret (results_cell_row rfl _ _ gb369 25 #[.slice Ao9 t370.length co9,.int .i64 (wrap64 (t377+(wrap64 (Int.tdiv t379 23)))),.bool (decide (t374 > 0))] (0,0) _ rfl (by (with_reducible repeat (first|refine bN_ ?_ _|refine bD_ ?_|refine bA_ ?_ _));refine blk_put (cs:=#[.slice Ao9 t370.length co9,.int .i64 (wrap64 (t377+(wrap64 (Int.tdiv t379 23)))),.bool false]) ?_ 2 _ rfl;(with_reducible repeat (first|refine bN_ ?_ _|refine bD_ ?_|refine bA_ ?_ _));refine blk_put (cs:=#[.slice Ao9 t370.length co9,.int .i64 0,.bool false]) ?_ 1 _ rfl;(with_reducible repeat (first|refine bN_ ?_ _|refine bD_ ?_|refine bA_ ?_ _));refine blk_put (cs:=#[.slice none 0 0,.int .i64 0,.bool false]) ?_ 0 _ rfl;(with_reducible repeat (first|refine bN_ ?_ _|refine bD_ ?_|refine bA_ ?_ _));refine blk_far ?_ NB369_376.out _;(with_reducible repeat (first|refine bN_ ?_ _|refine bD_ ?_|refine bA_ ?_ _));exact BK369.out) Tryd.underlying25 rfl (by kernel_rfl)) rfl ?_
 exact ⟨_,by first|rfl|(simp [errW_none,errW_some] <;> rfl)|(simp [*,errW_none,errW_some] <;> rfl),by (with_reducible repeat (first|apply Kd.R_alloc|apply Kd.R_drewN|apply Kd.R_drew));exact Kd.R_mono (Kd.R_far (p:=⟨gb369,2,none⟩) (Kd.R_far (p:=⟨gb369,1,none⟩) (Kd.R_far (p:=⟨gb369,0,none⟩) (Kd.R_far (p:=⟨gb376,1,none⟩) (Kd.R_types (Kd.R_types HO372.out BK376.out (by decide)) BK369.out (by decide)) (fun _ hk=>hk.1.2) (.int .i64 (wrap64 (t377+(wrap64 (Int.tdiv t379 23)))))) (fun _ hk=>hk.2) (.slice Ao9 t370.length co9)) (fun _ hk=>hk.2) (.int .i64 (wrap64 (t377+(wrap64 (Int.tdiv t379 23)))))) (fun _ hk=>hk.2) (.bool (decide (t374 > 0)))) (fun _ hk=>trivial),by repeat (first|(with_reducible first|exact HI0.out|apply IsS145.alloc|apply IsS145.drewN|apply IsS145.drew|apply IsS145.set_1|refine IsS145.far ?_ NB0_369.out _|refine IsS145.far ?_ NB0_376.out _)|exact HI0.out),by repeat (first|(with_reducible first|exact HB.out|apply wA_|apply pw_below_drewN|apply below_drew1|refine wS_ ?_ (IsS145.ge HI0.out)|refine wS_ ?_ GE369.out|refine wS_ ?_ GE376.out)|exact HB.out),by repeat (first|(with_reducible first|exact HK.out|apply KeepBut.set_|apply keep_drewN|apply keep_drew|apply keep_alloc|refine keep_far ?_ GW369.out _|refine keep_far ?_ GW376.out _)|exact HK.out)⟩

def spec_DrawServerOk.f (k:Nat) (l0:List Int):Option ((List (S44))×Int×Bool):=(spec_l6Open.f l0).bind fun bt382=>((spec_l72Server.f k bt382.1 bt382.2).bind fun bt385=>((spec_l6Rd_pick.f k bt382.1 bt385.2.2.2 5).bind fun bt392=>(if bt392.1=0 then ((spec_l6Rd_pick.f k bt382.1 bt392.2 12).bind fun bt394=>(some (bt385.1,wrap64 (bt394.1 - 1),bt385.2.2.1))) else (some (bt385.1,bt385.2.1,bt385.2.2.1)))))
theorem spec_DrawServerOk.mono:∀ a0 k,LeO (spec_DrawServerOk.f k a0) (spec_DrawServerOk.f (k+1) a0):=by
 intro a0 k
 unfold spec_DrawServerOk.f
 repeat' first
   | (with_reducible exact spec_l6Rd_pick.mono _ _ _ _)
   | (with_reducible exact spec_l72Server.mono _ _ _)
   | (with_reducible exact LeO.refl _)
   | (with_reducible exact LeO.none _)
   | (with_reducible refine LeO.ite ?_ ?_)
   | (with_reducible refine LeO.bind ?_ (fun _=>?_))
   | exact spec_l6Rd_pick.mono _ _ _ _
   | exact spec_l72Server.mono _ _ _
   | exact LeO.none _
   | refine LeO.ite ?_ ?_
   | refine LeO.bind ?_ (fun _=>?_)
theorem spec_DrawServerOk.calls (k:Nat) (A0:Option Addr) (c0:Nat) (l0:List Int) (r1:List (S44)) (r2:Int) (r3:Bool) (w:World) (hr0:Kd.C (Kd.int .u8) w A0 l0.length l0) (hc0:l0.length≤c0) (h:spec_DrawServerOk.f k l0=some (r1,r2,r3)) :
  Calls Tryd.prog 15 #[.slice A0 l0.length c0] w fun e w'=>∃ v0_:Value,e=.returned (.agg #[v0_,.int .i64 r2,.bool r3])∧Kd.R k44 44 w' w.heap.size (fun _=>True) v0_ r1∧Below w.heap.size w w':=by
 have hu25:=Tryd.underlying25
 have HR0:=a_ hr0
 have HC0:=a_ hc0
 clear hr0 hc0
 have HB:=a_ (Below.refl w.heap.size w)
 have H:((spec_l6Open.f l0).bind fun bt382=>((spec_l72Server.f k bt382.1 bt382.2).bind fun bt385=>((spec_l6Rd_pick.f k bt382.1 bt385.2.2.2 5).bind fun bt392=>(if bt392.1=0 then ((spec_l6Rd_pick.f k bt382.1 bt392.2 12).bind fun bt394=>(some (bt385.1,wrap64 (bt394.1 - 1),bt385.2.2.1))) else (some (bt385.1,bt385.2.1,bt385.2.2.1))))))=some (r1,r2,r3):=h
 clear h
 replace H:=bs_ H
 obtain ⟨⟨t382,t383⟩,A20,H⟩:=H
 replace H:((spec_l72Server.f k t382 t383).bind fun bt385=>((spec_l6Rd_pick.f k t382 bt385.2.2.2 5).bind fun bt392=>(if bt392.1=0 then ((spec_l6Rd_pick.f k t382 bt392.2 12).bind fun bt394=>(some (bt385.1,wrap64 (bt394.1 - 1),bt385.2.2.1))) else (some (bt385.1,bt385.2.1,bt385.2.2.1)))))=some (r1,r2,r3):=H
 have A2:=a_ A20
 clear A20
 replace H:=bs_ H
 obtain ⟨⟨t385,t388,t389,t390⟩,A30,H⟩:=H
 replace H:((spec_l6Rd_pick.f k t382 t390 5).bind fun bt392=>(if bt392.1=0 then ((spec_l6Rd_pick.f k t382 bt392.2 12).bind fun bt394=>(some (t385,wrap64 (bt394.1 - 1),t389))) else (some (t385,t388,t389))))=some (r1,r2,r3):=H
 have A3:=a_ A30
 clear A30
 replace H:=bs_ H
 obtain ⟨⟨t392,t393⟩,A40,H⟩:=H
 replace H:(if t392=0 then ((spec_l6Rd_pick.f k t382 t393 12).bind fun bt394=>(some (t385,wrap64 (bt394.1 - 1),t389))) else (some (t385,t388,t389)))=some (r1,r2,r3):=H
 have A4:=a_ A40
 clear A40
 by_cases c5:t392=0
 ·rw [if_pos c5] at H
  have c5b0:(t392==0)=true:=beq_iff_eq.mpr c5
  have c5b1:(t392 != 0)=false:=be_ c5
  clear c5
  replace H:=bs_ H
  obtain ⟨⟨t394,t395⟩,A60,H⟩:=H
  replace H:(some (t385,wrap64 (t394 - 1),t389))=some (r1,r2,r3):=H
  have A6:=a_ A60
  clear A60
  simp only [Option.some.injEq,Prod.mk.injEq] at H
  obtain ⟨rfl,rfl,rfl⟩:=H
  go_enter Tryd.func15,Tryd.ntmps15
  go_wp2_with (first|((with_reducible refine gD_ (N:=2) rfl ?_);refine box_event ?hg (N:=2) ?hd (cs:=#[.slice none 0 0,.int .i64 0,.bool false]) (t:=25) ?hr ?_;(case hd=>rfl);(case hg=>rfl);(case hr=>first|(go_simp;done)|(go_simp;rfl));intro gb381 hg w7 hbox hb;have n0_:=a_ (bS_ (by repeat (first|(with_reducible first|exact HB.out|apply wA_|apply pw_below_drewN|apply below_drew1)|exact HB.out)) hb);have n1_:=a_ (hbox);have n2_:=a_ ((by rw [hg];exact (below_size (by repeat (first|(with_reducible first|exact HB.out|apply wA_|apply pw_below_drewN|apply below_drew1)|exact HB.out))):w.heap.size≤gb381));have n3_:=a_ ((by rw [hg];exact (below_size (by repeat (first|(with_reducible first|exact HB.out|apply wA_|apply pw_below_drewN|apply below_drew1)|exact HB.out))):w.heap.size≤gb381));clear HB;have HB:=n0_;have BK381:=n1_;have GW381:=n2_;have GE381:=n3_;clear n0_ n1_ n2_ n3_;clear hb hbox hg)|((with_reducible refine gC_ (f:=72) rfl ?_);refine goesL_ (some 6) rfl rfl Tryd.func72 (by kernel_rfl) rfl #[.slice A0 l0.length c0] rfl (by (try simp only [List.map_toArray,List.map_cons,List.map_nil]);first|done|rfl|(simp only [List.length_drop,List.length_take];rfl)) ?_;(with_reducible refine (spec_l6Open.calls _ _ l0 t382 t383 w _ ?side1 ?side2 ?side3 A2.out).mono ?_);(case side1=>repeat (first|(with_reducible first|exact HB.out|apply wA_|apply pw_below_drewN|apply below_drew1|refine wS_ ?_ GE381.out)|exact HB.out));(case side2=>exact HR0.out);(case side3=>exact HC0.out);rintro e w8 ⟨g384,rfl,hi,hb,hb2⟩;refine ⟨_,rfl,?_⟩;have n0_:=a_ (blk_below (g:=gb381) (o:=.cells #[.slice none 0 0,.int .i64 0,.bool false] 25 (0,0)) (by (with_reducible repeat (first|refine bN_ ?_ _|refine bD_ ?_|refine bA_ ?_ _));exact BK381.out) hb2);have n1_:=a_ (hb);have n2_:=a_ (hi);have n3_:=a_ (IsS145.ne_blk hi (blk_below (g:=gb381) (o:=.cells #[.slice none 0 0,.int .i64 0,.bool false] 25 (0,0)) (by (with_reducible repeat (first|refine bN_ ?_ _|refine bD_ ?_|refine bA_ ?_ _));exact BK381.out) hb2) (by decide));have n4_:=a_ (Ne.symm (IsS145.ne_blk hi (blk_below (g:=gb381) (o:=.cells #[.slice none 0 0,.int .i64 0,.bool false] 25 (0,0)) (by (with_reducible repeat (first|refine bN_ ?_ _|refine bD_ ?_|refine bA_ ?_ _));exact BK381.out) hb2) (by decide)));clear BK381;clear HB;have BK381:=n0_;have HB:=n1_;have HI384:=n2_;have NB384_381:=n3_;have NB381_384:=n4_;clear n0_ n1_ n2_ n3_ n4_;(try clear hb);(try clear hb2);(try clear hk);(try clear hi))|((with_reducible refine gC_ (f:=73) rfl ?_);refine goesL_ (some 8) rfl rfl Tryd.func73 (by kernel_rfl) rfl #[.pointer (some ⟨g384,0,none⟩)] rfl (by (try simp only [List.map_toArray,List.map_cons,List.map_nil]);first|done|rfl|(simp only [List.length_drop,List.length_take];rfl)) ?_;(with_reducible refine (spec_l72Server.calls k g384 t382 t383 t385 t388 t389 t390 w _ ?side1 ?side2 A3.out).mono ?_);(case side1=>repeat (first|(with_reducible first|exact HI384.out|apply IsS145.alloc|apply IsS145.drewN|apply IsS145.drew|apply IsS145.set_1|refine IsS145.far ?_ NB384_381.out _)|exact HI384.out));(case side2=>repeat (first|(with_reducible first|exact HB.out|apply wA_|apply pw_below_drewN|apply below_drew1|refine wS_ ?_ (IsS145.ge HI384.out)|refine wS_ ?_ GE381.out)|exact HB.out));rintro e w9 ⟨v386,rfl,ho0,hi,hb,hk⟩;refine ⟨_,rfl,?_⟩;have n0_:=a_ (KeepBut.blk hk (g':=gb381) (o:=.cells #[.slice none 0 0,.int .i64 0,.bool false] 25 (0,0)) (by (with_reducible repeat (first|refine bN_ ?_ _|refine bD_ ?_|refine bA_ ?_ _));exact BK381.out) NB381_384.out (by simp));have n1_:=a_ (Kd.R_lower ho0 (below_size (by repeat (first|(with_reducible first|exact HB.out|apply wA_|apply pw_below_drewN|apply below_drew1|refine wS_ ?_ (IsS145.ge HI384.out)|refine wS_ ?_ GE381.out)|exact HB.out))));have n2_:=a_ (hb);have n3_:=a_ (hi);clear BK381;clear HB;clear HI384;have BK381:=n0_;have HO387:=n1_;have HB:=n2_;have HI384:=n3_;clear n0_ n1_ n2_ n3_;(try clear hb);(try clear hb2);(try clear hk);(try clear hi);(try clear ho0))|((with_reducible refine gD_ (N:=4) rfl ?_);refine box_event ?hg (N:=4) ?hd (cs:=#[.slice none 0 0,.int .i64 0,.bool false]) (t:=25) ?hr ?_;(case hd=>rfl);(case hg=>rfl);(case hr=>first|(go_simp;done)|(go_simp;rfl));intro gb391 hg w10 hbox hb;have n0_:=a_ (Kd.R_below (by (with_reducible repeat (first|apply Kd.R_alloc|apply Kd.R_drewN|apply Kd.R_drew));exact HO387.out) hb);have n1_:=a_ (blk_below (g:=gb381) (o:=.cells #[.slice none 0 0,.int .i64 0,.bool false] 25 (0,0)) (by (with_reducible repeat (first|refine bN_ ?_ _|refine bD_ ?_|refine bA_ ?_ _));exact BK381.out) hb);have n2_:=a_ (IsS145.below (by repeat (first|(with_reducible first|exact HI384.out|apply IsS145.alloc|apply IsS145.drewN|apply IsS145.drew|apply IsS145.set_1|refine IsS145.far ?_ NB384_381.out _)|exact HI384.out)) hb);have n3_:=a_ (bS_ (by repeat (first|(with_reducible first|exact HB.out|apply wA_|apply pw_below_drewN|apply below_drew1|refine wS_ ?_ (IsS145.ge HI384.out)|refine wS_ ?_ GE381.out)|exact HB.out)) hb);have n4_:=a_ (hbox);have n5_:=a_ ((by rw [hg];exact (below_size (by repeat (first|(with_reducible first|exact HB.out|apply wA_|apply pw_below_drewN|apply below_drew1|refine wS_ ?_ (IsS145.ge HI384.out)|refine wS_ ?_ GE381.out)|exact HB.out))):w.heap.size≤gb391));have n6_:=a_ ((by rw [hg];exact (below_size (by repeat (first|(with_reducible first|exact HB.out|apply wA_|apply pw_below_drewN|apply below_drew1|refine wS_ ?_ (IsS145.ge HI384.out)|refine wS_ ?_ GE381.out)|exact HB.out))):w.heap.size≤gb391));have n7_:=a_ ((by rw [hg];exact Nat.ne_of_lt (blk_lt (g:=gb381) (o:=.cells #[.slice none 0 0,.int .i64 0,.bool false] 25 (0,0)) (by (with_reducible repeat (first|refine bN_ ?_ _|refine bD_ ?_|refine bA_ ?_ _));exact BK381.out)):gb381≠gb391));have n8_:=a_ ((by rw [hg];exact Nat.ne_of_gt (blk_lt (g:=gb381) (o:=.cells #[.slice none 0 0,.int .i64 0,.bool false] 25 (0,0)) (by (with_reducible repeat (first|refine bN_ ?_ _|refine bD_ ?_|refine bA_ ?_ _));exact BK381.out)):gb391≠gb381));have n9_:=a_ ((by rw [hg];exact Nat.ne_of_lt (IsS145.lt (show IsS145 w _ g384 t382 t390 from by repeat (first|(with_reducible first|exact HI384.out|apply IsS145.alloc|apply IsS145.drewN|apply IsS145.drew|apply IsS145.set_1|refine IsS145.far ?_ NB384_381.out _)|exact HI384.out))):g384≠gb391));have n10_:=a_ ((by rw [hg];exact Nat.ne_of_gt (IsS145.lt (show IsS145 w _ g384 t382 t390 from by repeat (first|(with_reducible first|exact HI384.out|apply IsS145.alloc|apply IsS145.drewN|apply IsS145.drew|apply IsS145.set_1|refine IsS145.far ?_ NB384_381.out _)|exact HI384.out))):gb391≠g384));clear HO387;clear BK381;clear HI384;clear HB;have HO387:=n0_;have BK381:=n1_;have HI384:=n2_;have HB:=n3_;have BK391:=n4_;have GW391:=n5_;have GE391:=n6_;have NB381_391:=n7_;have NB391_381:=n8_;have NB384_391:=n9_;have NB391_384:=n10_;clear n0_ n1_ n2_ n3_ n4_ n5_ n6_ n7_ n8_ n9_ n10_;clear hb hbox hg;obtain ⟨Ao11,co11,eo11⟩:=Kd.R_slice HO387.out;subst eo11;have hnb12:=NB391_381.out;have hnc12:=NB381_391.out;have hnb13:=NB391_384.out;have hnc13:=NB384_391.out;have Z14_0:w10.cell? ⟨gb391,0,none⟩=some (.slice none 0 0):=(bC_ BK391.out 0).trans rfl;have Z14_1:w10.cell? ⟨gb391,1,none⟩=some (.int .i64 0):=(bC_ BK391.out 1).trans rfl;have Z14_2:w10.cell? ⟨gb391,2,none⟩=some (.bool false):=(bC_ BK391.out 2).trans rfl;have Y14_0:=bF_ BK391.out 0;have Y14_1:=bF_ BK391.out 1;have Y14_2:=bF_ BK391.out 2)|((with_reducible refine gC_ (f:=74) rfl ?_);refine goesL_ (some 10) rfl rfl Tryd.func74 (by kernel_rfl) rfl #[.pointer (some ⟨g384,0,none⟩),.int .i64 5] rfl (by (try simp only [List.map_toArray,List.map_cons,List.map_nil]);first|done|rfl|(simp only [List.length_drop,List.length_take];rfl)) ?_;(with_reducible refine (spec_l6Rd_pick.calls k g384 t382 t390 5 t392 t393 w _ ?side1 ?side2 A4.out).mono ?_);(case side1=>repeat (first|(with_reducible first|exact HI384.out|apply IsS145.alloc|apply IsS145.drewN|apply IsS145.drew|apply IsS145.set_1|refine IsS145.far ?_ NB384_381.out _|refine IsS145.far ?_ NB384_391.out _)|exact HI384.out));(case side2=>repeat (first|(with_reducible first|exact HB.out|apply wA_|apply pw_below_drewN|apply below_drew1|refine wS_ ?_ (IsS145.ge HI384.out)|refine wS_ ?_ GE381.out|refine wS_ ?_ GE391.out)|exact HB.out));rintro e w15 ⟨rfl,hi,hb,hk⟩;refine ⟨_,rfl,?_⟩;have n0_:=a_ (KeepBut.blk hk (g':=gb381) (o:=.cells #[.slice none 0 0,.int .i64 0,.bool false] 25 (0,0)) (by (with_reducible repeat (first|refine bN_ ?_ _|refine bD_ ?_|refine bA_ ?_ _));refine blk_far ?_ NB381_391.out _;(with_reducible repeat (first|refine bN_ ?_ _|refine bD_ ?_|refine bA_ ?_ _));refine blk_far ?_ NB381_391.out _;(with_reducible repeat (first|refine bN_ ?_ _|refine bD_ ?_|refine bA_ ?_ _));refine blk_far ?_ NB381_391.out _;(with_reducible repeat (first|refine bN_ ?_ _|refine bD_ ?_|refine bA_ ?_ _));exact BK381.out) NB381_384.out (by simp));have n1_:=a_ (Kd.R_mono (Kd.R_keep (IsS145.apart (show IsS145 w _ g384 t382 t390 from by repeat (first|(with_reducible first|exact HI384.out|apply IsS145.alloc|apply IsS145.drewN|apply IsS145.drew|apply IsS145.set_1|refine IsS145.far ?_ NB384_381.out _|refine IsS145.far ?_ NB384_391.out _)|exact HI384.out)) (by (with_reducible repeat (first|apply Kd.R_alloc|apply Kd.R_drewN|apply Kd.R_drew));exact (Kd.R_mono (Kd.R_far (p:=⟨gb391,2,none⟩) (Kd.R_far (p:=⟨gb391,1,none⟩) (Kd.R_far (p:=⟨gb391,0,none⟩) (Kd.R_types HO387.out BK391.out (by decide)) (fun _ hk=>hk.2) (.slice Ao11 t385.length co11)) (fun _ hk=>hk.2) (.int .i64 t388)) (fun _ hk=>hk.2) (.bool t389)) (fun _ h_=>h_.1))) (by decide)) hk (fun _ h=>h.2)) (fun _ h=>h.1));have n2_:=a_ (KeepBut.blk hk (g':=gb391) (o:=.cells #[.slice Ao11 t385.length co11,.int .i64 t388,.bool t389] 25 (0,0)) (by (with_reducible repeat (first|refine bN_ ?_ _|refine bD_ ?_|refine bA_ ?_ _));refine blk_put (cs:=#[.slice Ao11 t385.length co11,.int .i64 t388,.bool false]) ?_ 2 _ rfl;(with_reducible repeat (first|refine bN_ ?_ _|refine bD_ ?_|refine bA_ ?_ _));refine blk_put (cs:=#[.slice Ao11 t385.length co11,.int .i64 0,.bool false]) ?_ 1 _ rfl;(with_reducible repeat (first|refine bN_ ?_ _|refine bD_ ?_|refine bA_ ?_ _));refine blk_put (cs:=#[.slice none 0 0,.int .i64 0,.bool false]) ?_ 0 _ rfl;(with_reducible repeat (first|refine bN_ ?_ _|refine bD_ ?_|refine bA_ ?_ _));exact BK391.out) NB391_384.out (by simp));have n3_:=a_ (hb);have n4_:=a_ (hi);clear BK381;clear HO387;clear BK391;clear HB;clear HI384;have BK381:=n0_;have HO387:=n1_;have BK391:=n2_;have HB:=n3_;have HI384:=n4_;clear n0_ n1_ n2_ n3_ n4_;(try clear hb);(try clear hb2);(try clear hk);(try clear hi))|((with_reducible refine gC_ (f:=74) rfl ?_);refine goesL_ (some 13) rfl rfl Tryd.func74 (by kernel_rfl) rfl #[.pointer (some ⟨g384,0,none⟩),.int .i64 12] rfl (by (try simp only [List.map_toArray,List.map_cons,List.map_nil]);first|done|rfl|(simp only [List.length_drop,List.length_take];rfl)) ?_;(with_reducible refine (spec_l6Rd_pick.calls k g384 t382 t393 12 t394 t395 w _ ?side1 ?side2 A6.out).mono ?_);(case side1=>repeat (first|(with_reducible first|exact HI384.out|apply IsS145.alloc|apply IsS145.drewN|apply IsS145.drew|apply IsS145.set_1|refine IsS145.far ?_ NB384_381.out _|refine IsS145.far ?_ NB384_391.out _)|exact HI384.out));(case side2=>repeat (first|(with_reducible first|exact HB.out|apply wA_|apply pw_below_drewN|apply below_drew1|refine wS_ ?_ (IsS145.ge HI384.out)|refine wS_ ?_ GE381.out|refine wS_ ?_ GE391.out)|exact HB.out));rintro e w16 ⟨rfl,hi,hb,hk⟩;refine ⟨_,rfl,?_⟩;have n0_:=a_ (KeepBut.blk hk (g':=gb381) (o:=.cells #[.slice none 0 0,.int .i64 0,.bool false] 25 (0,0)) (by (with_reducible repeat (first|refine bN_ ?_ _|refine bD_ ?_|refine bA_ ?_ _));exact BK381.out) NB381_384.out (by simp));have n1_:=a_ (Kd.R_mono (Kd.R_keep (IsS145.apart (show IsS145 w _ g384 t382 t393 from by repeat (first|(with_reducible first|exact HI384.out|apply IsS145.alloc|apply IsS145.drewN|apply IsS145.drew|apply IsS145.set_1|refine IsS145.far ?_ NB384_381.out _|refine IsS145.far ?_ NB384_391.out _)|exact HI384.out)) (by (with_reducible repeat (first|apply Kd.R_alloc|apply Kd.R_drewN|apply Kd.R_drew));exact HO387.out) (by decide)) hk (fun _ h=>h.2)) (fun _ h=>h.1));have n2_:=a_ (KeepBut.blk hk (g':=gb391) (o:=.cells #[.slice Ao11 t385.length co11,.int .i64 t388,.bool t389] 25 (0,0)) (by (with_reducible repeat (first|refine bN_ ?_ _|refine bD_ ?_|refine bA_ ?_ _));exact BK391.out) NB391_384.out (by simp));have n3_:=a_ (hb);have n4_:=a_ (hi);clear BK381;clear HO387;clear BK391;clear HB;clear HI384;have BK381:=n0_;have HO387:=n1_;have BK391:=n2_;have HB:=n3_;have HI384:=n4_;clear n0_ n1_ n2_ n3_ n4_;(try clear hb);(try clear hb2);(try clear hk);(try clear hi);have Z17_0:w16.cell? ⟨gb391,0,none⟩=some (.slice Ao11 t385.length co11):=(bC_ BK391.out 0).trans rfl;have Z17_1:w16.cell? ⟨gb391,1,none⟩=some (.int .i64 t388):=(bC_ BK391.out 1).trans rfl;have Z17_2:w16.cell? ⟨gb391,2,none⟩=some (.bool t389):=(bC_ BK391.out 2).trans rfl;have Y17_0:=bF_ BK391.out 0;have Y17_1:=bF_ BK391.out 1;have Y17_2:=bF_ BK391.out 2;have hnb18:=NB381_384.out;have hnc18:=NB384_381.out;have Z19_0:w16.cell? ⟨gb381,0,none⟩=some (.slice none 0 0):=(bC_ BK381.out 0).trans rfl;have Z19_1:w16.cell? ⟨gb381,1,none⟩=some (.int .i64 0):=(bC_ BK381.out 1).trans rfl;have Z19_2:w16.cell? ⟨gb381,2,none⟩=some (.bool false):=(bC_ BK381.out 2).trans rfl;have Y19_0:=bF_ BK381.out 0;have Y19_1:=bF_ BK381.out 1;have Y19_2:=bF_ BK381.out 2))
  refine bodyPost_ret (results_cell_row rfl _ _ gb381 25 #[.slice Ao11 t385.length co11,.int .i64 (wrap64 (t394 - 1)),.bool t389] (0,0) _ rfl (by (with_reducible repeat (first|refine bN_ ?_ _|refine bD_ ?_|refine bA_ ?_ _));refine blk_put (cs:=#[.slice Ao11 t385.length co11,.int .i64 (wrap64 (t394 - 1)),.bool false]) ?_ 2 _ rfl;(with_reducible repeat (first|refine bN_ ?_ _|refine bD_ ?_|refine bA_ ?_ _));refine blk_put (cs:=#[.slice Ao11 t385.length co11,.int .i64 0,.bool false]) ?_ 1 _ rfl;(with_reducible repeat (first|refine bN_ ?_ _|refine bD_ ?_|refine bA_ ?_ _));refine blk_put (cs:=#[.slice none 0 0,.int .i64 0,.bool false]) ?_ 0 _ rfl;(with_reducible repeat (first|refine bN_ ?_ _|refine bD_ ?_|refine bA_ ?_ _));refine blk_far ?_ NB381_391.out _;(with_reducible repeat (first|refine bN_ ?_ _|refine bD_ ?_|refine bA_ ?_ _));exact BK381.out) Tryd.underlying25 rfl (by kernel_rfl)) rfl ?_
  exact ⟨_,by first|rfl|(simp [errW_none,errW_some] <;> rfl)|(simp [*,errW_none,errW_some] <;> rfl),by (with_reducible repeat (first|apply Kd.R_alloc|apply Kd.R_drewN|apply Kd.R_drew));exact Kd.R_mono (Kd.R_far (p:=⟨gb381,2,none⟩) (Kd.R_far (p:=⟨gb381,1,none⟩) (Kd.R_far (p:=⟨gb381,0,none⟩) (Kd.R_far (p:=⟨gb391,1,none⟩) (Kd.R_types (Kd.R_types HO387.out BK391.out (by decide)) BK381.out (by decide)) (fun _ hk=>hk.1.2) (.int .i64 (wrap64 (t394 - 1)))) (fun _ hk=>hk.2) (.slice Ao11 t385.length co11)) (fun _ hk=>hk.2) (.int .i64 (wrap64 (t394 - 1)))) (fun _ hk=>hk.2) (.bool t389)) (fun _ hk=>trivial),by repeat (first|(with_reducible first|exact HB.out|apply wA_|apply pw_below_drewN|apply below_drew1|refine wS_ ?_ (IsS145.ge HI384.out)|refine wS_ ?_ GE381.out|refine wS_ ?_ GE391.out)|exact HB.out)⟩
 ·rw [if_neg c5] at H
  have c5b0:(t392==0)=false:=bn_ c5
  have c5b1:(t392 != 0)=true:=bne_iff_ne.mpr c5
  simp only [Option.some.injEq,Prod.mk.injEq] at H
  obtain ⟨rfl,rfl,rfl⟩:=H
  go_enter Tryd.func15,Tryd.ntmps15
  go_wp2_with (first|((with_reducible refine gD_ (N:=2) rfl ?_);refine box_event ?hg (N:=2) ?hd (cs:=#[.slice none 0 0,.int .i64 0,.bool false]) (t:=25) ?hr ?_;(case hd=>rfl);(case hg=>rfl);(case hr=>first|(go_simp;done)|(go_simp;rfl));intro gb381 hg w20 hbox hb;have n0_:=a_ (bS_ (by repeat (first|(with_reducible first|exact HB.out|apply wA_|apply pw_below_drewN|apply below_drew1)|exact HB.out)) hb);have n1_:=a_ (hbox);have n2_:=a_ ((by rw [hg];exact (below_size (by repeat (first|(with_reducible first|exact HB.out|apply wA_|apply pw_below_drewN|apply below_drew1)|exact HB.out))):w.heap.size≤gb381));have n3_:=a_ ((by rw [hg];exact (below_size (by repeat (first|(with_reducible first|exact HB.out|apply wA_|apply pw_below_drewN|apply below_drew1)|exact HB.out))):w.heap.size≤gb381));clear HB;have HB:=n0_;have BK381:=n1_;have GW381:=n2_;have GE381:=n3_;clear n0_ n1_ n2_ n3_;clear hb hbox hg)|((with_reducible refine gC_ (f:=72) rfl ?_);refine goesL_ (some 6) rfl rfl Tryd.func72 (by kernel_rfl) rfl #[.slice A0 l0.length c0] rfl (by (try simp only [List.map_toArray,List.map_cons,List.map_nil]);first|done|rfl|(simp only [List.length_drop,List.length_take];rfl)) ?_;(with_reducible refine (spec_l6Open.calls _ _ l0 t382 t383 w _ ?side1 ?side2 ?side3 A2.out).mono ?_);(case side1=>repeat (first|(with_reducible first|exact HB.out|apply wA_|apply pw_below_drewN|apply below_drew1|refine wS_ ?_ GE381.out)|exact HB.out));(case side2=>exact HR0.out);(case side3=>exact HC0.out);rintro e w21 ⟨g384,rfl,hi,hb,hb2⟩;refine ⟨_,rfl,?_⟩;have n0_:=a_ (blk_below (g:=gb381) (o:=.cells #[.slice none 0 0,.int .i64 0,.bool false] 25 (0,0)) (by (with_reducible repeat (first|refine bN_ ?_ _|refine bD_ ?_|refine bA_ ?_ _));exact BK381.out) hb2);have n1_:=a_ (hb);have n2_:=a_ (hi);have n3_:=a_ (IsS145.ne_blk hi (blk_below (g:=gb381) (o:=.cells #[.slice none 0 0,.int .i64 0,.bool false] 25 (0,0)) (by (with_reducible repeat (first|refine bN_ ?_ _|refine bD_ ?_|refine bA_ ?_ _));exact BK381.out) hb2) (by decide));have n4_:=a_ (Ne.symm (IsS145.ne_blk hi (blk_below (g:=gb381) (o:=.cells #[.slice none 0 0,.int .i64 0,.bool false] 25 (0,0)) (by (with_reducible repeat (first|refine bN_ ?_ _|refine bD_ ?_|refine bA_ ?_ _));exact BK381.out) hb2) (by decide)));clear BK381;clear HB;have BK381:=n0_;have HB:=n1_;have HI384:=n2_;have NB384_381:=n3_;have NB381_384:=n4_;clear n0_ n1_ n2_ n3_ n4_;(try clear hb);(try clear hb2);(try clear hk);(try clear hi))|((with_reducible refine gC_ (f:=73) rfl ?_);refine goesL_ (some 8) rfl rfl Tryd.func73 (by kernel_rfl) rfl #[.pointer (some ⟨g384,0,none⟩)] rfl (by (try simp only [List.map_toArray,List.map_cons,List.map_nil]);first|done|rfl|(simp only [List.length_drop,List.length_take];rfl)) ?_;(with_reducible refine (spec_l72Server.calls k g384 t382 t383 t385 t388 t389 t390 w _ ?side1 ?side2 A3.out).mono ?_);(case side1=>repeat (first|(with_reducible first|exact HI384.out|apply IsS145.alloc|apply IsS145.drewN|apply IsS145.drew|apply IsS145.set_1|refine IsS145.far ?_ NB384_381.out _)|exact HI384.out));(case side2=>repeat (first|(with_reducible first|exact HB.out|apply wA_|apply pw_below_drewN|apply below_drew1|refine wS_ ?_ (IsS145.ge HI384.out)|refine wS_ ?_ GE381.out)|exact HB.out));rintro e w22 ⟨v386,rfl,ho0,hi,hb,hk⟩;refine ⟨_,rfl,?_⟩;have n0_:=a_ (KeepBut.blk hk (g':=gb381) (o:=.cells #[.slice none 0 0,.int .i64 0,.bool false] 25 (0,0)) (by (with_reducible repeat (first|refine bN_ ?_ _|refine bD_ ?_|refine bA_ ?_ _));exact BK381.out) NB381_384.out (by simp));have n1_:=a_ (Kd.R_lower ho0 (below_size (by repeat (first|(with_reducible first|exact HB.out|apply wA_|apply pw_below_drewN|apply below_drew1|refine wS_ ?_ (IsS145.ge HI384.out)|refine wS_ ?_ GE381.out)|exact HB.out))));have n2_:=a_ (hb);have n3_:=a_ (hi);clear BK381;clear HB;clear HI384;have BK381:=n0_;have HO387:=n1_;have HB:=n2_;have HI384:=n3_;clear n0_ n1_ n2_ n3_;(try clear hb);(try clear hb2);(try clear hk);(try clear hi);(try clear ho0))|((with_reducible refine gD_ (N:=4) rfl ?_);refine box_event ?hg (N:=4) ?hd (cs:=#[.slice none 0 0,.int .i64 0,.bool false]) (t:=25) ?hr ?_;(case hd=>rfl);(case hg=>rfl);(case hr=>first|(go_simp;done)|(go_simp;rfl));intro gb391 hg w23 hbox hb;have n0_:=a_ (Kd.R_below (by (with_reducible repeat (first|apply Kd.R_alloc|apply Kd.R_drewN|apply Kd.R_drew));exact HO387.out) hb);have n1_:=a_ (blk_below (g:=gb381) (o:=.cells #[.slice none 0 0,.int .i64 0,.bool false] 25 (0,0)) (by (with_reducible repeat (first|refine bN_ ?_ _|refine bD_ ?_|refine bA_ ?_ _));exact BK381.out) hb);have n2_:=a_ (IsS145.below (by repeat (first|(with_reducible first|exact HI384.out|apply IsS145.alloc|apply IsS145.drewN|apply IsS145.drew|apply IsS145.set_1|refine IsS145.far ?_ NB384_381.out _)|exact HI384.out)) hb);have n3_:=a_ (bS_ (by repeat (first|(with_reducible first|exact HB.out|apply wA_|apply pw_below_drewN|apply below_drew1|refine wS_ ?_ (IsS145.ge HI384.out)|refine wS_ ?_ GE381.out)|exact HB.out)) hb);have n4_:=a_ (hbox);have n5_:=a_ ((by rw [hg];exact (below_size (by repeat (first|(with_reducible first|exact HB.out|apply wA_|apply pw_below_drewN|apply below_drew1|refine wS_ ?_ (IsS145.ge HI384.out)|refine wS_ ?_ GE381.out)|exact HB.out))):w.heap.size≤gb391));have n6_:=a_ ((by rw [hg];exact (below_size (by repeat (first|(with_reducible first|exact HB.out|apply wA_|apply pw_below_drewN|apply below_drew1|refine wS_ ?_ (IsS145.ge HI384.out)|refine wS_ ?_ GE381.out)|exact HB.out))):w.heap.size≤gb391));have n7_:=a_ ((by rw [hg];exact Nat.ne_of_lt (blk_lt (g:=gb381) (o:=.cells #[.slice none 0 0,.int .i64 0,.bool false] 25 (0,0)) (by (with_reducible repeat (first|refine bN_ ?_ _|refine bD_ ?_|refine bA_ ?_ _));exact BK381.out)):gb381≠gb391));have n8_:=a_ ((by rw [hg];exact Nat.ne_of_gt (blk_lt (g:=gb381) (o:=.cells #[.slice none 0 0,.int .i64 0,.bool false] 25 (0,0)) (by (with_reducible repeat (first|refine bN_ ?_ _|refine bD_ ?_|refine bA_ ?_ _));exact BK381.out)):gb391≠gb381));have n9_:=a_ ((by rw [hg];exact Nat.ne_of_lt (IsS145.lt (show IsS145 w _ g384 t382 t390 from by repeat (first|(with_reducible first|exact HI384.out|apply IsS145.alloc|apply IsS145.drewN|apply IsS145.drew|apply IsS145.set_1|refine IsS145.far ?_ NB384_381.out _)|exact HI384.out))):g384≠gb391));have n10_:=a_ ((by rw [hg];exact Nat.ne_of_gt (IsS145.lt (show IsS145 w _ g384 t382 t390 from by repeat (first|(with_reducible first|exact HI384.out|apply IsS145.alloc|apply IsS145.drewN|apply IsS145.drew|apply IsS145.set_1|refine IsS145.far ?_ NB384_381.out _)|exact HI384.out))):gb391≠g384));clear HO387;clear BK381;clear HI384;clear HB;have HO387:=n0_;have BK381:=n1_;have HI384:=n2_;have HB:=n3_;have BK391:=n4_;have GW391:=n5_;have GE391:=n6_;have NB381_391:=n7_;have NB391_381:=n8_;have NB384_391:=n9_;have NB391_384:=n10_;clear n0_ n1_ n2_ n3_ n4_ n5_ n6_ n7_ n8_ n9_ n10_;clear hb hbox hg;obtain ⟨Ao24,co24,eo24⟩:=Kd.R_slice HO387.out;subst eo24;have hnb25:=NB391_381.out;have hnc25:=NB381_391.out;have hnb26:=NB391_384.out;have hnc26:=NB384_391.out;have Z27_0:w23.cell? ⟨gb391,0,none⟩=some (.slice none 0 0):=(bC_ BK391.out 0).trans rfl;have Z27_1:w23.cell? ⟨gb391,1,none⟩=some (.int .i64 0):=(bC_ BK391.out 1).trans rfl;have Z27_2:w23.cell? ⟨gb391,2,none⟩=some (.bool false):=(bC_ BK391.out 2).trans rfl;have Y27_0:=bF_ BK391.out 0;have Y27_1:=bF_ BK391.out 1;have Y27_2:=bF_ BK391.out 2)|((with_reducible refine gC_ (f:=74) rfl ?_);refine goesL_ (some 10) rfl rfl Tryd.func74 (by kernel_rfl) rfl #[.pointer (some ⟨g384,0,none⟩),.int .i64 5] rfl (by (try simp only [List.map_toArray,List.map_cons,List.map_nil]);first|done|rfl|(simp only [List.length_drop,List.length_take];rfl)) ?_;(with_reducible refine (spec_l6Rd_pick.calls k g384 t382 t390 5 t392 t393 w _ ?side1 ?side2 A4.out).mono ?_);(case side1=>repeat (first|(with_reducible first|exact HI384.out|apply IsS145.alloc|apply IsS145.drewN|apply IsS145.drew|apply IsS145.set_1|refine IsS145.far ?_ NB384_381.out _|refine IsS145.far ?_ NB384_391.out _)|exact HI384.out));(case side2=>repeat (first|(with_reducible first|exact HB.out|apply wA_|apply pw_below_drewN|apply below_drew1|refine wS_ ?_ (IsS145.ge HI384.out)|refine wS_ ?_ GE381.out|refine wS_ ?_ GE391.out)|exact HB.out));rintro e w28 ⟨rfl,hi,hb,hk⟩;refine ⟨_,rfl,?_⟩;have n0_:=a_ (KeepBut.blk hk (g':=gb381) (o:=.cells #[.slice none 0 0,.int .i64 0,.bool false] 25 (0,0)) (by (with_reducible repeat (first|refine bN_ ?_ _|refine bD_ ?_|refine bA_ ?_ _));refine blk_far ?_ NB381_391.out _;(with_reducible repeat (first|refine bN_ ?_ _|refine bD_ ?_|refine bA_ ?_ _));refine blk_far ?_ NB381_391.out _;(with_reducible repeat (first|refine bN_ ?_ _|refine bD_ ?_|refine bA_ ?_ _));refine blk_far ?_ NB381_391.out _;(with_reducible repeat (first|refine bN_ ?_ _|refine bD_ ?_|refine bA_ ?_ _));exact BK381.out) NB381_384.out (by simp));have n1_:=a_ (Kd.R_mono (Kd.R_keep (IsS145.apart (show IsS145 w _ g384 t382 t390 from by repeat (first|(with_reducible first|exact HI384.out|apply IsS145.alloc|apply IsS145.drewN|apply IsS145.drew|apply IsS145.set_1|refine IsS145.far ?_ NB384_381.out _|refine IsS145.far ?_ NB384_391.out _)|exact HI384.out)) (by (with_reducible repeat (first|apply Kd.R_alloc|apply Kd.R_drewN|apply Kd.R_drew));exact (Kd.R_mono (Kd.R_far (p:=⟨gb391,2,none⟩) (Kd.R_far (p:=⟨gb391,1,none⟩) (Kd.R_far (p:=⟨gb391,0,none⟩) (Kd.R_types HO387.out BK391.out (by decide)) (fun _ hk=>hk.2) (.slice Ao24 t385.length co24)) (fun _ hk=>hk.2) (.int .i64 t388)) (fun _ hk=>hk.2) (.bool t389)) (fun _ h_=>h_.1))) (by decide)) hk (fun _ h=>h.2)) (fun _ h=>h.1));have n2_:=a_ (KeepBut.blk hk (g':=gb391) (o:=.cells #[.slice Ao24 t385.length co24,.int .i64 t388,.bool t389] 25 (0,0)) (by (with_reducible repeat (first|refine bN_ ?_ _|refine bD_ ?_|refine bA_ ?_ _));refine blk_put (cs:=#[.slice Ao24 t385.length co24,.int .i64 t388,.bool false]) ?_ 2 _ rfl;(with_reducible repeat (first|refine bN_ ?_ _|refine bD_ ?_|refine bA_ ?_ _));refine blk_put (cs:=#[.slice Ao24 t385.length co24,.int .i64 0,.bool false]) ?_ 1 _ rfl;(with_reducible repeat (first|refine bN_ ?_ _|refine bD_ ?_|refine bA_ ?_ _));refine blk_put (cs:=#[.slice none 0 0,.int .i64 0,.bool false]) ?_ 0 _ rfl;(with_reducible repeat (first|refine bN_ ?_ _|refine bD_ ?_|refine bA_ ?_ _));exact BK391.out) NB391_384.out (by simp));have n3_:=a_ (hb);have n4_:=a_ (hi);clear BK381;clear HO387;clear BK391;clear HB;clear HI384;have BK381:=n0_;have HO387:=n1_;have BK391:=n2_;have HB:=n3_;have HI384:=n4_;clear n0_ n1_ n2_ n3_ n4_;(try clear hb);(try clear hb2);(try clear hk);(try clear hi);have Z29_0:w28.cell? ⟨gb391,0,none⟩=some (.slice Ao24 t385.length co24):=(bC_ BK391.out 0).trans rfl;have Z29_1:w28.cell? ⟨gb391,1,none⟩=some (.int .i64 t388):=(bC_ BK391.out 1).trans rfl;have Z29_2:w28.cell? ⟨gb391,2,none⟩=some (.bool t389):=(bC_ BK391.out 2).trans rfl;have Y29_0:=bF_ BK391.out 0;have Y29_1:=bF_ BK391.out 1;have Y29_2:=bF_ BK391.out 2;have hnb30:=NB381_384.out;have hnc30:=NB384_381.out;have Z31_0:w28.cell? ⟨gb381,0,none⟩=some (.slice none 0 0):=(bC_ BK381.out 0).trans rfl;have Z31_1:w28.cell? ⟨gb381,1,none⟩=some (.int .i64 0):=(bC_ BK381.out 1).trans rfl;have Z31_2:w28.cell? ⟨gb381,2,none⟩=some (.bool false):=(bC_ BK381.out 2).trans rfl;have Y31_0:=bF_ BK381.out 0;have Y31_1:=bF_ BK381.out 1;have Y31_2:=bF_ BK381.out 2))
  refine bodyPost_ret (results_cell_row rfl _ _ gb381 25 #[.slice Ao24 t385.length co24,.int .i64 t388,.bool t389] (0,0) _ rfl (by (with_reducible repeat (first|refine bN_ ?_ _|refine bD_ ?_|refine bA_ ?_ _));refine blk_put (cs:=#[.slice Ao24 t385.length co24,.int .i64 t388,.bool false]) ?_ 2 _ rfl;(with_reducible repeat (first|refine bN_ ?_ _|refine bD_ ?_|refine bA_ ?_ _));refine blk_put (cs:=#[.slice Ao24 t385.length co24,.int .i64 0,.bool false]) ?_ 1 _ rfl;(with_reducible repeat (first|refine bN_ ?_ _|refine bD_ ?_|refine bA_ ?_ _));refine blk_put (cs:=#[.slice none 0 0,.int .i64 0,.bool false]) ?_ 0 _ rfl;(with_reducible repeat (first|refine bN_ ?_ _|refine bD_ ?_|refine bA_ ?_ _));exact BK381.out) Tryd.underlying25 rfl (by kernel_rfl)) rfl ?_
  exact ⟨_,by first|rfl|(simp [errW_none,errW_some] <;> rfl)|(simp [*,errW_none,errW_some] <;> rfl),by (with_reducible repeat (first|apply Kd.R_alloc|apply Kd.R_drewN|apply Kd.R_drew));exact Kd.R_mono (Kd.R_far (p:=⟨gb381,2,none⟩) (Kd.R_far (p:=⟨gb381,1,none⟩) (Kd.R_far (p:=⟨gb381,0,none⟩) (Kd.R_types HO387.out BK381.out (by decide)) (fun _ hk=>hk.2) (.slice Ao24 t385.length co24)) (fun _ hk=>hk.2) (.int .i64 t388)) (fun _ hk=>hk.2) (.bool t389)) (fun _ hk=>trivial),by repeat (first|(with_reducible first|exact HB.out|apply wA_|apply pw_below_drewN|apply below_drew1|refine wS_ ?_ (IsS145.ge HI384.out)|refine wS_ ?_ GE381.out|refine wS_ ?_ GE391.out)|exact HB.out)⟩

def impl_whoOk.f (a0:Int):Option (Bool):=if a0≥1 then (some (decide (a0≤3))) else (some false)
theorem impl_whoOk.calls (a0:Int) (r:Bool) (w:World) (h:impl_whoOk.f a0=some r) :
  Calls Tryd.prog 104 #[.int .i64 a0] w fun e w'=>e=.returned (.bool r)∧Drawn0 w w':=by
 unfold impl_whoOk.f at h
 have H:=h
 clear h
 by_cases c2:a0≥1
 ·rw [if_pos c2] at H
  have c2b0:decide (1≤a0)=true:=dt_ c2
  clear c2
  obtain rfl:=sj_ H
  go_enter Tryd.func104,Tryd.ntmps104
  go_wp2
  go_ret
  exact ⟨si_,by repeat (first|exact Drawn0.refl _|apply Drawn0.step)⟩
 ·rw [if_neg c2] at H
  have c2b0:decide (1≤a0)=false:=df_ c2
  clear c2
  obtain rfl:=sj_ H
  go_enter Tryd.func104,Tryd.ntmps104
  go_wp2
  go_ret
  exact ⟨si_,by repeat (first|exact Drawn0.refl _|apply Drawn0.step)⟩

end Go.Proofs.YtdpklbomhdpimaaDoor.P
namespace Go.Proofs.YtdpklbomhdpimaaDoor.P
open Go.RowKit Go.Proofs.YtdpklbomhdpimaaDoorW.PrintWords
def impl_RowWho.f (a0:Int):Option (Int×Bool):=some (if ownI a0=0 then (0,false) else (ownI a0 - 1,true))
theorem impl_RowWho.calls (a0:Int) (r1:Int) (r2:Bool) (w:World) (h:impl_RowWho.f a0=some (r1,r2)) (hG:Glob w) :
  Calls Tryd.prog 117 #[.int .i64 a0] w fun e w'=>e=.returned (.tuple #[.int .i64 r1,.bool r2])∧Drawn0 w w':=by
 unfold impl_RowWho.f at h
 by_cases h0:0≤a0
 ·by_cases h1:a0 < 37
  ·have hc:=hG.at_ a0 h0 h1
   have hr:=ownI_range a0
   generalize ownI a0=z at hc hr h
   by_cases hz:z=0
   ·subst hz
    simp only [if_true,Option.some.injEq,Prod.mk.injEq] at h
    obtain ⟨rfl,rfl⟩:=h
    clear hr hG
    go_enter Tryd.func117,Tryd.ntmps117
    go_wp2
    go_ret2
    exact ⟨rfl,Drawn0.refl _⟩
   ·rw [if_neg hz] at h
    simp only [Option.some.injEq,Prod.mk.injEq] at h
    obtain ⟨rfl,rfl⟩:=h
    have hz1:(z==0)=false:=beq_eq_false_iff_ne.2 hz
    have hr1:0≤z:=hr.1
    have hr2:z≤4:=hr.2
    clear hr hG
    go_enter Tryd.func117,Tryd.ntmps117
    go_wp2
    go_ret2
    exact ⟨rfl,Drawn0.refl _⟩
  ·have e:ownI a0=0:=by rw [ownI,if_neg (by omega)]
   rw [if_pos e] at h
   simp only [Option.some.injEq,Prod.mk.injEq] at h
   obtain ⟨rfl,rfl⟩:=h
   clear e hG
   go_enter Tryd.func117,Tryd.ntmps117
   go_wp2
   go_ret2
   exact ⟨rfl,Drawn0.refl _⟩
 ·have e:ownI a0=0:=by rw [ownI,if_neg (by omega)]
  rw [if_pos e] at h
  simp only [Option.some.injEq,Prod.mk.injEq] at h
  obtain ⟨rfl,rfl⟩:=h
  clear e hG
  have hlt:a0 < 0:=by omega
  go_enter Tryd.func117,Tryd.ntmps117
  go_wp2
  go_ret2
  exact ⟨rfl,Drawn0.refl _⟩
end Go.Proofs.YtdpklbomhdpimaaDoor.P
namespace Go.Proofs.YtdpklbomhdpimaaDoor.P
open Go.RowKit Go.Proofs.YtdpklbomhdpimaaDoorW.PrintWords Go.Proofs.YtdpklbomhdpimaaDoorW.PrintLast
def impl_isMade.f (a0:Int):Option (Bool):=(impl_RowWho.f a0).bind fun bt396=>(if bt396.2=true then (some (bt396.1 != 0)) else (some false))
theorem impl_isMade.calls (a0:Int) (r:Bool) (w:World) (h:impl_isMade.f a0=some r) (hG:Glob w) :
  Calls Tryd.prog 127 #[.int .i64 a0] w fun e w'=>e=.returned (.bool r)∧Drawn0 w w':=by
 have HG:=a_ hG
 clear hG
 unfold impl_isMade.f at h
 have H:=h
 clear h
 replace H:=bs_ H
 obtain ⟨⟨t396,t397⟩,A20,H⟩:=H
 try dsimp only at H
 have A2:=a_ A20
 clear A20
 by_cases c3:t397=true
 ·subst c3
  have H1:(some (t396 != 0))=some r:=by rw [if_pos rfl] at H;exact H
  clear H
  have H:=H1
  clear H1
  obtain rfl:=sj_ H
  go_enter Tryd.func127,Tryd.ntmps127
  go_wp2_with (first|((with_reducible refine gC_ (f:=117) rfl ?_);refine gl_ 7 Tryd.func117 #[.int .i64 a0] ?_;(with_reducible refine (impl_RowWho.calls a0 t396 true _ A2.out ?side1).mono ?_);(case side1=>exact hg_);rintro e w' ⟨rfl,⟨nd,rfl⟩⟩;refine ⟨_,rfl,?_⟩))
  go_ret
  exact ⟨si_,by repeat (first|exact Drawn0.refl _|apply Drawn0.step)⟩
 ·replace c3:=Bool.eq_false_iff.mpr c3
  subst c3
  have H1:(some false)=some r:=by rw [if_neg (show ¬ (false=true) by decide)] at H;exact H
  clear H
  have H:=H1
  clear H1
  obtain rfl:=sj_ H
  go_enter Tryd.func127,Tryd.ntmps127
  go_wp2_with (first|((with_reducible refine gC_ (f:=117) rfl ?_);refine gl_ 7 Tryd.func117 #[.int .i64 a0] ?_;(with_reducible refine (impl_RowWho.calls a0 t396 false _ A2.out ?side1).mono ?_);(case side1=>exact hg_);rintro e w' ⟨rfl,⟨nd,rfl⟩⟩;refine ⟨_,rfl,?_⟩))
  go_ret
  exact ⟨si_,by repeat (first|exact Drawn0.refl _|apply Drawn0.step)⟩

def impl_isRoot.f (a0:Int):Option (Bool):=(impl_RowWho.f a0).bind fun bt398=>(if bt398.2=true then (some (bt398.1==0)) else (some false))
theorem impl_isRoot.calls (a0:Int) (r:Bool) (w:World) (h:impl_isRoot.f a0=some r) (hG:Glob w) :
  Calls Tryd.prog 98 #[.int .i64 a0] w fun e w'=>e=.returned (.bool r)∧Drawn0 w w':=by
 have HG:=a_ hG
 clear hG
 unfold impl_isRoot.f at h
 have H:=h
 clear h
 replace H:=bs_ H
 obtain ⟨⟨t398,t399⟩,A20,H⟩:=H
 try dsimp only at H
 have A2:=a_ A20
 clear A20
 by_cases c3:t399=true
 ·subst c3
  have H1:(some (t398==0))=some r:=by rw [if_pos rfl] at H;exact H
  clear H
  have H:=H1
  clear H1
  obtain rfl:=sj_ H
  go_enter Tryd.func98,Tryd.ntmps98
  go_wp2_with (first|((with_reducible refine gC_ (f:=117) rfl ?_);refine gl_ 7 Tryd.func117 #[.int .i64 a0] ?_;(with_reducible refine (impl_RowWho.calls a0 t398 true _ A2.out ?side1).mono ?_);(case side1=>exact hg_);rintro e w' ⟨rfl,⟨nd,rfl⟩⟩;refine ⟨_,rfl,?_⟩))
  go_ret
  exact ⟨si_,by repeat (first|exact Drawn0.refl _|apply Drawn0.step)⟩
 ·replace c3:=Bool.eq_false_iff.mpr c3
  subst c3
  have H1:(some false)=some r:=by rw [if_neg (show ¬ (false=true) by decide)] at H;exact H
  clear H
  have H:=H1
  clear H1
  obtain rfl:=sj_ H
  go_enter Tryd.func98,Tryd.ntmps98
  go_wp2_with (first|((with_reducible refine gC_ (f:=117) rfl ?_);refine gl_ 7 Tryd.func117 #[.int .i64 a0] ?_;(with_reducible refine (impl_RowWho.calls a0 t398 false _ A2.out ?side1).mono ?_);(case side1=>exact hg_);rintro e w' ⟨rfl,⟨nd,rfl⟩⟩;refine ⟨_,rfl,?_⟩))
  go_ret
  exact ⟨si_,by repeat (first|exact Drawn0.refl _|apply Drawn0.step)⟩

def impl_placeOk.f (a0:Int) (a1:Int):Option (Bool):=(impl_isMade.f a0).bind fun t400=>(if t400=true then (if a1=0 then (some true) else ((impl_isMade.f a1).bind fun t401=>(some t401))) else ((impl_isRoot.f a0).bind fun t402=>(if t402=true then (if a1=0 then (some true) else ((impl_isMade.f a1).bind fun t403=>(some t403))) else (some false))))
theorem impl_placeOk.calls (a0:Int) (a1:Int) (r:Bool) (w:World) (h:impl_placeOk.f a0 a1=some r) (hG:Glob w) :
  Calls Tryd.prog 128 #[.int .i64 a0,.int .i64 a1] w fun e w'=>e=.returned (.bool r)∧Drawn0 w w':=by
 have HG:=a_ hG
 clear hG
 unfold impl_placeOk.f at h
 have H:=h
 clear h
 replace H:=bs_ H
 obtain ⟨t400,A30,H⟩:=H
 try dsimp only at H
 have A3:=a_ A30
 clear A30
 by_cases c4:t400=true
 ·subst c4
  have H1:(if a1=0 then (some true) else ((impl_isMade.f a1).bind fun t401=>(some t401)))=some r:=by rw [if_pos rfl] at H;exact H
  clear H
  have H:=H1
  clear H1
  by_cases c5:a1=0
  ·rw [if_pos c5] at H
   have c5b0:(a1==0)=true:=beq_iff_eq.mpr c5
   have c5b1:(a1 != 0)=false:=be_ c5
   clear c5
   obtain rfl:=sj_ H
   go_enter Tryd.func128,Tryd.ntmps128
   go_wp2_with (first|((with_reducible refine gC_ (f:=127) rfl ?_);refine gl_ 6 Tryd.func127 #[.int .i64 a0] ?_;(with_reducible refine (impl_isMade.calls a0 true _ A3.out ?side1).mono ?_);(case side1=>exact hg_);rintro e w' ⟨rfl,⟨nd,rfl⟩⟩;refine ⟨_,rfl,?_⟩))
   go_ret
   exact ⟨si_,by repeat (first|exact Drawn0.refl _|apply Drawn0.step)⟩
  ·rw [if_neg c5] at H
   have c5b0:(a1==0)=false:=bn_ c5
   have c5b1:(a1 != 0)=true:=bne_iff_ne.mpr c5
   replace H:=bs_ H
   obtain ⟨t401,A60,H⟩:=H
   try dsimp only at H
   have A6:=a_ A60
   clear A60
   obtain rfl:=sj_ H
   go_enter Tryd.func128,Tryd.ntmps128
   go_wp2_with (first|((with_reducible refine gC_ (f:=127) rfl ?_);refine gl_ 6 Tryd.func127 #[.int .i64 a0] ?_;(with_reducible refine (impl_isMade.calls a0 true _ A3.out ?side1).mono ?_);(case side1=>exact hg_);rintro e w' ⟨rfl,⟨nd,rfl⟩⟩;refine ⟨_,rfl,?_⟩)|(go_at_call 127;(with_reducible refine (impl_isMade.calls a1 t401 _ A6.out ?side1).mono ?_);(case side1=>exact hg_);rintro e w' ⟨rfl,⟨nd,rfl⟩⟩))
   go_ret
   exact ⟨si_,by repeat (first|exact Drawn0.refl _|apply Drawn0.step)⟩
 ·replace c4:=Bool.eq_false_iff.mpr c4
  subst c4
  have H1:((impl_isRoot.f a0).bind fun t402=>(if t402=true then (if a1=0 then (some true) else ((impl_isMade.f a1).bind fun t403=>(some t403))) else (some false)))=some r:=by rw [if_neg (show ¬ (false=true) by decide)] at H;exact H
  clear H
  have H:=H1
  clear H1
  replace H:=bs_ H
  obtain ⟨t402,A70,H⟩:=H
  try dsimp only at H
  have A7:=a_ A70
  clear A70
  by_cases c8:t402=true
  ·subst c8
   have H1:(if a1=0 then (some true) else ((impl_isMade.f a1).bind fun t403=>(some t403)))=some r:=by rw [if_pos rfl] at H;exact H
   clear H
   have H:=H1
   clear H1
   by_cases c9:a1=0
   ·rw [if_pos c9] at H
    have c9b0:(a1==0)=true:=beq_iff_eq.mpr c9
    have c9b1:(a1 != 0)=false:=be_ c9
    clear c9
    obtain rfl:=sj_ H
    go_enter Tryd.func128,Tryd.ntmps128
    go_wp2_with (first|((with_reducible refine gC_ (f:=127) rfl ?_);refine gl_ 6 Tryd.func127 #[.int .i64 a0] ?_;(with_reducible refine (impl_isMade.calls a0 false _ A3.out ?side1).mono ?_);(case side1=>exact hg_);rintro e w' ⟨rfl,⟨nd,rfl⟩⟩;refine ⟨_,rfl,?_⟩)|(go_at_call 98;(with_reducible refine (impl_isRoot.calls a0 true _ A7.out ?side1).mono ?_);(case side1=>exact hg_);rintro e w' ⟨rfl,⟨nd,rfl⟩⟩))
    go_ret
    exact ⟨si_,by repeat (first|exact Drawn0.refl _|apply Drawn0.step)⟩
   ·rw [if_neg c9] at H
    have c9b0:(a1==0)=false:=bn_ c9
    have c9b1:(a1 != 0)=true:=bne_iff_ne.mpr c9
    replace H:=bs_ H
    obtain ⟨t403,A100,H⟩:=H
    try dsimp only at H
    have A10:=a_ A100
    clear A100
    obtain rfl:=sj_ H
    go_enter Tryd.func128,Tryd.ntmps128
    go_wp2_with (first|((with_reducible refine gC_ (f:=127) rfl ?_);refine gl_ 6 Tryd.func127 #[.int .i64 a0] ?_;(with_reducible refine (impl_isMade.calls a0 false _ A3.out ?side1).mono ?_);(case side1=>exact hg_);rintro e w' ⟨rfl,⟨nd,rfl⟩⟩;refine ⟨_,rfl,?_⟩)|(go_at_call 98;(with_reducible refine (impl_isRoot.calls a0 true _ A7.out ?side1).mono ?_);(case side1=>exact hg_);rintro e w' ⟨rfl,⟨nd,rfl⟩⟩)|(go_at_call 127;(with_reducible refine (impl_isMade.calls a1 t403 _ A10.out ?side1).mono ?_);(case side1=>exact hg_);rintro e w' ⟨rfl,⟨nd,rfl⟩⟩))
    go_ret
    exact ⟨si_,by repeat (first|exact Drawn0.refl _|apply Drawn0.step)⟩
  ·replace c8:=Bool.eq_false_iff.mpr c8
   subst c8
   have H1:(some false)=some r:=by rw [if_neg (show ¬ (false=true) by decide)] at H;exact H
   clear H
   have H:=H1
   clear H1
   obtain rfl:=sj_ H
   go_enter Tryd.func128,Tryd.ntmps128
   go_wp2_with (first|((with_reducible refine gC_ (f:=127) rfl ?_);refine gl_ 6 Tryd.func127 #[.int .i64 a0] ?_;(with_reducible refine (impl_isMade.calls a0 false _ A3.out ?side1).mono ?_);(case side1=>exact hg_);rintro e w' ⟨rfl,⟨nd,rfl⟩⟩;refine ⟨_,rfl,?_⟩)|(go_at_call 98;(with_reducible refine (impl_isRoot.calls a0 false _ A7.out ?side1).mono ?_);(case side1=>exact hg_);rintro e w' ⟨rfl,⟨nd,rfl⟩⟩))
   go_ret
   exact ⟨si_,by repeat (first|exact Drawn0.refl _|apply Drawn0.step)⟩

def impl_textOk.l0:Nat→ByteArray→Int→Option (Bool)
 | 0,_,_=>none
 | k+1,x0,x3=>if x3 < (x0.size:Int) then (if 0≤x3 then (if (bt x0 x3) < 97 then (some false) else (if (bt x0 x3) > 100 then (some false) else (impl_textOk.l0 k x0 (wrap64 (x3+1))))) else (none)) else (some true)
def impl_textOk.f (k:Nat) (a0:ByteArray):Option (Bool):=if (a0.size:Int) > 4 then (some false) else (impl_textOk.l0 k a0 0)
theorem impl_textOk.mono_l:∀ k,(∀ y0 y1,LeO (impl_textOk.l0 k y0 y1) (impl_textOk.l0 (k+1) y0 y1))
 | 0=>fun _ _ r h=>by simp [impl_textOk.l0] at h
 | k+1=>by
  have ih0:=impl_textOk.mono_l k
  ·intro y0 y1
   unfold impl_textOk.l0
   repeat' first
   | (with_reducible exact ih0 _ _)
   | (with_reducible exact LeO.refl _)
   | (with_reducible exact LeO.none _)
   | (with_reducible refine LeO.ite ?_ ?_)
   | (with_reducible refine LeO.bind ?_ (fun _=>?_))
   | exact ih0 _ _
   | exact LeO.none _
   | refine LeO.ite ?_ ?_
   | refine LeO.bind ?_ (fun _=>?_)
theorem impl_textOk.mono:∀ a0 k,LeO (impl_textOk.f k a0) (impl_textOk.f (k+1) a0):=by
 intro a0 k
 have ih0:=impl_textOk.mono_l k
 unfold impl_textOk.f
 repeat' first
   | (with_reducible exact ih0 _ _)
   | (with_reducible exact LeO.refl _)
   | (with_reducible exact LeO.none _)
   | (with_reducible refine LeO.ite ?_ ?_)
   | (with_reducible refine LeO.bind ?_ (fun _=>?_))
   | exact ih0 _ _
   | exact LeO.none _
   | refine LeO.ite ?_ ?_
   | refine LeO.bind ?_ (fun _=>?_)
theorem impl_textOk.calls (k:Nat) (a0:ByteArray) (r:Bool) (w:World) (h:impl_textOk.f k a0=some r) :
  Calls Tryd.prog 129 #[.string a0] w fun e w'=>e=.returned (.bool r)∧Drawn0 w w':=by
 unfold impl_textOk.f at h
 have H:=h
 clear h
 by_cases c2:(a0.size:Int) > 4
 ·rw [if_pos c2] at H
  have c2b0:decide (4 < (a0.size:Int))=true:=dt_ c2
  have c2b1:decide (4 < a0.size)=true:=dt_ (by omega)
  clear c2
  obtain rfl:=sj_ H
  go_enter Tryd.func129,Tryd.ntmps129
  go_wp2
  go_ret
  exact ⟨si_,by repeat (first|exact Drawn0.refl _|apply Drawn0.step)⟩
 ·rw [if_neg c2] at H
  have c2b0:decide (4 < (a0.size:Int))=false:=df_ c2
  have c2b1:decide (4 < a0.size)=false:=df_ (by omega)
  clear c2
  have H':=a_ H
  clear H
  go_enter Tryd.func129,Tryd.ntmps129
  go_wp2
  go_loopg [3] k (fun kq v3 w'=>∃ (x3_1:Int),v3=.int .i64 x3_1∧Aside0 (impl_textOk.l0 kq a0 x3_1=some r)∧Aside0 (kq≤k)∧Drawn0 w w')
  case atStart=>exact ⟨(0),(si_),H',⟨Nat.le_refl _⟩,by repeat (first|exact Drawn0.refl _|apply Drawn0.step)⟩
  case round =>
   clear H'
   try clear c1
   try clear c2
   try clear c2b0
   try clear c2b1
   try clear p2
   obtain ⟨x3_1,rfl,HA,HK1,⟨m1,rfl⟩⟩:=hrel
   cases gk with
   | zero=>exact absurd HA.out (by simp [impl_textOk.l0])
   | succ k1 =>
    have H:=HA.out
    clear HA
    simp only [impl_textOk.l0] at H
    by_cases c3:x3_1 < (a0.size:Int)
    ·rw [if_pos c3] at H
     have c3b0:decide (x3_1 < (a0.size:Int))=true:=dt_ c3
     clear c3
     by_cases c4:0≤x3_1
     ·rw [if_pos c4] at H
      have c4b0:decide (0≤x3_1)=true:=dt_ c4
      clear c4
      by_cases c6:(bt a0 x3_1) < 97
      ·rw [if_pos c6] at H
       have c6b0:decide ((bt a0 x3_1) < 97)=true:=dt_ c6
       clear c6
       obtain rfl:=sj_ H
       have p5:0≤(x3_1:Int):=od_
       have q5:x3_1 < (a0.size:Int):=od_
       have hx5:=bt_at a0 x3_1
       replace p5:=eq_true p5
       replace q5:=eq_true q5
       go_wp2
       go_ret
       exact ⟨si_,by repeat (first|exact Drawn0.refl _|apply Drawn0.step)⟩
      ·rw [if_neg c6] at H
       have c6b0:decide ((bt a0 x3_1) < 97)=false:=df_ c6
       clear c6
       by_cases c8:(bt a0 x3_1) > 100
       ·rw [if_pos c8] at H
        have c8b0:decide (100 < (bt a0 x3_1))=true:=dt_ c8
        clear c8
        obtain rfl:=sj_ H
        have p5:0≤(x3_1:Int):=od_
        have q5:x3_1 < (a0.size:Int):=od_
        have hx5:=bt_at a0 x3_1
        replace p5:=eq_true p5
        replace q5:=eq_true q5
        have p7:0≤(x3_1:Int):=od_
        have q7:x3_1 < (a0.size:Int):=od_
        have hx7:=bt_at a0 x3_1
        replace p7:=eq_true p7
        replace q7:=eq_true q7
        go_wp2
        go_ret
        exact ⟨si_,by repeat (first|exact Drawn0.refl _|apply Drawn0.step)⟩
       ·rw [if_neg c8] at H
        have c8b0:decide (100 < (bt a0 x3_1))=false:=df_ c8
        clear c8
        have H':=a_ H
        clear H
        have p5:0≤(x3_1:Int):=od_
        have q5:x3_1 < (a0.size:Int):=od_
        have hx5:=bt_at a0 x3_1
        replace p5:=eq_true p5
        replace q5:=eq_true q5
        have p7:0≤(x3_1:Int):=od_
        have q7:x3_1 < (a0.size:Int):=od_
        have hx7:=bt_at a0 x3_1
        replace p7:=eq_true p7
        replace q7:=eq_true q7
        go_wp2
        go_roundg k1
        case measure=>have:=HK1.out;omega
        case rel=>exact ⟨(wrap64 (x3_1+1)),(si_),H',⟨by have:=HK1.out;omega⟩,by repeat (first|exact Drawn0.refl _|apply Drawn0.step)⟩
     ·rw [if_neg c4] at H
      exact absurd H (by simp)
    ·rw [if_neg c3] at H
     have c3b0:decide (x3_1 < (a0.size:Int))=false:=df_ c3
     clear c3
     obtain rfl:=sj_ H
     go_wp2
     go_ret
     exact ⟨si_,by repeat (first|exact Drawn0.refl _|apply Drawn0.step)⟩


end Go.Proofs.YtdpklbomhdpimaaDoor.P
namespace Go.Proofs.YtdpklbomhdpimaaDoor.P
open Go.RowKit Go.Proofs.YtdpklbomhdpimaaDoorW.PrintWords Go.Proofs.YtdpklbomhdpimaaDoorW.PrintLast Go.Proofs.YtdpklbomhdpimaaDoorW.PrintMore
theorem quiet_d {P:Program} {f:FuncId} {args:Array Value} {w:World} {d n:Nat} {v:Value} (h:Calls P f args (w.drewN (d+n)) fun e w'=>e=.returned v∧Drawn0 (w.drewN (d+n)) w') :
  Calls P f args (w.drewN (d+n)) fun e w''=>e=.returned v∧∃ m,w''=w.drewN (d+m) :=
 h.mono fun _ _ ⟨he,⟨m,hm⟩⟩=>⟨he,n+m,by rw [hm,World.drewN_drewN,Nat.add_assoc]⟩
def impl_changeOf.f (k:Nat) (a0 a1 a2 a3:Int) (a4:ByteArray):Option Bool :=
 (impl_isMade.f a1).bind fun m=>if m=true then
  (if a0=1 then ((impl_placeOk.f a2 a3).bind fun p=>if p=true then impl_textOk.f k a4 else some false)
  else if a0=2 then (if a2=0 then (if a3=0 then impl_textOk.f k a4 else some false) else some false)
  else if a0=3 then ((impl_placeOk.f a2 a3).bind fun p=>if p=true then some (a4.toList.isEmpty) else some false)
  else some false) else some false
theorem impl_changeOf.mono (a0 a1 a2 a3:Int) (a4:ByteArray) (k:Nat):LeO (impl_changeOf.f k a0 a1 a2 a3 a4) (impl_changeOf.f (k+1) a0 a1 a2 a3 a4):=by
 unfold impl_changeOf.f
 repeat' first
   | (with_reducible exact impl_textOk.mono _ _)
   | (with_reducible exact LeO.refl _)
   | (with_reducible refine LeO.ite ?_ ?_)
   | (with_reducible refine LeO.bind ?_ (fun _=>?_))
def ChV (a0 a1 a2 a3:Int) (a4:ByteArray):Value :=
 if a0=1 then .iface 156 (.agg #[.int .i64 a1,.int .i64 a2,.int .i64 a3,.string a4])
 else if a0=2 then .iface 159 (.agg #[.int .i64 a1,.string a4])
 else .iface 161 (.agg #[.int .i64 a1,.int .i64 a2,.int .i64 a3])
def ChPost (w:World) (a0 a1 a2 a3:Int) (a4:ByteArray) (r:Bool) (e:Ending) (w':World):Prop :=
 ∃ v:Value,e=.returned (.tuple #[v,.bool r])∧(r=true→v=ChV a0 a1 a2 a3 a4)∧Below w.heap.size w w'
theorem below_box0 (w:World) (o:Obj):Below w.heap.size w (w.alloc o):=(Below.refl _ _).alloc (Nat.le_refl _) _
theorem changeOf_unmade (a0 a1 a2 a3:Int) (a4:ByteArray) (w:World) (hm:impl_isMade.f a1=some false) (hG:Glob w) :
  Calls Tryd.prog 92 #[.agg #[.int .i64 a0,.int .i64 a1,.int .i64 a2,.int .i64 a3,.string a4]] w (ChPost w a0 a1 a2 a3 a4 false):=by
 have hGa:Glob (w.alloc (.cells #[.int .i64 a0,.int .i64 a1,.int .i64 a2,.int .i64 a3,.string a4] 42)):=hG.below (below_box0 w _)
 have HG:=a_ hGa
 clear hGa hG
 have Hm:=a_ hm
 clear hm
 go_enter Tryd.func92,Tryd.ntmps92
 go_wp2_with (go_at_call 127;refine (impl_isMade.calls a1 _ _ Hm.out HG.out).mono ?_;rintro e w' ⟨rfl,⟨nd,rfl⟩⟩)
 go_ret2
 exact ⟨_,rfl,(fun h=>by cases h),by (with_reducible repeat (first|exact below_box0 w _|apply pw_below_drewN))⟩
theorem changeOf_make (k:Nat) (a0 a1 a2 a3:Int) (a4:ByteArray) (r:Bool) (w:World) (hm:impl_isMade.f a1=some true) (hp:impl_placeOk.f a2 a3=some true) (ht:impl_textOk.f k a4=some r) (h0:a0=1) (hG:Glob w) :
  Calls Tryd.prog 92 #[.agg #[.int .i64 a0,.int .i64 a1,.int .i64 a2,.int .i64 a3,.string a4]] w (ChPost w a0 a1 a2 a3 a4 r):=by
 have hGa:Glob (w.alloc (.cells #[.int .i64 a0,.int .i64 a1,.int .i64 a2,.int .i64 a3,.string a4] 42)):=hG.below (below_box0 w _)
 have HG:=a_ hGa
 clear hGa hG
 subst h0
 have Hm:=a_ hm
 have Hp:=a_ hp
 have Ht:=a_ ht
 clear hm hp ht
 go_enter Tryd.func92,Tryd.ntmps92
 go_wp2_with (go_at_call 127;refine (impl_isMade.calls a1 _ _ Hm.out HG.out).mono ?_;rintro e w' ⟨rfl,⟨nd,rfl⟩⟩)
 go_quiet ((first|(go_at_call 128;refine quiet_d (impl_placeOk.calls a2 a3 true _ Hp.out (by (with_reducible repeat (first|exact HG.out|apply Glob.drewN|apply Glob.drew)))))|(go_at_call 129;refine quiet_d (impl_textOk.calls k a4 r _ Ht.out))))
 go_wp2
 go_ret2
 exact ⟨_,rfl,fun _=>rfl,by (with_reducible repeat (first|exact below_box0 w _|apply pw_below_drewN))⟩
theorem changeOf_make_no (a0 a1 a2 a3:Int) (a4:ByteArray) (w:World) (hm:impl_isMade.f a1=some true) (hp:impl_placeOk.f a2 a3=some false) (h0:a0=1) (hG:Glob w) :
  Calls Tryd.prog 92 #[.agg #[.int .i64 a0,.int .i64 a1,.int .i64 a2,.int .i64 a3,.string a4]] w (ChPost w a0 a1 a2 a3 a4 false):=by
 have hGa:Glob (w.alloc (.cells #[.int .i64 a0,.int .i64 a1,.int .i64 a2,.int .i64 a3,.string a4] 42)):=hG.below (below_box0 w _)
 have HG:=a_ hGa
 clear hGa hG
 subst h0
 have Hm:=a_ hm
 have Hp:=a_ hp
 clear hm hp
 go_enter Tryd.func92,Tryd.ntmps92
 go_wp2_with (go_at_call 127;refine (impl_isMade.calls a1 _ _ Hm.out HG.out).mono ?_;rintro e w' ⟨rfl,⟨nd,rfl⟩⟩)
 go_quiet ((go_at_call 128;refine quiet_d (impl_placeOk.calls a2 a3 false _ Hp.out (by (with_reducible repeat (first|exact HG.out|apply Glob.drewN|apply Glob.drew))))))
 go_wp2
 go_ret2
 exact ⟨_,rfl,(fun h=>by cases h),by (with_reducible repeat (first|exact below_box0 w _|apply pw_below_drewN))⟩
theorem changeOf_text (k:Nat) (a0 a1 a2 a3:Int) (a4:ByteArray) (r:Bool) (w:World) (hm:impl_isMade.f a1=some true) (h2:a2=0) (h3:a3=0) (ht:impl_textOk.f k a4=some r) (h0:a0=2) (hG:Glob w) :
  Calls Tryd.prog 92 #[.agg #[.int .i64 a0,.int .i64 a1,.int .i64 a2,.int .i64 a3,.string a4]] w (ChPost w a0 a1 a2 a3 a4 r):=by
 have hGa:Glob (w.alloc (.cells #[.int .i64 a0,.int .i64 a1,.int .i64 a2,.int .i64 a3,.string a4] 42)):=hG.below (below_box0 w _)
 have HG:=a_ hGa
 clear hGa hG
 subst h0 h2 h3
 have Hm:=a_ hm
 have Ht:=a_ ht
 clear hm ht
 go_enter Tryd.func92,Tryd.ntmps92
 go_wp2_with (go_at_call 127;refine (impl_isMade.calls a1 _ _ Hm.out HG.out).mono ?_;rintro e w' ⟨rfl,⟨nd,rfl⟩⟩)
 go_quiet ((go_at_call 129;refine quiet_d (impl_textOk.calls k a4 r _ Ht.out)))
 go_wp2
 go_ret2
 exact ⟨_,rfl,fun _=>rfl,by (with_reducible repeat (first|exact below_box0 w _|apply pw_below_drewN))⟩
theorem changeOf_text_no2 (a0 a1 a2 a3:Int) (a4:ByteArray) (w:World) (hm:impl_isMade.f a1=some true) (h2:a2≠0) (h0:a0=2) (hG:Glob w) :
  Calls Tryd.prog 92 #[.agg #[.int .i64 a0,.int .i64 a1,.int .i64 a2,.int .i64 a3,.string a4]] w (ChPost w a0 a1 a2 a3 a4 false):=by
 have hGa:Glob (w.alloc (.cells #[.int .i64 a0,.int .i64 a1,.int .i64 a2,.int .i64 a3,.string a4] 42)):=hG.below (below_box0 w _)
 have HG:=a_ hGa
 clear hGa hG
 subst h0
 have e2:(a2==0)=false:=beq_eq_false_iff_ne.2 h2
 clear h2
 have Hm:=a_ hm
 clear hm
 go_enter Tryd.func92,Tryd.ntmps92
 go_wp2_with (go_at_call 127;refine (impl_isMade.calls a1 _ _ Hm.out HG.out).mono ?_;rintro e w' ⟨rfl,⟨nd,rfl⟩⟩)
 go_quiet (fail)
 go_wp2
 go_ret2
 exact ⟨_,rfl,(fun h=>by cases h),by (with_reducible repeat (first|exact below_box0 w _|apply pw_below_drewN))⟩
theorem changeOf_text_no3 (a0 a1 a2 a3:Int) (a4:ByteArray) (w:World) (hm:impl_isMade.f a1=some true) (h2:a2=0) (h3:a3≠0) (h0:a0=2) (hG:Glob w) :
  Calls Tryd.prog 92 #[.agg #[.int .i64 a0,.int .i64 a1,.int .i64 a2,.int .i64 a3,.string a4]] w (ChPost w a0 a1 a2 a3 a4 false):=by
 have hGa:Glob (w.alloc (.cells #[.int .i64 a0,.int .i64 a1,.int .i64 a2,.int .i64 a3,.string a4] 42)):=hG.below (below_box0 w _)
 have HG:=a_ hGa
 clear hGa hG
 subst h0 h2
 have e3:(a3==0)=false:=beq_eq_false_iff_ne.2 h3
 clear h3
 have Hm:=a_ hm
 clear hm
 go_enter Tryd.func92,Tryd.ntmps92
 go_wp2_with (go_at_call 127;refine (impl_isMade.calls a1 _ _ Hm.out HG.out).mono ?_;rintro e w' ⟨rfl,⟨nd,rfl⟩⟩)
 go_quiet (fail)
 go_wp2
 go_ret2
 exact ⟨_,rfl,(fun h=>by cases h),by (with_reducible repeat (first|exact below_box0 w _|apply pw_below_drewN))⟩
theorem changeOf_move (a0 a1 a2 a3:Int) (a4:ByteArray) (w:World) (hm:impl_isMade.f a1=some true) (hp:impl_placeOk.f a2 a3=some true) (h0:a0=3) (hG:Glob w) :
  Calls Tryd.prog 92 #[.agg #[.int .i64 a0,.int .i64 a1,.int .i64 a2,.int .i64 a3,.string a4]] w (ChPost w a0 a1 a2 a3 a4 a4.toList.isEmpty):=by
 have hGa:Glob (w.alloc (.cells #[.int .i64 a0,.int .i64 a1,.int .i64 a2,.int .i64 a3,.string a4] 42)):=hG.below (below_box0 w _)
 have HG:=a_ hGa
 clear hGa hG
 subst h0
 have Hm:=a_ hm
 have Hp:=a_ hp
 clear hm hp
 go_enter Tryd.func92,Tryd.ntmps92
 go_wp2_with (go_at_call 127;refine (impl_isMade.calls a1 _ _ Hm.out HG.out).mono ?_;rintro e w' ⟨rfl,⟨nd,rfl⟩⟩)
 go_quiet ((go_at_call 128;refine quiet_d (impl_placeOk.calls a2 a3 true _ Hp.out (by (with_reducible repeat (first|exact HG.out|apply Glob.drewN|apply Glob.drew))))))
 go_wp2
 go_ret2
 exact ⟨_,rfl,fun _=>rfl,by (with_reducible repeat (first|exact below_box0 w _|apply pw_below_drewN))⟩
theorem changeOf_move_no (a0 a1 a2 a3:Int) (a4:ByteArray) (w:World) (hm:impl_isMade.f a1=some true) (hp:impl_placeOk.f a2 a3=some false) (h0:a0=3) (hG:Glob w) :
  Calls Tryd.prog 92 #[.agg #[.int .i64 a0,.int .i64 a1,.int .i64 a2,.int .i64 a3,.string a4]] w (ChPost w a0 a1 a2 a3 a4 false):=by
 have hGa:Glob (w.alloc (.cells #[.int .i64 a0,.int .i64 a1,.int .i64 a2,.int .i64 a3,.string a4] 42)):=hG.below (below_box0 w _)
 have HG:=a_ hGa
 clear hGa hG
 subst h0
 have Hm:=a_ hm
 have Hp:=a_ hp
 clear hm hp
 go_enter Tryd.func92,Tryd.ntmps92
 go_wp2_with (go_at_call 127;refine (impl_isMade.calls a1 _ _ Hm.out HG.out).mono ?_;rintro e w' ⟨rfl,⟨nd,rfl⟩⟩)
 go_quiet ((go_at_call 128;refine quiet_d (impl_placeOk.calls a2 a3 false _ Hp.out (by (with_reducible repeat (first|exact HG.out|apply Glob.drewN|apply Glob.drew))))))
 go_wp2
 go_ret2
 exact ⟨_,rfl,(fun h=>by cases h),by (with_reducible repeat (first|exact below_box0 w _|apply pw_below_drewN))⟩
theorem changeOf_kind (a0 a1 a2 a3:Int) (a4:ByteArray) (w:World) (hm:impl_isMade.f a1=some true) (h1:a0≠1) (h2:a0≠2) (h3:a0≠3) (hG:Glob w) :
  Calls Tryd.prog 92 #[.agg #[.int .i64 a0,.int .i64 a1,.int .i64 a2,.int .i64 a3,.string a4]] w (ChPost w a0 a1 a2 a3 a4 false):=by
 have hGa:Glob (w.alloc (.cells #[.int .i64 a0,.int .i64 a1,.int .i64 a2,.int .i64 a3,.string a4] 42)):=hG.below (below_box0 w _)
 have HG:=a_ hGa
 clear hGa hG
 have e1:(a0==1)=false:=beq_eq_false_iff_ne.2 h1
 have e2:(a0==2)=false:=beq_eq_false_iff_ne.2 h2
 have e3:(a0==3)=false:=beq_eq_false_iff_ne.2 h3
 clear h1 h2 h3
 have Hm:=a_ hm
 clear hm
 go_enter Tryd.func92,Tryd.ntmps92
 go_wp2_with (go_at_call 127;refine (impl_isMade.calls a1 _ _ Hm.out HG.out).mono ?_;rintro e w' ⟨rfl,⟨nd,rfl⟩⟩)
 go_ret2
 exact ⟨_,rfl,(fun h=>by cases h),by (with_reducible repeat (first|exact below_box0 w _|apply pw_below_drewN))⟩
theorem impl_changeOf.calls (k:Nat) (a0 a1 a2 a3:Int) (a4:ByteArray) (r:Bool) (w:World) (h:impl_changeOf.f k a0 a1 a2 a3 a4=some r) (hG:Glob w) :
  Calls Tryd.prog 92 #[.agg #[.int .i64 a0,.int .i64 a1,.int .i64 a2,.int .i64 a3,.string a4]] w (ChPost w a0 a1 a2 a3 a4 r):=by
 unfold impl_changeOf.f at h
 obtain ⟨m,hm,h⟩:=Option.bind_eq_some_iff.1 h
 cases m with
 | false =>
  simp only [Bool.false_eq_true,if_false,Option.some.injEq] at h
  subst h
  exact changeOf_unmade a0 a1 a2 a3 a4 w hm hG
 | true =>
  simp only [if_true] at h
  by_cases h1:a0=1
  ·rw [if_pos h1] at h
   obtain ⟨p,hp,h⟩:=Option.bind_eq_some_iff.1 h
   cases p with
   | false =>
    simp only [Bool.false_eq_true,if_false,Option.some.injEq] at h
    subst h
    exact changeOf_make_no a0 a1 a2 a3 a4 w hm hp h1 hG
   | true =>
    simp only [if_true] at h
    exact changeOf_make k a0 a1 a2 a3 a4 r w hm hp h h1 hG
  ·rw [if_neg h1] at h
   by_cases h2:a0=2
   ·rw [if_pos h2] at h
    by_cases g2:a2=0
    ·rw [if_pos g2] at h
     by_cases g3:a3=0
     ·rw [if_pos g3] at h
      exact changeOf_text k a0 a1 a2 a3 a4 r w hm g2 g3 h h2 hG
     ·rw [if_neg g3] at h
      simp only [Option.some.injEq] at h
      subst h
      exact changeOf_text_no3 a0 a1 a2 a3 a4 w hm g2 g3 h2 hG
    ·rw [if_neg g2] at h
     simp only [Option.some.injEq] at h
     subst h
     exact changeOf_text_no2 a0 a1 a2 a3 a4 w hm g2 h2 hG
   ·rw [if_neg h2] at h
    by_cases h3:a0=3
    ·rw [if_pos h3] at h
     obtain ⟨p,hp,h⟩:=Option.bind_eq_some_iff.1 h
     cases p with
     | false =>
      simp only [Bool.false_eq_true,if_false,Option.some.injEq] at h
      subst h
      exact changeOf_move_no a0 a1 a2 a3 a4 w hm hp h3 hG
     | true =>
      simp only [if_true,Option.some.injEq] at h
      subst h
      exact changeOf_move a0 a1 a2 a3 a4 w hm hp h3 hG
    ·rw [if_neg h3] at h
     simp only [Option.some.injEq] at h
     subst h
     exact changeOf_kind a0 a1 a2 a3 a4 w hm h1 h2 h3 hG
def impl_OpOk.f (k:Nat) (a0 a1 a2 a3:Int) (a4:ByteArray):Option Bool:=impl_changeOf.f k a0 a1 a2 a3 a4
theorem impl_OpOk.mono (a0 a1 a2 a3:Int) (a4:ByteArray) (k:Nat):LeO (impl_OpOk.f k a0 a1 a2 a3 a4) (impl_OpOk.f (k+1) a0 a1 a2 a3 a4):=impl_changeOf.mono a0 a1 a2 a3 a4 k
theorem impl_OpOk.calls (k:Nat) (a0_0 a0_1 a0_2 a0_3:Int) (a0_4:ByteArray) (r:Bool) (w:World) (h:impl_OpOk.f k a0_0 a0_1 a0_2 a0_3 a0_4=some r) (hG:Glob w) :
  Calls Tryd.prog 116 #[.agg #[.int .i64 a0_0,.int .i64 a0_1,.int .i64 a0_2,.int .i64 a0_3,.string a0_4]] w fun e w'=>e=.returned (.bool r)∧Below w.heap.size w w':=by
 have hGa:Glob (w.alloc (.cells #[.int .i64 a0_0,.int .i64 a0_1,.int .i64 a0_2,.int .i64 a0_3,.string a0_4] 42)):=hG.below (below_box0 w _)
 have HG:=a_ hGa
 have HH:=a_ h
 clear hGa hG h
 have hu:=Tryd.underlying42
 go_enter Tryd.func116,Tryd.ntmps116
 go_wp2_with (go_at_call 92;refine (impl_changeOf.calls k a0_0 a0_1 a0_2 a0_3 a0_4 r _ HH.out HG.out).mono ?_;rintro e w1 ⟨v,rfl,_,hb⟩;have HB:=a_ hb;clear hb)
 go_ret
 exact ⟨rfl,(below_box0 w _).trans (HB.out.mono (by simp))⟩
end Go.Proofs.YtdpklbomhdpimaaDoor.P
namespace Go.Proofs.YtdpklbomhdpimaaDoor.P
open Go.RowKit Go.Proofs.YtdpklbomhdpimaaDoorW.PrintWords Go.Proofs.YtdpklbomhdpimaaDoorW.PrintLast
def impl_EntryOk.f (k:Nat) (a0_0:Int) (a0_1:Int) (a0_2:Int) (a0_3:Int) (a0_4:Int) (a0_5:Int) (a0_6:ByteArray):Option (Bool):=(impl_whoOk.f a0_0).bind fun t405=>(if t405=true then (if a0_1 < 1 then (some false) else (if a0_1 > 40 then (some false) else ((impl_OpOk.f k a0_2 a0_3 a0_4 a0_5 a0_6).bind fun t406=>(if t406=true then ((impl_RowWho.f a0_3).bind fun bt407=>(if a0_2=1 then (some (bt407.1==a0_0)) else (some true))) else (some false))))) else (some false))
theorem impl_EntryOk.mono:∀ a0 a1 a2 a3 a4 a5 a6 k,LeO (impl_EntryOk.f k a0 a1 a2 a3 a4 a5 a6) (impl_EntryOk.f (k+1) a0 a1 a2 a3 a4 a5 a6):=by
 intro a0 a1 a2 a3 a4 a5 a6 k
 unfold impl_EntryOk.f
 repeat' first
   | (with_reducible exact impl_OpOk.mono _ _ _ _ _ _)
   | (with_reducible exact LeO.refl _)
   | (with_reducible exact LeO.none _)
   | (with_reducible refine LeO.ite ?_ ?_)
   | (with_reducible refine LeO.bind ?_ (fun _=>?_))
   | exact impl_OpOk.mono _ _ _ _ _ _
   | exact LeO.none _
   | refine LeO.ite ?_ ?_
   | refine LeO.bind ?_ (fun _=>?_)
theorem impl_EntryOk.calls (k:Nat) (a0_0:Int) (a0_1:Int) (a0_2:Int) (a0_3:Int) (a0_4:Int) (a0_5:Int) (a0_6:ByteArray) (r:Bool) (w:World) (h:impl_EntryOk.f k a0_0 a0_1 a0_2 a0_3 a0_4 a0_5 a0_6=some r) (hG:Glob w) :
  Calls Tryd.prog 78 #[.agg #[.int .i64 a0_0,.int .i64 a0_1,.int .i64 a0_2,.int .i64 a0_3,.int .i64 a0_4,.int .i64 a0_5,.string a0_6]] w fun e w'=>e=.returned (.bool r)∧Below w.heap.size w w':=by
 have hu44:=Tryd.underlying44
 have hu42:=Tryd.underlying42
 have HB:=a_ (Below.refl w.heap.size w)
 have HG:=a_ hG
 clear hG
 unfold impl_EntryOk.f at h
 have H:=h
 clear h
 replace H:=bs_ H
 obtain ⟨t405,A20,H⟩:=H
 try dsimp only at H
 have A2:=a_ A20
 clear A20
 by_cases c3:t405=true
 ·subst c3
  have H1:(if a0_1 < 1 then (some false) else (if a0_1 > 40 then (some false) else ((impl_OpOk.f k a0_2 a0_3 a0_4 a0_5 a0_6).bind fun t406=>(if t406=true then ((impl_RowWho.f a0_3).bind fun bt407=>(if a0_2=1 then (some (bt407.1==a0_0)) else (some true))) else (some false)))))=some r:=by rw [if_pos rfl] at H;exact H
  clear H
  have H:=H1
  clear H1
  by_cases c4:a0_1 < 1
  ·rw [if_pos c4] at H
   have c4b0:decide (a0_1 < 1)=true:=dt_ c4
   clear c4
   obtain rfl:=sj_ H
   go_enter Tryd.func78,Tryd.ntmps78
   go_wp2_with (first|((with_reducible refine gD_ (N:=1) rfl ?_);refine bx_ 1 (#[.int .i64 a0_0,.int .i64 a0_1,.int .i64 a0_2,.int .i64 a0_3,.int .i64 a0_4,.int .i64 a0_5,.string a0_6]) 44 ?_;intro gb404 hg w5 hbox hb;have n0_:=a_ (bS_ (bel_) hb);have n1_:=a_ (hbox);have n2_:=a_ ((by rw [hg];exact (below_size (bel_)):w.heap.size≤gb404));have n3_:=a_ ((by rw [hg];exact (below_size (bel_)):w.heap.size≤gb404));clear HB;have HB:=n0_;have BK404:=n1_;have GW404:=n2_;have GE404:=n3_;clear n0_ n1_ n2_ n3_;clear hb hbox hg;have Z6_0:=cz_ BK404.out 0 (.int .i64 a0_0);have Z6_1:=cz_ BK404.out 1 (.int .i64 a0_1);have Z6_2:=cz_ BK404.out 2 (.int .i64 a0_2);have Z6_3:=cz_ BK404.out 3 (.int .i64 a0_3);have Z6_4:=cz_ BK404.out 4 (.int .i64 a0_4);have Z6_5:=cz_ BK404.out 5 (.int .i64 a0_5);have Z6_6:=cz_ BK404.out 6 (.string a0_6);have Y6_0:=bF_ BK404.out 0;have Y6_1:=bF_ BK404.out 1;have Y6_2:=bF_ BK404.out 2;have Y6_3:=bF_ BK404.out 3;have Y6_4:=bF_ BK404.out 4;have Y6_5:=bF_ BK404.out 5;have Y6_6:=bF_ BK404.out 6)|((with_reducible refine gC_ (f:=104) rfl ?_);refine gl_ 7 Tryd.func104 #[.int .i64 a0_0] ?_;(with_reducible refine (impl_whoOk.calls a0_0 true _ A2.out).mono ?_);rintro e w' ⟨rfl,⟨nd,rfl⟩⟩;refine ⟨_,rfl,?_⟩))
   go_ret
   exact ⟨fi_,bel_⟩
  ·rw [if_neg c4] at H
   have c4b0:decide (a0_1 < 1)=false:=df_ c4
   clear c4
   by_cases c7:a0_1 > 40
   ·rw [if_pos c7] at H
    have c7b0:decide (40 < a0_1)=true:=dt_ c7
    clear c7
    obtain rfl:=sj_ H
    go_enter Tryd.func78,Tryd.ntmps78
    go_wp2_with (first|((with_reducible refine gD_ (N:=1) rfl ?_);refine bx_ 1 (#[.int .i64 a0_0,.int .i64 a0_1,.int .i64 a0_2,.int .i64 a0_3,.int .i64 a0_4,.int .i64 a0_5,.string a0_6]) 44 ?_;intro gb404 hg w8 hbox hb;have n0_:=a_ (bS_ (bel_) hb);have n1_:=a_ (hbox);have n2_:=a_ ((by rw [hg];exact (below_size (bel_)):w.heap.size≤gb404));have n3_:=a_ ((by rw [hg];exact (below_size (bel_)):w.heap.size≤gb404));clear HB;have HB:=n0_;have BK404:=n1_;have GW404:=n2_;have GE404:=n3_;clear n0_ n1_ n2_ n3_;clear hb hbox hg;have Z9_0:=cz_ BK404.out 0 (.int .i64 a0_0);have Z9_1:=cz_ BK404.out 1 (.int .i64 a0_1);have Z9_2:=cz_ BK404.out 2 (.int .i64 a0_2);have Z9_3:=cz_ BK404.out 3 (.int .i64 a0_3);have Z9_4:=cz_ BK404.out 4 (.int .i64 a0_4);have Z9_5:=cz_ BK404.out 5 (.int .i64 a0_5);have Z9_6:=cz_ BK404.out 6 (.string a0_6);have Y9_0:=bF_ BK404.out 0;have Y9_1:=bF_ BK404.out 1;have Y9_2:=bF_ BK404.out 2;have Y9_3:=bF_ BK404.out 3;have Y9_4:=bF_ BK404.out 4;have Y9_5:=bF_ BK404.out 5;have Y9_6:=bF_ BK404.out 6)|((with_reducible refine gC_ (f:=104) rfl ?_);refine gl_ 7 Tryd.func104 #[.int .i64 a0_0] ?_;(with_reducible refine (impl_whoOk.calls a0_0 true _ A2.out).mono ?_);rintro e w' ⟨rfl,⟨nd,rfl⟩⟩;refine ⟨_,rfl,?_⟩))
    go_ret
    exact ⟨fi_,bel_⟩
   ·rw [if_neg c7] at H
    have c7b0:decide (40 < a0_1)=false:=df_ c7
    clear c7
    replace H:=bs_ H
    obtain ⟨t406,A100,H⟩:=H
    try dsimp only at H
    have A10:=a_ A100
    clear A100
    by_cases c11:t406=true
    ·subst c11
     have H1:((impl_RowWho.f a0_3).bind fun bt407=>(if a0_2=1 then (some (bt407.1==a0_0)) else (some true)))=some r:=by rw [if_pos rfl] at H;exact H
     clear H
     have H:=H1
     clear H1
     replace H:=bs_ H
     obtain ⟨⟨t407,t408⟩,A120,H⟩:=H
     try dsimp only at H
     have A12:=a_ A120
     clear A120
     by_cases c13:a0_2=1
     ·rw [if_pos c13] at H
      have c13b0:(a0_2==1)=true:=beq_iff_eq.mpr c13
      have c13b1:(a0_2 != 1)=false:=be_ c13
      clear c13
      obtain rfl:=sj_ H
      go_enter Tryd.func78,Tryd.ntmps78
      go_wp2_with (first|((with_reducible refine gD_ (N:=1) rfl ?_);refine bx_ 1 (#[.int .i64 a0_0,.int .i64 a0_1,.int .i64 a0_2,.int .i64 a0_3,.int .i64 a0_4,.int .i64 a0_5,.string a0_6]) 44 ?_;intro gb404 hg w14 hbox hb;have n0_:=a_ (bS_ (bel_) hb);have n1_:=a_ (hbox);have n2_:=a_ ((by rw [hg];exact (below_size (bel_)):w.heap.size≤gb404));have n3_:=a_ ((by rw [hg];exact (below_size (bel_)):w.heap.size≤gb404));clear HB;have HB:=n0_;have BK404:=n1_;have GW404:=n2_;have GE404:=n3_;clear n0_ n1_ n2_ n3_;clear hb hbox hg;have Z15_0:=cz_ BK404.out 0 (.int .i64 a0_0);have Z15_1:=cz_ BK404.out 1 (.int .i64 a0_1);have Z15_2:=cz_ BK404.out 2 (.int .i64 a0_2);have Z15_3:=cz_ BK404.out 3 (.int .i64 a0_3);have Z15_4:=cz_ BK404.out 4 (.int .i64 a0_4);have Z15_5:=cz_ BK404.out 5 (.int .i64 a0_5);have Z15_6:=cz_ BK404.out 6 (.string a0_6);have Y15_0:=bF_ BK404.out 0;have Y15_1:=bF_ BK404.out 1;have Y15_2:=bF_ BK404.out 2;have Y15_3:=bF_ BK404.out 3;have Y15_4:=bF_ BK404.out 4;have Y15_5:=bF_ BK404.out 5;have Y15_6:=bF_ BK404.out 6)|((with_reducible refine gC_ (f:=104) rfl ?_);refine gl_ 7 Tryd.func104 #[.int .i64 a0_0] ?_;(with_reducible refine (impl_whoOk.calls a0_0 true _ A2.out).mono ?_);rintro e w' ⟨rfl,⟨nd,rfl⟩⟩;refine ⟨_,rfl,?_⟩)|(go_at_call 116;(with_reducible refine (impl_OpOk.calls k a0_2 a0_3 a0_4 a0_5 a0_6 true _ A10.out ?side1).mono ?_);(case side1=>exact Glob.below HG.out (bel_));rintro e w16 ⟨rfl,hb⟩;replace HB:=a_ (bS_ (bel_) hb);replace BK404:=a_ (bb_ BK404.out hb);(try clear hb);have Z17_0:=cz_ BK404.out 0 (.int .i64 a0_0);have Z17_1:=cz_ BK404.out 1 (.int .i64 a0_1);have Z17_2:=cz_ BK404.out 2 (.int .i64 a0_2);have Z17_3:=cz_ BK404.out 3 (.int .i64 a0_3);have Z17_4:=cz_ BK404.out 4 (.int .i64 a0_4);have Z17_5:=cz_ BK404.out 5 (.int .i64 a0_5);have Z17_6:=cz_ BK404.out 6 (.string a0_6);have Y17_0:=bF_ BK404.out 0;have Y17_1:=bF_ BK404.out 1;have Y17_2:=bF_ BK404.out 2;have Y17_3:=bF_ BK404.out 3;have Y17_4:=bF_ BK404.out 4;have Y17_5:=bF_ BK404.out 5;have Y17_6:=bF_ BK404.out 6)|((with_reducible refine gC_ (f:=117) rfl ?_);refine gl_ 29 Tryd.func117 #[.int .i64 a0_3] ?_;(with_reducible refine (impl_RowWho.calls a0_3 t407 t408 _ A12.out ?side1).mono ?_);(case side1=>exact Glob.below HG.out (bel_));rintro e w' ⟨rfl,⟨nd,rfl⟩⟩;refine ⟨_,rfl,?_⟩))
      go_ret
      exact ⟨fi_,bel_⟩
     ·rw [if_neg c13] at H
      have c13b0:(a0_2==1)=false:=bn_ c13
      have c13b1:(a0_2 != 1)=true:=bne_iff_ne.mpr c13
      obtain rfl:=sj_ H
      go_enter Tryd.func78,Tryd.ntmps78
      go_wp2_with (first|((with_reducible refine gD_ (N:=1) rfl ?_);refine bx_ 1 (#[.int .i64 a0_0,.int .i64 a0_1,.int .i64 a0_2,.int .i64 a0_3,.int .i64 a0_4,.int .i64 a0_5,.string a0_6]) 44 ?_;intro gb404 hg w18 hbox hb;have n0_:=a_ (bS_ (bel_) hb);have n1_:=a_ (hbox);have n2_:=a_ ((by rw [hg];exact (below_size (bel_)):w.heap.size≤gb404));have n3_:=a_ ((by rw [hg];exact (below_size (bel_)):w.heap.size≤gb404));clear HB;have HB:=n0_;have BK404:=n1_;have GW404:=n2_;have GE404:=n3_;clear n0_ n1_ n2_ n3_;clear hb hbox hg;have Z19_0:=cz_ BK404.out 0 (.int .i64 a0_0);have Z19_1:=cz_ BK404.out 1 (.int .i64 a0_1);have Z19_2:=cz_ BK404.out 2 (.int .i64 a0_2);have Z19_3:=cz_ BK404.out 3 (.int .i64 a0_3);have Z19_4:=cz_ BK404.out 4 (.int .i64 a0_4);have Z19_5:=cz_ BK404.out 5 (.int .i64 a0_5);have Z19_6:=cz_ BK404.out 6 (.string a0_6);have Y19_0:=bF_ BK404.out 0;have Y19_1:=bF_ BK404.out 1;have Y19_2:=bF_ BK404.out 2;have Y19_3:=bF_ BK404.out 3;have Y19_4:=bF_ BK404.out 4;have Y19_5:=bF_ BK404.out 5;have Y19_6:=bF_ BK404.out 6)|((with_reducible refine gC_ (f:=104) rfl ?_);refine gl_ 7 Tryd.func104 #[.int .i64 a0_0] ?_;(with_reducible refine (impl_whoOk.calls a0_0 true _ A2.out).mono ?_);rintro e w' ⟨rfl,⟨nd,rfl⟩⟩;refine ⟨_,rfl,?_⟩)|(go_at_call 116;(with_reducible refine (impl_OpOk.calls k a0_2 a0_3 a0_4 a0_5 a0_6 true _ A10.out ?side1).mono ?_);(case side1=>exact Glob.below HG.out (bel_));rintro e w20 ⟨rfl,hb⟩;replace HB:=a_ (bS_ (bel_) hb);replace BK404:=a_ (bb_ BK404.out hb);(try clear hb);have Z21_0:=cz_ BK404.out 0 (.int .i64 a0_0);have Z21_1:=cz_ BK404.out 1 (.int .i64 a0_1);have Z21_2:=cz_ BK404.out 2 (.int .i64 a0_2);have Z21_3:=cz_ BK404.out 3 (.int .i64 a0_3);have Z21_4:=cz_ BK404.out 4 (.int .i64 a0_4);have Z21_5:=cz_ BK404.out 5 (.int .i64 a0_5);have Z21_6:=cz_ BK404.out 6 (.string a0_6);have Y21_0:=bF_ BK404.out 0;have Y21_1:=bF_ BK404.out 1;have Y21_2:=bF_ BK404.out 2;have Y21_3:=bF_ BK404.out 3;have Y21_4:=bF_ BK404.out 4;have Y21_5:=bF_ BK404.out 5;have Y21_6:=bF_ BK404.out 6)|((with_reducible refine gC_ (f:=117) rfl ?_);refine gl_ 29 Tryd.func117 #[.int .i64 a0_3] ?_;(with_reducible refine (impl_RowWho.calls a0_3 t407 t408 _ A12.out ?side1).mono ?_);(case side1=>exact Glob.below HG.out (bel_));rintro e w' ⟨rfl,⟨nd,rfl⟩⟩;refine ⟨_,rfl,?_⟩))
      go_ret
      exact ⟨fi_,bel_⟩
    ·replace c11:=Bool.eq_false_iff.mpr c11
     subst c11
     have H1:(some false)=some r:=by rw [if_neg (show ¬ (false=true) by decide)] at H;exact H
     clear H
     have H:=H1
     clear H1
     obtain rfl:=sj_ H
     go_enter Tryd.func78,Tryd.ntmps78
     go_wp2_with (first|((with_reducible refine gD_ (N:=1) rfl ?_);refine bx_ 1 (#[.int .i64 a0_0,.int .i64 a0_1,.int .i64 a0_2,.int .i64 a0_3,.int .i64 a0_4,.int .i64 a0_5,.string a0_6]) 44 ?_;intro gb404 hg w22 hbox hb;have n0_:=a_ (bS_ (bel_) hb);have n1_:=a_ (hbox);have n2_:=a_ ((by rw [hg];exact (below_size (bel_)):w.heap.size≤gb404));have n3_:=a_ ((by rw [hg];exact (below_size (bel_)):w.heap.size≤gb404));clear HB;have HB:=n0_;have BK404:=n1_;have GW404:=n2_;have GE404:=n3_;clear n0_ n1_ n2_ n3_;clear hb hbox hg;have Z23_0:=cz_ BK404.out 0 (.int .i64 a0_0);have Z23_1:=cz_ BK404.out 1 (.int .i64 a0_1);have Z23_2:=cz_ BK404.out 2 (.int .i64 a0_2);have Z23_3:=cz_ BK404.out 3 (.int .i64 a0_3);have Z23_4:=cz_ BK404.out 4 (.int .i64 a0_4);have Z23_5:=cz_ BK404.out 5 (.int .i64 a0_5);have Z23_6:=cz_ BK404.out 6 (.string a0_6);have Y23_0:=bF_ BK404.out 0;have Y23_1:=bF_ BK404.out 1;have Y23_2:=bF_ BK404.out 2;have Y23_3:=bF_ BK404.out 3;have Y23_4:=bF_ BK404.out 4;have Y23_5:=bF_ BK404.out 5;have Y23_6:=bF_ BK404.out 6)|((with_reducible refine gC_ (f:=104) rfl ?_);refine gl_ 7 Tryd.func104 #[.int .i64 a0_0] ?_;(with_reducible refine (impl_whoOk.calls a0_0 true _ A2.out).mono ?_);rintro e w' ⟨rfl,⟨nd,rfl⟩⟩;refine ⟨_,rfl,?_⟩)|(go_at_call 116;(with_reducible refine (impl_OpOk.calls k a0_2 a0_3 a0_4 a0_5 a0_6 false _ A10.out ?side1).mono ?_);(case side1=>exact Glob.below HG.out (bel_));rintro e w24 ⟨rfl,hb⟩;replace HB:=a_ (bS_ (bel_) hb);replace BK404:=a_ (bb_ BK404.out hb);(try clear hb)))
     go_ret
     exact ⟨fi_,bel_⟩
 ·replace c3:=Bool.eq_false_iff.mpr c3
  subst c3
  have H1:(some false)=some r:=by rw [if_neg (show ¬ (false=true) by decide)] at H;exact H
  clear H
  have H:=H1
  clear H1
  obtain rfl:=sj_ H
  go_enter Tryd.func78,Tryd.ntmps78
  go_wp2_with (first|((with_reducible refine gD_ (N:=1) rfl ?_);refine bx_ 1 (#[.int .i64 a0_0,.int .i64 a0_1,.int .i64 a0_2,.int .i64 a0_3,.int .i64 a0_4,.int .i64 a0_5,.string a0_6]) 44 ?_;intro gb404 hg w25 hbox hb;have n0_:=a_ (bS_ (bel_) hb);have n1_:=a_ (hbox);have n2_:=a_ ((by rw [hg];exact (below_size (bel_)):w.heap.size≤gb404));have n3_:=a_ ((by rw [hg];exact (below_size (bel_)):w.heap.size≤gb404));clear HB;have HB:=n0_;have BK404:=n1_;have GW404:=n2_;have GE404:=n3_;clear n0_ n1_ n2_ n3_;clear hb hbox hg;have Z26_0:=cz_ BK404.out 0 (.int .i64 a0_0);have Z26_1:=cz_ BK404.out 1 (.int .i64 a0_1);have Z26_2:=cz_ BK404.out 2 (.int .i64 a0_2);have Z26_3:=cz_ BK404.out 3 (.int .i64 a0_3);have Z26_4:=cz_ BK404.out 4 (.int .i64 a0_4);have Z26_5:=cz_ BK404.out 5 (.int .i64 a0_5);have Z26_6:=cz_ BK404.out 6 (.string a0_6);have Y26_0:=bF_ BK404.out 0;have Y26_1:=bF_ BK404.out 1;have Y26_2:=bF_ BK404.out 2;have Y26_3:=bF_ BK404.out 3;have Y26_4:=bF_ BK404.out 4;have Y26_5:=bF_ BK404.out 5;have Y26_6:=bF_ BK404.out 6)|((with_reducible refine gC_ (f:=104) rfl ?_);refine gl_ 7 Tryd.func104 #[.int .i64 a0_0] ?_;(with_reducible refine (impl_whoOk.calls a0_0 false _ A2.out).mono ?_);rintro e w' ⟨rfl,⟨nd,rfl⟩⟩;refine ⟨_,rfl,?_⟩))
  go_ret
  exact ⟨fi_,bel_⟩


end Go.Proofs.YtdpklbomhdpimaaDoor.P
