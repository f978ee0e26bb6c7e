/- Joined by a program (wip/shake.py): the declarations that 'YtdpklbomhdpimaaDoorCardFnHear' reaches. -/
import Derived.Test.YtdpklbomhdpimaaDoorZLh7
set_option linter.unusedVariables false
set_option linter.unusedSimpArgs false
set_option linter.unusedSectionVars false
set_option maxHeartbeats 8000000
set_option maxRecDepth 100000
namespace Go.Proofs.YtdpklbomhdpimaaDoor.P
open Go.RowKit Go.Proofs.YtdpklbomhdpimaaDoorW.PrintWords Go.Proofs.YtdpklbomhdpimaaDoorW.PrintLast Go.Proofs.YtdpklbomhdpimaaDoorW.PrintMore
theorem bk3_ {W:World} {g:Nat} {t:TypeId} {a0 a1 a2 b0 b1 b2:Value} (h:W.heap[g]?=some (.cells #[b0,b1,b2] t (0,0))):(((W.setCell ⟨g,0,none⟩ a0).setCell ⟨g,1,none⟩ a1).setCell ⟨g,2,none⟩ a2).heap[g]?=some (.cells #[a0,a1,a2] t (0,0)):=blk_put (cs:=#[a0,a1,b2]) (blk_put (cs:=#[a0,b1,b2]) (blk_put (cs:=#[b0,b1,b2]) h 0 _ rfl) 1 _ rfl) 2 _ rfl
theorem bk7_ {W:World} {g:Nat} {t:TypeId} {a0 a1 a2 a3 a4 a5 a6 b0 b1 b2 b3 b4 b5 b6:Value} (h:W.heap[g]?=some (.cells #[b0,b1,b2,b3,b4,b5,b6] t (0,0))):(((((((W.setCell ⟨g,0,none⟩ a0).setCell ⟨g,1,none⟩ a1).setCell ⟨g,2,none⟩ a2).setCell ⟨g,3,none⟩ a3).setCell ⟨g,4,none⟩ a4).setCell ⟨g,5,none⟩ a5).setCell ⟨g,6,none⟩ a6).heap[g]?=some (.cells #[a0,a1,a2,a3,a4,a5,a6] t (0,0)):=blk_put (cs:=#[a0,a1,a2,a3,a4,a5,b6]) (blk_put (cs:=#[a0,a1,a2,a3,a4,b5,b6]) (blk_put (cs:=#[a0,a1,a2,a3,b4,b5,b6]) (blk_put (cs:=#[a0,a1,a2,b3,b4,b5,b6]) (blk_put (cs:=#[a0,a1,b2,b3,b4,b5,b6]) (blk_put (cs:=#[a0,b1,b2,b3,b4,b5,b6]) (blk_put (cs:=#[b0,b1,b2,b3,b4,b5,b6]) h 0 _ rfl) 1 _ rfl) 2 _ rfl) 3 _ rfl) 4 _ rfl) 5 _ rfl) 6 _ rfl
theorem fp1_ {p q m0:Prop} (a0:m0) (h:p) (f:p→m0→q:=by intro h_ n0_;(with_reducible repeat (first|refine bN_ ?_ _|refine bD_ ?_|refine bA_ ?_ _|refine blk_far ?_ n0_ _));exact h_):q:=f h a0
theorem k3p_ {p q:Prop} (h:p) (f:p→q:=by intro h_;(with_reducible repeat (first|refine bN_ ?_ _|refine bD_ ?_|refine bA_ ?_ _));apply bk3_;(with_reducible repeat (first|refine bN_ ?_ _|refine bD_ ?_|refine bA_ ?_ _));exact h_):q:=f h
theorem k3p1_ {p q m0:Prop} (a0:m0) (h:p) (f:p→m0→q:=by intro h_ n0_;(with_reducible repeat (first|refine bN_ ?_ _|refine bD_ ?_|refine bA_ ?_ _|refine blk_far ?_ n0_ _));apply bk3_;(with_reducible repeat (first|refine bN_ ?_ _|refine bD_ ?_|refine bA_ ?_ _|refine blk_far ?_ n0_ _));exact h_):q:=f h a0
theorem k7p1_ {p q m0:Prop} (a0:m0) (h:p) (f:p→m0→q:=by intro h_ n0_;(with_reducible repeat (first|refine bN_ ?_ _|refine bD_ ?_|refine bA_ ?_ _|refine blk_far ?_ n0_ _));apply bk7_;(with_reducible repeat (first|refine bN_ ?_ _|refine bD_ ?_|refine bA_ ?_ _|refine blk_far ?_ n0_ _));exact h_):q:=f h a0
theorem rf3_ {α:Type} {d:Kd α} {e:Nat} {w:World} {base:Nat} {ok:Nat → Prop} {v:Value} {xs:List α} {g:Nat} (h:d.R e w base ok v xs) (hok:∀ k,ok k → k≠g) (u0 u1 u2:Value):d.R e (((w.setCell ⟨g,0,none⟩ u0).setCell ⟨g,1,none⟩ u1).setCell ⟨g,2,none⟩ u2) base ok v xs:=Kd.R_far (p:=⟨g,2,none⟩) (Kd.R_far (p:=⟨g,1,none⟩) (Kd.R_far (p:=⟨g,0,none⟩) h hok u0) hok u1) hok u2
theorem rf7_ {α:Type} {d:Kd α} {e:Nat} {w:World} {base:Nat} {ok:Nat → Prop} {v:Value} {xs:List α} {g:Nat} (h:d.R e w base ok v xs) (hok:∀ k,ok k → k≠g) (u0 u1 u2 u3 u4 u5 u6:Value):d.R e (((((((w.setCell ⟨g,0,none⟩ u0).setCell ⟨g,1,none⟩ u1).setCell ⟨g,2,none⟩ u2).setCell ⟨g,3,none⟩ u3).setCell ⟨g,4,none⟩ u4).setCell ⟨g,5,none⟩ u5).setCell ⟨g,6,none⟩ u6) base ok v xs:=Kd.R_far (p:=⟨g,6,none⟩) (Kd.R_far (p:=⟨g,5,none⟩) (Kd.R_far (p:=⟨g,4,none⟩) (Kd.R_far (p:=⟨g,3,none⟩) (Kd.R_far (p:=⟨g,2,none⟩) (Kd.R_far (p:=⟨g,1,none⟩) (Kd.R_far (p:=⟨g,0,none⟩) h hok u0) hok u1) hok u2) hok u3) hok u4) hok u5) hok u6
def Keep (g:Nat) (w w':World):Prop:=Below g w w'∧KeepBut w w' g none
theorem Keep.of_below {g:Nat} {w w':World} (h:Below w.heap.size w w') (hg:g≤w.heap.size):Keep g w w':=⟨⟨h.os,h.tape,h.output,h.size,fun k hk=>h.block k (by omega)⟩,KeepBut.of_below h g none⟩
theorem Keep.trans {g:Nat} {w w1 w2:World} (h:Keep g w w1) (k:Keep g w1 w2):Keep g w w2 :=
 ⟨⟨k.1.os.trans h.1.os,k.1.tape.trans h.1.tape,k.1.output.trans h.1.output,Nat.le_trans h.1.size k.1.size,fun i hi=>(k.1.block i hi).trans (h.1.block i hi)⟩,h.2.trans k.2 (.inl rfl)⟩
theorem Keep.set {g:Nat} {w w1:World} (h:Keep g w w1) (j:Nat) (v:Value):Keep g w (w1.setCell ⟨g,j,none⟩ v):=⟨h.1.setCell (p:=⟨g,j,none⟩) (Nat.le_refl _) v,h.2.set_ j v⟩
theorem Keep.far {g:Nat} {w w1:World} (h:Keep g w w1) {p:Addr} (hg:g≤w.heap.size) (hp:w.heap.size≤p.block) (v:Value):Keep g w (w1.setCell p v) :=
 ⟨h.1.setCell (Nat.le_trans hg hp) v,keep_far h.2 hp v⟩
theorem Keep.drewN {g:Nat} {w w1:World} (h:Keep g w w1) (m:Nat):Keep g w (w1.drewN m):=⟨⟨h.1.os,h.1.tape,h.1.output,h.1.size,h.1.block⟩,keep_drewN h.2 m⟩
theorem push_any (g:Nat) (SL:Value) (s:Int) (u:Bool) (e:S44) (w:World) (hb:w.heap[g]?=some (.cells #[SL,.slice none 0 0,.int .i64 s,.bool u] 107 (0,0))) :
  Calls Tryd.prog 80 #[.pointer (some ⟨g,1,none⟩),.agg #[.int .i64 e.f0,.int .i64 e.f1,.int .i64 e.f2.f0,.int .i64 e.f2.f1,.int .i64 e.f2.f2,.int .i64 e.f2.f3,.string e.f2.f4]] w fun x w'=>(∃ v,x=.returned v)∧∃ (A:Option Addr) (c:Nat),w'.heap[g]?=some (.cells #[SL,.slice A 1 c,.int .i64 s,.bool u] 107 (0,0))∧Kd.R k44 44 w' w.heap.size (fun k=>k≠g) (.slice A 1 c) [e]∧Keep g w w':=by
 have HBK:=a_ hb
 have HGL:=a_ (blk_lt hb)
 clear hb
 have hu1:=Tryd.underlying105
 have hu2:=Tryd.underlying44
 go_enter Tryd.func80,Tryd.ntmps80
 go_wp2_with (first|((with_reducible refine gD_ (N:=3) rfl ?_);refine bx_ 3 (#[.int .i64 e.f0,.int .i64 e.f1,.int .i64 e.f2.f0,.int .i64 e.f2.f1,.int .i64 e.f2.f2,.int .i64 e.f2.f3,.string e.f2.f4]) 44 ?_;intro g1 hg1 w1 hbox1 hb1;have HB1:=a_ hb1;have BK1:=a_ hbox1;have HBK1:=a_ (blk_below HBK.out hb1);clear hb1 hbox1 hg1))
 refine start_ (n:=11) (S:=fun w'=>w'.cell? ⟨g,1,none⟩=some (.slice none 0 0)∧w'.cell? ⟨g1,0,none⟩=some (.int .i64 e.f0)∧w'.cell? ⟨g1,1,none⟩=some (.int .i64 e.f1)∧w'.cell? ⟨g1,2,none⟩=some (.int .i64 e.f2.f0)∧w'.cell? ⟨g1,3,none⟩=some (.int .i64 e.f2.f1)∧w'.cell? ⟨g1,4,none⟩=some (.int .i64 e.f2.f2)∧w'.cell? ⟨g1,5,none⟩=some (.int .i64 e.f2.f3)∧w'.cell? ⟨g1,6,none⟩=some (.string e.f2.f4)) (ds:=[10]) #[false,false,false,false,false,false,false,false,false,false,false] (by kernel_rfl) rfl rfl ⟨(bC_ HBK1.out 1).trans rfl,(bC_ BK1.out 0).trans rfl,(bC_ BK1.out 1).trans rfl,(bC_ BK1.out 2).trans rfl,(bC_ BK1.out 3).trans rfl,(bC_ BK1.out 4).trans rfl,(bC_ BK1.out 5).trans rfl,(bC_ BK1.out 6).trans rfl⟩ (fun hHeld=>?_)
 refine pure_ (i:=0) (N:=some 4) (v:=?_) (a':=?_) #[true,false,false,false,false,false,false,false,false,false,false] rfl rfl (by kernel_rfl) (fun _ _ _ h=>h) (Or.inl ⟨by rfl,?_⟩) ?_ ?_
 rotate_left
 ·intro w'
  go_simp
  with_reducible rfl
 rotate_left
 ·simp only [Act.put,List.setIfInBounds_toArray,List.set_cons_zero,List.set_cons_succ,i64_w,i32_w]
  rfl
 refine pure_ (i:=1) (N:=some 5) (v:=?_) (a':=?_) #[true,true,false,false,false,false,false,false,false,false,false] rfl rfl (by kernel_rfl) (fun _ _ _ h=>h) (Or.inl ⟨by rfl,?_⟩) ?_ ?_
 rotate_left
 ·intro w'
  go_simp
  with_reducible rfl
 rotate_left
 ·simp only [Act.put,List.setIfInBounds_toArray,List.set_cons_zero,List.set_cons_succ,i64_w,i32_w]
  rfl
 refine pure_ (i:=2) (N:=some 6) (v:=?_) (a':=?_) #[true,true,true,false,false,false,false,false,false,false,false] rfl rfl (by kernel_rfl) (fun _ _ _ h=>h) (Or.inl ⟨by rfl,?_⟩) ?_ ?_
 rotate_left
 ·intro w'
  go_simp
  with_reducible rfl
 rotate_left
 ·simp only [Act.put,List.setIfInBounds_toArray,List.set_cons_zero,List.set_cons_succ,i64_w,i32_w]
  rfl
 refine pure_ (i:=3) (N:=some 7) (v:=?_) (a':=?_) #[true,true,true,true,false,false,false,false,false,false,false] rfl rfl (by kernel_rfl) (fun _ _ _ h=>h) (Or.inl ⟨by rfl,?_⟩) ?_ ?_
 rotate_left
 ·intro w'
  go_simp
  with_reducible rfl
 rotate_left
 ·simp only [Act.put,List.setIfInBounds_toArray,List.set_cons_zero,List.set_cons_succ,i64_w,i32_w]
  rfl
 refine take_ (i:=4) (N:=some 8) (v:=?_) (a':=?_) #[true,true,true,true,true,false,false,false,false,false,false] rfl rfl (by kernel_rfl) (fun _ _ _ h=>h) (Or.inl ⟨by rfl,?_⟩) hHeld ?_ ?_
 rotate_left
 ·rintro w' ⟨s0,s1,s2,s3,s4,s5,s6,s7⟩
  go_simp
  with_reducible rfl
 rotate_left
 ·simp only [Act.put,List.setIfInBounds_toArray,List.set_cons_zero,List.set_cons_succ,i64_w,i32_w]
  rfl
 refine take_ (i:=5) (N:=some 9) (v:=?_) (a':=?_) #[true,true,true,true,true,true,false,false,false,false,false] rfl rfl (by kernel_rfl) (fun _ _ _ h=>h) (Or.inl ⟨by rfl,?_⟩) hHeld ?_ ?_
 rotate_left
 ·rintro w' ⟨s0,s1,s2,s3,s4,s5,s6,s7⟩
  go_simp
  with_reducible rfl
 rotate_left
 ·simp only [Act.put,List.setIfInBounds_toArray,List.set_cons_zero,List.set_cons_succ,i64_w,i32_w]
  rfl
 have BKd:=a_ (bD_ BK1.out)
 have HBKd:=a_ (bD_ HBK1.out)
 have HBd:=a_ (below_drew1 HB1.out)
 generalize w1.drew=w2 at BKd HBKd HBd hHeld ⊢
 refine one_ (i:=6) (N:=some 10) #[true,true,true,true,true,true,true,false,false,false,false] rfl rfl (by kernel_rfl) (by decide) (fun K hK=>?_)
 refine Kd.R_lit_step (w0:=w) k44 w.heap.size 44 ?hg (N:=10) ?hd (xs:=[e]) (inner:=[.int .i64 e.f0,.int .i64 e.f1,.int .i64 e.f2.f0,.int .i64 e.f2.f1,.int .i64 e.f2.f2,.int .i64 e.f2.f3,.string e.f2.f4]) (ok:=fun k=>k≠g) (okp:=fun k=>k≠g) ?hr ?hp (fun _ hk=>hk) (by have h1:=HGL.out;have h2:=HBd.out.size;omega) HBd.out HBd.out.size (by simp) ?_
 case hd=>rfl
 case hg=>rfl
 case hr=>first|(go_simp;done)|(go_simp;rfl)
 case hp=>exact (Reps.front (show Kd.M k44 _ _ _ e [.int .i64 e.f0,.int .i64 e.f1,.int .i64 e.f2.f0,.int .i64 e.f2.f1,.int .i64 e.f2.f2,.int .i64 e.f2.f3,.string e.f2.f4] from k44_mkM _ _ _ e) rfl (Reps.none _ _) rfl)
 intro v3 w3 ho3 hb3 hg3 hn3
 obtain ⟨A3,c3,rfl⟩:=Kd.R_slice ho3
 have HO3:=a_ ho3
 have HB3:=a_ hb3
 have BK3:=a_ (blk_grown BKd.out hg3 (by simp))
 have HBK3:=a_ (blk_grown HBKd.out hg3 (by simp))
 clear ho3 hb3 hg3 hn3
 refine hK _ _ ⟨(bC_ HBK3.out 1).trans rfl,(bC_ BK3.out 0).trans rfl,(bC_ BK3.out 1).trans rfl,(bC_ BK3.out 2).trans rfl,(bC_ BK3.out 3).trans rfl,(bC_ BK3.out 4).trans rfl,(bC_ BK3.out 5).trans rfl,(bC_ BK3.out 6).trans rfl⟩ (fun hHeld3=>?_)
 clear hK K hHeld
 refine no_ 10 ?_
 refine one_ (i:=7) (N:=some 11) #[true,true,true,true,true,true,true,true,false,false,false] rfl rfl (by kernel_rfl) (by decide) (fun K hK=>?_)
 refine Kd.R_append_rows_step k44 (w0:=w) w.heap.size ?aW (.tmp 8) (.tmp 10) 23 44 (.agg #[(.int .i64 0),(.int .i64 0),(.int .i64 0),(.int .i64 0),(.int .i64 0),(.int .i64 0),(.string ⟨#[]⟩)]) 64 rfl Tryd.underlying23 info44 rfl (by decide) (by omega) (.slice none 0 0) ([]:List S44) [e] A3 1 c3 (fun k=>k≠g) (fun _=>False) rfl rfl ?aO ?aR (fun _ _ h=>h) (fun _ h=>h.elim) ?aF ?aB ?aS ?aL ?_
 case aW=>rfl
 case aR=>exact (Kd.R_reads' HO3.out).2.2
 case aB=>exact HB3.out
 case aF=>exact (fun k hk=>by have h1:=HGL.out;have h2:=HB3.out.size;omega)
 case aO=>exact Kd.R_nil _ _ _ _ _
 case aS=>exact HB3.out.size
 case aL=>simp
 intro v4 w4 ho4 hb4 hg4 hn4
 obtain ⟨A4,c4,rfl⟩:=Kd.R_slice ho4
 have HO4:=a_ ho4
 have HB4:=a_ hb4
 have BK4:=a_ (blk_grown BK3.out hg4 (by simp [Value.ownBlock]))
 have HBK4:=a_ (blk_grown HBK3.out hg4 (by simp [Value.ownBlock]))
 clear ho4 hb4 hg4 hn4
 refine hK _ _ ⟨(bC_ HBK4.out 1).trans rfl,(bC_ BK4.out 0).trans rfl,(bC_ BK4.out 1).trans rfl,(bC_ BK4.out 2).trans rfl,(bC_ BK4.out 3).trans rfl,(bC_ BK4.out 4).trans rfl,(bC_ BK4.out 5).trans rfl,(bC_ BK4.out 6).trans rfl⟩ (fun hHeld4=>?_)
 clear hK K hHeld3
 refine no_ 11 ?_
 refine pure_ (i:=8) (N:=some 12) (v:=?_) (a':=?_) #[true,true,true,true,true,true,true,true,true,false,false] rfl rfl (by kernel_rfl) (fun _ _ _ h=>h) (Or.inl ⟨by rfl,?_⟩) ?_ ?_
 rotate_left
 ·intro w'
  go_simp
  with_reducible rfl
 rotate_left
 ·simp only [Act.put,List.setIfInBounds_toArray,List.set_cons_zero,List.set_cons_succ,i64_w,i32_w]
  rfl
 refine pure_ (i:=9) (N:=some 13) (v:=?_) (a':=?_) #[true,true,true,true,true,true,true,true,true,true,false] rfl rfl (by kernel_rfl) (fun _ _ _ h=>h) (Or.inl ⟨by rfl,?_⟩) ?_ ?_
 rotate_left
 ·intro w'
  go_simp
  with_reducible rfl
 rotate_left
 ·simp only [Act.put,List.setIfInBounds_toArray,List.set_cons_zero,List.set_cons_succ,i64_w,i32_w]
  rfl
 refine last_ (i:=10) (N:=none) #[true,true,true,true,true,true,true,true,true,true,true] rfl rfl (by kernel_rfl) (by decide) (fun K hK=>?_)
 have hs5:w4.cell? ⟨g,1,none⟩=some (.slice none 0 0):=(bC_ HBK4.out 1).trans rfl
 have hfs5:=bF_ HBK4.out 1
 refine skip_ (w1:=?_) (by rfl) rfl ?_ ?_
 rotate_left
 ·go_simp
  rfl
 refine hK _ _ ?_
 clear hK K
 refine done_ (by kernel_rfl) ?_
 go_wp2
 go_end0
 refine ⟨⟨_,rfl⟩,A4,c4,(blk_set HBK4.out 1 _).trans rfl,?_,(Keep.of_below HB4.out (Nat.le_of_lt HGL.out)).set 1 _⟩
 exact Kd.R_far HO4.out (p:=⟨g,1,none⟩) (fun _ h=>h) _
theorem pop_none (g:Nat) (SL:Value) (A:Option Addr) (c:Nat) (s:Int) (u:Bool) (w:World) (hb:w.heap[g]?=some (.cells #[SL,.slice A 0 c,.int .i64 s,.bool u] 107 (0,0))) :
  Calls Tryd.prog 118 #[.pointer (some ⟨g,1,none⟩)] w fun x w'=>x=.returned (.tuple #[.agg #[.int .i64 0,.int .i64 0,.int .i64 0,.int .i64 0,.int .i64 0,.int .i64 0,.string ⟨#[]⟩],.bool false])∧Below w.heap.size w w':=by
 have HBK:=a_ hb
 clear hb
 have hu1:=Tryd.underlying105
 have hu2:=Tryd.underlying44
 go_enter Tryd.func118,Tryd.ntmps118
 go_wp2_with (first|((with_reducible refine gD_ (N:=2) rfl ?_);refine bx_ 2 (#[.int .i64 0,.int .i64 0,.int .i64 0,.int .i64 0,.int .i64 0,.int .i64 0,.string ⟨#[]⟩]) 44 ?_;intro g1 hg1 w1 hbox1 hb1;have HB1:=a_ hb1;have BK1:=a_ hbox1;have GE1:=a_ (Nat.le_of_eq hg1.symm);have HBK1:=a_ (blk_below HBK.out hb1);clear hb1 hbox1 hg1;have hs1:w1.cell? ⟨g,1,none⟩=some (.slice A 0 c):=(bC_ HBK1.out 1).trans rfl;have hz0:=(bC_ BK1.out 0).trans rfl;have hz1:=(bC_ BK1.out 1).trans rfl;have hz2:=(bC_ BK1.out 2).trans rfl;have hz3:=(bC_ BK1.out 3).trans rfl;have hz4:=(bC_ BK1.out 4).trans rfl;have hz5:=(bC_ BK1.out 5).trans rfl;have hz6:=(bC_ BK1.out 6).trans rfl;have hf0:=bF_ BK1.out 0;have hf1:=bF_ BK1.out 1;have hf2:=bF_ BK1.out 2;have hf3:=bF_ BK1.out 3;have hf4:=bF_ BK1.out 4;have hf5:=bF_ BK1.out 5;have hf6:=bF_ BK1.out 6))
 (try simp only [Exit.inBlock,Exit.then])
 refine bodyPost_ret (results_ct rfl _ _ g1 44 #[.int .i64 0,.int .i64 0,.int .i64 0,.int .i64 0,.int .i64 0,.int .i64 0,.string ⟨#[]⟩] (0,0) _ rfl ((blk_set (blk_set (blk_set (blk_set (blk_set (blk_set (blk_set BK1.out 0 _) 1 _) 2 _) 3 _) 4 _) 5 _) 6 _).trans rfl) Tryd.underlying44 rfl (by kernel_rfl)) rfl ?_
 exact ⟨rfl,wS_ (wS_ (wS_ (wS_ (wS_ (wS_ (wS_ HB1.out GE1.out) GE1.out) GE1.out) GE1.out) GE1.out) GE1.out) GE1.out⟩
theorem pop_one (g:Nat) (SL:Value) (A:Option Addr) (c:Nat) (s:Int) (u:Bool) (e:S44) (w:World) (hb:w.heap[g]?=some (.cells #[SL,.slice A 1 c,.int .i64 s,.bool u] 107 (0,0))) (base:Nat) (hr:Kd.R k44 44 w base (fun k=>k≠g) (.slice A 1 c) [e]) :
  Calls Tryd.prog 118 #[.pointer (some ⟨g,1,none⟩)] w fun x w'=>x=.returned (.tuple #[.agg #[.int .i64 e.f0,.int .i64 e.f1,.int .i64 e.f2.f0,.int .i64 e.f2.f1,.int .i64 e.f2.f2,.int .i64 e.f2.f3,.string e.f2.f4],.bool true])∧(∃ (A':Option Addr) (c':Nat),w'.heap[g]?=some (.cells #[SL,.slice A' 0 c',.int .i64 s,.bool u] 107 (0,0)))∧Keep g w w':=by
 have HBK:=a_ hb
 have HGL:=a_ (blk_lt hb)
 have HR:=a_ hr
 clear hb
 have hu1:=Tryd.underlying105
 have hu2:=Tryd.underlying44
 have h1c:1≤c:=(Kd.R_reads' hr).2.1
 obtain ⟨ad,e0,hx0,hx1,hx2,hx3,hx4,hx5,hx6⟩:=at_T44 (Kd.R_reads' hr).2.2 0 (by decide) (by simp)
 clear hr
 have hrd:rd_T44 [e] 0=e:=rfl
 rw [hrd] at hx0 hx1 hx2 hx3 hx4 hx5 hx6
 have hadd:ad.add ((0:Int).toNat * 7)=ad:=rfl
 rw [hadd] at hx0 hx1 hx2 hx3 hx4 hx5 hx6
 subst e0
 have HX:=a_ (And.intro hx0 (And.intro hx1 (And.intro hx2 (And.intro hx3 (And.intro hx4 (And.intro hx5 hx6))))))
 clear hx0 hx1 hx2 hx3 hx4 hx5 hx6 hadd hrd
 go_enter Tryd.func118,Tryd.ntmps118
 go_wp2_with (first|((with_reducible refine gD_ (N:=2) rfl ?_);refine bx_ 2 (#[.int .i64 0,.int .i64 0,.int .i64 0,.int .i64 0,.int .i64 0,.int .i64 0,.string ⟨#[]⟩]) 44 ?_;intro g1 hg1 w1 hbox1 hb1;have HB1:=a_ hb1;have BK1:=a_ hbox1;have GE1:=a_ (Nat.le_of_eq hg1.symm);have HBK1:=a_ (blk_below HBK.out hb1);clear hb1 hbox1 hg1;have hs1:w1.cell? ⟨g,1,none⟩=some (.slice (some ad) 1 c):=(bC_ HBK1.out 1).trans rfl;have hx0:=(HB1.out.cell (bl_ w _ HX.out.1)).trans HX.out.1;have hx1:=(HB1.out.cell (bl_ w _ HX.out.2.1)).trans HX.out.2.1;have hx2:=(HB1.out.cell (bl_ w _ HX.out.2.2.1)).trans HX.out.2.2.1;have hx3:=(HB1.out.cell (bl_ w _ HX.out.2.2.2.1)).trans HX.out.2.2.2.1;have hx4:=(HB1.out.cell (bl_ w _ HX.out.2.2.2.2.1)).trans HX.out.2.2.2.2.1;have hx5:=(HB1.out.cell (bl_ w _ HX.out.2.2.2.2.2.1)).trans HX.out.2.2.2.2.2.1;have hx6:=(HB1.out.cell (bl_ w _ HX.out.2.2.2.2.2.2)).trans HX.out.2.2.2.2.2.2)|((with_reducible refine gD_ (N:=4) rfl ?_);refine bx_ 4 (#[.int .i64 0,.int .i64 0,.int .i64 0,.int .i64 0,.int .i64 0,.int .i64 0,.string ⟨#[]⟩]) 44 ?_;intro g2 hg2 w2 hbox2 hb2;have HB2:=a_ (bS_ HB1.out hb2);have BK2:=a_ hbox2;have BK12:=a_ (blk_below BK1.out hb2);have GE2:=a_ (show w.heap.size≤g2 by rw [hg2];exact HB1.out.size);have HBK2:=a_ (blk_below HBK1.out hb2);have NE:=a_ (show g1≠g2 by have:=blk_lt BK1.out;omega);have hn1:=NE.out;have hn2:=hn1.symm;have hn3:g≠g2:=(by have:=blk_lt HBK.out;have:=GE2.out;omega);have hn4:=hn3.symm;have hn5:g≠g1:=(by have:=blk_lt HBK.out;have:=GE1.out;omega);have hn6:=hn5.symm;have hs2:w2.cell? ⟨g,1,none⟩=some (.slice (some ad) 1 c):=(bC_ HBK2.out 1).trans rfl;have hfs2:=bF_ HBK2.out 1;clear hb2 hbox2 hg2;have hz0:=(bC_ BK2.out 0).trans rfl;have hz1:=(bC_ BK2.out 1).trans rfl;have hz2:=(bC_ BK2.out 2).trans rfl;have hz3:=(bC_ BK2.out 3).trans rfl;have hz4:=(bC_ BK2.out 4).trans rfl;have hz5:=(bC_ BK2.out 5).trans rfl;have hz6:=(bC_ BK2.out 6).trans rfl;have hf0:=bF_ BK2.out 0;have hf1:=bF_ BK2.out 1;have hf2:=bF_ BK2.out 2;have hf3:=bF_ BK2.out 3;have hf4:=bF_ BK2.out 4;have hf5:=bF_ BK2.out 5;have hf6:=bF_ BK2.out 6;have hy0:=(bC_ BK12.out 0).trans rfl;have hy1:=(bC_ BK12.out 1).trans rfl;have hy2:=(bC_ BK12.out 2).trans rfl;have hy3:=(bC_ BK12.out 3).trans rfl;have hy4:=(bC_ BK12.out 4).trans rfl;have hy5:=(bC_ BK12.out 5).trans rfl;have hy6:=(bC_ BK12.out 6).trans rfl;have hyf0:=bF_ BK12.out 0;have hyf1:=bF_ BK12.out 1;have hyf2:=bF_ BK12.out 2;have hyf3:=bF_ BK12.out 3;have hyf4:=bF_ BK12.out 4;have hyf5:=bF_ BK12.out 5;have hyf6:=bF_ BK12.out 6))
 all_goals (try simp only [Exit.inBlock,Exit.then])
 all_goals refine bodyPost_ret (results_ct rfl _ _ g1 44 #[.int .i64 e.f0,.int .i64 e.f1,.int .i64 e.f2.f0,.int .i64 e.f2.f1,.int .i64 e.f2.f2,.int .i64 e.f2.f3,.string e.f2.f4] (0,0) _ rfl ((blk_set (blk_set (blk_set (blk_set (blk_set (blk_set (blk_set (blk_far (blk_far (blk_far (blk_far (blk_far (blk_far (blk_far (blk_far (BK12.out) NE.out _) NE.out _) NE.out _) NE.out _) NE.out _) NE.out _) NE.out _) hn6 _) 0 _) 1 _) 2 _) 3 _) 4 _) 5 _) 6 _).trans rfl) Tryd.underlying44 rfl (by kernel_rfl)) rfl ?_
 all_goals exact ⟨rfl,⟨_,_,(blk_far (blk_far (blk_far (blk_far (blk_far (blk_far (blk_far (blk_set (blk_far (blk_far (blk_far (blk_far (blk_far (blk_far (blk_far (HBK2.out) hn3 _) hn3 _) hn3 _) hn3 _) hn3 _) hn3 _) hn3 _) 1 _) hn5 _) hn5 _) hn5 _) hn5 _) hn5 _) hn5 _) hn5 _).trans rfl⟩,Keep.far (Keep.far (Keep.far (Keep.far (Keep.far (Keep.far (Keep.far (Keep.set (Keep.far (Keep.far (Keep.far (Keep.far (Keep.far (Keep.far (Keep.far (Keep.of_below HB2.out (Nat.le_of_lt HGL.out)) (p:=⟨g2,0,none⟩) (Nat.le_of_lt HGL.out) GE2.out _) (p:=⟨g2,1,none⟩) (Nat.le_of_lt HGL.out) GE2.out _) (p:=⟨g2,2,none⟩) (Nat.le_of_lt HGL.out) GE2.out _) (p:=⟨g2,3,none⟩) (Nat.le_of_lt HGL.out) GE2.out _) (p:=⟨g2,4,none⟩) (Nat.le_of_lt HGL.out) GE2.out _) (p:=⟨g2,5,none⟩) (Nat.le_of_lt HGL.out) GE2.out _) (p:=⟨g2,6,none⟩) (Nat.le_of_lt HGL.out) GE2.out _) 1 _) (p:=⟨g1,0,none⟩) (Nat.le_of_lt HGL.out) GE1.out _) (p:=⟨g1,1,none⟩) (Nat.le_of_lt HGL.out) GE1.out _) (p:=⟨g1,2,none⟩) (Nat.le_of_lt HGL.out) GE1.out _) (p:=⟨g1,3,none⟩) (Nat.le_of_lt HGL.out) GE1.out _) (p:=⟨g1,4,none⟩) (Nat.le_of_lt HGL.out) GE1.out _) (p:=⟨g1,5,none⟩) (Nat.le_of_lt HGL.out) GE1.out _) (p:=⟨g1,6,none⟩) (Nat.le_of_lt HGL.out) GE1.out _⟩
theorem Glob.keep {g:Nat} {w w':World} (h:Glob w) (k:Keep g w w') (hg:0 < g):Glob w':=by
 have h:=h.var
 unfold Glob Lib.TabIs World.var? at *
 simp only [gOwners,Option.bind_some] at h ⊢
 rw [k.1.block 0 hg]
 exact h
theorem take_any (k:Nat) (g:Nat) (A:Option Addr) (c:Nat) (l:List S44) (Q:Value) (s:Int) (u:Bool) (e:S44) (r1:List S44) (r2:Int) (w:World) (base:Nat) (hb:w.heap[g]?=some (.cells #[.slice A l.length c,Q,.int .i64 s,.bool u] 107 (0,0)))
  (hr:Kd.R k44 44 w base (fun k=>k≠g) (.slice A l.length c) l) (h:impl_LogAdd.f k l e.f0 e.f1 e.f2.f0 e.f2.f1 e.f2.f2 e.f2.f3 e.f2.f4=some (r1,r2)) (hG:Glob w) :
  Calls Tryd.prog 119 #[.pointer (some ⟨g,0,none⟩),.agg #[.int .i64 e.f0,.int .i64 e.f1,.int .i64 e.f2.f0,.int .i64 e.f2.f1,.int .i64 e.f2.f2,.int .i64 e.f2.f3,.string e.f2.f4]] w fun x w'=>x=.returned (.bool (decide (r2=1)))∧(∃ (A':Option Addr) (c':Nat),w'.heap[g]?=some (.cells #[.slice A' (if r2=1 then r1 else l).length c',Q,.int .i64 s,.bool u] 107 (0,0))∧Kd.R k44 44 w' (min base w.heap.size) (fun k=>k≠g) (.slice A' (if r2=1 then r1 else l).length c') (if r2=1 then r1 else l))∧Keep g w w':=by
 have HBK:=a_ hb
 have HR:=a_ hr
 have HGL:=a_ (blk_lt hb)
 have HA:=a_ h
 have HG:=a_ hG
 obtain ⟨_,hc0,hr0⟩:=Kd.R_reads' hr
 have HC:=a_ hc0
 have HR0:=a_ hr0
 clear hb hr h hG hc0 hr0
 have hu1:=Tryd.underlying103
 have hu2:=Tryd.underlying44
 by_cases h2:r2=1
 ·subst h2
  simp only [if_true,decide_true]
  go_enter Tryd.func119,Tryd.ntmps119
  go_wp2_with (first|((with_reducible refine gD_ (N:=3) rfl ?_);refine bx_ 3 (#[.int .i64 e.f0,.int .i64 e.f1,.int .i64 e.f2.f0,.int .i64 e.f2.f1,.int .i64 e.f2.f2,.int .i64 e.f2.f3,.string e.f2.f4]) 44 ?_;intro g1 hg1 w1 hbox1 hb1;have HB1:=a_ hb1;have BK1:=a_ hbox1;have HBK1:=a_ (blk_below HBK.out hb1);clear hb1 hbox1 hg1))
  have hx0:w1.cell? ⟨g1,0,none⟩=some (.int .i64 e.f0):=(bC_ BK1.out 0).trans rfl
  have hx1:w1.cell? ⟨g1,1,none⟩=some (.int .i64 e.f1):=(bC_ BK1.out 1).trans rfl
  have hx2:w1.cell? ⟨g1,2,none⟩=some (.int .i64 e.f2.f0):=(bC_ BK1.out 2).trans rfl
  have hx3:w1.cell? ⟨g1,3,none⟩=some (.int .i64 e.f2.f1):=(bC_ BK1.out 3).trans rfl
  have hx4:w1.cell? ⟨g1,4,none⟩=some (.int .i64 e.f2.f2):=(bC_ BK1.out 4).trans rfl
  have hx5:w1.cell? ⟨g1,5,none⟩=some (.int .i64 e.f2.f3):=(bC_ BK1.out 5).trans rfl
  have hx6:w1.cell? ⟨g1,6,none⟩=some (.string e.f2.f4):=(bC_ BK1.out 6).trans rfl
  have hy0:w1.cell? ⟨g,0,none⟩=some (.slice A l.length c):=(bC_ HBK1.out 0).trans rfl
  have HBd:=a_ (below_drew1 HB1.out)
  have HBKd:=a_ (bD_ HBK1.out)
  go_region_with (go_at_call 31;refine (impl_LogAdd.calls k _ _ l _ _ _ _ _ _ _ r1 _ _ (Kd.C_below HR0.out HBd.out) HC.out HA.out (HG.out.below HBd.out)).mono ?_;rintro x5 w5 ⟨v5,rfl,ho5,hb5⟩;obtain ⟨A5,c5,rfl⟩:=Kd.R_slice ho5;have HO5:=a_ ho5;have HB5:=a_ (bS_ HBd.out hb5);have HBK5:=a_ (blk_below HBKd.out hb5);have hz5:=bF_ HBK5.out 0;have hy5:=(bC_ HBK5.out 0).trans rfl;clear ho5 hb5)
  all_goals go_wp2
  all_goals go_ret
  all_goals exact ⟨rfl,⟨A5,c5,(blk_set HBK5.out 0 _).trans rfl,Kd.R_far (Kd.R_mono (Kd.R_lower (Kd.R_newB HO5.out HBKd.out) (Nat.le_trans (Nat.min_le_right _ _) HBd.out.size)) (fun k hk=>hk.2)) (p:=⟨g,0,none⟩) (fun _ h=>h) _⟩,(Keep.of_below HB5.out (Nat.le_of_lt HGL.out)).set 0 _⟩
 ·simp only [h2,if_false,decide_false]
  have hn2:(r2==1)=false:=by simpa using h2
  go_enter Tryd.func119,Tryd.ntmps119
  go_wp2_with (first|((with_reducible refine gD_ (N:=3) rfl ?_);refine bx_ 3 (#[.int .i64 e.f0,.int .i64 e.f1,.int .i64 e.f2.f0,.int .i64 e.f2.f1,.int .i64 e.f2.f2,.int .i64 e.f2.f3,.string e.f2.f4]) 44 ?_;intro g1 hg1 w1 hbox1 hb1;have HB1:=a_ hb1;have BK1:=a_ hbox1;have HBK1:=a_ (blk_below HBK.out hb1);clear hb1 hbox1 hg1))
  have hx0:w1.cell? ⟨g1,0,none⟩=some (.int .i64 e.f0):=(bC_ BK1.out 0).trans rfl
  have hx1:w1.cell? ⟨g1,1,none⟩=some (.int .i64 e.f1):=(bC_ BK1.out 1).trans rfl
  have hx2:w1.cell? ⟨g1,2,none⟩=some (.int .i64 e.f2.f0):=(bC_ BK1.out 2).trans rfl
  have hx3:w1.cell? ⟨g1,3,none⟩=some (.int .i64 e.f2.f1):=(bC_ BK1.out 3).trans rfl
  have hx4:w1.cell? ⟨g1,4,none⟩=some (.int .i64 e.f2.f2):=(bC_ BK1.out 4).trans rfl
  have hx5:w1.cell? ⟨g1,5,none⟩=some (.int .i64 e.f2.f3):=(bC_ BK1.out 5).trans rfl
  have hx6:w1.cell? ⟨g1,6,none⟩=some (.string e.f2.f4):=(bC_ BK1.out 6).trans rfl
  have hy0:w1.cell? ⟨g,0,none⟩=some (.slice A l.length c):=(bC_ HBK1.out 0).trans rfl
  have HBd:=a_ (below_drew1 HB1.out)
  have HBKd:=a_ (bD_ HBK1.out)
  go_region_with (go_at_call 31;refine (impl_LogAdd.calls k _ _ l _ _ _ _ _ _ _ r1 _ _ (Kd.C_below HR0.out HBd.out) HC.out HA.out (HG.out.below HBd.out)).mono ?_;rintro x5 w5 ⟨v5,rfl,ho5,hb5⟩;obtain ⟨A5,c5,rfl⟩:=Kd.R_slice ho5;have HO5:=a_ ho5;have HB5:=a_ (bS_ HBd.out hb5);have HBK5:=a_ (blk_below HBKd.out hb5);have hz5:=bF_ HBK5.out 0;have hy5:=(bC_ HBK5.out 0).trans rfl;clear ho5 hb5)
  all_goals go_wp2
  all_goals go_ret
  all_goals exact ⟨rfl,⟨A,c,HBK5.out,Kd.R_lower (Kd.R_below HR.out HB5.out) (Nat.min_le_left _ _)⟩,Keep.of_below HB5.out (Nat.le_of_lt HGL.out)⟩
def DrainFin (w:World) (g:Nat) (L:List S44) (s:Int) (u:Bool) (wr:World):Prop :=
 ∃ (A:Option Addr) (c:Nat) (A2:Option Addr) (c2:Nat),wr.heap[g]?=some (.cells #[.slice A L.length c,.slice A2 0 c2,.int .i64 s,.bool u] 107 (0,0))∧Kd.R k44 44 wr 0 (fun k=>k≠g) (.slice A L.length c) L∧Keep g w wr
def DrainRel (w:World) (g:Nat) (l L:List S44) (s:Int) (u:Bool) (e:S44) (n:Int) (t3 t4 t5:Value) (wr:World):Prop :=
 (t5=.bool true∧t3=.int .i64 0∧(∃ gE,t4=.pointer (some ⟨gE,0,none⟩)∧wr.heap[gE]?=some (.cells #[.int .i64 e.f0,.int .i64 e.f1,.int .i64 e.f2.f0,.int .i64 e.f2.f1,.int .i64 e.f2.f2,.int .i64 e.f2.f3,.string e.f2.f4] 44 (0,0))∧w.heap.size≤gE)∧DrainFin w g l s u wr)∨(t5=.bool false∧t3=.int .i64 n∧DrainFin w g L s u wr)
theorem Keep.drew {g:Nat} {w w1:World} (h:Keep g w w1):Keep g w w1.drew:=⟨⟨h.1.os,h.1.tape,h.1.output,h.1.size,h.1.block⟩,keep_drew h.2⟩
theorem take_yes (k:Nat) (g:Nat) (A:Option Addr) (c:Nat) (l:List S44) (Q:Value) (s:Int) (u:Bool) (e:S44) (r1:List S44) (r2:Int) (h2:r2=1) (w:World) (base:Nat) (hb:w.heap[g]?=some (.cells #[.slice A l.length c,Q,.int .i64 s,.bool u] 107 (0,0)))
  (hr:Kd.R k44 44 w base (fun k=>k≠g) (.slice A l.length c) l) (h:impl_LogAdd.f k l e.f0 e.f1 e.f2.f0 e.f2.f1 e.f2.f2 e.f2.f3 e.f2.f4=some (r1,r2)) (hG:Glob w) :
  Calls Tryd.prog 119 #[.pointer (some ⟨g,0,none⟩),.agg #[.int .i64 e.f0,.int .i64 e.f1,.int .i64 e.f2.f0,.int .i64 e.f2.f1,.int .i64 e.f2.f2,.int .i64 e.f2.f3,.string e.f2.f4]] w fun x w'=>x=.returned (.bool true)∧(∃ (A':Option Addr) (c':Nat),w'.heap[g]?=some (.cells #[.slice A' r1.length c',Q,.int .i64 s,.bool u] 107 (0,0))∧Kd.R k44 44 w' (min base w.heap.size) (fun k=>k≠g) (.slice A' r1.length c') r1)∧Keep g w w' :=
 (take_any k g A c l Q s u e r1 r2 w base hb hr h hG).mono (by rintro x w' ⟨a,⟨A',c',hb,hr⟩,hk⟩;simp only [if_pos h2] at hb hr;exact ⟨by rw [a,dt_ h2],⟨A',c',hb,hr⟩,hk⟩)
theorem take_no (k:Nat) (g:Nat) (A:Option Addr) (c:Nat) (l:List S44) (Q:Value) (s:Int) (u:Bool) (e:S44) (r1:List S44) (r2:Int) (h2:r2≠1) (w:World) (base:Nat) (hb:w.heap[g]?=some (.cells #[.slice A l.length c,Q,.int .i64 s,.bool u] 107 (0,0)))
  (hr:Kd.R k44 44 w base (fun k=>k≠g) (.slice A l.length c) l) (h:impl_LogAdd.f k l e.f0 e.f1 e.f2.f0 e.f2.f1 e.f2.f2 e.f2.f3 e.f2.f4=some (r1,r2)) (hG:Glob w) :
  Calls Tryd.prog 119 #[.pointer (some ⟨g,0,none⟩),.agg #[.int .i64 e.f0,.int .i64 e.f1,.int .i64 e.f2.f0,.int .i64 e.f2.f1,.int .i64 e.f2.f2,.int .i64 e.f2.f3,.string e.f2.f4]] w fun x w'=>x=.returned (.bool false)∧(∃ (A':Option Addr) (c':Nat),w'.heap[g]?=some (.cells #[.slice A' l.length c',Q,.int .i64 s,.bool u] 107 (0,0))∧Kd.R k44 44 w' (min base w.heap.size) (fun k=>k≠g) (.slice A' l.length c') l)∧Keep g w w' :=
 (take_any k g A c l Q s u e r1 r2 w base hb hr h hG).mono (by rintro x w' ⟨a,⟨A',c',hb,hr⟩,hk⟩;simp only [if_neg h2] at hb hr;exact ⟨by rw [a,df_ h2],⟨A',c',hb,hr⟩,hk⟩)
def boolN (v:Value):Nat:=match v with|.bool true=>1|_=>0
theorem drain_down (k:Nat) (g:Nat) (A:Option Addr) (c:Nat) (l:List S44) (A1:Option Addr) (c1:Nat) (s:Int) (e:S44)  (w:World) (base base1:Nat) (hb:w.heap[g]?=some (.cells #[.slice A l.length c,.slice A1 1 c1,.int .i64 s,.bool false] 107 (0,0)))
  (hr:Kd.R k44 44 w base (fun k=>k≠g) (.slice A l.length c) l) (hq:Kd.R k44 44 w base1 (fun k=>k≠g) (.slice A1 1 c1) [e])  :
  Calls Tryd.prog 81 #[.pointer (some ⟨g,0,none⟩)] w fun x w'=>x=.returned (.int .i64 0)∧DrainFin w g l s false w':=by
 have HBK:=a_ hb
 have HR:=a_ hr
 have HQ:=a_ hq
 skip
 have HGL:=a_ (blk_lt hb)
 clear hb hr hq
 have hu1:=Tryd.underlying107
 have hu2:=Tryd.underlying44
 go_enter Tryd.func81,Tryd.ntmps81
 go_wp2_with (first|(go_at_call 118;refine (pop_one g _ A1 c1 s false e _ HBK.out base1 HQ.out).mono ?_;rintro x w1 ⟨rfl,⟨A2,c2,hb1⟩,hk1⟩;have HBK1:=a_ hb1;have HK1:=a_ hk1;clear hb1 hk1)|((with_reducible refine gD_ (N:=4) rfl ?_);refine bx_ 4 (#[.int .i64 0,.int .i64 0,.int .i64 0,.int .i64 0,.int .i64 0,.int .i64 0,.string ⟨#[]⟩]) 44 ?_;intro g8 hg8 w8 hbox8 hb8;have HBK8:=a_ (blk_below HBK1.out hb8);have BK8:=a_ hbox8;have HK8:=a_ (HK1.out.trans (Keep.of_below hb8 (Nat.le_trans (Nat.le_of_lt HGL.out) HK1.out.1.size)));have GE8:=a_ (show w.heap.size≤g8 by rw [hg8];exact HK1.out.1.size);have NE8:=a_ (show g≠g8 by have:=HGL.out;have:=GE8.out;omega);have hz0:=(bC_ BK8.out 0).trans rfl;have hf0:=bF_ BK8.out 0;have hz1:=(bC_ BK8.out 1).trans rfl;have hf1:=bF_ BK8.out 1;have hz2:=(bC_ BK8.out 2).trans rfl;have hf2:=bF_ BK8.out 2;have hz3:=(bC_ BK8.out 3).trans rfl;have hf3:=bF_ BK8.out 3;have hz4:=(bC_ BK8.out 4).trans rfl;have hf4:=bF_ BK8.out 4;have hz5:=(bC_ BK8.out 5).trans rfl;have hf5:=bF_ BK8.out 5;have hz6:=(bC_ BK8.out 6).trans rfl;have hf6:=bF_ BK8.out 6;clear hbox8 hb8 hg8))
 go_loopw [3,4,5] (fun t3 t4 t5 wr=>DrainRel w g l l s false e 0 t3 t4 t5 wr) (fun _ _ t5 _=>boolN t5)
 case atStart=>exact .inl ⟨rfl,rfl,⟨g8,rfl,(blk_set (blk_set (blk_set (blk_set (blk_set (blk_set (blk_set (BK8.out) 0 _) 1 _) 2 _) 3 _) 4 _) 5 _) 6 _).trans rfl,GE8.out⟩,A,c,A2,c2,(blk_far (blk_far (blk_far (blk_far (blk_far (blk_far (blk_far (HBK8.out) NE8.out _) NE8.out _) NE8.out _) NE8.out _) NE8.out _) NE8.out _) NE8.out _).trans rfl,Kd.R_keep (Kd.R_lower HR.out (Nat.zero_le _)) (Keep.far (Keep.far (Keep.far (Keep.far (Keep.far (Keep.far (Keep.far (HK8.out) (p:=⟨g8,0,none⟩) (Nat.le_of_lt HGL.out) GE8.out _) (p:=⟨g8,1,none⟩) (Nat.le_of_lt HGL.out) GE8.out _) (p:=⟨g8,2,none⟩) (Nat.le_of_lt HGL.out) GE8.out _) (p:=⟨g8,3,none⟩) (Nat.le_of_lt HGL.out) GE8.out _) (p:=⟨g8,4,none⟩) (Nat.le_of_lt HGL.out) GE8.out _) (p:=⟨g8,5,none⟩) (Nat.le_of_lt HGL.out) GE8.out _) (p:=⟨g8,6,none⟩) (Nat.le_of_lt HGL.out) GE8.out _).2 (fun _ h=>h),Keep.far (Keep.far (Keep.far (Keep.far (Keep.far (Keep.far (Keep.far (HK8.out) (p:=⟨g8,0,none⟩) (Nat.le_of_lt HGL.out) GE8.out _) (p:=⟨g8,1,none⟩) (Nat.le_of_lt HGL.out) GE8.out _) (p:=⟨g8,2,none⟩) (Nat.le_of_lt HGL.out) GE8.out _) (p:=⟨g8,3,none⟩) (Nat.le_of_lt HGL.out) GE8.out _) (p:=⟨g8,4,none⟩) (Nat.le_of_lt HGL.out) GE8.out _) (p:=⟨g8,5,none⟩) (Nat.le_of_lt HGL.out) GE8.out _) (p:=⟨g8,6,none⟩) (Nat.le_of_lt HGL.out) GE8.out _⟩
 case round =>
  rcases hrel with ⟨rfl,rfl,⟨gE,rfl,hE,hgE⟩,A3,c3,A4,c4,hb3,hr3,hk3⟩|⟨rfl,rfl,hF⟩
  ·have HE:=a_ hE
   have HB3:=a_ hb3
   have HR3:=a_ hr3
   have HK3:=a_ hk3
   have GLR:=a_ (blk_lt hb3)
   have hup:wr.cell? ⟨g,3,none⟩=some (.bool false):=(bC_ hb3 3).trans rfl
   have he0:=(bC_ hE 0).trans rfl
   have he1:=(bC_ hE 1).trans rfl
   have he2:=(bC_ hE 2).trans rfl
   have he3:=(bC_ hE 3).trans rfl
   have he4:=(bC_ hE 4).trans rfl
   have he5:=(bC_ hE 5).trans rfl
   have he6:=(bC_ hE 6).trans rfl
   clear hE hb3 hr3 hk3
   go_wp2
   go_quiet (fail)
   go_wp2_with (first|((with_reducible refine gD_ (N:=4) rfl ?_);refine bx_ 4 (#[.int .i64 0,.int .i64 0,.int .i64 0,.int .i64 0,.int .i64 0,.int .i64 0,.string ⟨#[]⟩]) 44 ?_;intro g8 hg8 w8 hbox8 hb8;have HBK8:=a_ (blk_below (bN_ HB3.out _) hb8);have BK8:=a_ hbox8;have HK8:=a_ (((Keep.of_below (Below.refl wr.heap.size wr) (Nat.le_of_lt GLR.out)).drewN _).trans (Keep.of_below hb8 (Nat.le_of_lt GLR.out)));have GW8:=a_ (show wr.heap.size≤g8 from Nat.le_of_eq hg8.symm);have GE8:=a_ (show w.heap.size≤g8 by rw [hg8];exact HK3.out.1.size);have NE8:=a_ (show g≠g8 by have:=HGL.out;have:=GE8.out;omega);have hz0:=(bC_ BK8.out 0).trans rfl;have hf0:=bF_ BK8.out 0;have hz1:=(bC_ BK8.out 1).trans rfl;have hf1:=bF_ BK8.out 1;have hz2:=(bC_ BK8.out 2).trans rfl;have hf2:=bF_ BK8.out 2;have hz3:=(bC_ BK8.out 3).trans rfl;have hf3:=bF_ BK8.out 3;have hz4:=(bC_ BK8.out 4).trans rfl;have hf4:=bF_ BK8.out 4;have hz5:=(bC_ BK8.out 5).trans rfl;have hf5:=bF_ BK8.out 5;have hz6:=(bC_ BK8.out 6).trans rfl;have hf6:=bF_ BK8.out 6;clear hbox8 hb8 hg8)|(go_at_call 118;refine (pop_none g _ A4 c4 s false _ ((blk_far (blk_far (blk_far (blk_far (blk_far (blk_far (blk_far (HBK8.out) NE8.out _) NE8.out _) NE8.out _) NE8.out _) NE8.out _) NE8.out _) NE8.out _).trans rfl)).mono ?_;rintro x w9 ⟨rfl,hb9⟩;have HBK9:=a_ (blk_below (blk_far (blk_far (blk_far (blk_far (blk_far (blk_far (blk_far (HBK8.out) NE8.out _) NE8.out _) NE8.out _) NE8.out _) NE8.out _) NE8.out _) NE8.out _) hb9);have BK9:=a_ (blk_below (blk_set (blk_set (blk_set (blk_set (blk_set (blk_set (blk_set (BK8.out) 0 _) 1 _) 2 _) 3 _) 4 _) 5 _) 6 _) hb9);have HK9:=a_ ((Keep.far (Keep.far (Keep.far (Keep.far (Keep.far (Keep.far (Keep.far (HK8.out) (p:=⟨g8,0,none⟩) (Nat.le_of_lt GLR.out) GW8.out _) (p:=⟨g8,1,none⟩) (Nat.le_of_lt GLR.out) GW8.out _) (p:=⟨g8,2,none⟩) (Nat.le_of_lt GLR.out) GW8.out _) (p:=⟨g8,3,none⟩) (Nat.le_of_lt GLR.out) GW8.out _) (p:=⟨g8,4,none⟩) (Nat.le_of_lt GLR.out) GW8.out _) (p:=⟨g8,5,none⟩) (Nat.le_of_lt GLR.out) GW8.out _) (p:=⟨g8,6,none⟩) (Nat.le_of_lt GLR.out) GW8.out _).trans (Keep.of_below hb9 (Nat.le_trans (Nat.le_of_lt GLR.out) (Keep.far (Keep.far (Keep.far (Keep.far (Keep.far (Keep.far (Keep.far (HK8.out) (p:=⟨g8,0,none⟩) (Nat.le_of_lt GLR.out) GW8.out _) (p:=⟨g8,1,none⟩) (Nat.le_of_lt GLR.out) GW8.out _) (p:=⟨g8,2,none⟩) (Nat.le_of_lt GLR.out) GW8.out _) (p:=⟨g8,3,none⟩) (Nat.le_of_lt GLR.out) GW8.out _) (p:=⟨g8,4,none⟩) (Nat.le_of_lt GLR.out) GW8.out _) (p:=⟨g8,5,none⟩) (Nat.le_of_lt GLR.out) GW8.out _) (p:=⟨g8,6,none⟩) (Nat.le_of_lt GLR.out) GW8.out _).1.size)));have hv0:=(bC_ BK9.out 0).trans rfl;have hw0:=bF_ BK9.out 0;have hv1:=(bC_ BK9.out 1).trans rfl;have hw1:=bF_ BK9.out 1;have hv2:=(bC_ BK9.out 2).trans rfl;have hw2:=bF_ BK9.out 2;have hv3:=(bC_ BK9.out 3).trans rfl;have hw3:=bF_ BK9.out 3;have hv4:=(bC_ BK9.out 4).trans rfl;have hw4:=bF_ BK9.out 4;have hv5:=(bC_ BK9.out 5).trans rfl;have hw5:=bF_ BK9.out 5;have hv6:=(bC_ BK9.out 6).trans rfl;have hw6:=bF_ BK9.out 6;clear hb9))
   refine ⟨.inr ⟨rfl,rfl,A3,c3,A4,c4,(blk_far (blk_far (blk_far (blk_far (blk_far (blk_far (blk_far (HBK9.out) NE8.out _) NE8.out _) NE8.out _) NE8.out _) NE8.out _) NE8.out _) NE8.out _).trans rfl,Kd.R_keep HR3.out (Keep.far (Keep.far (Keep.far (Keep.far (Keep.far (Keep.far (Keep.far (HK9.out) (p:=⟨g8,0,none⟩) (Nat.le_of_lt GLR.out) GW8.out _) (p:=⟨g8,1,none⟩) (Nat.le_of_lt GLR.out) GW8.out _) (p:=⟨g8,2,none⟩) (Nat.le_of_lt GLR.out) GW8.out _) (p:=⟨g8,3,none⟩) (Nat.le_of_lt GLR.out) GW8.out _) (p:=⟨g8,4,none⟩) (Nat.le_of_lt GLR.out) GW8.out _) (p:=⟨g8,5,none⟩) (Nat.le_of_lt GLR.out) GW8.out _) (p:=⟨g8,6,none⟩) (Nat.le_of_lt GLR.out) GW8.out _).2 (fun _ h=>h),HK3.out.trans (Keep.far (Keep.far (Keep.far (Keep.far (Keep.far (Keep.far (Keep.far (HK9.out) (p:=⟨g8,0,none⟩) (Nat.le_of_lt GLR.out) GW8.out _) (p:=⟨g8,1,none⟩) (Nat.le_of_lt GLR.out) GW8.out _) (p:=⟨g8,2,none⟩) (Nat.le_of_lt GLR.out) GW8.out _) (p:=⟨g8,3,none⟩) (Nat.le_of_lt GLR.out) GW8.out _) (p:=⟨g8,4,none⟩) (Nat.le_of_lt GLR.out) GW8.out _) (p:=⟨g8,5,none⟩) (Nat.le_of_lt GLR.out) GW8.out _) (p:=⟨g8,6,none⟩) (Nat.le_of_lt GLR.out) GW8.out _)⟩,by simp [boolN]⟩
  ·go_wp2
   go_ret
   exact ⟨rfl,hF⟩
theorem drain_yes (k:Nat) (g:Nat) (A:Option Addr) (c:Nat) (l:List S44) (A1:Option Addr) (c1:Nat) (s:Int) (e:S44) (r1:List S44) (r2:Int) (h2:r2=1) (w:World) (base base1:Nat) (hb:w.heap[g]?=some (.cells #[.slice A l.length c,.slice A1 1 c1,.int .i64 s,.bool true] 107 (0,0)))
  (hr:Kd.R k44 44 w base (fun k=>k≠g) (.slice A l.length c) l) (hq:Kd.R k44 44 w base1 (fun k=>k≠g) (.slice A1 1 c1) [e]) (h:impl_LogAdd.f k l e.f0 e.f1 e.f2.f0 e.f2.f1 e.f2.f2 e.f2.f3 e.f2.f4=some (r1,r2)) (hG:Glob w) (h0:0 < g) :
  Calls Tryd.prog 81 #[.pointer (some ⟨g,0,none⟩)] w fun x w'=>x=.returned (.int .i64 1)∧DrainFin w g r1 s true w':=by
 have HBK:=a_ hb
 have HR:=a_ hr
 have HQ:=a_ hq
 have HA:=a_ h
 have HG:=a_ hG
 have H0:=a_ h0
 have H2:=a_ h2
 clear h hG h0 h2
 have HGL:=a_ (blk_lt hb)
 clear hb hr hq
 have hu1:=Tryd.underlying107
 have hu2:=Tryd.underlying44
 go_enter Tryd.func81,Tryd.ntmps81
 go_wp2_with (first|(go_at_call 118;refine (pop_one g _ A1 c1 s true e _ HBK.out base1 HQ.out).mono ?_;rintro x w1 ⟨rfl,⟨A2,c2,hb1⟩,hk1⟩;have HBK1:=a_ hb1;have HK1:=a_ hk1;clear hb1 hk1)|((with_reducible refine gD_ (N:=4) rfl ?_);refine bx_ 4 (#[.int .i64 0,.int .i64 0,.int .i64 0,.int .i64 0,.int .i64 0,.int .i64 0,.string ⟨#[]⟩]) 44 ?_;intro g8 hg8 w8 hbox8 hb8;have HBK8:=a_ (blk_below HBK1.out hb8);have BK8:=a_ hbox8;have HK8:=a_ (HK1.out.trans (Keep.of_below hb8 (Nat.le_trans (Nat.le_of_lt HGL.out) HK1.out.1.size)));have GE8:=a_ (show w.heap.size≤g8 by rw [hg8];exact HK1.out.1.size);have NE8:=a_ (show g≠g8 by have:=HGL.out;have:=GE8.out;omega);have hz0:=(bC_ BK8.out 0).trans rfl;have hf0:=bF_ BK8.out 0;have hz1:=(bC_ BK8.out 1).trans rfl;have hf1:=bF_ BK8.out 1;have hz2:=(bC_ BK8.out 2).trans rfl;have hf2:=bF_ BK8.out 2;have hz3:=(bC_ BK8.out 3).trans rfl;have hf3:=bF_ BK8.out 3;have hz4:=(bC_ BK8.out 4).trans rfl;have hf4:=bF_ BK8.out 4;have hz5:=(bC_ BK8.out 5).trans rfl;have hf5:=bF_ BK8.out 5;have hz6:=(bC_ BK8.out 6).trans rfl;have hf6:=bF_ BK8.out 6;clear hbox8 hb8 hg8))
 go_loopw [3,4,5] (fun t3 t4 t5 wr=>DrainRel w g l r1 s true e 1 t3 t4 t5 wr) (fun _ _ t5 _=>boolN t5)
 case atStart=>exact .inl ⟨rfl,rfl,⟨g8,rfl,(blk_set (blk_set (blk_set (blk_set (blk_set (blk_set (blk_set (BK8.out) 0 _) 1 _) 2 _) 3 _) 4 _) 5 _) 6 _).trans rfl,GE8.out⟩,A,c,A2,c2,(blk_far (blk_far (blk_far (blk_far (blk_far (blk_far (blk_far (HBK8.out) NE8.out _) NE8.out _) NE8.out _) NE8.out _) NE8.out _) NE8.out _) NE8.out _).trans rfl,Kd.R_keep (Kd.R_lower HR.out (Nat.zero_le _)) (Keep.far (Keep.far (Keep.far (Keep.far (Keep.far (Keep.far (Keep.far (HK8.out) (p:=⟨g8,0,none⟩) (Nat.le_of_lt HGL.out) GE8.out _) (p:=⟨g8,1,none⟩) (Nat.le_of_lt HGL.out) GE8.out _) (p:=⟨g8,2,none⟩) (Nat.le_of_lt HGL.out) GE8.out _) (p:=⟨g8,3,none⟩) (Nat.le_of_lt HGL.out) GE8.out _) (p:=⟨g8,4,none⟩) (Nat.le_of_lt HGL.out) GE8.out _) (p:=⟨g8,5,none⟩) (Nat.le_of_lt HGL.out) GE8.out _) (p:=⟨g8,6,none⟩) (Nat.le_of_lt HGL.out) GE8.out _).2 (fun _ h=>h),Keep.far (Keep.far (Keep.far (Keep.far (Keep.far (Keep.far (Keep.far (HK8.out) (p:=⟨g8,0,none⟩) (Nat.le_of_lt HGL.out) GE8.out _) (p:=⟨g8,1,none⟩) (Nat.le_of_lt HGL.out) GE8.out _) (p:=⟨g8,2,none⟩) (Nat.le_of_lt HGL.out) GE8.out _) (p:=⟨g8,3,none⟩) (Nat.le_of_lt HGL.out) GE8.out _) (p:=⟨g8,4,none⟩) (Nat.le_of_lt HGL.out) GE8.out _) (p:=⟨g8,5,none⟩) (Nat.le_of_lt HGL.out) GE8.out _) (p:=⟨g8,6,none⟩) (Nat.le_of_lt HGL.out) GE8.out _⟩
 case round =>
  rcases hrel with ⟨rfl,rfl,⟨gE,rfl,hE,hgE⟩,A3,c3,A4,c4,hb3,hr3,hk3⟩|⟨rfl,rfl,hF⟩
  ·have HE:=a_ hE
   have NEE:=a_ (show gE≠g by have:=HGL.out;omega)
   have HB3:=a_ hb3
   have HR3:=a_ hr3
   have HK3:=a_ hk3
   have hup:wr.cell? ⟨g,3,none⟩=some (.bool true):=(bC_ hb3 3).trans rfl
   have he0:=(bC_ hE 0).trans rfl
   have he1:=(bC_ hE 1).trans rfl
   have he2:=(bC_ hE 2).trans rfl
   have he3:=(bC_ hE 3).trans rfl
   have he4:=(bC_ hE 4).trans rfl
   have he5:=(bC_ hE 5).trans rfl
   have he6:=(bC_ hE 6).trans rfl
   clear hE hb3 hr3 hk3
   go_wp2
   go_region_with (go_at_call 119;refine (take_yes k g A3 c3 l _ s true e r1 r2 H2.out _ 0 (bD_ HB3.out) (Kd.R_drew HR3.out) HA.out (HG.out.keep HK3.out H0.out).drew).mono ?_;rintro x w5 ⟨rfl,⟨A5,c5,hb5,hr5⟩,hk5⟩;have HB5:=a_ hb5;have HR5:=a_ (Kd.R_lower hr5 (Nat.zero_le 0));have HK35:=a_ (HK3.out.drew.trans hk5);have HE5:=a_ (hk5.2.blk (bD_ HE.out) NEE.out (by simp));have GLR:=a_ (blk_lt hb5);clear hb5 hr5 hk5;have hq0:=(bC_ HE5.out 0).trans rfl;have hq1:=(bC_ HE5.out 1).trans rfl;have hq2:=(bC_ HE5.out 2).trans rfl;have hq3:=(bC_ HE5.out 3).trans rfl;have hq4:=(bC_ HE5.out 4).trans rfl;have hq5:=(bC_ HE5.out 5).trans rfl;have hq6:=(bC_ HE5.out 6).trans rfl)
   all_goals go_wp2_with (first|((with_reducible refine gD_ (N:=4) rfl ?_);refine bx_ 4 (#[.int .i64 0,.int .i64 0,.int .i64 0,.int .i64 0,.int .i64 0,.int .i64 0,.string ⟨#[]⟩]) 44 ?_;intro g8 hg8 w8 hbox8 hb8;have HBK8:=a_ (blk_below HB5.out hb8);have BK8:=a_ hbox8;have HK8:=a_ (Keep.of_below hb8 (Nat.le_of_lt GLR.out));have GW8:=a_ (Nat.le_of_eq hg8.symm);have GE8:=a_ (show w.heap.size≤g8 by rw [hg8];exact HK35.out.1.size);have NE8:=a_ (show g≠g8 by have:=HGL.out;have:=GE8.out;omega);have hz0:=(bC_ BK8.out 0).trans rfl;have hf0:=bF_ BK8.out 0;have hz1:=(bC_ BK8.out 1).trans rfl;have hf1:=bF_ BK8.out 1;have hz2:=(bC_ BK8.out 2).trans rfl;have hf2:=bF_ BK8.out 2;have hz3:=(bC_ BK8.out 3).trans rfl;have hf3:=bF_ BK8.out 3;have hz4:=(bC_ BK8.out 4).trans rfl;have hf4:=bF_ BK8.out 4;have hz5:=(bC_ BK8.out 5).trans rfl;have hf5:=bF_ BK8.out 5;have hz6:=(bC_ BK8.out 6).trans rfl;have hf6:=bF_ BK8.out 6;clear hbox8 hb8 hg8)|(go_at_call 118;refine (pop_none g _ A4 c4 s true _ ((blk_far (blk_far (blk_far (blk_far (blk_far (blk_far (blk_far (HBK8.out) NE8.out _) NE8.out _) NE8.out _) NE8.out _) NE8.out _) NE8.out _) NE8.out _).trans rfl)).mono ?_;rintro x w9 ⟨rfl,hb9⟩;have HBK9:=a_ (blk_below (blk_far (blk_far (blk_far (blk_far (blk_far (blk_far (blk_far (HBK8.out) NE8.out _) NE8.out _) NE8.out _) NE8.out _) NE8.out _) NE8.out _) NE8.out _) hb9);have BK9:=a_ (blk_below (blk_set (blk_set (blk_set (blk_set (blk_set (blk_set (blk_set (BK8.out) 0 _) 1 _) 2 _) 3 _) 4 _) 5 _) 6 _) hb9);have HK9:=a_ ((Keep.far (Keep.far (Keep.far (Keep.far (Keep.far (Keep.far (Keep.far (HK8.out) (p:=⟨g8,0,none⟩) (Nat.le_of_lt GLR.out) GW8.out _) (p:=⟨g8,1,none⟩) (Nat.le_of_lt GLR.out) GW8.out _) (p:=⟨g8,2,none⟩) (Nat.le_of_lt GLR.out) GW8.out _) (p:=⟨g8,3,none⟩) (Nat.le_of_lt GLR.out) GW8.out _) (p:=⟨g8,4,none⟩) (Nat.le_of_lt GLR.out) GW8.out _) (p:=⟨g8,5,none⟩) (Nat.le_of_lt GLR.out) GW8.out _) (p:=⟨g8,6,none⟩) (Nat.le_of_lt GLR.out) GW8.out _).trans (Keep.of_below hb9 (Nat.le_trans (Nat.le_of_lt GLR.out) (Keep.far (Keep.far (Keep.far (Keep.far (Keep.far (Keep.far (Keep.far (HK8.out) (p:=⟨g8,0,none⟩) (Nat.le_of_lt GLR.out) GW8.out _) (p:=⟨g8,1,none⟩) (Nat.le_of_lt GLR.out) GW8.out _) (p:=⟨g8,2,none⟩) (Nat.le_of_lt GLR.out) GW8.out _) (p:=⟨g8,3,none⟩) (Nat.le_of_lt GLR.out) GW8.out _) (p:=⟨g8,4,none⟩) (Nat.le_of_lt GLR.out) GW8.out _) (p:=⟨g8,5,none⟩) (Nat.le_of_lt GLR.out) GW8.out _) (p:=⟨g8,6,none⟩) (Nat.le_of_lt GLR.out) GW8.out _).1.size)));have hv0:=(bC_ BK9.out 0).trans rfl;have hw0:=bF_ BK9.out 0;have hv1:=(bC_ BK9.out 1).trans rfl;have hw1:=bF_ BK9.out 1;have hv2:=(bC_ BK9.out 2).trans rfl;have hw2:=bF_ BK9.out 2;have hv3:=(bC_ BK9.out 3).trans rfl;have hw3:=bF_ BK9.out 3;have hv4:=(bC_ BK9.out 4).trans rfl;have hw4:=bF_ BK9.out 4;have hv5:=(bC_ BK9.out 5).trans rfl;have hw5:=bF_ BK9.out 5;have hv6:=(bC_ BK9.out 6).trans rfl;have hw6:=bF_ BK9.out 6;clear hb9))
   all_goals refine ⟨.inr ⟨rfl,rfl,A5,c5,A4,c4,(blk_far (blk_far (blk_far (blk_far (blk_far (blk_far (blk_far (HBK9.out) NE8.out _) NE8.out _) NE8.out _) NE8.out _) NE8.out _) NE8.out _) NE8.out _).trans rfl,Kd.R_keep HR5.out (Keep.far (Keep.far (Keep.far (Keep.far (Keep.far (Keep.far (Keep.far (HK9.out) (p:=⟨g8,0,none⟩) (Nat.le_of_lt GLR.out) GW8.out _) (p:=⟨g8,1,none⟩) (Nat.le_of_lt GLR.out) GW8.out _) (p:=⟨g8,2,none⟩) (Nat.le_of_lt GLR.out) GW8.out _) (p:=⟨g8,3,none⟩) (Nat.le_of_lt GLR.out) GW8.out _) (p:=⟨g8,4,none⟩) (Nat.le_of_lt GLR.out) GW8.out _) (p:=⟨g8,5,none⟩) (Nat.le_of_lt GLR.out) GW8.out _) (p:=⟨g8,6,none⟩) (Nat.le_of_lt GLR.out) GW8.out _).2 (fun _ h=>h),HK35.out.trans (Keep.far (Keep.far (Keep.far (Keep.far (Keep.far (Keep.far (Keep.far (HK9.out) (p:=⟨g8,0,none⟩) (Nat.le_of_lt GLR.out) GW8.out _) (p:=⟨g8,1,none⟩) (Nat.le_of_lt GLR.out) GW8.out _) (p:=⟨g8,2,none⟩) (Nat.le_of_lt GLR.out) GW8.out _) (p:=⟨g8,3,none⟩) (Nat.le_of_lt GLR.out) GW8.out _) (p:=⟨g8,4,none⟩) (Nat.le_of_lt GLR.out) GW8.out _) (p:=⟨g8,5,none⟩) (Nat.le_of_lt GLR.out) GW8.out _) (p:=⟨g8,6,none⟩) (Nat.le_of_lt GLR.out) GW8.out _)⟩,by simp [boolN]⟩
  ·go_wp2
   go_ret
   exact ⟨rfl,hF⟩
theorem drain_no (k:Nat) (g:Nat) (A:Option Addr) (c:Nat) (l:List S44) (A1:Option Addr) (c1:Nat) (s:Int) (e:S44) (r1:List S44) (r2:Int) (h2:r2≠1) (w:World) (base base1:Nat) (hb:w.heap[g]?=some (.cells #[.slice A l.length c,.slice A1 1 c1,.int .i64 s,.bool true] 107 (0,0)))
  (hr:Kd.R k44 44 w base (fun k=>k≠g) (.slice A l.length c) l) (hq:Kd.R k44 44 w base1 (fun k=>k≠g) (.slice A1 1 c1) [e]) (h:impl_LogAdd.f k l e.f0 e.f1 e.f2.f0 e.f2.f1 e.f2.f2 e.f2.f3 e.f2.f4=some (r1,r2)) (hG:Glob w) (h0:0 < g) :
  Calls Tryd.prog 81 #[.pointer (some ⟨g,0,none⟩)] w fun x w'=>x=.returned (.int .i64 0)∧DrainFin w g l s true w':=by
 have HBK:=a_ hb
 have HR:=a_ hr
 have HQ:=a_ hq
 have HA:=a_ h
 have HG:=a_ hG
 have H0:=a_ h0
 have H2:=a_ h2
 clear h hG h0 h2
 have HGL:=a_ (blk_lt hb)
 clear hb hr hq
 have hu1:=Tryd.underlying107
 have hu2:=Tryd.underlying44
 go_enter Tryd.func81,Tryd.ntmps81
 go_wp2_with (first|(go_at_call 118;refine (pop_one g _ A1 c1 s true e _ HBK.out base1 HQ.out).mono ?_;rintro x w1 ⟨rfl,⟨A2,c2,hb1⟩,hk1⟩;have HBK1:=a_ hb1;have HK1:=a_ hk1;clear hb1 hk1)|((with_reducible refine gD_ (N:=4) rfl ?_);refine bx_ 4 (#[.int .i64 0,.int .i64 0,.int .i64 0,.int .i64 0,.int .i64 0,.int .i64 0,.string ⟨#[]⟩]) 44 ?_;intro g8 hg8 w8 hbox8 hb8;have HBK8:=a_ (blk_below HBK1.out hb8);have BK8:=a_ hbox8;have HK8:=a_ (HK1.out.trans (Keep.of_below hb8 (Nat.le_trans (Nat.le_of_lt HGL.out) HK1.out.1.size)));have GE8:=a_ (show w.heap.size≤g8 by rw [hg8];exact HK1.out.1.size);have NE8:=a_ (show g≠g8 by have:=HGL.out;have:=GE8.out;omega);have hz0:=(bC_ BK8.out 0).trans rfl;have hf0:=bF_ BK8.out 0;have hz1:=(bC_ BK8.out 1).trans rfl;have hf1:=bF_ BK8.out 1;have hz2:=(bC_ BK8.out 2).trans rfl;have hf2:=bF_ BK8.out 2;have hz3:=(bC_ BK8.out 3).trans rfl;have hf3:=bF_ BK8.out 3;have hz4:=(bC_ BK8.out 4).trans rfl;have hf4:=bF_ BK8.out 4;have hz5:=(bC_ BK8.out 5).trans rfl;have hf5:=bF_ BK8.out 5;have hz6:=(bC_ BK8.out 6).trans rfl;have hf6:=bF_ BK8.out 6;clear hbox8 hb8 hg8))
 go_loopw [3,4,5] (fun t3 t4 t5 wr=>DrainRel w g l l s true e 0 t3 t4 t5 wr) (fun _ _ t5 _=>boolN t5)
 case atStart=>exact .inl ⟨rfl,rfl,⟨g8,rfl,(blk_set (blk_set (blk_set (blk_set (blk_set (blk_set (blk_set (BK8.out) 0 _) 1 _) 2 _) 3 _) 4 _) 5 _) 6 _).trans rfl,GE8.out⟩,A,c,A2,c2,(blk_far (blk_far (blk_far (blk_far (blk_far (blk_far (blk_far (HBK8.out) NE8.out _) NE8.out _) NE8.out _) NE8.out _) NE8.out _) NE8.out _) NE8.out _).trans rfl,Kd.R_keep (Kd.R_lower HR.out (Nat.zero_le _)) (Keep.far (Keep.far (Keep.far (Keep.far (Keep.far (Keep.far (Keep.far (HK8.out) (p:=⟨g8,0,none⟩) (Nat.le_of_lt HGL.out) GE8.out _) (p:=⟨g8,1,none⟩) (Nat.le_of_lt HGL.out) GE8.out _) (p:=⟨g8,2,none⟩) (Nat.le_of_lt HGL.out) GE8.out _) (p:=⟨g8,3,none⟩) (Nat.le_of_lt HGL.out) GE8.out _) (p:=⟨g8,4,none⟩) (Nat.le_of_lt HGL.out) GE8.out _) (p:=⟨g8,5,none⟩) (Nat.le_of_lt HGL.out) GE8.out _) (p:=⟨g8,6,none⟩) (Nat.le_of_lt HGL.out) GE8.out _).2 (fun _ h=>h),Keep.far (Keep.far (Keep.far (Keep.far (Keep.far (Keep.far (Keep.far (HK8.out) (p:=⟨g8,0,none⟩) (Nat.le_of_lt HGL.out) GE8.out _) (p:=⟨g8,1,none⟩) (Nat.le_of_lt HGL.out) GE8.out _) (p:=⟨g8,2,none⟩) (Nat.le_of_lt HGL.out) GE8.out _) (p:=⟨g8,3,none⟩) (Nat.le_of_lt HGL.out) GE8.out _) (p:=⟨g8,4,none⟩) (Nat.le_of_lt HGL.out) GE8.out _) (p:=⟨g8,5,none⟩) (Nat.le_of_lt HGL.out) GE8.out _) (p:=⟨g8,6,none⟩) (Nat.le_of_lt HGL.out) GE8.out _⟩
 case round =>
  rcases hrel with ⟨rfl,rfl,⟨gE,rfl,hE,hgE⟩,A3,c3,A4,c4,hb3,hr3,hk3⟩|⟨rfl,rfl,hF⟩
  ·have HE:=a_ hE
   have NEE:=a_ (show gE≠g by have:=HGL.out;omega)
   have HB3:=a_ hb3
   have HR3:=a_ hr3
   have HK3:=a_ hk3
   have hup:wr.cell? ⟨g,3,none⟩=some (.bool true):=(bC_ hb3 3).trans rfl
   have he0:=(bC_ hE 0).trans rfl
   have he1:=(bC_ hE 1).trans rfl
   have he2:=(bC_ hE 2).trans rfl
   have he3:=(bC_ hE 3).trans rfl
   have he4:=(bC_ hE 4).trans rfl
   have he5:=(bC_ hE 5).trans rfl
   have he6:=(bC_ hE 6).trans rfl
   clear hE hb3 hr3 hk3
   go_wp2
   go_region_with (go_at_call 119;refine (take_no k g A3 c3 l _ s true e r1 r2 H2.out _ 0 (bD_ HB3.out) (Kd.R_drew HR3.out) HA.out (HG.out.keep HK3.out H0.out).drew).mono ?_;rintro x w5 ⟨rfl,⟨A5,c5,hb5,hr5⟩,hk5⟩;have HB5:=a_ hb5;have HR5:=a_ (Kd.R_lower hr5 (Nat.zero_le 0));have HK35:=a_ (HK3.out.drew.trans hk5);have HE5:=a_ (hk5.2.blk (bD_ HE.out) NEE.out (by simp));have GLR:=a_ (blk_lt hb5);clear hb5 hr5 hk5;have hq0:=(bC_ HE5.out 0).trans rfl;have hq1:=(bC_ HE5.out 1).trans rfl;have hq2:=(bC_ HE5.out 2).trans rfl;have hq3:=(bC_ HE5.out 3).trans rfl;have hq4:=(bC_ HE5.out 4).trans rfl;have hq5:=(bC_ HE5.out 5).trans rfl;have hq6:=(bC_ HE5.out 6).trans rfl)
   all_goals go_wp2_with (first|((with_reducible refine gD_ (N:=4) rfl ?_);refine bx_ 4 (#[.int .i64 0,.int .i64 0,.int .i64 0,.int .i64 0,.int .i64 0,.int .i64 0,.string ⟨#[]⟩]) 44 ?_;intro g8 hg8 w8 hbox8 hb8;have HBK8:=a_ (blk_below HB5.out hb8);have BK8:=a_ hbox8;have HK8:=a_ (Keep.of_below hb8 (Nat.le_of_lt GLR.out));have GW8:=a_ (Nat.le_of_eq hg8.symm);have GE8:=a_ (show w.heap.size≤g8 by rw [hg8];exact HK35.out.1.size);have NE8:=a_ (show g≠g8 by have:=HGL.out;have:=GE8.out;omega);have hz0:=(bC_ BK8.out 0).trans rfl;have hf0:=bF_ BK8.out 0;have hz1:=(bC_ BK8.out 1).trans rfl;have hf1:=bF_ BK8.out 1;have hz2:=(bC_ BK8.out 2).trans rfl;have hf2:=bF_ BK8.out 2;have hz3:=(bC_ BK8.out 3).trans rfl;have hf3:=bF_ BK8.out 3;have hz4:=(bC_ BK8.out 4).trans rfl;have hf4:=bF_ BK8.out 4;have hz5:=(bC_ BK8.out 5).trans rfl;have hf5:=bF_ BK8.out 5;have hz6:=(bC_ BK8.out 6).trans rfl;have hf6:=bF_ BK8.out 6;clear hbox8 hb8 hg8)|(go_at_call 118;refine (pop_none g _ A4 c4 s true _ ((blk_far (blk_far (blk_far (blk_far (blk_far (blk_far (blk_far (HBK8.out) NE8.out _) NE8.out _) NE8.out _) NE8.out _) NE8.out _) NE8.out _) NE8.out _).trans rfl)).mono ?_;rintro x w9 ⟨rfl,hb9⟩;have HBK9:=a_ (blk_below (blk_far (blk_far (blk_far (blk_far (blk_far (blk_far (blk_far (HBK8.out) NE8.out _) NE8.out _) NE8.out _) NE8.out _) NE8.out _) NE8.out _) NE8.out _) hb9);have BK9:=a_ (blk_below (blk_set (blk_set (blk_set (blk_set (blk_set (blk_set (blk_set (BK8.out) 0 _) 1 _) 2 _) 3 _) 4 _) 5 _) 6 _) hb9);have HK9:=a_ ((Keep.far (Keep.far (Keep.far (Keep.far (Keep.far (Keep.far (Keep.far (HK8.out) (p:=⟨g8,0,none⟩) (Nat.le_of_lt GLR.out) GW8.out _) (p:=⟨g8,1,none⟩) (Nat.le_of_lt GLR.out) GW8.out _) (p:=⟨g8,2,none⟩) (Nat.le_of_lt GLR.out) GW8.out _) (p:=⟨g8,3,none⟩) (Nat.le_of_lt GLR.out) GW8.out _) (p:=⟨g8,4,none⟩) (Nat.le_of_lt GLR.out) GW8.out _) (p:=⟨g8,5,none⟩) (Nat.le_of_lt GLR.out) GW8.out _) (p:=⟨g8,6,none⟩) (Nat.le_of_lt GLR.out) GW8.out _).trans (Keep.of_below hb9 (Nat.le_trans (Nat.le_of_lt GLR.out) (Keep.far (Keep.far (Keep.far (Keep.far (Keep.far (Keep.far (Keep.far (HK8.out) (p:=⟨g8,0,none⟩) (Nat.le_of_lt GLR.out) GW8.out _) (p:=⟨g8,1,none⟩) (Nat.le_of_lt GLR.out) GW8.out _) (p:=⟨g8,2,none⟩) (Nat.le_of_lt GLR.out) GW8.out _) (p:=⟨g8,3,none⟩) (Nat.le_of_lt GLR.out) GW8.out _) (p:=⟨g8,4,none⟩) (Nat.le_of_lt GLR.out) GW8.out _) (p:=⟨g8,5,none⟩) (Nat.le_of_lt GLR.out) GW8.out _) (p:=⟨g8,6,none⟩) (Nat.le_of_lt GLR.out) GW8.out _).1.size)));have hv0:=(bC_ BK9.out 0).trans rfl;have hw0:=bF_ BK9.out 0;have hv1:=(bC_ BK9.out 1).trans rfl;have hw1:=bF_ BK9.out 1;have hv2:=(bC_ BK9.out 2).trans rfl;have hw2:=bF_ BK9.out 2;have hv3:=(bC_ BK9.out 3).trans rfl;have hw3:=bF_ BK9.out 3;have hv4:=(bC_ BK9.out 4).trans rfl;have hw4:=bF_ BK9.out 4;have hv5:=(bC_ BK9.out 5).trans rfl;have hw5:=bF_ BK9.out 5;have hv6:=(bC_ BK9.out 6).trans rfl;have hw6:=bF_ BK9.out 6;clear hb9))
   all_goals refine ⟨.inr ⟨rfl,rfl,A5,c5,A4,c4,(blk_far (blk_far (blk_far (blk_far (blk_far (blk_far (blk_far (HBK9.out) NE8.out _) NE8.out _) NE8.out _) NE8.out _) NE8.out _) NE8.out _) NE8.out _).trans rfl,Kd.R_keep HR5.out (Keep.far (Keep.far (Keep.far (Keep.far (Keep.far (Keep.far (Keep.far (HK9.out) (p:=⟨g8,0,none⟩) (Nat.le_of_lt GLR.out) GW8.out _) (p:=⟨g8,1,none⟩) (Nat.le_of_lt GLR.out) GW8.out _) (p:=⟨g8,2,none⟩) (Nat.le_of_lt GLR.out) GW8.out _) (p:=⟨g8,3,none⟩) (Nat.le_of_lt GLR.out) GW8.out _) (p:=⟨g8,4,none⟩) (Nat.le_of_lt GLR.out) GW8.out _) (p:=⟨g8,5,none⟩) (Nat.le_of_lt GLR.out) GW8.out _) (p:=⟨g8,6,none⟩) (Nat.le_of_lt GLR.out) GW8.out _).2 (fun _ h=>h),HK35.out.trans (Keep.far (Keep.far (Keep.far (Keep.far (Keep.far (Keep.far (Keep.far (HK9.out) (p:=⟨g8,0,none⟩) (Nat.le_of_lt GLR.out) GW8.out _) (p:=⟨g8,1,none⟩) (Nat.le_of_lt GLR.out) GW8.out _) (p:=⟨g8,2,none⟩) (Nat.le_of_lt GLR.out) GW8.out _) (p:=⟨g8,3,none⟩) (Nat.le_of_lt GLR.out) GW8.out _) (p:=⟨g8,4,none⟩) (Nat.le_of_lt GLR.out) GW8.out _) (p:=⟨g8,5,none⟩) (Nat.le_of_lt GLR.out) GW8.out _) (p:=⟨g8,6,none⟩) (Nat.le_of_lt GLR.out) GW8.out _)⟩,by simp [boolN]⟩
  ·go_wp2
   go_ret
   exact ⟨rfl,hF⟩
theorem impl_mserver.callsC (g:Nat) (A:Option Addr) (c:Nat) (l0:List S44) (q:Value) (a1:Int) (a2:Bool) (w:World) (hb:w.heap[g]?=some (.cells #[.slice A l0.length c,q,.int .i64 a1,.bool a2] 107 (0,0))) (hr0:Kd.C k44 w A l0.length l0) (hc0:l0.length≤c) (hl:l0.length < 2199023255552) :
  Calls Tryd.prog 82 #[.pointer (some ⟨g,0,none⟩)] w fun e w'=>∃ v0_:Value,e=.returned (.agg #[v0_,.int .i64 a1,.bool a2])∧Kd.R k44 44 w' w.heap.size (fun _=>True) v0_ l0∧Below w.heap.size w w':=by
 have hf:impl_Entry_85.f l0=some l0:=if_pos hl
 have HF:=a_ hf
 have HR0:=a_ hr0
 have HC0:=a_ hc0
 have HBK:=a_ hb
 clear hr0 hc0 hf hl hb
 have hu1:=Tryd.underlying25
 have hu2:=Tryd.underlying107
 have hu3:=Tryd.underlying103
 have HR1:=a_ (Below.refl w.heap.size w)
 go_enter Tryd.func82,Tryd.ntmps82
 go_wp2
 have HB0:=a_ ((Below.refl w.heap.size w).alloc (Nat.le_refl _) (.cells #[.slice none 0 0,.int .i64 0,.bool false] 25))
 have HK0:=a_ (bA_ HBK.out (.cells #[.slice none 0 0,.int .i64 0,.bool false] 25))
 obtain ⟨W1,hW1⟩:∃ W1,W1=w.alloc (.cells #[.slice none 0 0,.int .i64 0,.bool false] 25):=⟨_,rfl⟩
 have hn0:W1.heap[w.heap.size]?=some (.cells #[.slice none 0 0,.int .i64 0,.bool false] 25 (0,0)):=by rw [hW1];simpa using heap_alloc_new w _
 have HN0:=a_ hn0
 rw [←hW1] at HB0 HK0 ⊢
 clear hW1 hn0
 have hs0:W1.cell? ⟨g,0,none⟩=some (.slice A l0.length c):=(bC_ HK0.out 0).trans rfl
 have hs2:W1.cell? ⟨g,2,none⟩=some (.int .i64 a1):=(bC_ HK0.out 2).trans rfl
 have hs3:W1.cell? ⟨g,3,none⟩=some (.bool a2):=(bC_ HK0.out 3).trans rfl
 have HBd:=a_ (below_drew1 HB0.out)
 have HNd:=a_ (bD_ HN0.out)
 have HKd:=a_ (bD_ HK0.out)
 clear HB0 HN0 HK0
 go_region_with (go_at_call 85;refine (impl_Entry_85.calls _ _ _ l0 _ (Kd.C_below HR0.out HBd.out) HC0.out HF.out).mono ?_;rintro e w2 ⟨v2,rfl,ho2,hb2⟩;obtain ⟨A2,c2,rfl⟩:=Kd.R_slice ho2;have HB2:=a_ (bS_ HBd.out hb2);have HN2:=a_ (blk_below HNd.out hb2);have HK2:=a_ (blk_below HKd.out hb2);have HO2:=a_ ho2;clear hb2 ho2;have hd0:=(bC_ HK2.out 0).trans rfl;have hd2:=(bC_ HK2.out 2).trans rfl;have hd3:=(bC_ HK2.out 3).trans rfl;have he0:=(bC_ HN2.out 0).trans rfl;have he1:=(bC_ HN2.out 1).trans rfl;have he2:=(bC_ HN2.out 2).trans rfl;have hf0:=bF_ HN2.out 0;have hf1:=bF_ HN2.out 1;have hf2:=bF_ HN2.out 2)
 all_goals have hrb:=Kd.R_newB HO2.out HNd.out
 all_goals go_wp2
 all_goals (try simp only [Exit.inBlock,Exit.then])
 all_goals refine bodyPost_ret (results_cell_row rfl _ _ w.heap.size 25 #[.slice A2 l0.length c2,.int .i64 a1,.bool a2] (0,0) _ rfl ((blk_set (blk_set (blk_set HN2.out 0 _) 1 _) 2 _).trans rfl) Tryd.underlying25 rfl (by kernel_rfl)) rfl ?_
 all_goals refine ⟨_,rfl,?_,wS_ (wS_ (wS_ HB2.out (Nat.le_refl _)) (Nat.le_refl _)) (Nat.le_refl _)⟩
 all_goals exact Kd.R_mono (Kd.R_far (Kd.R_far (Kd.R_far (Kd.R_lower hrb HBd.out.size) (p:=⟨w.heap.size,0,none⟩) (fun _ hk=>hk.2) _) (p:=⟨w.heap.size,1,none⟩) (fun _ hk=>hk.2) _) (p:=⟨w.heap.size,2,none⟩) (fun _ hk=>hk.2) _) (fun _ _=>trivial)
theorem impl_mserver.calls (base g:Nat) (l0:List S44) (q:Value) (a1:Int) (a2:Bool) (w:World) (hM:Mach w base g l0 q a1 a2) (hl:l0.length < 2199023255552) :
  Calls Tryd.prog 82 #[.pointer (some ⟨g,0,none⟩)] w fun e w'=>∃ v0_:Value,e=.returned (.agg #[v0_,.int .i64 a1,.bool a2])∧Kd.R k44 44 w' w.heap.size (fun _=>True) v0_ l0∧Below w.heap.size w w':=by
 obtain ⟨A,c,hb,hr,hbase⟩:=hM
 obtain ⟨_,hc0,hr0⟩:=Kd.R_reads' hr
 exact impl_mserver.callsC g A c l0 q a1 a2 w hb hr0 hc0 hl
theorem Keep.belowW {g:Nat} {w0 w w1:World} (h:Keep g w w1) (hb:Below w0.heap.size w0 w) (hg:w0.heap.size≤g):Below w0.heap.size w0 w1 :=
 ⟨h.1.os.trans hb.os,h.1.tape.trans hb.tape,h.1.output.trans hb.output,Nat.le_trans hb.size h.1.size,fun k hk=>(h.1.block k (by omega)).trans (hb.block k hk)⟩
def impl_ServerHear.f (k:Nat) (l0_0:List S44) (a0_1:Int) (a0_2:Bool) (a1_0:Int) (a1_1:Int) (a1_2:Int) (a1_3:Int) (a1_4:Int) (a1_5:Int) (a1_6:ByteArray):Option (List S44×Int×Bool×Bool) :=
 (impl_ServerOk.f k l0_0 a0_1 a0_2).bind fun t=>if t=true then ((impl_EntryOk.f k a1_0 a1_1 a1_2 a1_3 a1_4 a1_5 a1_6).bind fun t2=>if t2=true then
  (if l0_0.length < 2199023255552 then (if a0_2=true then ((impl_LogAdd.f k l0_0 a1_0 a1_1 a1_2 a1_3 a1_4 a1_5 a1_6).bind fun p=>if p.2=1 then (if p.1.length < 2199023255552 then some (p.1,a0_1,true,true) else none) else some (l0_0,a0_1,true,false)) else some (l0_0,a0_1,false,false)) else none)
  else some ([],0,false,false)) else some ([],0,false,false)
theorem impl_ServerHear.mono (l0_0:List S44) (a0_1:Int) (a0_2:Bool) (a1_0:Int) (a1_1:Int) (a1_2:Int) (a1_3:Int) (a1_4:Int) (a1_5:Int) (a1_6:ByteArray) (k:Nat):LeO (impl_ServerHear.f k l0_0 a0_1 a0_2 a1_0 a1_1 a1_2 a1_3 a1_4 a1_5 a1_6) (impl_ServerHear.f (k+1) l0_0 a0_1 a0_2 a1_0 a1_1 a1_2 a1_3 a1_4 a1_5 a1_6):=by
 unfold impl_ServerHear.f
 refine LeO.bind (impl_ServerOk.mono _ _ _ _) (fun t=>?_)
 split
 ·refine LeO.bind (impl_EntryOk.mono _ _ _ _ _ _ _ _) (fun t2=>?_)
  split
  ·split
   ·split
    ·exact LeO.bind (impl_LogAdd.mono _ _ _ _ _ _ _ _ _) (fun _=>LeO.refl _)
    ·exact LeO.refl _
   ·exact LeO.refl _
  ·exact LeO.refl _
 ·exact LeO.refl _
theorem impl_ServerHear.calls (k:Nat) (A0_0:Option Addr) (c0_0:Nat) (l0_0:List S44) (a0_1:Int) (a0_2:Bool) (a1_0:Int) (a1_1:Int) (a1_2:Int) (a1_3:Int) (a1_4:Int) (a1_5:Int) (a1_6:ByteArray) (r1:List S44) (r2:Int) (r3:Bool) (r4:Bool) (w:World) (hr0_0:Kd.C k44 w A0_0 l0_0.length l0_0) (hc0_0:l0_0.length≤c0_0) (h:impl_ServerHear.f k l0_0 a0_1 a0_2 a1_0 a1_1 a1_2 a1_3 a1_4 a1_5 a1_6=some (r1,r2,r3,r4)) (hG:Glob w) :
  Calls Tryd.prog 24 #[.agg #[.slice A0_0 l0_0.length c0_0,.int .i64 a0_1,.bool a0_2],.agg #[.int .i64 a1_0,.int .i64 a1_1,.int .i64 a1_2,.int .i64 a1_3,.int .i64 a1_4,.int .i64 a1_5,.string a1_6]] w fun e w'=>∃ v0_:Value,e=.returned (.tuple #[.agg #[v0_,.int .i64 r2,.bool r3],.bool r4])∧Kd.R k44 44 w' w.heap.size (fun _=>True) v0_ r1∧Below w.heap.size w w':=by
 have HR0:=a_ hr0_0
 have HC0:=a_ hc0_0
 have HG:=a_ hG
 have H0:=a_ hG.lt
 clear hr0_0 hc0_0 hG
 have hu1:=Tryd.underlying25
 have hu2:=Tryd.underlying107
 have hu3:=Tryd.underlying103
 have hu4:=Tryd.underlying44
 unfold impl_ServerHear.f at h
 obtain ⟨t,ht,h⟩:=Option.bind_eq_some_iff.1 h
 have HT:=a_ ht
 clear ht
 cases t with
 | false =>
  simp only [Bool.false_eq_true,if_false,Option.some.injEq,Prod.mk.injEq] at h
  obtain ⟨rfl,rfl,rfl,rfl⟩:=h
  go_enter Tryd.func24,Tryd.ntmps24
  go_wp2_with (first|((with_reducible refine gD_ (N:=2) rfl ?_);refine bx_ 2 (#[.slice A0_0 l0_0.length c0_0,.int .i64 a0_1,.bool a0_2]) 25 ?_;intro gS hgS w1 hbox hb1;have HB1:=a_ hb1;have BS1:=a_ hbox;clear hbox hb1 hgS)|((with_reducible refine gD_ (N:=3) rfl ?_);refine bx_ 3 (#[.int .i64 a1_0,.int .i64 a1_1,.int .i64 a1_2,.int .i64 a1_3,.int .i64 a1_4,.int .i64 a1_5,.string a1_6]) 44 ?_;intro gE hgE w2 hbox hb2;have HB2:=a_ (bS_ HB1.out hb2);have BS2:=a_ (blk_below BS1.out hb2);have BE2:=a_ hbox;clear hbox hb2 hgE)|((with_reducible refine gD_ (N:=4) rfl ?_);refine bx_ 4 (#[.slice none 0 0,.int .i64 0,.bool false]) 25 ?_;intro gR hgR w3 hbox hb3;have HB3:=a_ (bS_ HB2.out hb3);have BS3:=a_ (blk_below BS2.out hb3);have BE3:=a_ (blk_below BE2.out hb3);have BR3:=a_ hbox;have GR:=a_ (show w.heap.size≤gR by rw [hgR];exact HB2.out.size);have hs0:=(bC_ BS3.out 0).trans rfl;have hs1:=(bC_ BS3.out 1).trans rfl;have hs2:=(bC_ BS3.out 2).trans rfl;have he0:=(bC_ BE3.out 0).trans rfl;have he1:=(bC_ BE3.out 1).trans rfl;have he2:=(bC_ BE3.out 2).trans rfl;have he3:=(bC_ BE3.out 3).trans rfl;have he4:=(bC_ BE3.out 4).trans rfl;have he5:=(bC_ BE3.out 5).trans rfl;have he6:=(bC_ BE3.out 6).trans rfl;have hz0:=(bC_ BR3.out 0).trans rfl;have hz1:=(bC_ BR3.out 1).trans rfl;have hz2:=(bC_ BR3.out 2).trans rfl;have hzf0:=bF_ BR3.out 0;have hzf1:=bF_ BR3.out 1;have hzf2:=bF_ BR3.out 2;clear hbox hb3 hgR)|(go_at_call 16;go_loud (refine (impl_ServerOk.calls k _ _ l0_0 a0_1 a0_2 false _ (Kd.C_below HR0.out HB3.out) HC0.out HT.out (HG.out.below HB3.out)).mono ?_;rintro e w4 ⟨rfl,hb4⟩;have HB4:=a_ (bS_ HB3.out hb4);have BS4:=a_ (blk_below BS3.out hb4);have BE4:=a_ (blk_below BE3.out hb4);have BR4:=a_ (blk_below BR3.out hb4);clear hb4;have hsp0:=(bC_ BS4.out 0).trans rfl;have hsp1:=(bC_ BS4.out 1).trans rfl;have hsp2:=(bC_ BS4.out 2).trans rfl;have hep0:=(bC_ BE4.out 0).trans rfl;have hep1:=(bC_ BE4.out 1).trans rfl;have hep2:=(bC_ BE4.out 2).trans rfl;have hep3:=(bC_ BE4.out 3).trans rfl;have hep4:=(bC_ BE4.out 4).trans rfl;have hep5:=(bC_ BE4.out 5).trans rfl;have hep6:=(bC_ BE4.out 6).trans rfl;have hzp0:=(bC_ BR4.out 0).trans rfl;have hzp1:=(bC_ BR4.out 1).trans rfl;have hzp2:=(bC_ BR4.out 2).trans rfl;have hzpf0:=bF_ BR4.out 0;have hzpf1:=bF_ BR4.out 1;have hzpf2:=bF_ BR4.out 2)))
  (try simp only [Exit.inBlock,Exit.then])
  refine bodyPost_ret (results_ct rfl _ _ gR 25 #[.slice none 0 0,.int .i64 0,.bool false] (0,0) _ rfl ((blk_set (blk_set (blk_set BR4.out 0 _) 1 _) 2 _).trans rfl) Tryd.underlying25 rfl (by kernel_rfl)) rfl ?_
  exact ⟨_,rfl,Kd.R_nil _ _ _ _ _,wS_ (wS_ (wS_ HB4.out GR.out) GR.out) GR.out⟩
 | true =>
  rw [if_pos rfl] at h
  obtain ⟨t2,ht2,h⟩:=Option.bind_eq_some_iff.1 h
  have HT2:=a_ ht2
  clear ht2
  cases t2 with
  | false =>
   simp only [Bool.false_eq_true,if_false,Option.some.injEq,Prod.mk.injEq] at h
   obtain ⟨rfl,rfl,rfl,rfl⟩:=h
   go_enter Tryd.func24,Tryd.ntmps24
   go_wp2_with (first|((with_reducible refine gD_ (N:=2) rfl ?_);refine bx_ 2 (#[.slice A0_0 l0_0.length c0_0,.int .i64 a0_1,.bool a0_2]) 25 ?_;intro gS hgS w1 hbox hb1;have HB1:=a_ hb1;have BS1:=a_ hbox;clear hbox hb1 hgS)|((with_reducible refine gD_ (N:=3) rfl ?_);refine bx_ 3 (#[.int .i64 a1_0,.int .i64 a1_1,.int .i64 a1_2,.int .i64 a1_3,.int .i64 a1_4,.int .i64 a1_5,.string a1_6]) 44 ?_;intro gE hgE w2 hbox hb2;have HB2:=a_ (bS_ HB1.out hb2);have BS2:=a_ (blk_below BS1.out hb2);have BE2:=a_ hbox;clear hbox hb2 hgE)|((with_reducible refine gD_ (N:=4) rfl ?_);refine bx_ 4 (#[.slice none 0 0,.int .i64 0,.bool false]) 25 ?_;intro gR hgR w3 hbox hb3;have HB3:=a_ (bS_ HB2.out hb3);have BS3:=a_ (blk_below BS2.out hb3);have BE3:=a_ (blk_below BE2.out hb3);have BR3:=a_ hbox;have GR:=a_ (show w.heap.size≤gR by rw [hgR];exact HB2.out.size);have hs0:=(bC_ BS3.out 0).trans rfl;have hs1:=(bC_ BS3.out 1).trans rfl;have hs2:=(bC_ BS3.out 2).trans rfl;have he0:=(bC_ BE3.out 0).trans rfl;have he1:=(bC_ BE3.out 1).trans rfl;have he2:=(bC_ BE3.out 2).trans rfl;have he3:=(bC_ BE3.out 3).trans rfl;have he4:=(bC_ BE3.out 4).trans rfl;have he5:=(bC_ BE3.out 5).trans rfl;have he6:=(bC_ BE3.out 6).trans rfl;have hz0:=(bC_ BR3.out 0).trans rfl;have hz1:=(bC_ BR3.out 1).trans rfl;have hz2:=(bC_ BR3.out 2).trans rfl;have hzf0:=bF_ BR3.out 0;have hzf1:=bF_ BR3.out 1;have hzf2:=bF_ BR3.out 2;clear hbox hb3 hgR)|(go_at_call 16;go_loud (refine (impl_ServerOk.calls k _ _ l0_0 a0_1 a0_2 true _ (Kd.C_below HR0.out HB3.out) HC0.out HT.out (HG.out.below HB3.out)).mono ?_;rintro e w4 ⟨rfl,hb4⟩;have HB4:=a_ (bS_ HB3.out hb4);have BS4:=a_ (blk_below BS3.out hb4);have BE4:=a_ (blk_below BE3.out hb4);have BR4:=a_ (blk_below BR3.out hb4);clear hb4;have hsp0:=(bC_ BS4.out 0).trans rfl;have hsp1:=(bC_ BS4.out 1).trans rfl;have hsp2:=(bC_ BS4.out 2).trans rfl;have hep0:=(bC_ BE4.out 0).trans rfl;have hep1:=(bC_ BE4.out 1).trans rfl;have hep2:=(bC_ BE4.out 2).trans rfl;have hep3:=(bC_ BE4.out 3).trans rfl;have hep4:=(bC_ BE4.out 4).trans rfl;have hep5:=(bC_ BE4.out 5).trans rfl;have hep6:=(bC_ BE4.out 6).trans rfl;have hzp0:=(bC_ BR4.out 0).trans rfl;have hzp1:=(bC_ BR4.out 1).trans rfl;have hzp2:=(bC_ BR4.out 2).trans rfl;have hzpf0:=bF_ BR4.out 0;have hzpf1:=bF_ BR4.out 1;have hzpf2:=bF_ BR4.out 2))|(go_at_call 78;go_loud (refine (impl_EntryOk.calls k _ _ _ _ _ _ _ false _ HT2.out (HG.out.below HB4.out)).mono ?_;rintro e w5 ⟨rfl,hb5⟩;have HB5:=a_ (bS_ HB4.out hb5);have BS5:=a_ (blk_below BS4.out hb5);have BE5:=a_ (blk_below BE4.out hb5);have BR5:=a_ (blk_below BR4.out hb5);clear hb5;have hsq0:=(bC_ BS5.out 0).trans rfl;have hsq1:=(bC_ BS5.out 1).trans rfl;have hsq2:=(bC_ BS5.out 2).trans rfl;have heq0:=(bC_ BE5.out 0).trans rfl;have heq1:=(bC_ BE5.out 1).trans rfl;have heq2:=(bC_ BE5.out 2).trans rfl;have heq3:=(bC_ BE5.out 3).trans rfl;have heq4:=(bC_ BE5.out 4).trans rfl;have heq5:=(bC_ BE5.out 5).trans rfl;have heq6:=(bC_ BE5.out 6).trans rfl;have hzq0:=(bC_ BR5.out 0).trans rfl;have hzq1:=(bC_ BR5.out 1).trans rfl;have hzq2:=(bC_ BR5.out 2).trans rfl;have hzqf0:=bF_ BR5.out 0;have hzqf1:=bF_ BR5.out 1;have hzqf2:=bF_ BR5.out 2)))
   (try simp only [Exit.inBlock,Exit.then])
   refine bodyPost_ret (results_ct rfl _ _ gR 25 #[.slice none 0 0,.int .i64 0,.bool false] (0,0) _ rfl ((blk_set (blk_set (blk_set BR5.out 0 _) 1 _) 2 _).trans rfl) Tryd.underlying25 rfl (by kernel_rfl)) rfl ?_
   exact ⟨_,rfl,Kd.R_nil _ _ _ _ _,wS_ (wS_ (wS_ HB5.out GR.out) GR.out) GR.out⟩
  | true =>
   rw [if_pos rfl] at h
   obtain ⟨e1,he1⟩:∃ e1:S44,e1=⟨a1_0,a1_1,⟨a1_2,a1_3,a1_4,a1_5,a1_6⟩⟩:=⟨_,rfl⟩
   obtain rfl:e1.f0=a1_0:=by rw [he1]
   obtain rfl:e1.f1=a1_1:=by rw [he1]
   obtain rfl:e1.f2.f0=a1_2:=by rw [he1]
   obtain rfl:e1.f2.f1=a1_3:=by rw [he1]
   obtain rfl:e1.f2.f2=a1_4:=by rw [he1]
   obtain rfl:e1.f2.f3=a1_5:=by rw [he1]
   obtain rfl:e1.f2.f4=a1_6:=by rw [he1]
   clear he1
   by_cases hl:l0_0.length < 2199023255552
   ·rw [if_pos hl] at h
    have LM:=a_ hl
    clear hl
    cases a0_2 with
    | false =>
     simp only [Bool.false_eq_true,if_false,Option.some.injEq,Prod.mk.injEq] at h
     obtain ⟨rfl,rfl,rfl,rfl⟩:=h
     go_enter Tryd.func24,Tryd.ntmps24
     go_wp2_with (first|((with_reducible refine gD_ (N:=2) rfl ?_);refine bx_ 2 (#[.slice A0_0 l0_0.length c0_0,.int .i64 a0_1,.bool false]) 25 ?_;intro gS hgS w1 hbox hb1;have HB1:=a_ hb1;have BS1:=a_ hbox;clear hbox hb1 hgS)|((with_reducible refine gD_ (N:=3) rfl ?_);refine bx_ 3 (#[.int .i64 e1.f0,.int .i64 e1.f1,.int .i64 e1.f2.f0,.int .i64 e1.f2.f1,.int .i64 e1.f2.f2,.int .i64 e1.f2.f3,.string e1.f2.f4]) 44 ?_;intro gE hgE w2 hbox hb2;have HB2:=a_ (bS_ HB1.out hb2);have BS2:=a_ (blk_below BS1.out hb2);have BE2:=a_ hbox;clear hbox hb2 hgE)|((with_reducible refine gD_ (N:=4) rfl ?_);refine bx_ 4 (#[.slice none 0 0,.int .i64 0,.bool false]) 25 ?_;intro gR hgR w3 hbox hb3;have HB3:=a_ (bS_ HB2.out hb3);have BS3:=a_ (blk_below BS2.out hb3);have BE3:=a_ (blk_below BE2.out hb3);have BR3:=a_ hbox;have GR:=a_ (show w.heap.size≤gR by rw [hgR];exact HB2.out.size);have hs0:=(bC_ BS3.out 0).trans rfl;have hs1:=(bC_ BS3.out 1).trans rfl;have hs2:=(bC_ BS3.out 2).trans rfl;have he0:=(bC_ BE3.out 0).trans rfl;have he1:=(bC_ BE3.out 1).trans rfl;have he2:=(bC_ BE3.out 2).trans rfl;have he3:=(bC_ BE3.out 3).trans rfl;have he4:=(bC_ BE3.out 4).trans rfl;have he5:=(bC_ BE3.out 5).trans rfl;have he6:=(bC_ BE3.out 6).trans rfl;have hz0:=(bC_ BR3.out 0).trans rfl;have hz1:=(bC_ BR3.out 1).trans rfl;have hz2:=(bC_ BR3.out 2).trans rfl;have hzf0:=bF_ BR3.out 0;have hzf1:=bF_ BR3.out 1;have hzf2:=bF_ BR3.out 2;clear hbox hb3 hgR)|(go_at_call 16;go_loud (refine (impl_ServerOk.calls k _ _ l0_0 a0_1 false true _ (Kd.C_below HR0.out HB3.out) HC0.out HT.out (HG.out.below HB3.out)).mono ?_;rintro e w4 ⟨rfl,hb4⟩;have HB4:=a_ (bS_ HB3.out hb4);have BS4:=a_ (blk_below BS3.out hb4);have BE4:=a_ (blk_below BE3.out hb4);have BR4:=a_ (blk_below BR3.out hb4);clear hb4;have hsp0:=(bC_ BS4.out 0).trans rfl;have hsp1:=(bC_ BS4.out 1).trans rfl;have hsp2:=(bC_ BS4.out 2).trans rfl;have hep0:=(bC_ BE4.out 0).trans rfl;have hep1:=(bC_ BE4.out 1).trans rfl;have hep2:=(bC_ BE4.out 2).trans rfl;have hep3:=(bC_ BE4.out 3).trans rfl;have hep4:=(bC_ BE4.out 4).trans rfl;have hep5:=(bC_ BE4.out 5).trans rfl;have hep6:=(bC_ BE4.out 6).trans rfl;have hzp0:=(bC_ BR4.out 0).trans rfl;have hzp1:=(bC_ BR4.out 1).trans rfl;have hzp2:=(bC_ BR4.out 2).trans rfl;have hzpf0:=bF_ BR4.out 0;have hzpf1:=bF_ BR4.out 1;have hzpf2:=bF_ BR4.out 2))|(go_at_call 78;go_loud (refine (impl_EntryOk.calls k _ _ _ _ _ _ _ true _ HT2.out (HG.out.below HB4.out)).mono ?_;rintro e w5 ⟨rfl,hb5⟩;have HB5:=a_ (bS_ HB4.out hb5);have BS5:=a_ (blk_below BS4.out hb5);have BE5:=a_ (blk_below BE4.out hb5);have BR5:=a_ (blk_below BR4.out hb5);clear hb5;have hsq0:=(bC_ BS5.out 0).trans rfl;have hsq1:=(bC_ BS5.out 1).trans rfl;have hsq2:=(bC_ BS5.out 2).trans rfl;have heq0:=(bC_ BE5.out 0).trans rfl;have heq1:=(bC_ BE5.out 1).trans rfl;have heq2:=(bC_ BE5.out 2).trans rfl;have heq3:=(bC_ BE5.out 3).trans rfl;have heq4:=(bC_ BE5.out 4).trans rfl;have heq5:=(bC_ BE5.out 5).trans rfl;have heq6:=(bC_ BE5.out 6).trans rfl;have hzq0:=(bC_ BR5.out 0).trans rfl;have hzq1:=(bC_ BR5.out 1).trans rfl;have hzq2:=(bC_ BR5.out 2).trans rfl;have hzqf0:=bF_ BR5.out 0;have hzqf1:=bF_ BR5.out 1;have hzqf2:=bF_ BR5.out 2))|(go_at_call 79;refine (impl_machineOf.calls _ _ l0_0 a0_1 false _ (Kd.C_below HR0.out HB5.out) HC0.out LM.out).mono ?_;rintro e w6 ⟨g,rfl,⟨A6,c6,hk6,hr6,hge6⟩,hb6⟩;have HM6:=a_ hk6;have HR6:=a_ hr6;have GE6:=a_ (Nat.le_trans HB5.out.size hge6);have NER:=a_ (show gR≠g by have:=blk_lt BR5.out;omega);have HB6:=a_ (bS_ HB5.out hb6);have BE6:=a_ (blk_below BE5.out hb6);have BR6:=a_ (blk_below BR5.out hb6);have NEE:=a_ (show gE≠g by have:=blk_lt BE5.out;omega);clear hk6 hr6 hge6 hb6;have het0:=(bC_ BE6.out 0).trans rfl;have het1:=(bC_ BE6.out 1).trans rfl;have het2:=(bC_ BE6.out 2).trans rfl;have het3:=(bC_ BE6.out 3).trans rfl;have het4:=(bC_ BE6.out 4).trans rfl;have het5:=(bC_ BE6.out 5).trans rfl;have het6:=(bC_ BE6.out 6).trans rfl))
     go_region_with (go_at_call 80;refine (push_any g _ a0_1 false e1 _ (bD_ HM6.out)).mono ?_;rintro x w7 ⟨⟨v7,rfl⟩,A7,c7,hb7,hr7,hk7⟩;have HM7:=a_ hb7;have HQ7:=a_ hr7;have HK7:=a_ hk7;have HR7:=a_ (Kd.R_keep (Kd.R_drew HR6.out) hk7.2 (fun _ h=>h));have BR7:=a_ (hk7.2.blk (bD_ BR6.out) NER.out (by simp));have HB7:=a_ (hk7.belowW (below_drew1 HB6.out) GE6.out);clear hb7 hr7 hk7)
     all_goals go_wp2_with (first|(go_at_call 81;go_loud (refine (drain_down k g A6 c6 l0_0 A7 c7 a0_1 e1  _ _ _ HM7.out HR7.out HQ7.out).mono ?_;rintro x w8 ⟨rfl,A8,c8,A9,c9,hb8,hr8,hk8⟩;have HM8:=a_ hb8;have HR8:=a_ hr8;have BR8:=a_ (hk8.2.blk BR7.out NER.out (by simp));have HB8:=a_ (hk8.belowW HB7.out GE6.out);clear hb8 hr8 hk8))|(go_at_call 82;go_loud (refine (impl_mserver.callsC g A8 c8 l0_0 _ a0_1 false _ HM8.out (Kd.R_reads' HR8.out).2.2 (Kd.R_reads' HR8.out).2.1 LM.out).mono ?_;rintro x w9 ⟨v9,rfl,ho9,hb9⟩;obtain ⟨A10,c10,rfl⟩:=Kd.R_slice ho9;have HO9:=a_ (Kd.R_newB ho9 BR8.out);have HB9:=a_ (bS_ HB8.out hb9);have BR9:=a_ (blk_below BR8.out hb9);clear ho9 hb9;have hw0:=(bC_ BR9.out 0).trans rfl;have hw1:=(bC_ BR9.out 1).trans rfl;have hw2:=(bC_ BR9.out 2).trans rfl;have hwf0:=bF_ BR9.out 0;have hwf1:=bF_ BR9.out 1;have hwf2:=bF_ BR9.out 2)))
     all_goals (try simp only [Exit.inBlock,Exit.then])
     all_goals refine bodyPost_ret (results_ct rfl _ _ gR 25 #[.slice A10 l0_0.length c10,.int .i64 a0_1,.bool false] (0,0) _ rfl ((blk_set (blk_set (blk_set BR9.out 0 _) 1 _) 2 _).trans rfl) Tryd.underlying25 rfl (by kernel_rfl)) rfl ?_
     all_goals refine ⟨_,rfl,?_,wS_ (wS_ (wS_ HB9.out GR.out) GR.out) GR.out⟩
     all_goals exact Kd.R_mono (Kd.R_far (Kd.R_far (Kd.R_far (Kd.R_lower HO9.out HB8.out.size) (p:=⟨gR,0,none⟩) (fun _ hk=>hk.2) _) (p:=⟨gR,1,none⟩) (fun _ hk=>hk.2) _) (p:=⟨gR,2,none⟩) (fun _ hk=>hk.2) _) (fun _ _=>trivial)
    | true =>
     rw [if_pos rfl] at h
     obtain ⟨⟨p1,p2⟩,hp,h⟩:=Option.bind_eq_some_iff.1 h
     have HA:=a_ hp
     clear hp
     dsimp only at h
     by_cases h2:p2=1
     ·rw [if_pos h2] at h
      have H2:=a_ h2
      clear h2
      by_cases hl2:p1.length < 2199023255552
      ·rw [if_pos hl2] at h
       have LM2:=a_ hl2
       clear hl2
       simp only [Option.some.injEq,Prod.mk.injEq] at h
       obtain ⟨rfl,rfl,rfl,rfl⟩:=h
       go_enter Tryd.func24,Tryd.ntmps24
       go_wp2_with (first|((with_reducible refine gD_ (N:=2) rfl ?_);refine bx_ 2 (#[.slice A0_0 l0_0.length c0_0,.int .i64 a0_1,.bool true]) 25 ?_;intro gS hgS w1 hbox hb1;have HB1:=a_ hb1;have BS1:=a_ hbox;clear hbox hb1 hgS)|((with_reducible refine gD_ (N:=3) rfl ?_);refine bx_ 3 (#[.int .i64 e1.f0,.int .i64 e1.f1,.int .i64 e1.f2.f0,.int .i64 e1.f2.f1,.int .i64 e1.f2.f2,.int .i64 e1.f2.f3,.string e1.f2.f4]) 44 ?_;intro gE hgE w2 hbox hb2;have HB2:=a_ (bS_ HB1.out hb2);have BS2:=a_ (blk_below BS1.out hb2);have BE2:=a_ hbox;clear hbox hb2 hgE)|((with_reducible refine gD_ (N:=4) rfl ?_);refine bx_ 4 (#[.slice none 0 0,.int .i64 0,.bool false]) 25 ?_;intro gR hgR w3 hbox hb3;have HB3:=a_ (bS_ HB2.out hb3);have BS3:=a_ (blk_below BS2.out hb3);have BE3:=a_ (blk_below BE2.out hb3);have BR3:=a_ hbox;have GR:=a_ (show w.heap.size≤gR by rw [hgR];exact HB2.out.size);have hs0:=(bC_ BS3.out 0).trans rfl;have hs1:=(bC_ BS3.out 1).trans rfl;have hs2:=(bC_ BS3.out 2).trans rfl;have he0:=(bC_ BE3.out 0).trans rfl;have he1:=(bC_ BE3.out 1).trans rfl;have he2:=(bC_ BE3.out 2).trans rfl;have he3:=(bC_ BE3.out 3).trans rfl;have he4:=(bC_ BE3.out 4).trans rfl;have he5:=(bC_ BE3.out 5).trans rfl;have he6:=(bC_ BE3.out 6).trans rfl;have hz0:=(bC_ BR3.out 0).trans rfl;have hz1:=(bC_ BR3.out 1).trans rfl;have hz2:=(bC_ BR3.out 2).trans rfl;have hzf0:=bF_ BR3.out 0;have hzf1:=bF_ BR3.out 1;have hzf2:=bF_ BR3.out 2;clear hbox hb3 hgR)|(go_at_call 16;go_loud (refine (impl_ServerOk.calls k _ _ l0_0 a0_1 true true _ (Kd.C_below HR0.out HB3.out) HC0.out HT.out (HG.out.below HB3.out)).mono ?_;rintro e w4 ⟨rfl,hb4⟩;have HB4:=a_ (bS_ HB3.out hb4);have BS4:=a_ (blk_below BS3.out hb4);have BE4:=a_ (blk_below BE3.out hb4);have BR4:=a_ (blk_below BR3.out hb4);clear hb4;have hsp0:=(bC_ BS4.out 0).trans rfl;have hsp1:=(bC_ BS4.out 1).trans rfl;have hsp2:=(bC_ BS4.out 2).trans rfl;have hep0:=(bC_ BE4.out 0).trans rfl;have hep1:=(bC_ BE4.out 1).trans rfl;have hep2:=(bC_ BE4.out 2).trans rfl;have hep3:=(bC_ BE4.out 3).trans rfl;have hep4:=(bC_ BE4.out 4).trans rfl;have hep5:=(bC_ BE4.out 5).trans rfl;have hep6:=(bC_ BE4.out 6).trans rfl;have hzp0:=(bC_ BR4.out 0).trans rfl;have hzp1:=(bC_ BR4.out 1).trans rfl;have hzp2:=(bC_ BR4.out 2).trans rfl;have hzpf0:=bF_ BR4.out 0;have hzpf1:=bF_ BR4.out 1;have hzpf2:=bF_ BR4.out 2))|(go_at_call 78;go_loud (refine (impl_EntryOk.calls k _ _ _ _ _ _ _ true _ HT2.out (HG.out.below HB4.out)).mono ?_;rintro e w5 ⟨rfl,hb5⟩;have HB5:=a_ (bS_ HB4.out hb5);have BS5:=a_ (blk_below BS4.out hb5);have BE5:=a_ (blk_below BE4.out hb5);have BR5:=a_ (blk_below BR4.out hb5);clear hb5;have hsq0:=(bC_ BS5.out 0).trans rfl;have hsq1:=(bC_ BS5.out 1).trans rfl;have hsq2:=(bC_ BS5.out 2).trans rfl;have heq0:=(bC_ BE5.out 0).trans rfl;have heq1:=(bC_ BE5.out 1).trans rfl;have heq2:=(bC_ BE5.out 2).trans rfl;have heq3:=(bC_ BE5.out 3).trans rfl;have heq4:=(bC_ BE5.out 4).trans rfl;have heq5:=(bC_ BE5.out 5).trans rfl;have heq6:=(bC_ BE5.out 6).trans rfl;have hzq0:=(bC_ BR5.out 0).trans rfl;have hzq1:=(bC_ BR5.out 1).trans rfl;have hzq2:=(bC_ BR5.out 2).trans rfl;have hzqf0:=bF_ BR5.out 0;have hzqf1:=bF_ BR5.out 1;have hzqf2:=bF_ BR5.out 2))|(go_at_call 79;refine (impl_machineOf.calls _ _ l0_0 a0_1 true _ (Kd.C_below HR0.out HB5.out) HC0.out LM.out).mono ?_;rintro e w6 ⟨g,rfl,⟨A6,c6,hk6,hr6,hge6⟩,hb6⟩;have HM6:=a_ hk6;have HR6:=a_ hr6;have GE6:=a_ (Nat.le_trans HB5.out.size hge6);have NER:=a_ (show gR≠g by have:=blk_lt BR5.out;omega);have HB6:=a_ (bS_ HB5.out hb6);have BE6:=a_ (blk_below BE5.out hb6);have BR6:=a_ (blk_below BR5.out hb6);have NEE:=a_ (show gE≠g by have:=blk_lt BE5.out;omega);clear hk6 hr6 hge6 hb6;have het0:=(bC_ BE6.out 0).trans rfl;have het1:=(bC_ BE6.out 1).trans rfl;have het2:=(bC_ BE6.out 2).trans rfl;have het3:=(bC_ BE6.out 3).trans rfl;have het4:=(bC_ BE6.out 4).trans rfl;have het5:=(bC_ BE6.out 5).trans rfl;have het6:=(bC_ BE6.out 6).trans rfl))
       go_region_with (go_at_call 80;refine (push_any g _ a0_1 true e1 _ (bD_ HM6.out)).mono ?_;rintro x w7 ⟨⟨v7,rfl⟩,A7,c7,hb7,hr7,hk7⟩;have HM7:=a_ hb7;have HQ7:=a_ hr7;have HK7:=a_ hk7;have HR7:=a_ (Kd.R_keep (Kd.R_drew HR6.out) hk7.2 (fun _ h=>h));have BR7:=a_ (hk7.2.blk (bD_ BR6.out) NER.out (by simp));have HB7:=a_ (hk7.belowW (below_drew1 HB6.out) GE6.out);clear hb7 hr7 hk7)
       all_goals go_wp2_with (first|(go_at_call 81;go_loud (refine (drain_yes k g A6 c6 l0_0 A7 c7 a0_1 e1 p1 p2 H2.out _ _ _ HM7.out HR7.out HQ7.out HA.out (((HG.out.below HB6.out).drew).keep HK7.out (Nat.lt_of_lt_of_le H0.out GE6.out)) (Nat.lt_of_lt_of_le H0.out GE6.out)).mono ?_;rintro x w8 ⟨rfl,A8,c8,A9,c9,hb8,hr8,hk8⟩;have HM8:=a_ hb8;have HR8:=a_ hr8;have BR8:=a_ (hk8.2.blk BR7.out NER.out (by simp));have HB8:=a_ (hk8.belowW HB7.out GE6.out);clear hb8 hr8 hk8))|(go_at_call 82;go_loud (refine (impl_mserver.callsC g A8 c8 p1 _ a0_1 true _ HM8.out (Kd.R_reads' HR8.out).2.2 (Kd.R_reads' HR8.out).2.1 LM2.out).mono ?_;rintro x w9 ⟨v9,rfl,ho9,hb9⟩;obtain ⟨A10,c10,rfl⟩:=Kd.R_slice ho9;have HO9:=a_ (Kd.R_newB ho9 BR8.out);have HB9:=a_ (bS_ HB8.out hb9);have BR9:=a_ (blk_below BR8.out hb9);clear ho9 hb9;have hw0:=(bC_ BR9.out 0).trans rfl;have hw1:=(bC_ BR9.out 1).trans rfl;have hw2:=(bC_ BR9.out 2).trans rfl;have hwf0:=bF_ BR9.out 0;have hwf1:=bF_ BR9.out 1;have hwf2:=bF_ BR9.out 2)))
       all_goals (try simp only [Exit.inBlock,Exit.then])
       all_goals refine bodyPost_ret (results_ct rfl _ _ gR 25 #[.slice A10 p1.length c10,.int .i64 a0_1,.bool true] (0,0) _ rfl ((blk_set (blk_set (blk_set BR9.out 0 _) 1 _) 2 _).trans rfl) Tryd.underlying25 rfl (by kernel_rfl)) rfl ?_
       all_goals refine ⟨_,rfl,?_,wS_ (wS_ (wS_ HB9.out GR.out) GR.out) GR.out⟩
       all_goals exact Kd.R_mono (Kd.R_far (Kd.R_far (Kd.R_far (Kd.R_lower HO9.out HB8.out.size) (p:=⟨gR,0,none⟩) (fun _ hk=>hk.2) _) (p:=⟨gR,1,none⟩) (fun _ hk=>hk.2) _) (p:=⟨gR,2,none⟩) (fun _ hk=>hk.2) _) (fun _ _=>trivial)
      ·rw [if_neg hl2] at h
       cases h
     ·rw [if_neg h2] at h
      have H2:=a_ h2
      clear h2
      simp only [Option.some.injEq,Prod.mk.injEq] at h
      obtain ⟨rfl,rfl,rfl,rfl⟩:=h
      go_enter Tryd.func24,Tryd.ntmps24
      go_wp2_with (first|((with_reducible refine gD_ (N:=2) rfl ?_);refine bx_ 2 (#[.slice A0_0 l0_0.length c0_0,.int .i64 a0_1,.bool true]) 25 ?_;intro gS hgS w1 hbox hb1;have HB1:=a_ hb1;have BS1:=a_ hbox;clear hbox hb1 hgS)|((with_reducible refine gD_ (N:=3) rfl ?_);refine bx_ 3 (#[.int .i64 e1.f0,.int .i64 e1.f1,.int .i64 e1.f2.f0,.int .i64 e1.f2.f1,.int .i64 e1.f2.f2,.int .i64 e1.f2.f3,.string e1.f2.f4]) 44 ?_;intro gE hgE w2 hbox hb2;have HB2:=a_ (bS_ HB1.out hb2);have BS2:=a_ (blk_below BS1.out hb2);have BE2:=a_ hbox;clear hbox hb2 hgE)|((with_reducible refine gD_ (N:=4) rfl ?_);refine bx_ 4 (#[.slice none 0 0,.int .i64 0,.bool false]) 25 ?_;intro gR hgR w3 hbox hb3;have HB3:=a_ (bS_ HB2.out hb3);have BS3:=a_ (blk_below BS2.out hb3);have BE3:=a_ (blk_below BE2.out hb3);have BR3:=a_ hbox;have GR:=a_ (show w.heap.size≤gR by rw [hgR];exact HB2.out.size);have hs0:=(bC_ BS3.out 0).trans rfl;have hs1:=(bC_ BS3.out 1).trans rfl;have hs2:=(bC_ BS3.out 2).trans rfl;have he0:=(bC_ BE3.out 0).trans rfl;have he1:=(bC_ BE3.out 1).trans rfl;have he2:=(bC_ BE3.out 2).trans rfl;have he3:=(bC_ BE3.out 3).trans rfl;have he4:=(bC_ BE3.out 4).trans rfl;have he5:=(bC_ BE3.out 5).trans rfl;have he6:=(bC_ BE3.out 6).trans rfl;have hz0:=(bC_ BR3.out 0).trans rfl;have hz1:=(bC_ BR3.out 1).trans rfl;have hz2:=(bC_ BR3.out 2).trans rfl;have hzf0:=bF_ BR3.out 0;have hzf1:=bF_ BR3.out 1;have hzf2:=bF_ BR3.out 2;clear hbox hb3 hgR)|(go_at_call 16;go_loud (refine (impl_ServerOk.calls k _ _ l0_0 a0_1 true true _ (Kd.C_below HR0.out HB3.out) HC0.out HT.out (HG.out.below HB3.out)).mono ?_;rintro e w4 ⟨rfl,hb4⟩;have HB4:=a_ (bS_ HB3.out hb4);have BS4:=a_ (blk_below BS3.out hb4);have BE4:=a_ (blk_below BE3.out hb4);have BR4:=a_ (blk_below BR3.out hb4);clear hb4;have hsp0:=(bC_ BS4.out 0).trans rfl;have hsp1:=(bC_ BS4.out 1).trans rfl;have hsp2:=(bC_ BS4.out 2).trans rfl;have hep0:=(bC_ BE4.out 0).trans rfl;have hep1:=(bC_ BE4.out 1).trans rfl;have hep2:=(bC_ BE4.out 2).trans rfl;have hep3:=(bC_ BE4.out 3).trans rfl;have hep4:=(bC_ BE4.out 4).trans rfl;have hep5:=(bC_ BE4.out 5).trans rfl;have hep6:=(bC_ BE4.out 6).trans rfl;have hzp0:=(bC_ BR4.out 0).trans rfl;have hzp1:=(bC_ BR4.out 1).trans rfl;have hzp2:=(bC_ BR4.out 2).trans rfl;have hzpf0:=bF_ BR4.out 0;have hzpf1:=bF_ BR4.out 1;have hzpf2:=bF_ BR4.out 2))|(go_at_call 78;go_loud (refine (impl_EntryOk.calls k _ _ _ _ _ _ _ true _ HT2.out (HG.out.below HB4.out)).mono ?_;rintro e w5 ⟨rfl,hb5⟩;have HB5:=a_ (bS_ HB4.out hb5);have BS5:=a_ (blk_below BS4.out hb5);have BE5:=a_ (blk_below BE4.out hb5);have BR5:=a_ (blk_below BR4.out hb5);clear hb5;have hsq0:=(bC_ BS5.out 0).trans rfl;have hsq1:=(bC_ BS5.out 1).trans rfl;have hsq2:=(bC_ BS5.out 2).trans rfl;have heq0:=(bC_ BE5.out 0).trans rfl;have heq1:=(bC_ BE5.out 1).trans rfl;have heq2:=(bC_ BE5.out 2).trans rfl;have heq3:=(bC_ BE5.out 3).trans rfl;have heq4:=(bC_ BE5.out 4).trans rfl;have heq5:=(bC_ BE5.out 5).trans rfl;have heq6:=(bC_ BE5.out 6).trans rfl;have hzq0:=(bC_ BR5.out 0).trans rfl;have hzq1:=(bC_ BR5.out 1).trans rfl;have hzq2:=(bC_ BR5.out 2).trans rfl;have hzqf0:=bF_ BR5.out 0;have hzqf1:=bF_ BR5.out 1;have hzqf2:=bF_ BR5.out 2))|(go_at_call 79;refine (impl_machineOf.calls _ _ l0_0 a0_1 true _ (Kd.C_below HR0.out HB5.out) HC0.out LM.out).mono ?_;rintro e w6 ⟨g,rfl,⟨A6,c6,hk6,hr6,hge6⟩,hb6⟩;have HM6:=a_ hk6;have HR6:=a_ hr6;have GE6:=a_ (Nat.le_trans HB5.out.size hge6);have NER:=a_ (show gR≠g by have:=blk_lt BR5.out;omega);have HB6:=a_ (bS_ HB5.out hb6);have BE6:=a_ (blk_below BE5.out hb6);have BR6:=a_ (blk_below BR5.out hb6);have NEE:=a_ (show gE≠g by have:=blk_lt BE5.out;omega);clear hk6 hr6 hge6 hb6;have het0:=(bC_ BE6.out 0).trans rfl;have het1:=(bC_ BE6.out 1).trans rfl;have het2:=(bC_ BE6.out 2).trans rfl;have het3:=(bC_ BE6.out 3).trans rfl;have het4:=(bC_ BE6.out 4).trans rfl;have het5:=(bC_ BE6.out 5).trans rfl;have het6:=(bC_ BE6.out 6).trans rfl))
      go_region_with (go_at_call 80;refine (push_any g _ a0_1 true e1 _ (bD_ HM6.out)).mono ?_;rintro x w7 ⟨⟨v7,rfl⟩,A7,c7,hb7,hr7,hk7⟩;have HM7:=a_ hb7;have HQ7:=a_ hr7;have HK7:=a_ hk7;have HR7:=a_ (Kd.R_keep (Kd.R_drew HR6.out) hk7.2 (fun _ h=>h));have BR7:=a_ (hk7.2.blk (bD_ BR6.out) NER.out (by simp));have HB7:=a_ (hk7.belowW (below_drew1 HB6.out) GE6.out);clear hb7 hr7 hk7)
      all_goals go_wp2_with (first|(go_at_call 81;go_loud (refine (drain_no k g A6 c6 l0_0 A7 c7 a0_1 e1 p1 p2 H2.out _ _ _ HM7.out HR7.out HQ7.out HA.out (((HG.out.below HB6.out).drew).keep HK7.out (Nat.lt_of_lt_of_le H0.out GE6.out)) (Nat.lt_of_lt_of_le H0.out GE6.out)).mono ?_;rintro x w8 ⟨rfl,A8,c8,A9,c9,hb8,hr8,hk8⟩;have HM8:=a_ hb8;have HR8:=a_ hr8;have BR8:=a_ (hk8.2.blk BR7.out NER.out (by simp));have HB8:=a_ (hk8.belowW HB7.out GE6.out);clear hb8 hr8 hk8))|(go_at_call 82;go_loud (refine (impl_mserver.callsC g A8 c8 l0_0 _ a0_1 true _ HM8.out (Kd.R_reads' HR8.out).2.2 (Kd.R_reads' HR8.out).2.1 LM.out).mono ?_;rintro x w9 ⟨v9,rfl,ho9,hb9⟩;obtain ⟨A10,c10,rfl⟩:=Kd.R_slice ho9;have HO9:=a_ (Kd.R_newB ho9 BR8.out);have HB9:=a_ (bS_ HB8.out hb9);have BR9:=a_ (blk_below BR8.out hb9);clear ho9 hb9;have hw0:=(bC_ BR9.out 0).trans rfl;have hw1:=(bC_ BR9.out 1).trans rfl;have hw2:=(bC_ BR9.out 2).trans rfl;have hwf0:=bF_ BR9.out 0;have hwf1:=bF_ BR9.out 1;have hwf2:=bF_ BR9.out 2)))
      all_goals (try simp only [Exit.inBlock,Exit.then])
      all_goals refine bodyPost_ret (results_ct rfl _ _ gR 25 #[.slice A10 l0_0.length c10,.int .i64 a0_1,.bool true] (0,0) _ rfl ((blk_set (blk_set (blk_set BR9.out 0 _) 1 _) 2 _).trans rfl) Tryd.underlying25 rfl (by kernel_rfl)) rfl ?_
      all_goals refine ⟨_,rfl,?_,wS_ (wS_ (wS_ HB9.out GR.out) GR.out) GR.out⟩
      all_goals exact Kd.R_mono (Kd.R_far (Kd.R_far (Kd.R_far (Kd.R_lower HO9.out HB8.out.size) (p:=⟨gR,0,none⟩) (fun _ hk=>hk.2) _) (p:=⟨gR,1,none⟩) (fun _ hk=>hk.2) _) (p:=⟨gR,2,none⟩) (fun _ hk=>hk.2) _) (fun _ _=>trivial)
   ·rw [if_neg hl] at h
    cases h
end Go.Proofs.YtdpklbomhdpimaaDoor.P
namespace Go.Proofs.YtdpklbomhdpimaaDoor.P
open Go.RowKit Go.Proofs.YtdpklbomhdpimaaDoorW.PrintWords Go.Proofs.YtdpklbomhdpimaaDoorW.PrintLast
def laws_FnHear.j0:Nat→Bool→Bool→Bool→List (S44)→Int→Bool→Int→Int→Int→Int→Int→Int→ByteArray→List (S44)→Int→Bool→List (S44)→Int→Bool→Option (Bool)
 | 0,_,_,_,_,_,_,_,_,_,_,_,_,_,_,_,_,_,_,_=>none
 | k+1,x6,x8,x49,x775000,x775001,x775002,x776000,x776001,x776002,x776003,x776004,x776005,x776006,x783000,x783001,x783002,x790000,x790001,x790002=>if x49=true then (if (x8==x6)=true then ((laws_lpServer.f k x790000 x790001 x790002 x783000 x783001 x783002).bind fun t793=>(some t793)) else (none)) else ((impl_LogAdd.f k x775000 x776000 x776001 x776002 x776003 x776004 x776005 x776006).bind fun bt794=>(if x8=true then (if x775002=true then (if bt794.2=1 then ((laws_lpLog.f k x790000 bt794.1).bind fun t798=>(if t798=true then (if x790001=x775001 then ((impl_ServerOk.f k x790000 x790001 x790002).bind fun t799=>(some t799)) else (none)) else (none))) else (none)) else (none)) else ((laws_lpServer.f k x790000 x790001 x790002 x775000 x775001 x775002).bind fun t800=>(if t800=true then (if x775002=true then (some (bt794.2 != 1)) else (some true)) else (none)))))
def laws_FnHear.f (k:Nat) (l0:List Int):Option (Bool):=if (l0.length:Int) > 1048576 then (some true) else ((spec_DrawServerHear.f k l0).bind fun bt762=>((spec_ServerHear.f k bt762.1 bt762.2.1 bt762.2.2.1 bt762.2.2.2.1 bt762.2.2.2.2.1 bt762.2.2.2.2.2.1 bt762.2.2.2.2.2.2.1 bt762.2.2.2.2.2.2.2.1 bt762.2.2.2.2.2.2.2.2.1 bt762.2.2.2.2.2.2.2.2.2).bind fun bt776=>((impl_ServerHear.f k bt762.1 bt762.2.1 bt762.2.2.1 bt762.2.2.2.1 bt762.2.2.2.2.1 bt762.2.2.2.2.2.1 bt762.2.2.2.2.2.2.1 bt762.2.2.2.2.2.2.2.1 bt762.2.2.2.2.2.2.2.2.1 bt762.2.2.2.2.2.2.2.2.2).bind fun bt783=>(if (bt783.2.2.2 != bt776.2.2.2)=true then (none) else ((laws_lpServer.f k bt783.1 bt783.2.1 bt783.2.2.1 bt776.1 bt776.2.1 bt776.2.2.1).bind fun t790=>(if t790=true then ((spec_ServerOk.f k bt762.1 bt762.2.1 bt762.2.2.1).bind fun t791=>(if t791=true then ((spec_EntryOk.f k bt762.2.2.2.1 bt762.2.2.2.2.1 bt762.2.2.2.2.2.1 bt762.2.2.2.2.2.2.1 bt762.2.2.2.2.2.2.2.1 bt762.2.2.2.2.2.2.2.2.1 bt762.2.2.2.2.2.2.2.2.2).bind fun t792=>(laws_FnHear.j0 k bt776.2.2.2 bt783.2.2.2 (!t792) bt762.1 bt762.2.1 bt762.2.2.1 bt762.2.2.2.1 bt762.2.2.2.2.1 bt762.2.2.2.2.2.1 bt762.2.2.2.2.2.2.1 bt762.2.2.2.2.2.2.2.1 bt762.2.2.2.2.2.2.2.2.1 bt762.2.2.2.2.2.2.2.2.2 bt776.1 bt776.2.1 bt776.2.2.1 bt783.1 bt783.2.1 bt783.2.2.1)) else (laws_FnHear.j0 k bt776.2.2.2 bt783.2.2.2 true bt762.1 bt762.2.1 bt762.2.2.1 bt762.2.2.2.1 bt762.2.2.2.2.1 bt762.2.2.2.2.2.1 bt762.2.2.2.2.2.2.1 bt762.2.2.2.2.2.2.2.1 bt762.2.2.2.2.2.2.2.2.1 bt762.2.2.2.2.2.2.2.2.2 bt776.1 bt776.2.1 bt776.2.2.1 bt783.1 bt783.2.1 bt783.2.2.1))) else (none)))))))
theorem laws_FnHear.mono_l:∀ k,(∀ y0 y1 y2 y3 y4 y5 y6 y7 y8 y9 y10 y11 y12 y13 y14 y15 y16 y17 y18,LeO (laws_FnHear.j0 k y0 y1 y2 y3 y4 y5 y6 y7 y8 y9 y10 y11 y12 y13 y14 y15 y16 y17 y18) (laws_FnHear.j0 (k+1) y0 y1 y2 y3 y4 y5 y6 y7 y8 y9 y10 y11 y12 y13 y14 y15 y16 y17 y18))
 | 0=>fun _ _ _ _ _ _ _ _ _ _ _ _ _ _ _ _ _ _ _ r h=>by simp [laws_FnHear.j0] at h
 | k+1=>by
  have ih0:=laws_FnHear.mono_l k
  ·intro y0 y1 y2 y3 y4 y5 y6 y7 y8 y9 y10 y11 y12 y13 y14 y15 y16 y17 y18
   unfold laws_FnHear.j0
   repeat' first
   | (with_reducible exact ih0 _ _ _ _ _ _ _ _ _ _ _ _ _ _ _ _ _ _ _)
   | (with_reducible exact impl_LogAdd.mono _ _ _ _ _ _ _ _ _)
   | (with_reducible exact impl_ServerHear.mono _ _ _ _ _ _ _ _ _ _ _)
   | (with_reducible exact impl_ServerOk.mono _ _ _ _)
   | (with_reducible exact laws_lpLog.mono _ _ _)
   | (with_reducible exact laws_lpServer.mono _ _ _ _ _ _ _)
   | (with_reducible exact spec_DrawServerHear.mono _ _)
   | (with_reducible exact spec_EntryOk.mono _ _ _ _ _ _ _ _)
   | (with_reducible exact spec_ServerHear.mono _ _ _ _ _ _ _ _ _ _ _)
   | (with_reducible exact spec_ServerOk.mono _ _ _ _)
   | (with_reducible exact LeO.refl _)
   | (with_reducible exact LeO.none _)
   | (with_reducible refine LeO.ite ?_ ?_)
   | (with_reducible refine LeO.bind ?_ (fun _=>?_))
   | exact ih0 _ _ _ _ _ _ _ _ _ _ _ _ _ _ _ _ _ _ _
   | exact impl_LogAdd.mono _ _ _ _ _ _ _ _ _
   | exact impl_ServerHear.mono _ _ _ _ _ _ _ _ _ _ _
   | exact impl_ServerOk.mono _ _ _ _
   | exact laws_lpLog.mono _ _ _
   | exact laws_lpServer.mono _ _ _ _ _ _ _
   | exact spec_DrawServerHear.mono _ _
   | exact spec_EntryOk.mono _ _ _ _ _ _ _ _
   | exact spec_ServerHear.mono _ _ _ _ _ _ _ _ _ _ _
   | exact spec_ServerOk.mono _ _ _ _
   | exact LeO.none _
   | refine LeO.ite ?_ ?_
   | refine LeO.bind ?_ (fun _=>?_)
theorem laws_FnHear.mono:∀ a0 k,LeO (laws_FnHear.f k a0) (laws_FnHear.f (k+1) a0):=by
 intro a0 k
 have ih0:=laws_FnHear.mono_l k
 unfold laws_FnHear.f
 repeat' first
   | (with_reducible exact ih0 _ _ _ _ _ _ _ _ _ _ _ _ _ _ _ _ _ _ _)
   | (with_reducible exact impl_LogAdd.mono _ _ _ _ _ _ _ _ _)
   | (with_reducible exact impl_ServerHear.mono _ _ _ _ _ _ _ _ _ _ _)
   | (with_reducible exact impl_ServerOk.mono _ _ _ _)
   | (with_reducible exact laws_lpLog.mono _ _ _)
   | (with_reducible exact laws_lpServer.mono _ _ _ _ _ _ _)
   | (with_reducible exact spec_DrawServerHear.mono _ _)
   | (with_reducible exact spec_EntryOk.mono _ _ _ _ _ _ _ _)
   | (with_reducible exact spec_ServerHear.mono _ _ _ _ _ _ _ _ _ _ _)
   | (with_reducible exact spec_ServerOk.mono _ _ _ _)
   | (with_reducible exact LeO.refl _)
   | (with_reducible exact LeO.none _)
   | (with_reducible refine LeO.ite ?_ ?_)
   | (with_reducible refine LeO.bind ?_ (fun _=>?_))
   | exact ih0 _ _ _ _ _ _ _ _ _ _ _ _ _ _ _ _ _ _ _
   | exact impl_LogAdd.mono _ _ _ _ _ _ _ _ _
   | exact impl_ServerHear.mono _ _ _ _ _ _ _ _ _ _ _
   | exact impl_ServerOk.mono _ _ _ _
   | exact laws_lpLog.mono _ _ _
   | exact laws_lpServer.mono _ _ _ _ _ _ _
   | exact spec_DrawServerHear.mono _ _
   | exact spec_EntryOk.mono _ _ _ _ _ _ _ _
   | exact spec_ServerHear.mono _ _ _ _ _ _ _ _ _ _ _
   | exact spec_ServerOk.mono _ _ _ _
   | exact LeO.none _
   | refine LeO.ite ?_ ?_
   | refine LeO.bind ?_ (fun _=>?_)
theorem laws_FnHear.calls (k:Nat) (A0:Option Addr) (c0:Nat) (l0:List Int) (r:Bool) (w:World) (hr0:Kd.C (Kd.int .u8) w A0 l0.length l0) (hc0:l0.length≤c0) (h:laws_FnHear.f k l0=some r) (hG:Glob w) :
  Calls Tryd.prog 5 #[.slice A0 l0.length c0] w fun e w'=>e=.returned (.bool r)∧Below w.heap.size w w':=by
 have hu25:=Tryd.underlying25
 have hu44:=Tryd.underlying44
 have HR0:=a_ hr0
 have HC0:=a_ hc0
 clear hr0 hc0
 have HB:=a_ (Below.refl w.heap.size w)
 have HG:=a_ hG
 clear hG
 have H:(if (l0.length:Int) > 1048576 then (some true) else ((spec_DrawServerHear.f k l0).bind fun bt762=>((spec_ServerHear.f k bt762.1 bt762.2.1 bt762.2.2.1 bt762.2.2.2.1 bt762.2.2.2.2.1 bt762.2.2.2.2.2.1 bt762.2.2.2.2.2.2.1 bt762.2.2.2.2.2.2.2.1 bt762.2.2.2.2.2.2.2.2.1 bt762.2.2.2.2.2.2.2.2.2).bind fun bt776=>((impl_ServerHear.f k bt762.1 bt762.2.1 bt762.2.2.1 bt762.2.2.2.1 bt762.2.2.2.2.1 bt762.2.2.2.2.2.1 bt762.2.2.2.2.2.2.1 bt762.2.2.2.2.2.2.2.1 bt762.2.2.2.2.2.2.2.2.1 bt762.2.2.2.2.2.2.2.2.2).bind fun bt783=>(if (bt783.2.2.2 != bt776.2.2.2)=true then (none) else ((laws_lpServer.f k bt783.1 bt783.2.1 bt783.2.2.1 bt776.1 bt776.2.1 bt776.2.2.1).bind fun t790=>(if t790=true then ((spec_ServerOk.f k bt762.1 bt762.2.1 bt762.2.2.1).bind fun t791=>(if t791=true then ((spec_EntryOk.f k bt762.2.2.2.1 bt762.2.2.2.2.1 bt762.2.2.2.2.2.1 bt762.2.2.2.2.2.2.1 bt762.2.2.2.2.2.2.2.1 bt762.2.2.2.2.2.2.2.2.1 bt762.2.2.2.2.2.2.2.2.2).bind fun t792=>(laws_FnHear.j0 k bt776.2.2.2 bt783.2.2.2 (!t792) bt762.1 bt762.2.1 bt762.2.2.1 bt762.2.2.2.1 bt762.2.2.2.2.1 bt762.2.2.2.2.2.1 bt762.2.2.2.2.2.2.1 bt762.2.2.2.2.2.2.2.1 bt762.2.2.2.2.2.2.2.2.1 bt762.2.2.2.2.2.2.2.2.2 bt776.1 bt776.2.1 bt776.2.2.1 bt783.1 bt783.2.1 bt783.2.2.1)) else (laws_FnHear.j0 k bt776.2.2.2 bt783.2.2.2 true bt762.1 bt762.2.1 bt762.2.2.1 bt762.2.2.2.1 bt762.2.2.2.2.1 bt762.2.2.2.2.2.1 bt762.2.2.2.2.2.2.1 bt762.2.2.2.2.2.2.2.1 bt762.2.2.2.2.2.2.2.2.1 bt762.2.2.2.2.2.2.2.2.2 bt776.1 bt776.2.1 bt776.2.2.1 bt783.1 bt783.2.1 bt783.2.2.1))) else (none))))))))=some r:=h
 clear h
 by_cases c2:(l0.length:Int) > 1048576
 ·rw [if_pos c2] at H
  have c2b0:decide (1048576 < (l0.length:Int))=true:=dt_ c2
  have c2b1:decide (1048576 < l0.length)=true:=dt_ (by omega)
  clear c2
  obtain rfl:=sj_ H
  go_enter Tryd.func5,Tryd.ntmps5
  go_wp2
  go_ret
  exact ⟨fi_,bel_⟩
 ·rw [if_neg c2] at H
  have c2b0:decide (1048576 < (l0.length:Int))=false:=df_ c2
  have c2b1:decide (1048576 < l0.length)=false:=df_ (by omega)
  clear c2
  replace H:=bs_ H
  obtain ⟨⟨t762,t765,t766,t767,t768,t769,t770,t771,t772,t773⟩,A30,H⟩:=H
  replace H:((spec_ServerHear.f k t762 t765 t766 t767 t768 t769 t770 t771 t772 t773).bind fun bt776=>((impl_ServerHear.f k t762 t765 t766 t767 t768 t769 t770 t771 t772 t773).bind fun bt783=>(if (bt783.2.2.2 != bt776.2.2.2)=true then (none) else ((laws_lpServer.f k bt783.1 bt783.2.1 bt783.2.2.1 bt776.1 bt776.2.1 bt776.2.2.1).bind fun t790=>(if t790=true then ((spec_ServerOk.f k t762 t765 t766).bind fun t791=>(if t791=true then ((spec_EntryOk.f k t767 t768 t769 t770 t771 t772 t773).bind fun t792=>(laws_FnHear.j0 k bt776.2.2.2 bt783.2.2.2 (!t792) t762 t765 t766 t767 t768 t769 t770 t771 t772 t773 bt776.1 bt776.2.1 bt776.2.2.1 bt783.1 bt783.2.1 bt783.2.2.1)) else (laws_FnHear.j0 k bt776.2.2.2 bt783.2.2.2 true t762 t765 t766 t767 t768 t769 t770 t771 t772 t773 bt776.1 bt776.2.1 bt776.2.2.1 bt783.1 bt783.2.1 bt783.2.2.1))) else (none))))))=some r:=H
  have A3:=a_ A30
  clear A30
  replace H:=bs_ H
  obtain ⟨⟨t776,t779,t780,t781⟩,A40,H⟩:=H
  replace H:((impl_ServerHear.f k t762 t765 t766 t767 t768 t769 t770 t771 t772 t773).bind fun bt783=>(if (bt783.2.2.2 != t781)=true then (none) else ((laws_lpServer.f k bt783.1 bt783.2.1 bt783.2.2.1 t776 t779 t780).bind fun t790=>(if t790=true then ((spec_ServerOk.f k t762 t765 t766).bind fun t791=>(if t791=true then ((spec_EntryOk.f k t767 t768 t769 t770 t771 t772 t773).bind fun t792=>(laws_FnHear.j0 k t781 bt783.2.2.2 (!t792) t762 t765 t766 t767 t768 t769 t770 t771 t772 t773 t776 t779 t780 bt783.1 bt783.2.1 bt783.2.2.1)) else (laws_FnHear.j0 k t781 bt783.2.2.2 true t762 t765 t766 t767 t768 t769 t770 t771 t772 t773 t776 t779 t780 bt783.1 bt783.2.1 bt783.2.2.1))) else (none)))))=some r:=H
  have A4:=a_ A40
  clear A40
  replace H:=bs_ H
  obtain ⟨⟨t783,t786,t787,t788⟩,A50,H⟩:=H
  replace H:(if (t788 != t781)=true then (none) else ((laws_lpServer.f k t783 t786 t787 t776 t779 t780).bind fun t790=>(if t790=true then ((spec_ServerOk.f k t762 t765 t766).bind fun t791=>(if t791=true then ((spec_EntryOk.f k t767 t768 t769 t770 t771 t772 t773).bind fun t792=>(laws_FnHear.j0 k t781 t788 (!t792) t762 t765 t766 t767 t768 t769 t770 t771 t772 t773 t776 t779 t780 t783 t786 t787)) else (laws_FnHear.j0 k t781 t788 true t762 t765 t766 t767 t768 t769 t770 t771 t772 t773 t776 t779 t780 t783 t786 t787))) else (none))))=some r:=H
  have A5:=a_ A50
  clear A50
  have HC6:=a_ H
  clear H
  go_enter Tryd.func5,Tryd.ntmps5
  go_upto_region 6 with (first|((with_reducible refine gC_ (f:=28) rfl ?_);refine gl_ 16 Tryd.func28 #[.slice A0 l0.length c0] ?_;(with_reducible refine (spec_DrawServerHear.calls k _ _ l0 t762 t765 t766 t767 t768 t769 t770 t771 t772 t773 _ ?side1 ?side2 A3.out).mono ?_);(case side1=>exact cx_ HR0.out);(case side2=>exact HC0.out);rintro e w7 ⟨v763,rfl,ho0,hb⟩;refine ⟨_,rfl,?_⟩;have HO764:=a_ (Kd.R_lower ho0 (below_size (bel_)));replace HB:=a_ (bS_ (bel_) hb);(try clear hb ho0))|((with_reducible refine gD_ (N:=3) rfl ?_);refine bx_ 3 (#[.slice none 0 0,.int .i64 0,.bool false]) 25 ?_;intro gb774 hg w8 hbox hb;have n0_:=a_ (Kd.R_below (rp_ HO764.out) hb);have n1_:=a_ (bS_ (bel_) hb);have n2_:=a_ (hbox);have n3_:=a_ ((by rw [hg];exact (below_size (bel_)):w.heap.size≤gb774));have n4_:=a_ ((by rw [hg];exact (below_size (bel_)):w.heap.size≤gb774));clear HO764;clear HB;have HO764:=n0_;have HB:=n1_;have BK774:=n2_;have GW774:=n3_;have GE774:=n4_;clear n0_ n1_ n2_ n3_ n4_;clear hb hbox hg)|((with_reducible refine gD_ (N:=4) rfl ?_);refine bx_ 4 (#[.int .i64 0,.int .i64 0,.int .i64 0,.int .i64 0,.int .i64 0,.int .i64 0,.string (⟨#[]⟩:ByteArray)]) 44 ?_;intro gb775 hg w9 hbox hb;have n0_:=a_ (Kd.R_below (Kd.R_elderB (rp_ HO764.out) gb775 (Nat.le_of_eq hg.symm)) hb);have n1_:=a_ (blk_below (g:=gb774) (o:=.cells #[.slice none 0 0,.int .i64 0,.bool false] 25 (0,0)) (bp_ BK774.out) hb);have n2_:=a_ (bS_ (bel_) hb);have n3_:=a_ (hbox);have n4_:=a_ ((by rw [hg];exact (below_size (bel_)):w.heap.size≤gb775));have n5_:=a_ ((by rw [hg];exact (below_size (bel_)):w.heap.size≤gb775));have n6_:=a_ ((by rw [hg];exact Nat.ne_of_lt (blk_lt (g:=gb774) (o:=.cells #[.slice none 0 0,.int .i64 0,.bool false] 25 (0,0)) (bp_ BK774.out)):gb774≠gb775));have n7_:=a_ ((by rw [hg];exact Nat.ne_of_gt (blk_lt (g:=gb774) (o:=.cells #[.slice none 0 0,.int .i64 0,.bool false] 25 (0,0)) (bp_ BK774.out)):gb775≠gb774));clear HO764;clear BK774;clear HB;have HO764:=n0_;have BK774:=n1_;have HB:=n2_;have BK775:=n3_;have GW775:=n4_;have GE775:=n5_;have NB774_775:=n6_;have NB775_774:=n7_;clear n0_ n1_ n2_ n3_ n4_ n5_ n6_ n7_;clear hb hbox hg;obtain ⟨Ao10,co10,eo10⟩:=Kd.R_slice HO764.out;subst eo10;have hnb11:=NB774_775.out;have hnc11:=NB775_774.out;have Z12_0:=cz_ BK774.out 0 (.slice none 0 0);have Z12_1:=cz_ BK774.out 1 (.int .i64 0);have Z12_2:=cz_ BK774.out 2 (.bool false);have Y12_0:=bF_ BK774.out 0;have Y12_1:=bF_ BK774.out 1;have Y12_2:=bF_ BK774.out 2;have Z13_0:=cz_ BK775.out 0 (.int .i64 0);have Z13_1:=cz_ BK775.out 1 (.int .i64 0);have Z13_2:=cz_ BK775.out 2 (.int .i64 0);have Z13_3:=cz_ BK775.out 3 (.int .i64 0);have Z13_4:=cz_ BK775.out 4 (.int .i64 0);have Z13_5:=cz_ BK775.out 5 (.int .i64 0);have Z13_6:=cz_ BK775.out 6 (.string (⟨#[]⟩:ByteArray));have Y13_0:=bF_ BK775.out 0;have Y13_1:=bF_ BK775.out 1;have Y13_2:=bF_ BK775.out 2;have Y13_3:=bF_ BK775.out 3;have Y13_4:=bF_ BK775.out 4;have Y13_5:=bF_ BK775.out 5;have Y13_6:=bF_ BK775.out 6)|((with_reducible refine gC_ (f:=21) rfl ?_);refine gl_ 22 Tryd.func21 #[.agg #[.slice Ao10 t762.length co10,.int .i64 t765,.bool t766],.agg #[.int .i64 t767,.int .i64 t768,.int .i64 t769,.int .i64 t770,.int .i64 t771,.int .i64 t772,.string t773]] ?_;(with_reducible refine (spec_ServerHear.calls k _ _ t762 t765 t766 t767 t768 t769 t770 t771 t772 t773 t776 t779 t780 t781 _ ?side1 ?side2 A4.out).mono ?_);(case side1=>refine (Kd.R_reads' (e:=44) (base:=w.heap.size) (ok:=fun k_=>(True∧k_≠gb775)) (n:=t762.length) (c:=co10) ?_).2.2;exact (by (with_reducible repeat (first|apply Kd.R_alloc|apply Kd.R_drewN|apply Kd.R_drew));exact (Kd.R_mono (Kd.R_mono (rf7_ (g:=gb775) (rf3_ (g:=gb774) (Kd.R_mono (Kd.R_types HO764.out BK774.out (by decide)) (fun k_ hk=>(⟨hk,hk.1.2⟩:_∧k_≠gb775))) (fun _ hk=>hk.1.2) (.slice Ao10 t762.length co10) (.int .i64 t765) (.bool t766)) (fun _ hk=>hk.2) (.int .i64 t767) (.int .i64 t768) (.int .i64 t769) (.int .i64 t770) (.int .i64 t771) (.int .i64 t772) (.string t773)) (fun _ h_=>h_.1)) (fun _ h_=>h_.1))));(case side2=>exact (Kd.R_reads' HO764.out).2.1);rintro e w14 ⟨v777,rfl,ho0,hb⟩;refine ⟨_,rfl,?_⟩;have n0_:=a_ (Kd.R_elder' (by (with_reducible repeat (first|apply Kd.R_alloc|apply Kd.R_drewN|apply Kd.R_drew));exact (Kd.R_mono (Kd.R_mono (rf7_ (g:=gb775) (rf3_ (g:=gb774) (Kd.R_mono (Kd.R_types HO764.out BK774.out (by decide)) (fun k_ hk=>(⟨hk,hk.1.2⟩:_∧k_≠gb775))) (fun _ hk=>hk.1.2) (.slice Ao10 t762.length co10) (.int .i64 t765) (.bool t766)) (fun _ hk=>hk.2) (.int .i64 t767) (.int .i64 t768) (.int .i64 t769) (.int .i64 t770) (.int .i64 t771) (.int .i64 t772) (.string t773)) (fun _ h_=>h_.1)) (fun _ h_=>h_.1))) (Kd.R_base ho0) hb);have n1_:=a_ (Kd.R_lower (Kd.R_newB (Kd.R_new' ho0 (Kd.R_lt (by (with_reducible repeat (first|apply Kd.R_alloc|apply Kd.R_drewN|apply Kd.R_drew));exact (Kd.R_mono (Kd.R_mono (rf7_ (g:=gb775) (rf3_ (g:=gb774) (Kd.R_mono (Kd.R_types HO764.out BK774.out (by decide)) (fun k_ hk=>(⟨hk,hk.1.2⟩:_∧k_≠gb775))) (fun _ hk=>hk.1.2) (.slice Ao10 t762.length co10) (.int .i64 t765) (.bool t766)) (fun _ hk=>hk.2) (.int .i64 t767) (.int .i64 t768) (.int .i64 t769) (.int .i64 t770) (.int .i64 t771) (.int .i64 t772) (.string t773)) (fun _ h_=>h_.1)) (fun _ h_=>h_.1))))) (g:=gb775) (o:=.cells #[.int .i64 t767,.int .i64 t768,.int .i64 t769,.int .i64 t770,.int .i64 t771,.int .i64 t772,.string t773] 44 (0,0)) (k7p1_ NB775_774.out BK775.out)) (below_size (bel_)));have n2_:=a_ (blk_below (g:=gb774) (o:=.cells #[.slice Ao10 t762.length co10,.int .i64 t765,.bool t766] 25 (0,0)) (k3p1_ NB774_775.out BK774.out) hb);have n3_:=a_ (blk_below (g:=gb775) (o:=.cells #[.int .i64 t767,.int .i64 t768,.int .i64 t769,.int .i64 t770,.int .i64 t771,.int .i64 t772,.string t773] 44 (0,0)) (k7p1_ NB775_774.out BK775.out) hb);have n4_:=a_ (bS_ (bel_) hb);clear HO764;clear BK774;clear BK775;clear HB;have HO764:=n0_;have HO778:=n1_;have BK774:=n2_;have BK775:=n3_;have HB:=n4_;clear n0_ n1_ n2_ n3_ n4_;(try clear hb ho0))|((with_reducible refine gD_ (N:=5) rfl ?_);refine bx_ 5 (#[.slice none 0 0,.int .i64 0,.bool false]) 25 ?_;intro gb782 hg w15 hbox hb;have n0_:=a_ (Kd.R_below (rp_ HO764.out) hb);have n1_:=a_ (Kd.R_below (rp_ HO778.out) hb);have n2_:=a_ (blk_below (g:=gb774) (o:=.cells #[.slice Ao10 t762.length co10,.int .i64 t765,.bool t766] 25 (0,0)) (bp_ BK774.out) hb);have n3_:=a_ (blk_below (g:=gb775) (o:=.cells #[.int .i64 t767,.int .i64 t768,.int .i64 t769,.int .i64 t770,.int .i64 t771,.int .i64 t772,.string t773] 44 (0,0)) (bp_ BK775.out) hb);have n4_:=a_ (bS_ (bel_) hb);have n5_:=a_ (hbox);have n6_:=a_ ((by rw [hg];exact (below_size (bel_)):w.heap.size≤gb782));have n7_:=a_ ((by rw [hg];exact (below_size (bel_)):w.heap.size≤gb782));have n8_:=a_ ((by rw [hg];exact Nat.ne_of_lt (blk_lt (g:=gb774) (o:=.cells #[.slice Ao10 t762.length co10,.int .i64 t765,.bool t766] 25 (0,0)) (bp_ BK774.out)):gb774≠gb782));have n9_:=a_ ((by rw [hg];exact Nat.ne_of_gt (blk_lt (g:=gb774) (o:=.cells #[.slice Ao10 t762.length co10,.int .i64 t765,.bool t766] 25 (0,0)) (bp_ BK774.out)):gb782≠gb774));have n10_:=a_ ((by rw [hg];exact Nat.ne_of_lt (blk_lt (g:=gb775) (o:=.cells #[.int .i64 t767,.int .i64 t768,.int .i64 t769,.int .i64 t770,.int .i64 t771,.int .i64 t772,.string t773] 44 (0,0)) (bp_ BK775.out)):gb775≠gb782));have n11_:=a_ ((by rw [hg];exact Nat.ne_of_gt (blk_lt (g:=gb775) (o:=.cells #[.int .i64 t767,.int .i64 t768,.int .i64 t769,.int .i64 t770,.int .i64 t771,.int .i64 t772,.string t773] 44 (0,0)) (bp_ BK775.out)):gb782≠gb775));clear HO764;clear HO778;clear BK774;clear BK775;clear HB;have HO764:=n0_;have HO778:=n1_;have BK774:=n2_;have BK775:=n3_;have HB:=n4_;have BK782:=n5_;have GW782:=n6_;have GE782:=n7_;have NB774_782:=n8_;have NB782_774:=n9_;have NB775_782:=n10_;have NB782_775:=n11_;clear n0_ n1_ n2_ n3_ n4_ n5_ n6_ n7_ n8_ n9_ n10_ n11_;clear hb hbox hg;obtain ⟨Ao16,co16,eo16⟩:=Kd.R_slice HO778.out;subst eo16;have hnb17:=NB782_774.out;have hnc17:=NB774_782.out;have hnb18:=NB782_775.out;have hnc18:=NB775_782.out;have Z19_0:=cz_ BK782.out 0 (.slice none 0 0);have Z19_1:=cz_ BK782.out 1 (.int .i64 0);have Z19_2:=cz_ BK782.out 2 (.bool false);have Y19_0:=bF_ BK782.out 0;have Y19_1:=bF_ BK782.out 1;have Y19_2:=bF_ BK782.out 2;have Z20_0:=cz_ BK774.out 0 (.slice Ao10 t762.length co10);have Z20_1:=cz_ BK774.out 1 (.int .i64 t765);have Z20_2:=cz_ BK774.out 2 (.bool t766);have Y20_0:=bF_ BK774.out 0;have Y20_1:=bF_ BK774.out 1;have Y20_2:=bF_ BK774.out 2;have Z21_0:=cz_ BK775.out 0 (.int .i64 t767);have Z21_1:=cz_ BK775.out 1 (.int .i64 t768);have Z21_2:=cz_ BK775.out 2 (.int .i64 t769);have Z21_3:=cz_ BK775.out 3 (.int .i64 t770);have Z21_4:=cz_ BK775.out 4 (.int .i64 t771);have Z21_5:=cz_ BK775.out 5 (.int .i64 t772);have Z21_6:=cz_ BK775.out 6 (.string t773);have Y21_0:=bF_ BK775.out 0;have Y21_1:=bF_ BK775.out 1;have Y21_2:=bF_ BK775.out 2;have Y21_3:=bF_ BK775.out 3;have Y21_4:=bF_ BK775.out 4;have Y21_5:=bF_ BK775.out 5;have Y21_6:=bF_ BK775.out 6)|((with_reducible refine gC_ (f:=24) rfl ?_);refine gl_ 28 Tryd.func24 #[.agg #[.slice Ao10 t762.length co10,.int .i64 t765,.bool t766],.agg #[.int .i64 t767,.int .i64 t768,.int .i64 t769,.int .i64 t770,.int .i64 t771,.int .i64 t772,.string t773]] ?_;(with_reducible refine (impl_ServerHear.calls k _ _ t762 t765 t766 t767 t768 t769 t770 t771 t772 t773 t783 t786 t787 t788 _ ?side1 ?side2 A5.out ?side3).mono ?_);(case side1=>refine (Kd.R_reads' (e:=44) (base:=w.heap.size) (ok:=fun k_=>((True∧k_≠gb775)∧some k_≠(.slice Ao16 t776.length co16:Value).ownBlock)) (n:=t762.length) (c:=co10) ?_).2.2;exact (by (with_reducible repeat (first|apply Kd.R_alloc|apply Kd.R_drewN|apply Kd.R_drew));exact (Kd.R_mono (rf3_ (g:=gb782) (Kd.R_types HO764.out BK782.out (by decide)) (fun _ hk=>hk.2) (.slice Ao16 t776.length co16) (.int .i64 t779) (.bool t780)) (fun _ h_=>h_.1))));(case side2=>exact (Kd.R_reads' HO764.out).2.1);(case side3=>exact Glob.below HG.out (bel_));rintro e w22 ⟨v784,rfl,ho0,hb⟩;refine ⟨_,rfl,?_⟩;have n0_:=a_ (Kd.R_elder' (by (with_reducible repeat (first|apply Kd.R_alloc|apply Kd.R_drewN|apply Kd.R_drew));exact (Kd.R_mono (rf3_ (g:=gb782) (Kd.R_types HO764.out BK782.out (by decide)) (fun _ hk=>hk.2) (.slice Ao16 t776.length co16) (.int .i64 t779) (.bool t780)) (fun _ h_=>h_.1))) (Kd.R_base ho0) hb);have n1_:=a_ (Kd.R_elder' (by (with_reducible repeat (first|apply Kd.R_alloc|apply Kd.R_drewN|apply Kd.R_drew));exact (Kd.R_mono (rf3_ (g:=gb782) (Kd.R_types HO778.out BK782.out (by decide)) (fun _ hk=>hk.2) (.slice Ao16 t776.length co16) (.int .i64 t779) (.bool t780)) (fun _ h_=>h_.1))) (Kd.R_base ho0) hb);have n2_:=a_ (Kd.R_lower (Kd.R_newB (Kd.R_new' (Kd.R_new' ho0 (Kd.R_lt (by (with_reducible repeat (first|apply Kd.R_alloc|apply Kd.R_drewN|apply Kd.R_drew));exact (Kd.R_mono (rf3_ (g:=gb782) (Kd.R_types HO764.out BK782.out (by decide)) (fun _ hk=>hk.2) (.slice Ao16 t776.length co16) (.int .i64 t779) (.bool t780)) (fun _ h_=>h_.1))))) (Kd.R_lt (by (with_reducible repeat (first|apply Kd.R_alloc|apply Kd.R_drewN|apply Kd.R_drew));exact (Kd.R_mono (rf3_ (g:=gb782) (Kd.R_types HO778.out BK782.out (by decide)) (fun _ hk=>hk.2) (.slice Ao16 t776.length co16) (.int .i64 t779) (.bool t780)) (fun _ h_=>h_.1))))) (g:=gb775) (o:=.cells #[.int .i64 t767,.int .i64 t768,.int .i64 t769,.int .i64 t770,.int .i64 t771,.int .i64 t772,.string t773] 44 (0,0)) (fp1_ NB775_782.out BK775.out)) (below_size (bel_)));have n3_:=a_ (blk_below (g:=gb774) (o:=.cells #[.slice Ao10 t762.length co10,.int .i64 t765,.bool t766] 25 (0,0)) (fp1_ NB774_782.out BK774.out) hb);have n4_:=a_ (blk_below (g:=gb775) (o:=.cells #[.int .i64 t767,.int .i64 t768,.int .i64 t769,.int .i64 t770,.int .i64 t771,.int .i64 t772,.string t773] 44 (0,0)) (fp1_ NB775_782.out BK775.out) hb);have n5_:=a_ (blk_below (g:=gb782) (o:=.cells #[.slice Ao16 t776.length co16,.int .i64 t779,.bool t780] 25 (0,0)) (k3p_ BK782.out) hb);have n6_:=a_ (bS_ (bel_) hb);clear HO764;clear HO778;clear BK774;clear BK775;clear BK782;clear HB;have HO764:=n0_;have HO778:=n1_;have HO785:=n2_;have BK774:=n3_;have BK775:=n4_;have BK782:=n5_;have HB:=n6_;clear n0_ n1_ n2_ n3_ n4_ n5_ n6_;(try clear hb ho0))|((with_reducible refine gD_ (N:=7) rfl ?_);refine bx_ 7 (#[.slice none 0 0,.int .i64 0,.bool false]) 25 ?_;intro gb789 hg w23 hbox hb;have n0_:=a_ (Kd.R_below (rp_ HO764.out) hb);have n1_:=a_ (Kd.R_below (rp_ HO778.out) hb);have n2_:=a_ (Kd.R_below (rp_ HO785.out) hb);have n3_:=a_ (blk_below (g:=gb774) (o:=.cells #[.slice Ao10 t762.length co10,.int .i64 t765,.bool t766] 25 (0,0)) (bp_ BK774.out) hb);have n4_:=a_ (blk_below (g:=gb775) (o:=.cells #[.int .i64 t767,.int .i64 t768,.int .i64 t769,.int .i64 t770,.int .i64 t771,.int .i64 t772,.string t773] 44 (0,0)) (bp_ BK775.out) hb);have n5_:=a_ (blk_below (g:=gb782) (o:=.cells #[.slice Ao16 t776.length co16,.int .i64 t779,.bool t780] 25 (0,0)) (bp_ BK782.out) hb);have n6_:=a_ (bS_ (bel_) hb);have n7_:=a_ (hbox);have n8_:=a_ ((by rw [hg];exact (below_size (bel_)):w.heap.size≤gb789));have n9_:=a_ ((by rw [hg];exact (below_size (bel_)):w.heap.size≤gb789));have n10_:=a_ ((by rw [hg];exact Nat.ne_of_lt (blk_lt (g:=gb774) (o:=.cells #[.slice Ao10 t762.length co10,.int .i64 t765,.bool t766] 25 (0,0)) (bp_ BK774.out)):gb774≠gb789));have n11_:=a_ ((by rw [hg];exact Nat.ne_of_gt (blk_lt (g:=gb774) (o:=.cells #[.slice Ao10 t762.length co10,.int .i64 t765,.bool t766] 25 (0,0)) (bp_ BK774.out)):gb789≠gb774));have n12_:=a_ ((by rw [hg];exact Nat.ne_of_lt (blk_lt (g:=gb775) (o:=.cells #[.int .i64 t767,.int .i64 t768,.int .i64 t769,.int .i64 t770,.int .i64 t771,.int .i64 t772,.string t773] 44 (0,0)) (bp_ BK775.out)):gb775≠gb789));have n13_:=a_ ((by rw [hg];exact Nat.ne_of_gt (blk_lt (g:=gb775) (o:=.cells #[.int .i64 t767,.int .i64 t768,.int .i64 t769,.int .i64 t770,.int .i64 t771,.int .i64 t772,.string t773] 44 (0,0)) (bp_ BK775.out)):gb789≠gb775));have n14_:=a_ ((by rw [hg];exact Nat.ne_of_lt (blk_lt (g:=gb782) (o:=.cells #[.slice Ao16 t776.length co16,.int .i64 t779,.bool t780] 25 (0,0)) (bp_ BK782.out)):gb782≠gb789));have n15_:=a_ ((by rw [hg];exact Nat.ne_of_gt (blk_lt (g:=gb782) (o:=.cells #[.slice Ao16 t776.length co16,.int .i64 t779,.bool t780] 25 (0,0)) (bp_ BK782.out)):gb789≠gb782));clear HO764;clear HO778;clear HO785;clear BK774;clear BK775;clear BK782;clear HB;have HO764:=n0_;have HO778:=n1_;have HO785:=n2_;have BK774:=n3_;have BK775:=n4_;have BK782:=n5_;have HB:=n6_;have BK789:=n7_;have GW789:=n8_;have GE789:=n9_;have NB774_789:=n10_;have NB789_774:=n11_;have NB775_789:=n12_;have NB789_775:=n13_;have NB782_789:=n14_;have NB789_782:=n15_;clear n0_ n1_ n2_ n3_ n4_ n5_ n6_ n7_ n8_ n9_ n10_ n11_ n12_ n13_ n14_ n15_;clear hb hbox hg;obtain ⟨Ao24,co24,eo24⟩:=Kd.R_slice HO785.out;subst eo24;have hnb25:=NB789_774.out;have hnc25:=NB774_789.out;have hnb26:=NB789_775.out;have hnc26:=NB775_789.out;have hnb27:=NB789_782.out;have hnc27:=NB782_789.out;have Z28_0:=cz_ BK789.out 0 (.slice none 0 0);have Z28_1:=cz_ BK789.out 1 (.int .i64 0);have Z28_2:=cz_ BK789.out 2 (.bool false);have Y28_0:=bF_ BK789.out 0;have Y28_1:=bF_ BK789.out 1;have Y28_2:=bF_ BK789.out 2))
  (try simp only [Act.put,List.setIfInBounds_toArray,List.set_cons_zero,List.set_cons_succ])
  go_cut [49] (fun v49 wc=>∃ (kq:Nat) (x49_5:Bool),v49=.bool x49_5∧Aside0 (laws_FnHear.j0 kq t781 t788 x49_5 t762 t765 t766 t767 t768 t769 t770 t771 t772 t773 t776 t779 t780 t783 t786 t787=some r)∧Aside0 (kq≤k)∧Aside0 (Kd.R k44 44 wc w.heap.size (fun k_=>some k_≠((.slice Ao16 t776.length co16):Value).ownBlock∧some k_≠((.slice Ao24 t783.length co24):Value).ownBlock∧k_≠gb775) (.slice Ao10 t762.length co10) t762)∧Aside0 (Kd.R k44 44 wc w.heap.size (fun k_=>some k_≠((.slice Ao10 t762.length co10):Value).ownBlock∧some k_≠((.slice Ao24 t783.length co24):Value).ownBlock∧k_≠gb775) (.slice Ao16 t776.length co16) t776)∧Aside0 (Kd.R k44 44 wc w.heap.size (fun k_=>some k_≠((.slice Ao10 t762.length co10):Value).ownBlock∧some k_≠((.slice Ao16 t776.length co16):Value).ownBlock∧k_≠gb775) (.slice Ao24 t783.length co24) t783)∧Aside0 (wc.heap[gb774]?=some (.cells #[(.slice Ao10 t762.length co10),.int .i64 t765,.bool t766] 25 (0,0)))∧Aside0 (wc.heap[gb775]?=some (.cells #[.int .i64 t767,.int .i64 t768,.int .i64 t769,.int .i64 t770,.int .i64 t771,.int .i64 t772,.string t773] 44 (0,0)))∧Aside0 (wc.heap[gb782]?=some (.cells #[(.slice Ao16 t776.length co16),.int .i64 t779,.bool t780] 25 (0,0)))∧Aside0 (wc.heap[gb789]?=some (.cells #[(.slice Ao24 t783.length co24),.int .i64 t786,.bool t787] 25 (0,0)))∧Aside0 (Below w.heap.size w wc))
  case first =>
   have H:=HC6.out
   clear HC6
   by_cases c29:(t788 != t781)=true
   ·rw [if_pos c29] at H
    exact absurd H (by simp)
   ·rw [if_neg c29] at H
    have c29b0:(t788 != t781)=false:=by simpa using c29
    (try (have c29b1:decide (t788=t781)=true:=by simpa using c29))
    (try (have c29b2:(t788==t781)=true:=by simpa using c29))
    clear c29
    (first|rw [c29b0]|(simp only [i64_w,i32_w];rw [c29b0])|skip)
    replace H:=bs_ H
    obtain ⟨t790,A300,H⟩:=H
    replace H:(if t790=true then ((spec_ServerOk.f k t762 t765 t766).bind fun t791=>(if t791=true then ((spec_EntryOk.f k t767 t768 t769 t770 t771 t772 t773).bind fun t792=>(laws_FnHear.j0 k t781 t788 (!t792) t762 t765 t766 t767 t768 t769 t770 t771 t772 t773 t776 t779 t780 t783 t786 t787)) else (laws_FnHear.j0 k t781 t788 true t762 t765 t766 t767 t768 t769 t770 t771 t772 t773 t776 t779 t780 t783 t786 t787))) else (none))=some r:=H
    have A30:=a_ A300
    clear A300
    by_cases c31:t790=true
    ·subst c31
     have H1:((spec_ServerOk.f k t762 t765 t766).bind fun t791=>(if t791=true then ((spec_EntryOk.f k t767 t768 t769 t770 t771 t772 t773).bind fun t792=>(laws_FnHear.j0 k t781 t788 (!t792) t762 t765 t766 t767 t768 t769 t770 t771 t772 t773 t776 t779 t780 t783 t786 t787)) else (laws_FnHear.j0 k t781 t788 true t762 t765 t766 t767 t768 t769 t770 t771 t772 t773 t776 t779 t780 t783 t786 t787)))=some r:=by rw [if_pos rfl] at H;exact H
     clear H
     have H:=H1
     clear H1
     replace H:=bs_ H
     obtain ⟨t791,A320,H⟩:=H
     replace H:(if t791=true then ((spec_EntryOk.f k t767 t768 t769 t770 t771 t772 t773).bind fun t792=>(laws_FnHear.j0 k t781 t788 (!t792) t762 t765 t766 t767 t768 t769 t770 t771 t772 t773 t776 t779 t780 t783 t786 t787)) else (laws_FnHear.j0 k t781 t788 true t762 t765 t766 t767 t768 t769 t770 t771 t772 t773 t776 t779 t780 t783 t786 t787))=some r:=H
     have A32:=a_ A320
     clear A320
     by_cases c33:t791=true
     ·subst c33
      have H1:((spec_EntryOk.f k t767 t768 t769 t770 t771 t772 t773).bind fun t792=>(laws_FnHear.j0 k t781 t788 (!t792) t762 t765 t766 t767 t768 t769 t770 t771 t772 t773 t776 t779 t780 t783 t786 t787))=some r:=by rw [if_pos rfl] at H;exact H
      clear H
      have H:=H1
      clear H1
      replace H:=bs_ H
      obtain ⟨t792,A340,H⟩:=H
      replace H:(laws_FnHear.j0 k t781 t788 (!t792) t762 t765 t766 t767 t768 t769 t770 t771 t772 t773 t776 t779 t780 t783 t786 t787)=some r:=H
      have A34:=a_ A340
      clear A340
      have H':=a_ H
      clear H
      have hnb35:=NB789_774.out
      have hnc35:=NB774_789.out
      have hnb36:=NB789_775.out
      have hnc36:=NB775_789.out
      have hnb37:=NB789_782.out
      have hnc37:=NB782_789.out
      have Z38_0:=cz_ BK789.out 0 (.slice none 0 0)
      have Z38_1:=cz_ BK789.out 1 (.int .i64 0)
      have Z38_2:=cz_ BK789.out 2 (.bool false)
      have Y38_0:=bF_ BK789.out 0
      have Y38_1:=bF_ BK789.out 1
      have Y38_2:=bF_ BK789.out 2
      have hnb39:=NB782_774.out
      have hnc39:=NB774_782.out
      have hnb40:=NB782_775.out
      have hnc40:=NB775_782.out
      have Z41_0:=cz_ BK782.out 0 (.slice Ao16 t776.length co16)
      have Z41_1:=cz_ BK782.out 1 (.int .i64 t779)
      have Z41_2:=cz_ BK782.out 2 (.bool t780)
      have Y41_0:=bF_ BK782.out 0
      have Y41_1:=bF_ BK782.out 1
      have Y41_2:=bF_ BK782.out 2
      go_wp2_with (first|(go_at_call 29;(with_reducible refine (laws_lpServer.calls k _ _ t783 t786 t787 _ _ t776 t779 t780 true _ ?side1 ?side2 ?side3 ?side4 A30.out).mono ?_);(case side1=>refine (Kd.R_reads' (e:=44) (base:=w.heap.size) (ok:=fun k_=>(((True∧some k_≠(.slice Ao10 t762.length co10:Value).ownBlock)∧some k_≠(.slice Ao16 t776.length co16:Value).ownBlock)∧k_≠gb775)) (n:=t783.length) (c:=co24) ?_).2.2;exact (by (with_reducible repeat (first|apply Kd.R_alloc|apply Kd.R_drewN|apply Kd.R_drew));exact (Kd.R_mono (rf3_ (g:=gb789) (Kd.R_types HO785.out BK789.out (by decide)) (fun _ hk=>hk.2) (.slice Ao24 t783.length co24) (.int .i64 t786) (.bool t787)) (fun _ h_=>h_.1))));(case side2=>exact (Kd.R_reads' HO785.out).2.1);(case side3=>refine (Kd.R_reads' (e:=44) (base:=w.heap.size) (ok:=fun k_=>(((True∧some k_≠(.slice Ao10 t762.length co10:Value).ownBlock)∧k_≠gb775)∧some k_≠(.slice Ao24 t783.length co24:Value).ownBlock)) (n:=t776.length) (c:=co16) ?_).2.2;exact (by (with_reducible repeat (first|apply Kd.R_alloc|apply Kd.R_drewN|apply Kd.R_drew));exact (Kd.R_mono (rf3_ (g:=gb789) (Kd.R_types HO778.out BK789.out (by decide)) (fun _ hk=>hk.2) (.slice Ao24 t783.length co24) (.int .i64 t786) (.bool t787)) (fun _ h_=>h_.1))));(case side4=>exact (Kd.R_reads' HO778.out).2.1);rintro e w42 ⟨rfl,hb⟩;have n0_:=a_ (Kd.R_below (by (with_reducible repeat (first|apply Kd.R_alloc|apply Kd.R_drewN|apply Kd.R_drew));exact (Kd.R_mono (rf3_ (g:=gb789) (Kd.R_types HO764.out BK789.out (by decide)) (fun _ hk=>hk.2) (.slice Ao24 t783.length co24) (.int .i64 t786) (.bool t787)) (fun _ h_=>h_.1))) hb);have n1_:=a_ (Kd.R_below (by (with_reducible repeat (first|apply Kd.R_alloc|apply Kd.R_drewN|apply Kd.R_drew));exact (Kd.R_mono (rf3_ (g:=gb789) (Kd.R_types HO778.out BK789.out (by decide)) (fun _ hk=>hk.2) (.slice Ao24 t783.length co24) (.int .i64 t786) (.bool t787)) (fun _ h_=>h_.1))) hb);have n2_:=a_ (Kd.R_below (by (with_reducible repeat (first|apply Kd.R_alloc|apply Kd.R_drewN|apply Kd.R_drew));exact (Kd.R_mono (rf3_ (g:=gb789) (Kd.R_types HO785.out BK789.out (by decide)) (fun _ hk=>hk.2) (.slice Ao24 t783.length co24) (.int .i64 t786) (.bool t787)) (fun _ h_=>h_.1))) hb);have n3_:=a_ (blk_below (g:=gb774) (o:=.cells #[.slice Ao10 t762.length co10,.int .i64 t765,.bool t766] 25 (0,0)) (fp1_ NB774_789.out BK774.out) hb);have n4_:=a_ (blk_below (g:=gb775) (o:=.cells #[.int .i64 t767,.int .i64 t768,.int .i64 t769,.int .i64 t770,.int .i64 t771,.int .i64 t772,.string t773] 44 (0,0)) (fp1_ NB775_789.out BK775.out) hb);have n5_:=a_ (blk_below (g:=gb782) (o:=.cells #[.slice Ao16 t776.length co16,.int .i64 t779,.bool t780] 25 (0,0)) (fp1_ NB782_789.out BK782.out) hb);have n6_:=a_ (blk_below (g:=gb789) (o:=.cells #[.slice Ao24 t783.length co24,.int .i64 t786,.bool t787] 25 (0,0)) (k3p_ BK789.out) hb);have n7_:=a_ (bS_ (bel_) hb);clear HO764;clear HO778;clear HO785;clear BK774;clear BK775;clear BK782;clear BK789;clear HB;have HO764:=n0_;have HO778:=n1_;have HO785:=n2_;have BK774:=n3_;have BK775:=n4_;have BK782:=n5_;have BK789:=n6_;have HB:=n7_;clear n0_ n1_ n2_ n3_ n4_ n5_ n6_ n7_;(try clear hb);have hnb43:=NB774_775.out;have hnc43:=NB775_774.out;have Z44_0:=cz_ BK774.out 0 (.slice Ao10 t762.length co10);have Z44_1:=cz_ BK774.out 1 (.int .i64 t765);have Z44_2:=cz_ BK774.out 2 (.bool t766);have Y44_0:=bF_ BK774.out 0;have Y44_1:=bF_ BK774.out 1;have Y44_2:=bF_ BK774.out 2)|(go_at_call 17;(with_reducible refine (spec_ServerOk.calls k _ _ t762 t765 t766 true _ ?side1 ?side2 A32.out).mono ?_);(case side1=>exact cx_ (Kd.R_reads' HO764.out).2.2);(case side2=>exact (Kd.R_reads' HO764.out).2.1);rintro e w45 ⟨rfl,hb⟩;replace HO764:=a_ (Kd.R_below (rp_ HO764.out) hb);replace HO778:=a_ (Kd.R_below (rp_ HO778.out) hb);replace HO785:=a_ (Kd.R_below (rp_ HO785.out) hb);replace HB:=a_ (bS_ (bel_) hb);replace BK774:=a_ (blk_below (g:=gb774) (o:=.cells #[.slice Ao10 t762.length co10,.int .i64 t765,.bool t766] 25 (0,0)) (bp_ BK774.out) hb);replace BK775:=a_ (blk_below (g:=gb775) (o:=.cells #[.int .i64 t767,.int .i64 t768,.int .i64 t769,.int .i64 t770,.int .i64 t771,.int .i64 t772,.string t773] 44 (0,0)) (bp_ BK775.out) hb);replace BK782:=a_ (blk_below (g:=gb782) (o:=.cells #[.slice Ao16 t776.length co16,.int .i64 t779,.bool t780] 25 (0,0)) (bp_ BK782.out) hb);replace BK789:=a_ (blk_below (g:=gb789) (o:=.cells #[.slice Ao24 t783.length co24,.int .i64 t786,.bool t787] 25 (0,0)) (bp_ BK789.out) hb);(try clear hb);have Z46_0:=cz_ BK775.out 0 (.int .i64 t767);have Z46_1:=cz_ BK775.out 1 (.int .i64 t768);have Z46_2:=cz_ BK775.out 2 (.int .i64 t769);have Z46_3:=cz_ BK775.out 3 (.int .i64 t770);have Z46_4:=cz_ BK775.out 4 (.int .i64 t771);have Z46_5:=cz_ BK775.out 5 (.int .i64 t772);have Z46_6:=cz_ BK775.out 6 (.string t773);have Y46_0:=bF_ BK775.out 0;have Y46_1:=bF_ BK775.out 1;have Y46_2:=bF_ BK775.out 2;have Y46_3:=bF_ BK775.out 3;have Y46_4:=bF_ BK775.out 4;have Y46_5:=bF_ BK775.out 5;have Y46_6:=bF_ BK775.out 6)|(go_at_call 30;(with_reducible refine (spec_EntryOk.calls k t767 t768 t769 t770 t771 t772 t773 t792 _ A34.out).mono ?_);rintro e w47 ⟨rfl,hb⟩;replace HO764:=a_ (Kd.R_below (rp_ HO764.out) hb);replace HO778:=a_ (Kd.R_below (rp_ HO778.out) hb);replace HO785:=a_ (Kd.R_below (rp_ HO785.out) hb);replace HB:=a_ (bS_ (bel_) hb);replace BK774:=a_ (blk_below (g:=gb774) (o:=.cells #[.slice Ao10 t762.length co10,.int .i64 t765,.bool t766] 25 (0,0)) (bp_ BK774.out) hb);replace BK775:=a_ (blk_below (g:=gb775) (o:=.cells #[.int .i64 t767,.int .i64 t768,.int .i64 t769,.int .i64 t770,.int .i64 t771,.int .i64 t772,.string t773] 44 (0,0)) (bp_ BK775.out) hb);replace BK782:=a_ (blk_below (g:=gb782) (o:=.cells #[.slice Ao16 t776.length co16,.int .i64 t779,.bool t780] 25 (0,0)) (bp_ BK782.out) hb);replace BK789:=a_ (blk_below (g:=gb789) (o:=.cells #[.slice Ao24 t783.length co24,.int .i64 t786,.bool t787] 25 (0,0)) (bp_ BK789.out) hb);(try clear hb)))
      go_meet
      case rel=>exact ⟨_,(!t792),(si_),H',⟨by first|omega|exact Nat.le_refl _⟩,⟨by (with_reducible repeat (first|apply Kd.R_alloc|apply Kd.R_drewN|apply Kd.R_drew));exact Kd.R_mono HO764.out (fun _ hk=>⟨hk.1.2,⟨hk.2,hk.1.1.2⟩⟩)⟩,⟨by (with_reducible repeat (first|apply Kd.R_alloc|apply Kd.R_drewN|apply Kd.R_drew));exact Kd.R_mono HO778.out (fun _ hk=>⟨hk.1.1.2,⟨hk.2,hk.1.2⟩⟩)⟩,⟨by (with_reducible repeat (first|apply Kd.R_alloc|apply Kd.R_drewN|apply Kd.R_drew));exact Kd.R_mono HO785.out (fun _ hk=>⟨hk.1.1.2,⟨hk.1.2,hk.2⟩⟩)⟩,⟨bp_ BK774.out⟩,⟨bp_ BK775.out⟩,⟨bp_ BK782.out⟩,⟨bp_ BK789.out⟩,⟨bel_⟩⟩
     ·replace c33:=Bool.eq_false_iff.mpr c33
      subst c33
      have H1:(laws_FnHear.j0 k t781 t788 true t762 t765 t766 t767 t768 t769 t770 t771 t772 t773 t776 t779 t780 t783 t786 t787)=some r:=by rw [if_neg (show ¬ (false=true) by decide)] at H;exact H
      clear H
      have H:=H1
      clear H1
      have H':=a_ H
      clear H
      have hnb48:=NB789_774.out
      have hnc48:=NB774_789.out
      have hnb49:=NB789_775.out
      have hnc49:=NB775_789.out
      have hnb50:=NB789_782.out
      have hnc50:=NB782_789.out
      have Z51_0:=cz_ BK789.out 0 (.slice none 0 0)
      have Z51_1:=cz_ BK789.out 1 (.int .i64 0)
      have Z51_2:=cz_ BK789.out 2 (.bool false)
      have Y51_0:=bF_ BK789.out 0
      have Y51_1:=bF_ BK789.out 1
      have Y51_2:=bF_ BK789.out 2
      have hnb52:=NB782_774.out
      have hnc52:=NB774_782.out
      have hnb53:=NB782_775.out
      have hnc53:=NB775_782.out
      have Z54_0:=cz_ BK782.out 0 (.slice Ao16 t776.length co16)
      have Z54_1:=cz_ BK782.out 1 (.int .i64 t779)
      have Z54_2:=cz_ BK782.out 2 (.bool t780)
      have Y54_0:=bF_ BK782.out 0
      have Y54_1:=bF_ BK782.out 1
      have Y54_2:=bF_ BK782.out 2
      go_wp2_with (first|(go_at_call 29;(with_reducible refine (laws_lpServer.calls k _ _ t783 t786 t787 _ _ t776 t779 t780 true _ ?side1 ?side2 ?side3 ?side4 A30.out).mono ?_);(case side1=>refine (Kd.R_reads' (e:=44) (base:=w.heap.size) (ok:=fun k_=>(((True∧some k_≠(.slice Ao10 t762.length co10:Value).ownBlock)∧some k_≠(.slice Ao16 t776.length co16:Value).ownBlock)∧k_≠gb775)) (n:=t783.length) (c:=co24) ?_).2.2;exact (by (with_reducible repeat (first|apply Kd.R_alloc|apply Kd.R_drewN|apply Kd.R_drew));exact (Kd.R_mono (rf3_ (g:=gb789) (Kd.R_types HO785.out BK789.out (by decide)) (fun _ hk=>hk.2) (.slice Ao24 t783.length co24) (.int .i64 t786) (.bool t787)) (fun _ h_=>h_.1))));(case side2=>exact (Kd.R_reads' HO785.out).2.1);(case side3=>refine (Kd.R_reads' (e:=44) (base:=w.heap.size) (ok:=fun k_=>(((True∧some k_≠(.slice Ao10 t762.length co10:Value).ownBlock)∧k_≠gb775)∧some k_≠(.slice Ao24 t783.length co24:Value).ownBlock)) (n:=t776.length) (c:=co16) ?_).2.2;exact (by (with_reducible repeat (first|apply Kd.R_alloc|apply Kd.R_drewN|apply Kd.R_drew));exact (Kd.R_mono (rf3_ (g:=gb789) (Kd.R_types HO778.out BK789.out (by decide)) (fun _ hk=>hk.2) (.slice Ao24 t783.length co24) (.int .i64 t786) (.bool t787)) (fun _ h_=>h_.1))));(case side4=>exact (Kd.R_reads' HO778.out).2.1);rintro e w55 ⟨rfl,hb⟩;have n0_:=a_ (Kd.R_below (by (with_reducible repeat (first|apply Kd.R_alloc|apply Kd.R_drewN|apply Kd.R_drew));exact (Kd.R_mono (rf3_ (g:=gb789) (Kd.R_types HO764.out BK789.out (by decide)) (fun _ hk=>hk.2) (.slice Ao24 t783.length co24) (.int .i64 t786) (.bool t787)) (fun _ h_=>h_.1))) hb);have n1_:=a_ (Kd.R_below (by (with_reducible repeat (first|apply Kd.R_alloc|apply Kd.R_drewN|apply Kd.R_drew));exact (Kd.R_mono (rf3_ (g:=gb789) (Kd.R_types HO778.out BK789.out (by decide)) (fun _ hk=>hk.2) (.slice Ao24 t783.length co24) (.int .i64 t786) (.bool t787)) (fun _ h_=>h_.1))) hb);have n2_:=a_ (Kd.R_below (by (with_reducible repeat (first|apply Kd.R_alloc|apply Kd.R_drewN|apply Kd.R_drew));exact (Kd.R_mono (rf3_ (g:=gb789) (Kd.R_types HO785.out BK789.out (by decide)) (fun _ hk=>hk.2) (.slice Ao24 t783.length co24) (.int .i64 t786) (.bool t787)) (fun _ h_=>h_.1))) hb);have n3_:=a_ (blk_below (g:=gb774) (o:=.cells #[.slice Ao10 t762.length co10,.int .i64 t765,.bool t766] 25 (0,0)) (fp1_ NB774_789.out BK774.out) hb);have n4_:=a_ (blk_below (g:=gb775) (o:=.cells #[.int .i64 t767,.int .i64 t768,.int .i64 t769,.int .i64 t770,.int .i64 t771,.int .i64 t772,.string t773] 44 (0,0)) (fp1_ NB775_789.out BK775.out) hb);have n5_:=a_ (blk_below (g:=gb782) (o:=.cells #[.slice Ao16 t776.length co16,.int .i64 t779,.bool t780] 25 (0,0)) (fp1_ NB782_789.out BK782.out) hb);have n6_:=a_ (blk_below (g:=gb789) (o:=.cells #[.slice Ao24 t783.length co24,.int .i64 t786,.bool t787] 25 (0,0)) (k3p_ BK789.out) hb);have n7_:=a_ (bS_ (bel_) hb);clear HO764;clear HO778;clear HO785;clear BK774;clear BK775;clear BK782;clear BK789;clear HB;have HO764:=n0_;have HO778:=n1_;have HO785:=n2_;have BK774:=n3_;have BK775:=n4_;have BK782:=n5_;have BK789:=n6_;have HB:=n7_;clear n0_ n1_ n2_ n3_ n4_ n5_ n6_ n7_;(try clear hb);have hnb56:=NB774_775.out;have hnc56:=NB775_774.out;have Z57_0:=cz_ BK774.out 0 (.slice Ao10 t762.length co10);have Z57_1:=cz_ BK774.out 1 (.int .i64 t765);have Z57_2:=cz_ BK774.out 2 (.bool t766);have Y57_0:=bF_ BK774.out 0;have Y57_1:=bF_ BK774.out 1;have Y57_2:=bF_ BK774.out 2)|(go_at_call 17;(with_reducible refine (spec_ServerOk.calls k _ _ t762 t765 t766 false _ ?side1 ?side2 A32.out).mono ?_);(case side1=>exact cx_ (Kd.R_reads' HO764.out).2.2);(case side2=>exact (Kd.R_reads' HO764.out).2.1);rintro e w58 ⟨rfl,hb⟩;replace HO764:=a_ (Kd.R_below (rp_ HO764.out) hb);replace HO778:=a_ (Kd.R_below (rp_ HO778.out) hb);replace HO785:=a_ (Kd.R_below (rp_ HO785.out) hb);replace HB:=a_ (bS_ (bel_) hb);replace BK774:=a_ (blk_below (g:=gb774) (o:=.cells #[.slice Ao10 t762.length co10,.int .i64 t765,.bool t766] 25 (0,0)) (bp_ BK774.out) hb);replace BK775:=a_ (blk_below (g:=gb775) (o:=.cells #[.int .i64 t767,.int .i64 t768,.int .i64 t769,.int .i64 t770,.int .i64 t771,.int .i64 t772,.string t773] 44 (0,0)) (bp_ BK775.out) hb);replace BK782:=a_ (blk_below (g:=gb782) (o:=.cells #[.slice Ao16 t776.length co16,.int .i64 t779,.bool t780] 25 (0,0)) (bp_ BK782.out) hb);replace BK789:=a_ (blk_below (g:=gb789) (o:=.cells #[.slice Ao24 t783.length co24,.int .i64 t786,.bool t787] 25 (0,0)) (bp_ BK789.out) hb);(try clear hb)))
      go_meet
      case rel=>exact ⟨_,(true),(si_),H',⟨by first|omega|exact Nat.le_refl _⟩,⟨by (with_reducible repeat (first|apply Kd.R_alloc|apply Kd.R_drewN|apply Kd.R_drew));exact Kd.R_mono HO764.out (fun _ hk=>⟨hk.1.2,⟨hk.2,hk.1.1.2⟩⟩)⟩,⟨by (with_reducible repeat (first|apply Kd.R_alloc|apply Kd.R_drewN|apply Kd.R_drew));exact Kd.R_mono HO778.out (fun _ hk=>⟨hk.1.1.2,⟨hk.2,hk.1.2⟩⟩)⟩,⟨by (with_reducible repeat (first|apply Kd.R_alloc|apply Kd.R_drewN|apply Kd.R_drew));exact Kd.R_mono HO785.out (fun _ hk=>⟨hk.1.1.2,⟨hk.1.2,hk.2⟩⟩)⟩,⟨bp_ BK774.out⟩,⟨bp_ BK775.out⟩,⟨bp_ BK782.out⟩,⟨bp_ BK789.out⟩,⟨bel_⟩⟩
    ·replace c31:=Bool.eq_false_iff.mpr c31
     subst c31
     have H1:(none)=some r:=by rw [if_neg (show ¬ (false=true) by decide)] at H;exact H
     clear H
     have H:=H1
     clear H1
     exact absurd H (by simp)
  case rest =>
   clear HC6
   try clear c1
   try clear c2
   try clear c2b0
   try clear c2b1
   try clear p2
   try clear c3
   try clear c4
   try clear c5
   try clear c11
   try clear c17
   try clear c18
   try clear c21
   try clear c24
   try clear c25
   try clear c26
   try clear c27
   try clear c28
   try clear c29
   try clear c29b0
   try clear c29b1
   try clear c29b2
   try clear c31
   try clear c33
   try clear c35
   try clear c36
   try clear c37
   try clear c39
   try clear c40
   try clear c43
   try clear c48
   try clear c49
   try clear c50
   try clear c52
   try clear c53
   try clear c56
   try clear Z12_0
   try clear Z12_1
   try clear Z12_2
   try clear Z13_0
   try clear Z13_1
   try clear Z13_2
   try clear Z13_3
   try clear Z13_4
   try clear Z13_5
   try clear Z13_6
   try clear Z19_0
   try clear Z19_1
   try clear Z19_2
   try clear Z20_0
   try clear Z20_1
   try clear Z20_2
   try clear Z21_0
   try clear Z21_1
   try clear Z21_2
   try clear Z21_3
   try clear Z21_4
   try clear Z21_5
   try clear Z21_6
   try clear Z28_0
   try clear Z28_1
   try clear Z28_2
   try clear Z38_0
   try clear Z38_1
   try clear Z38_2
   try clear Z41_0
   try clear Z41_1
   try clear Z41_2
   try clear Z44_0
   try clear Z44_1
   try clear Z44_2
   try clear Z46_0
   try clear Z46_1
   try clear Z46_2
   try clear Z46_3
   try clear Z46_4
   try clear Z46_5
   try clear Z46_6
   try clear Z51_0
   try clear Z51_1
   try clear Z51_2
   try clear Z54_0
   try clear Z54_1
   try clear Z54_2
   try clear Z57_0
   try clear Z57_1
   try clear Z57_2
   try clear Y12_0
   try clear Y12_1
   try clear Y12_2
   try clear Y13_0
   try clear Y13_1
   try clear Y13_2
   try clear Y13_3
   try clear Y13_4
   try clear Y13_5
   try clear Y13_6
   try clear Y19_0
   try clear Y19_1
   try clear Y19_2
   try clear Y20_0
   try clear Y20_1
   try clear Y20_2
   try clear Y21_0
   try clear Y21_1
   try clear Y21_2
   try clear Y21_3
   try clear Y21_4
   try clear Y21_5
   try clear Y21_6
   try clear Y28_0
   try clear Y28_1
   try clear Y28_2
   try clear Y38_0
   try clear Y38_1
   try clear Y38_2
   try clear Y41_0
   try clear Y41_1
   try clear Y41_2
   try clear Y44_0
   try clear Y44_1
   try clear Y44_2
   try clear Y46_0
   try clear Y46_1
   try clear Y46_2
   try clear Y46_3
   try clear Y46_4
   try clear Y46_5
   try clear Y46_6
   try clear Y51_0
   try clear Y51_1
   try clear Y51_2
   try clear Y54_0
   try clear Y54_1
   try clear Y54_2
   try clear Y57_0
   try clear Y57_1
   try clear Y57_2
   obtain ⟨kq,x49_5,rfl,HA,HJ5,HO_775000,HO_783000,HO_790000,BK774,BK775,BK782,BK789,HB⟩:=hcut
   cases kq with
   | zero=>exact absurd HA.out (by simp [laws_FnHear.j0])
   | succ kj5 =>
    have H:=HA.out
    clear HA
    simp only [laws_FnHear.j0] at H
    by_cases c59:x49_5=true
    ·subst c59
     have H1:(if (t788==t781)=true then ((laws_lpServer.f kj5 t783 t786 t787 t776 t779 t780).bind fun t793=>(some t793)) else (none))=some r:=by rw [if_pos rfl] at H;exact H
     clear H
     have H:=H1
     clear H1
     by_cases c60:(t788==t781)=true
     ·rw [if_pos c60] at H
      have c60b0:(t788==t781)=true:=c60
      (try (have c60b1:decide (t788=t781)=true:=by simpa using c60))
      (try (have c60b2:(t788==t781)=true:=by simpa using c60))
      clear c60
      replace H:=bs_ H
      obtain ⟨t793,A610,H⟩:=H
      replace H:(some t793)=some r:=H
      have A61:=a_ A610
      clear A610
      obtain rfl:=sj_ H
      have hnb62:=NB789_774.out
      have hnc62:=NB774_789.out
      have hnb63:=NB789_775.out
      have hnc63:=NB775_789.out
      have hnb64:=NB789_782.out
      have hnc64:=NB782_789.out
      have Z65_0:wc.cell? ⟨gb789,0,none⟩=some (.slice Ao24 t783.length co24):=(bC_ BK789.out 0).trans rfl
      have Z65_1:wc.cell? ⟨gb789,1,none⟩=some (.int .i64 t786):=(bC_ BK789.out 1).trans rfl
      have Z65_2:wc.cell? ⟨gb789,2,none⟩=some (.bool t787):=(bC_ BK789.out 2).trans rfl
      have Y65_0:=bF_ BK789.out 0
      have Y65_1:=bF_ BK789.out 1
      have Y65_2:=bF_ BK789.out 2
      have hnb66:=NB782_774.out
      have hnc66:=NB774_782.out
      have hnb67:=NB782_775.out
      have hnc67:=NB775_782.out
      have Z68_0:wc.cell? ⟨gb782,0,none⟩=some (.slice Ao16 t776.length co16):=(bC_ BK782.out 0).trans rfl
      have Z68_1:wc.cell? ⟨gb782,1,none⟩=some (.int .i64 t779):=(bC_ BK782.out 1).trans rfl
      have Z68_2:wc.cell? ⟨gb782,2,none⟩=some (.bool t780):=(bC_ BK782.out 2).trans rfl
      have Y68_0:=bF_ BK782.out 0
      have Y68_1:=bF_ BK782.out 1
      have Y68_2:=bF_ BK782.out 2
      go_wp2_with (first|(go_at_call 29;(with_reducible refine (laws_lpServer.calls kj5 _ _ t783 t786 t787 _ _ t776 t779 t780 t793 _ ?side1 ?side2 ?side3 ?side4 A61.out).mono ?_);(case side1=>exact cx_ (Kd.R_reads' HO_790000.out).2.2);(case side2=>exact (Kd.R_reads' HO_790000.out).2.1);(case side3=>exact cx_ (Kd.R_reads' HO_783000.out).2.2);(case side4=>exact (Kd.R_reads' HO_783000.out).2.1);rintro e w69 ⟨rfl,hb⟩;replace HO_775000:=a_ (Kd.R_below (rp_ HO_775000.out) hb);replace HO_783000:=a_ (Kd.R_below (rp_ HO_783000.out) hb);replace HO_790000:=a_ (Kd.R_below (rp_ HO_790000.out) hb);replace HB:=a_ (bS_ (bel_) hb);replace BK774:=a_ (blk_below (g:=gb774) (o:=.cells #[.slice Ao10 t762.length co10,.int .i64 t765,.bool t766] 25 (0,0)) (bp_ BK774.out) hb);replace BK775:=a_ (blk_below (g:=gb775) (o:=.cells #[.int .i64 t767,.int .i64 t768,.int .i64 t769,.int .i64 t770,.int .i64 t771,.int .i64 t772,.string t773] 44 (0,0)) (bp_ BK775.out) hb);replace BK782:=a_ (blk_below (g:=gb782) (o:=.cells #[.slice Ao16 t776.length co16,.int .i64 t779,.bool t780] 25 (0,0)) (bp_ BK782.out) hb);replace BK789:=a_ (blk_below (g:=gb789) (o:=.cells #[.slice Ao24 t783.length co24,.int .i64 t786,.bool t787] 25 (0,0)) (bp_ BK789.out) hb);(try clear hb)))
      go_ret
      exact ⟨fi_,bel_⟩
     ·rw [if_neg c60] at H
      exact absurd H (by simp)
    ·replace c59:=Bool.eq_false_iff.mpr c59
     subst c59
     have H1:((impl_LogAdd.f kj5 t762 t767 t768 t769 t770 t771 t772 t773).bind fun bt794=>(if t788=true then (if t766=true then (if bt794.2=1 then ((laws_lpLog.f kj5 t783 bt794.1).bind fun t798=>(if t798=true then (if t786=t765 then ((impl_ServerOk.f kj5 t783 t786 t787).bind fun t799=>(some t799)) else (none)) else (none))) else (none)) else (none)) else ((laws_lpServer.f kj5 t783 t786 t787 t762 t765 t766).bind fun t800=>(if t800=true then (if t766=true then (some (bt794.2 != 1)) else (some true)) else (none)))))=some r:=by rw [if_neg (show ¬ (false=true) by decide)] at H;exact H
     clear H
     have H:=H1
     clear H1
     replace H:=bs_ H
     obtain ⟨⟨t794,t797⟩,A700,H⟩:=H
     replace H:(if t788=true then (if t766=true then (if t797=1 then ((laws_lpLog.f kj5 t783 t794).bind fun t798=>(if t798=true then (if t786=t765 then ((impl_ServerOk.f kj5 t783 t786 t787).bind fun t799=>(some t799)) else (none)) else (none))) else (none)) else (none)) else ((laws_lpServer.f kj5 t783 t786 t787 t762 t765 t766).bind fun t800=>(if t800=true then (if t766=true then (some (t797 != 1)) else (some true)) else (none))))=some r:=H
     have A70:=a_ A700
     clear A700
     by_cases c71:t788=true
     ·subst c71
      have H1:(if t766=true then (if t797=1 then ((laws_lpLog.f kj5 t783 t794).bind fun t798=>(if t798=true then (if t786=t765 then ((impl_ServerOk.f kj5 t783 t786 t787).bind fun t799=>(some t799)) else (none)) else (none))) else (none)) else (none))=some r:=by rw [if_pos rfl] at H;exact H
      clear H
      have H:=H1
      clear H1
      by_cases c72:t766=true
      ·subst c72
       have H1:(if t797=1 then ((laws_lpLog.f kj5 t783 t794).bind fun t798=>(if t798=true then (if t786=t765 then ((impl_ServerOk.f kj5 t783 t786 t787).bind fun t799=>(some t799)) else (none)) else (none))) else (none))=some r:=by rw [if_pos rfl] at H;exact H
       clear H
       have H:=H1
       clear H1
       by_cases c73:t797=1
       ·rw [if_pos c73] at H
        have c73b0:(t797==1)=true:=beq_iff_eq.mpr c73
        have c73b1:(t797 != 1)=false:=be_ c73
        clear c73
        replace H:=bs_ H
        obtain ⟨t798,A740,H⟩:=H
        replace H:(if t798=true then (if t786=t765 then ((impl_ServerOk.f kj5 t783 t786 t787).bind fun t799=>(some t799)) else (none)) else (none))=some r:=H
        have A74:=a_ A740
        clear A740
        by_cases c75:t798=true
        ·subst c75
         have H1:(if t786=t765 then ((impl_ServerOk.f kj5 t783 t786 t787).bind fun t799=>(some t799)) else (none))=some r:=by rw [if_pos rfl] at H;exact H
         clear H
         have H:=H1
         clear H1
         by_cases c76:t786=t765
         ·rw [if_pos c76] at H
          have c76b0:(t786==t765)=true:=beq_iff_eq.mpr c76
          have c76b1:(t786 != t765)=false:=be_ c76
          clear c76
          replace H:=bs_ H
          obtain ⟨t799,A770,H⟩:=H
          replace H:(some t799)=some r:=H
          have A77:=a_ A770
          clear A770
          obtain rfl:=sj_ H
          have hnb78:=NB774_775.out
          have hnc78:=NB775_774.out
          have hnb79:=NB774_782.out
          have hnc79:=NB782_774.out
          have hnb80:=NB774_789.out
          have hnc80:=NB789_774.out
          have Z81_0:wc.cell? ⟨gb774,0,none⟩=some (.slice Ao10 t762.length co10):=(bC_ BK774.out 0).trans rfl
          have Z81_1:wc.cell? ⟨gb774,1,none⟩=some (.int .i64 t765):=(bC_ BK774.out 1).trans rfl
          have Z81_2:wc.cell? ⟨gb774,2,none⟩=some (.bool true):=(bC_ BK774.out 2).trans rfl
          have Y81_0:=bF_ BK774.out 0
          have Y81_1:=bF_ BK774.out 1
          have Y81_2:=bF_ BK774.out 2
          have hnb82:=NB775_782.out
          have hnc82:=NB782_775.out
          have hnb83:=NB775_789.out
          have hnc83:=NB789_775.out
          have Z84_0:wc.cell? ⟨gb775,0,none⟩=some (.int .i64 t767):=(bC_ BK775.out 0).trans rfl
          have Z84_1:wc.cell? ⟨gb775,1,none⟩=some (.int .i64 t768):=(bC_ BK775.out 1).trans rfl
          have Z84_2:wc.cell? ⟨gb775,2,none⟩=some (.int .i64 t769):=(bC_ BK775.out 2).trans rfl
          have Z84_3:wc.cell? ⟨gb775,3,none⟩=some (.int .i64 t770):=(bC_ BK775.out 3).trans rfl
          have Z84_4:wc.cell? ⟨gb775,4,none⟩=some (.int .i64 t771):=(bC_ BK775.out 4).trans rfl
          have Z84_5:wc.cell? ⟨gb775,5,none⟩=some (.int .i64 t772):=(bC_ BK775.out 5).trans rfl
          have Z84_6:wc.cell? ⟨gb775,6,none⟩=some (.string t773):=(bC_ BK775.out 6).trans rfl
          have Y84_0:=bF_ BK775.out 0
          have Y84_1:=bF_ BK775.out 1
          have Y84_2:=bF_ BK775.out 2
          have Y84_3:=bF_ BK775.out 3
          have Y84_4:=bF_ BK775.out 4
          have Y84_5:=bF_ BK775.out 5
          have Y84_6:=bF_ BK775.out 6
          go_wp2_with (first|((with_reducible refine gC_ (f:=31) rfl ?_);refine gl_ 62 Tryd.func31 #[.slice Ao10 t762.length co10,.agg #[.int .i64 t767,.int .i64 t768,.int .i64 t769,.int .i64 t770,.int .i64 t771,.int .i64 t772,.string t773]] ?_;(with_reducible refine (impl_LogAdd.calls kj5 _ _ t762 t767 t768 t769 t770 t771 t772 t773 t794 t797 _ ?side1 ?side2 A70.out ?side3).mono ?_);(case side1=>exact cx_ (Kd.R_reads' HO_775000.out).2.2);(case side2=>exact (Kd.R_reads' HO_775000.out).2.1);(case side3=>exact Glob.below HG.out (bel_));rintro e w85 ⟨v795,rfl,ho0,hb⟩;refine ⟨_,rfl,?_⟩;have HO796:=a_ (Kd.R_lower (Kd.R_newB (Kd.R_new' (Kd.R_new' (Kd.R_new' ho0 (Kd.R_lt (rp_ HO_775000.out))) (Kd.R_lt (rp_ HO_783000.out))) (Kd.R_lt (rp_ HO_790000.out))) (g:=gb775) (o:=.cells #[.int .i64 t767,.int .i64 t768,.int .i64 t769,.int .i64 t770,.int .i64 t771,.int .i64 t772,.string t773] 44 (0,0)) (bp_ BK775.out)) (below_size (bel_)));replace HO_775000:=a_ (Kd.R_elder' (rp_ HO_775000.out) (Kd.R_base ho0) hb);replace HO_783000:=a_ (Kd.R_elder' (rp_ HO_783000.out) (Kd.R_base ho0) hb);replace HO_790000:=a_ (Kd.R_elder' (rp_ HO_790000.out) (Kd.R_base ho0) hb);replace HB:=a_ (bS_ (bel_) hb);replace BK774:=a_ (blk_below (g:=gb774) (o:=.cells #[.slice Ao10 t762.length co10,.int .i64 t765,.bool true] 25 (0,0)) (bp_ BK774.out) hb);replace BK775:=a_ (blk_below (g:=gb775) (o:=.cells #[.int .i64 t767,.int .i64 t768,.int .i64 t769,.int .i64 t770,.int .i64 t771,.int .i64 t772,.string t773] 44 (0,0)) (bp_ BK775.out) hb);replace BK782:=a_ (blk_below (g:=gb782) (o:=.cells #[.slice Ao16 t776.length co16,.int .i64 t779,.bool t780] 25 (0,0)) (bp_ BK782.out) hb);replace BK789:=a_ (blk_below (g:=gb789) (o:=.cells #[.slice Ao24 t783.length co24,.int .i64 t786,.bool t787] 25 (0,0)) (bp_ BK789.out) hb);(try clear hb ho0);have Z86_0:=cz_ BK774.out 0 (.slice Ao10 t762.length co10);have Z86_1:=cz_ BK774.out 1 (.int .i64 t765);have Z86_2:=cz_ BK774.out 2 (.bool true);have Y86_0:=bF_ BK774.out 0;have Y86_1:=bF_ BK774.out 1;have Y86_2:=bF_ BK774.out 2;have hnb87:=NB789_782.out;have hnc87:=NB782_789.out;have Z88_0:=cz_ BK789.out 0 (.slice Ao24 t783.length co24);have Z88_1:=cz_ BK789.out 1 (.int .i64 t786);have Z88_2:=cz_ BK789.out 2 (.bool t787);have Y88_0:=bF_ BK789.out 0;have Y88_1:=bF_ BK789.out 1;have Y88_2:=bF_ BK789.out 2;obtain ⟨Ao89,co89,eo89⟩:=Kd.R_slice HO796.out;subst eo89)|(go_at_call 32;(with_reducible refine (laws_lpLog.calls kj5 _ _ t783 _ _ t794 true _ ?side1 ?side2 ?side3 ?side4 A74.out).mono ?_);(case side1=>exact cx_ (Kd.R_reads' HO_790000.out).2.2);(case side2=>exact (Kd.R_reads' HO_790000.out).2.1);(case side3=>exact cx_ (Kd.R_reads' HO796.out).2.2);(case side4=>exact (Kd.R_reads' HO796.out).2.1);rintro e w' ⟨rfl,⟨nd,rfl⟩⟩)|(go_at_call 16;(with_reducible refine (impl_ServerOk.calls kj5 _ _ t783 t786 t787 t799 _ ?side1 ?side2 A77.out ?side3).mono ?_);(case side1=>exact cx_ (Kd.R_reads' HO_790000.out).2.2);(case side2=>exact (Kd.R_reads' HO_790000.out).2.1);(case side3=>exact Glob.below HG.out (bel_));rintro e w90 ⟨rfl,hb⟩;replace HO_775000:=a_ (Kd.R_below (rp_ HO_775000.out) hb);replace HO_783000:=a_ (Kd.R_below (rp_ HO_783000.out) hb);replace HO_790000:=a_ (Kd.R_below (rp_ HO_790000.out) hb);replace HO796:=a_ (Kd.R_below (rp_ HO796.out) hb);replace HB:=a_ (bS_ (bel_) hb);replace BK774:=a_ (blk_below (g:=gb774) (o:=.cells #[.slice Ao10 t762.length co10,.int .i64 t765,.bool true] 25 (0,0)) (bp_ BK774.out) hb);replace BK775:=a_ (blk_below (g:=gb775) (o:=.cells #[.int .i64 t767,.int .i64 t768,.int .i64 t769,.int .i64 t770,.int .i64 t771,.int .i64 t772,.string t773] 44 (0,0)) (bp_ BK775.out) hb);replace BK782:=a_ (blk_below (g:=gb782) (o:=.cells #[.slice Ao16 t776.length co16,.int .i64 t779,.bool t780] 25 (0,0)) (bp_ BK782.out) hb);replace BK789:=a_ (blk_below (g:=gb789) (o:=.cells #[.slice Ao24 t783.length co24,.int .i64 t786,.bool t787] 25 (0,0)) (bp_ BK789.out) hb);(try clear hb)))
          go_ret
          exact ⟨fi_,bel_⟩
         ·rw [if_neg c76] at H
          exact absurd H (by simp)
        ·replace c75:=Bool.eq_false_iff.mpr c75
         subst c75
         have H1:(none)=some r:=by rw [if_neg (show ¬ (false=true) by decide)] at H;exact H
         clear H
         have H:=H1
         clear H1
         exact absurd H (by simp)
       ·rw [if_neg c73] at H
        exact absurd H (by simp)
      ·replace c72:=Bool.eq_false_iff.mpr c72
       subst c72
       have H1:(none)=some r:=by rw [if_neg (show ¬ (false=true) by decide)] at H;exact H
       clear H
       have H:=H1
       clear H1
       exact absurd H (by simp)
     ·replace c71:=Bool.eq_false_iff.mpr c71
      subst c71
      have H1:((laws_lpServer.f kj5 t783 t786 t787 t762 t765 t766).bind fun t800=>(if t800=true then (if t766=true then (some (t797 != 1)) else (some true)) else (none)))=some r:=by rw [if_neg (show ¬ (false=true) by decide)] at H;exact H
      clear H
      have H:=H1
      clear H1
      replace H:=bs_ H
      obtain ⟨t800,A910,H⟩:=H
      replace H:(if t800=true then (if t766=true then (some (t797 != 1)) else (some true)) else (none))=some r:=H
      have A91:=a_ A910
      clear A910
      by_cases c92:t800=true
      ·subst c92
       have H1:(if t766=true then (some (t797 != 1)) else (some true))=some r:=by rw [if_pos rfl] at H;exact H
       clear H
       have H:=H1
       clear H1
       by_cases c93:t766=true
       ·subst c93
        have H1:(some (t797 != 1))=some r:=by rw [if_pos rfl] at H;exact H
        clear H
        have H:=H1
        clear H1
        obtain rfl:=sj_ H
        have hnb94:=NB774_775.out
        have hnc94:=NB775_774.out
        have hnb95:=NB774_782.out
        have hnc95:=NB782_774.out
        have hnb96:=NB774_789.out
        have hnc96:=NB789_774.out
        have Z97_0:wc.cell? ⟨gb774,0,none⟩=some (.slice Ao10 t762.length co10):=(bC_ BK774.out 0).trans rfl
        have Z97_1:wc.cell? ⟨gb774,1,none⟩=some (.int .i64 t765):=(bC_ BK774.out 1).trans rfl
        have Z97_2:wc.cell? ⟨gb774,2,none⟩=some (.bool true):=(bC_ BK774.out 2).trans rfl
        have Y97_0:=bF_ BK774.out 0
        have Y97_1:=bF_ BK774.out 1
        have Y97_2:=bF_ BK774.out 2
        have hnb98:=NB775_782.out
        have hnc98:=NB782_775.out
        have hnb99:=NB775_789.out
        have hnc99:=NB789_775.out
        have Z100_0:wc.cell? ⟨gb775,0,none⟩=some (.int .i64 t767):=(bC_ BK775.out 0).trans rfl
        have Z100_1:wc.cell? ⟨gb775,1,none⟩=some (.int .i64 t768):=(bC_ BK775.out 1).trans rfl
        have Z100_2:wc.cell? ⟨gb775,2,none⟩=some (.int .i64 t769):=(bC_ BK775.out 2).trans rfl
        have Z100_3:wc.cell? ⟨gb775,3,none⟩=some (.int .i64 t770):=(bC_ BK775.out 3).trans rfl
        have Z100_4:wc.cell? ⟨gb775,4,none⟩=some (.int .i64 t771):=(bC_ BK775.out 4).trans rfl
        have Z100_5:wc.cell? ⟨gb775,5,none⟩=some (.int .i64 t772):=(bC_ BK775.out 5).trans rfl
        have Z100_6:wc.cell? ⟨gb775,6,none⟩=some (.string t773):=(bC_ BK775.out 6).trans rfl
        have Y100_0:=bF_ BK775.out 0
        have Y100_1:=bF_ BK775.out 1
        have Y100_2:=bF_ BK775.out 2
        have Y100_3:=bF_ BK775.out 3
        have Y100_4:=bF_ BK775.out 4
        have Y100_5:=bF_ BK775.out 5
        have Y100_6:=bF_ BK775.out 6
        go_wp2_with (first|((with_reducible refine gC_ (f:=31) rfl ?_);refine gl_ 62 Tryd.func31 #[.slice Ao10 t762.length co10,.agg #[.int .i64 t767,.int .i64 t768,.int .i64 t769,.int .i64 t770,.int .i64 t771,.int .i64 t772,.string t773]] ?_;(with_reducible refine (impl_LogAdd.calls kj5 _ _ t762 t767 t768 t769 t770 t771 t772 t773 t794 t797 _ ?side1 ?side2 A70.out ?side3).mono ?_);(case side1=>exact cx_ (Kd.R_reads' HO_775000.out).2.2);(case side2=>exact (Kd.R_reads' HO_775000.out).2.1);(case side3=>exact Glob.below HG.out (bel_));rintro e w101 ⟨v795,rfl,ho0,hb⟩;refine ⟨_,rfl,?_⟩;have HO796:=a_ (Kd.R_lower (Kd.R_newB (Kd.R_new' (Kd.R_new' (Kd.R_new' ho0 (Kd.R_lt (rp_ HO_775000.out))) (Kd.R_lt (rp_ HO_783000.out))) (Kd.R_lt (rp_ HO_790000.out))) (g:=gb775) (o:=.cells #[.int .i64 t767,.int .i64 t768,.int .i64 t769,.int .i64 t770,.int .i64 t771,.int .i64 t772,.string t773] 44 (0,0)) (bp_ BK775.out)) (below_size (bel_)));replace HO_775000:=a_ (Kd.R_elder' (rp_ HO_775000.out) (Kd.R_base ho0) hb);replace HO_783000:=a_ (Kd.R_elder' (rp_ HO_783000.out) (Kd.R_base ho0) hb);replace HO_790000:=a_ (Kd.R_elder' (rp_ HO_790000.out) (Kd.R_base ho0) hb);replace HB:=a_ (bS_ (bel_) hb);replace BK774:=a_ (blk_below (g:=gb774) (o:=.cells #[.slice Ao10 t762.length co10,.int .i64 t765,.bool true] 25 (0,0)) (bp_ BK774.out) hb);replace BK775:=a_ (blk_below (g:=gb775) (o:=.cells #[.int .i64 t767,.int .i64 t768,.int .i64 t769,.int .i64 t770,.int .i64 t771,.int .i64 t772,.string t773] 44 (0,0)) (bp_ BK775.out) hb);replace BK782:=a_ (blk_below (g:=gb782) (o:=.cells #[.slice Ao16 t776.length co16,.int .i64 t779,.bool t780] 25 (0,0)) (bp_ BK782.out) hb);replace BK789:=a_ (blk_below (g:=gb789) (o:=.cells #[.slice Ao24 t783.length co24,.int .i64 t786,.bool t787] 25 (0,0)) (bp_ BK789.out) hb);(try clear hb ho0);have hnb102:=NB789_782.out;have hnc102:=NB782_789.out;have Z103_0:=cz_ BK789.out 0 (.slice Ao24 t783.length co24);have Z103_1:=cz_ BK789.out 1 (.int .i64 t786);have Z103_2:=cz_ BK789.out 2 (.bool t787);have Y103_0:=bF_ BK789.out 0;have Y103_1:=bF_ BK789.out 1;have Y103_2:=bF_ BK789.out 2;have Z104_0:=cz_ BK774.out 0 (.slice Ao10 t762.length co10);have Z104_1:=cz_ BK774.out 1 (.int .i64 t765);have Z104_2:=cz_ BK774.out 2 (.bool true);have Y104_0:=bF_ BK774.out 0;have Y104_1:=bF_ BK774.out 1;have Y104_2:=bF_ BK774.out 2)|((with_reducible refine gC_ (f:=29) rfl ?_);refine gl_ 69 Tryd.func29 #[.agg #[.slice Ao24 t783.length co24,.int .i64 t786,.bool t787],.agg #[.slice Ao10 t762.length co10,.int .i64 t765,.bool true]] ?_;(with_reducible refine (laws_lpServer.calls kj5 _ _ t783 t786 t787 _ _ t762 t765 true true _ ?side1 ?side2 ?side3 ?side4 A91.out).mono ?_);(case side1=>exact cx_ (Kd.R_reads' HO_790000.out).2.2);(case side2=>exact (Kd.R_reads' HO_790000.out).2.1);(case side3=>exact cx_ (Kd.R_reads' HO_775000.out).2.2);(case side4=>exact (Kd.R_reads' HO_775000.out).2.1);rintro e w105 ⟨rfl,hb⟩;refine ⟨_,rfl,?_⟩;replace HO_775000:=a_ (Kd.R_below (rp_ HO_775000.out) hb);replace HO_783000:=a_ (Kd.R_below (rp_ HO_783000.out) hb);replace HO_790000:=a_ (Kd.R_below (rp_ HO_790000.out) hb);replace HO796:=a_ (Kd.R_below (rp_ HO796.out) hb);replace HB:=a_ (bS_ (bel_) hb);replace BK774:=a_ (blk_below (g:=gb774) (o:=.cells #[.slice Ao10 t762.length co10,.int .i64 t765,.bool true] 25 (0,0)) (bp_ BK774.out) hb);replace BK775:=a_ (blk_below (g:=gb775) (o:=.cells #[.int .i64 t767,.int .i64 t768,.int .i64 t769,.int .i64 t770,.int .i64 t771,.int .i64 t772,.string t773] 44 (0,0)) (bp_ BK775.out) hb);replace BK782:=a_ (blk_below (g:=gb782) (o:=.cells #[.slice Ao16 t776.length co16,.int .i64 t779,.bool t780] 25 (0,0)) (bp_ BK782.out) hb);replace BK789:=a_ (blk_below (g:=gb789) (o:=.cells #[.slice Ao24 t783.length co24,.int .i64 t786,.bool t787] 25 (0,0)) (bp_ BK789.out) hb);(try clear hb);have Z106_0:=cz_ BK774.out 0 (.slice Ao10 t762.length co10);have Z106_1:=cz_ BK774.out 1 (.int .i64 t765);have Z106_2:=cz_ BK774.out 2 (.bool true);have Y106_0:=bF_ BK774.out 0;have Y106_1:=bF_ BK774.out 1;have Y106_2:=bF_ BK774.out 2))
        go_ret
        exact ⟨fi_,bel_⟩
       ·replace c93:=Bool.eq_false_iff.mpr c93
        subst c93
        have H1:(some true)=some r:=by rw [if_neg (show ¬ (false=true) by decide)] at H;exact H
        clear H
        have H:=H1
        clear H1
        obtain rfl:=sj_ H
        have hnb107:=NB774_775.out
        have hnc107:=NB775_774.out
        have hnb108:=NB774_782.out
        have hnc108:=NB782_774.out
        have hnb109:=NB774_789.out
        have hnc109:=NB789_774.out
        have Z110_0:wc.cell? ⟨gb774,0,none⟩=some (.slice Ao10 t762.length co10):=(bC_ BK774.out 0).trans rfl
        have Z110_1:wc.cell? ⟨gb774,1,none⟩=some (.int .i64 t765):=(bC_ BK774.out 1).trans rfl
        have Z110_2:wc.cell? ⟨gb774,2,none⟩=some (.bool false):=(bC_ BK774.out 2).trans rfl
        have Y110_0:=bF_ BK774.out 0
        have Y110_1:=bF_ BK774.out 1
        have Y110_2:=bF_ BK774.out 2
        have hnb111:=NB775_782.out
        have hnc111:=NB782_775.out
        have hnb112:=NB775_789.out
        have hnc112:=NB789_775.out
        have Z113_0:wc.cell? ⟨gb775,0,none⟩=some (.int .i64 t767):=(bC_ BK775.out 0).trans rfl
        have Z113_1:wc.cell? ⟨gb775,1,none⟩=some (.int .i64 t768):=(bC_ BK775.out 1).trans rfl
        have Z113_2:wc.cell? ⟨gb775,2,none⟩=some (.int .i64 t769):=(bC_ BK775.out 2).trans rfl
        have Z113_3:wc.cell? ⟨gb775,3,none⟩=some (.int .i64 t770):=(bC_ BK775.out 3).trans rfl
        have Z113_4:wc.cell? ⟨gb775,4,none⟩=some (.int .i64 t771):=(bC_ BK775.out 4).trans rfl
        have Z113_5:wc.cell? ⟨gb775,5,none⟩=some (.int .i64 t772):=(bC_ BK775.out 5).trans rfl
        have Z113_6:wc.cell? ⟨gb775,6,none⟩=some (.string t773):=(bC_ BK775.out 6).trans rfl
        have Y113_0:=bF_ BK775.out 0
        have Y113_1:=bF_ BK775.out 1
        have Y113_2:=bF_ BK775.out 2
        have Y113_3:=bF_ BK775.out 3
        have Y113_4:=bF_ BK775.out 4
        have Y113_5:=bF_ BK775.out 5
        have Y113_6:=bF_ BK775.out 6
        go_wp2_with (first|((with_reducible refine gC_ (f:=31) rfl ?_);refine gl_ 62 Tryd.func31 #[.slice Ao10 t762.length co10,.agg #[.int .i64 t767,.int .i64 t768,.int .i64 t769,.int .i64 t770,.int .i64 t771,.int .i64 t772,.string t773]] ?_;(with_reducible refine (impl_LogAdd.calls kj5 _ _ t762 t767 t768 t769 t770 t771 t772 t773 t794 t797 _ ?side1 ?side2 A70.out ?side3).mono ?_);(case side1=>exact cx_ (Kd.R_reads' HO_775000.out).2.2);(case side2=>exact (Kd.R_reads' HO_775000.out).2.1);(case side3=>exact Glob.below HG.out (bel_));rintro e w114 ⟨v795,rfl,ho0,hb⟩;refine ⟨_,rfl,?_⟩;have HO796:=a_ (Kd.R_lower (Kd.R_newB (Kd.R_new' (Kd.R_new' (Kd.R_new' ho0 (Kd.R_lt (rp_ HO_775000.out))) (Kd.R_lt (rp_ HO_783000.out))) (Kd.R_lt (rp_ HO_790000.out))) (g:=gb775) (o:=.cells #[.int .i64 t767,.int .i64 t768,.int .i64 t769,.int .i64 t770,.int .i64 t771,.int .i64 t772,.string t773] 44 (0,0)) (bp_ BK775.out)) (below_size (bel_)));replace HO_775000:=a_ (Kd.R_elder' (rp_ HO_775000.out) (Kd.R_base ho0) hb);replace HO_783000:=a_ (Kd.R_elder' (rp_ HO_783000.out) (Kd.R_base ho0) hb);replace HO_790000:=a_ (Kd.R_elder' (rp_ HO_790000.out) (Kd.R_base ho0) hb);replace HB:=a_ (bS_ (bel_) hb);replace BK774:=a_ (blk_below (g:=gb774) (o:=.cells #[.slice Ao10 t762.length co10,.int .i64 t765,.bool false] 25 (0,0)) (bp_ BK774.out) hb);replace BK775:=a_ (blk_below (g:=gb775) (o:=.cells #[.int .i64 t767,.int .i64 t768,.int .i64 t769,.int .i64 t770,.int .i64 t771,.int .i64 t772,.string t773] 44 (0,0)) (bp_ BK775.out) hb);replace BK782:=a_ (blk_below (g:=gb782) (o:=.cells #[.slice Ao16 t776.length co16,.int .i64 t779,.bool t780] 25 (0,0)) (bp_ BK782.out) hb);replace BK789:=a_ (blk_below (g:=gb789) (o:=.cells #[.slice Ao24 t783.length co24,.int .i64 t786,.bool t787] 25 (0,0)) (bp_ BK789.out) hb);(try clear hb ho0);have hnb115:=NB789_782.out;have hnc115:=NB782_789.out;have Z116_0:=cz_ BK789.out 0 (.slice Ao24 t783.length co24);have Z116_1:=cz_ BK789.out 1 (.int .i64 t786);have Z116_2:=cz_ BK789.out 2 (.bool t787);have Y116_0:=bF_ BK789.out 0;have Y116_1:=bF_ BK789.out 1;have Y116_2:=bF_ BK789.out 2;have Z117_0:=cz_ BK774.out 0 (.slice Ao10 t762.length co10);have Z117_1:=cz_ BK774.out 1 (.int .i64 t765);have Z117_2:=cz_ BK774.out 2 (.bool false);have Y117_0:=bF_ BK774.out 0;have Y117_1:=bF_ BK774.out 1;have Y117_2:=bF_ BK774.out 2)|((with_reducible refine gC_ (f:=29) rfl ?_);refine gl_ 69 Tryd.func29 #[.agg #[.slice Ao24 t783.length co24,.int .i64 t786,.bool t787],.agg #[.slice Ao10 t762.length co10,.int .i64 t765,.bool false]] ?_;(with_reducible refine (laws_lpServer.calls kj5 _ _ t783 t786 t787 _ _ t762 t765 false true _ ?side1 ?side2 ?side3 ?side4 A91.out).mono ?_);(case side1=>exact cx_ (Kd.R_reads' HO_790000.out).2.2);(case side2=>exact (Kd.R_reads' HO_790000.out).2.1);(case side3=>exact cx_ (Kd.R_reads' HO_775000.out).2.2);(case side4=>exact (Kd.R_reads' HO_775000.out).2.1);rintro e w118 ⟨rfl,hb⟩;refine ⟨_,rfl,?_⟩;replace HO_775000:=a_ (Kd.R_below (rp_ HO_775000.out) hb);replace HO_783000:=a_ (Kd.R_below (rp_ HO_783000.out) hb);replace HO_790000:=a_ (Kd.R_below (rp_ HO_790000.out) hb);replace HO796:=a_ (Kd.R_below (rp_ HO796.out) hb);replace HB:=a_ (bS_ (bel_) hb);replace BK774:=a_ (blk_below (g:=gb774) (o:=.cells #[.slice Ao10 t762.length co10,.int .i64 t765,.bool false] 25 (0,0)) (bp_ BK774.out) hb);replace BK775:=a_ (blk_below (g:=gb775) (o:=.cells #[.int .i64 t767,.int .i64 t768,.int .i64 t769,.int .i64 t770,.int .i64 t771,.int .i64 t772,.string t773] 44 (0,0)) (bp_ BK775.out) hb);replace BK782:=a_ (blk_below (g:=gb782) (o:=.cells #[.slice Ao16 t776.length co16,.int .i64 t779,.bool t780] 25 (0,0)) (bp_ BK782.out) hb);replace BK789:=a_ (blk_below (g:=gb789) (o:=.cells #[.slice Ao24 t783.length co24,.int .i64 t786,.bool t787] 25 (0,0)) (bp_ BK789.out) hb);(try clear hb);have Z119_0:=cz_ BK774.out 0 (.slice Ao10 t762.length co10);have Z119_1:=cz_ BK774.out 1 (.int .i64 t765);have Z119_2:=cz_ BK774.out 2 (.bool false);have Y119_0:=bF_ BK774.out 0;have Y119_1:=bF_ BK774.out 1;have Y119_2:=bF_ BK774.out 2))
        go_ret
        exact ⟨fi_,bel_⟩
      ·replace c92:=Bool.eq_false_iff.mpr c92
       subst c92
       have H1:(none)=some r:=by rw [if_neg (show ¬ (false=true) by decide)] at H;exact H
       clear H
       have H:=H1
       clear H1
       exact absurd H (by simp)

def laws_FnHear.Pure:Prop:=∀ (l0:List Int),l0.length≤maxLen→l0.length * 1≤140737488351232→(∀ x∈l0,(Lit.int .u8 x).wf=true)→∃ k,laws_FnHear.f k l0=some true
theorem laws_FnHear.walk (P:laws_FnHear.Pure) (a0:Option Addr) (len0 cap0:Nat) (z0:List Int) (w:World) (w0:(a0=none∧len0=0∧cap0=0∧z0=[])∨∃ x,a0=some x∧len0≤cap0∧cap0≤maxLen∧z0.length=cap0∧(∀ i,i < z0.length→w.cell? (x.add i)=some (.int .u8 (z0.getD i 0)))∧∀ n∈z0,(Lit.int .u8 n).wf=true) (y0:len0 * 1≤140737488351232) (hG:Glob w) :
  Calls Tryd.prog 5 #[.slice a0 len0 cap0] w fun e w'=>e=.returned (.bool true)∧Below w.heap.size w w':=by
 obtain ⟨l0,rfl,hr0,hm0,hw0,hc0⟩:=ReadsInt.ofRowC w0
 obtain ⟨k,h⟩:=P l0 hm0 y0 hw0
 refine (laws_FnHear.calls k _ _ l0 true w (Kd.C_of_reads (d:=(0:Int)) (h1:=fun _=>rfl) hr0) hc0 h hG).mono ?_
 rintro e w' ⟨rfl,hd⟩
 exact ⟨rfl,hd⟩

theorem eqA69 (d:Nat) (w:World) (x0 y0:Int) (x1 y1:Int) (x2 y2:ByteArray) :
  (Op.equalIn (d+2) 69 (.agg #[.int .i64 x0,.int .i64 x1,.string x2]) (.agg #[.int .i64 y0,.int .i64 y1,.string y2])).run Tryd.prog w=.ok (x0==y0&&(x1==y1&&(x2.toList==y2.toList))) w:=by
 refine eqA_of Tryd.underlying69 (by kernel_rfl) ?_
 refine eqf_cons (by rfl) (by go_simp;rfl) (by go_simp;rfl) (by go_simp) ?_
 refine eqf_cons (by rfl) (by go_simp;rfl) (by go_simp;rfl) (by go_simp) ?_
 exact eqf_last (by rfl) (by go_simp;rfl) (by go_simp;rfl) (by go_simp)
attribute [local go_sem high] eqA69

end Go.Proofs.YtdpklbomhdpimaaDoor.P
namespace Go.Proofs.YtdpklbomhdpimaaDoor.PL
open Go.RowKit Go.Proofs.YtdpklbomhdpimaaDoor.P Go.Proofs.YtdpklbomhdpimaaDoorW.PrintWords Go.Proofs.YtdpklbomhdpimaaDoorW.PrintLast
theorem evnow {α:Type} (a:α):Ev (fun _=>some a) a:=⟨0,fun _ _=>rfl⟩
theorem ev_neg {α:Type} {c:Prop} [Decidable c] {f g:Nat→Option α} {r:α} (h:¬ c) (k:Ev g r):Ev (fun n=>if c then f n else g n) r:=Ev.congr (fun _=>if_neg h) k
theorem ev_pos {α:Type} {c:Prop} [Decidable c] {f g:Nat→Option α} {r:α} (h:c) (k:Ev f r):Ev (fun n=>if c then f n else g n) r:=Ev.congr (fun _=>if_pos h) k
theorem wrapS (i:Int) (h0:0≤i) (h:i≤4611686018427387904):wrap64 (i+1)=i+1:=by unfold wrap64;omega
theorem wrapT (i:Int) (h0:0≤i) (h:i+1≤9223372036854775807):wrap64 (i+1)=i+1:=by unfold wrap64;omega
def I64 (a:Int):Prop:=-9223372036854775808≤a∧a≤9223372036854775807

def madeB (a:Int):Bool:=decide (ownI a≠0)&&decide (ownI a≠1)
def rootB (a:Int):Bool:=decide (1≤a)&&decide (a≤3)
theorem in_f (a b c:Int):spec_l6In.f a b c=some (decide (b≤a)&&decide (a≤c)):=by
 unfold spec_l6In.f
 by_cases h:a≥b
 ·rw [if_pos h];simp [h]
 ·rw [if_neg h];simp [show ¬ b≤a from h]
theorem ownI_out (a:Int) (h:a < 0∨37≤a):ownI a=0:=by
 unfold ownI
 rw [if_neg (by omega)]
theorem small_made:∀ n:Nat,n < 37→(decide (1≤Int.tdiv (n:Int) 10)&&decide (Int.tdiv (n:Int) 10≤3))=true→(decide (1≤Int.tmod (n:Int) 10)&&decide (Int.tmod (n:Int) 10≤6))=madeB n:=by decide
theorem small_unmade:∀ n:Nat,n < 37→(decide (1≤Int.tdiv (n:Int) 10)&&decide (Int.tdiv (n:Int) 10≤3))=false→madeB n=false:=by decide
theorem small_who:∀ n:Nat,n < 37→madeB n=true→ownI n - 1=Int.tdiv (n:Int) 10:=by decide
theorem small_root:∀ n:Nat,n < 37→(decide (ownI n≠0)&&decide (ownI n - 1=0))=rootB n:=by decide
theorem tdiv_wrap (a:Int) (h:I64 a):wrap64 (Int.tdiv a 10)=Int.tdiv a 10:=by
 obtain ⟨h1,h2⟩:=h
 have:Int.tdiv a 10≤9223372036854775807∧-9223372036854775808≤Int.tdiv a 10:=by
  rcases Int.le_total 0 a with h0|h0
  ·rw [Int.tdiv_eq_ediv_of_nonneg h0];omega
  ·have e:Int.tdiv a 10=-(Int.tdiv (-a) 10):=by rw [Int.neg_tdiv,Int.neg_neg]
   rw [e,Int.tdiv_eq_ediv_of_nonneg (by omega)];omega
 unfold wrap64;omega
theorem made_f (a:Int) (h:I64 a):spec_l1Made.f a=some (madeB a):=by
 unfold spec_l1Made.f
 rw [in_f,in_f,tdiv_wrap a h]
 simp only [Option.bind_some]
 by_cases hs:0≤a∧a < 37
 ·obtain ⟨n,rfl⟩:∃ n:Nat,a=n:=⟨a.toNat,by omega⟩
  have hn:n < 37:=by omega
  cases hd:(decide (1≤Int.tdiv (n:Int) 10)&&decide (Int.tdiv (n:Int) 10≤3)) with
  | true=>rw [if_pos rfl,small_made n hn hd]
  | false=>rw [if_neg (by decide),small_unmade n hn hd]
 ·have ho:madeB a=false:=by unfold madeB;rw [ownI_out a (by omega)];rfl
  rw [ho]
  rcases Int.lt_or_le a 0 with h0|h0
  ·have e:Int.tdiv a 10=-(Int.tdiv (-a) 10):=by rw [Int.neg_tdiv,Int.neg_neg]
   have h1:Int.tdiv a 10≤0:=by rw [e,Int.tdiv_eq_ediv_of_nonneg (by omega)];omega
   have h2:decide (1≤Int.tdiv a 10)=false:=df_ (by omega)
   rw [h2]
   simp
  ·have e1:=Int.tdiv_eq_ediv_of_nonneg (b:=10) h0
   have e2:Int.tmod a 10=a % 10:=Int.tmod_eq_emod_of_nonneg h0
   rw [e1,e2]
   by_cases h3:a / 10≤3
   ·have h4:decide (a % 10≤6)=false:=df_ (by omega)
    rw [h4]
    simp
   ·have h4:decide (a / 10≤3)=false:=df_ h3
    rw [h4]
    simp
theorem isMade_f (a:Int):impl_isMade.f a=some (madeB a):=by
 unfold impl_isMade.f impl_RowWho.f madeB
 simp only [Option.bind_some]
 by_cases h0:ownI a=0
 ·rw [if_pos h0];simp [h0]
 ·rw [if_neg h0]
  by_cases h1:ownI a=1
  ·simp [h1]
  ·simp [h0,h1]
   omega
theorem isRoot_f (a:Int):impl_isRoot.f a=some (rootB a):=by
 unfold impl_isRoot.f impl_RowWho.f
 simp only [Option.bind_some]
 by_cases hs:0≤a∧a < 37
 ·obtain ⟨n,rfl⟩:∃ n:Nat,a=n:=⟨a.toNat,by omega⟩
  have:=small_root n (by omega)
  rw [←this]
  by_cases h0:ownI (n:Int)=0
  ·rw [if_pos h0];simp [h0]
  ·rw [if_neg h0]
   by_cases h1:ownI (n:Int) - 1=0 <;> simp [h0,h1]
 ·rw [if_pos (ownI_out a (by omega))]
  have:rootB a=false:=by unfold rootB;simp;omega
  rw [this]
  simp
theorem root_f (a:Int):spec_l1Root.f a=some (rootB a):=by
 unfold spec_l1Root.f
 rw [in_f]
 rfl
def idB (a:Int):Bool:=rootB a || madeB a
theorem id_f (a:Int) (h:I64 a):spec_l3Id.f a=some (idB a):=by
 unfold spec_l3Id.f idB
 rw [root_f,made_f a h]
 simp only [Option.bind_some]
 cases rootB a <;> simp
def placeB (u a:Int):Bool:=idB u&&(decide (a=0) || madeB a)
theorem place_f (u a:Int):impl_placeOk.f u a=some (placeB u a):=by
 unfold impl_placeOk.f placeB idB
 rw [isMade_f,isMade_f,isRoot_f]
 simp only [Option.bind_some]
 by_cases h:a=0
 ·simp only [h,if_true]
  cases madeB u <;> cases rootB u <;> simp
 ·simp only [h,if_false]
  cases madeB u <;> cases rootB u <;> simp
def textFrom (s:ByteArray) (i:Nat):Nat→Bool
 | 0=>true
 | n+1=>decide (97≤bt s i)&&decide (bt s i≤100)&&textFrom s (i+1) n
def textB (s:ByteArray):Bool:=textFrom s 0 s.size&&decide (s.size≤4)
theorem bt_range (s:ByteArray) (i:Int):0≤bt s i∧bt s i≤255:=by
 unfold bt
 split
 ·rename_i h
  have:=(s[i.toNat]'h).toNat_lt
  omega
 ·omega
theorem text_l0 (s:ByteArray) (hs:s.size≤9223372036854775807):∀ (n:Nat) (i:Nat),i+n=s.size→Ev (fun k=>spec_l1Text.l0 k s i) (textFrom s i n&&decide (s.size≤4))
 | 0,i,h=>by
  refine Ev.step (f:=fun _=>some (decide ((s.size:Int)≤4))) (fun k=>?_) ?_
  ·simp only [spec_l1Text.l0];rw [if_neg (by omega)]
  ·have:decide ((s.size:Int)≤4)=(textFrom s i 0&&decide (s.size≤4)):=by simp [textFrom];omega
   rw [this];exact evnow _
 | n+1,i,h=>by
  have hw:wrap64 (bt s i)=bt s i:=by have:=bt_range s i;unfold wrap64;omega
  unfold textFrom
  cases ht:(decide (97≤bt s i)&&decide (bt s i≤100)) with
  | true =>
   rw [Bool.true_and]
   refine Ev.step (fun k=>?_) (text_l0 s hs n (i+1) (by omega))
   simp only [spec_l1Text.l0]
   rw [if_pos (by omega),if_pos (by omega),hw,in_f,ht,Option.bind_some,if_pos rfl,wrapT i (by omega) (by omega)]
   rfl
  | false =>
   rw [Bool.false_and,Bool.false_and]
   refine Ev.step (f:=fun _=>some false) (fun k=>?_) (evnow _)
   simp only [spec_l1Text.l0]
   rw [if_pos (by omega),if_pos (by omega),hw,in_f,ht,Option.bind_some,if_neg (by decide)]
theorem text_f (s:ByteArray) (hs:s.size≤9223372036854775807):Ev (fun k=>spec_l1Text.f k s) (textB s):=text_l0 s hs s.size 0 (by omega)
theorem itext_l0 (s:ByteArray) (hs:s.size≤9223372036854775807):∀ (n:Nat) (i:Nat),i+n=s.size→Ev (fun k=>impl_textOk.l0 k s i) (textFrom s i n)
 | 0,i,h=>by
  refine Ev.step (f:=fun _=>some true) (fun k=>?_) (evnow _)
  simp only [impl_textOk.l0];rw [if_neg (by omega)]
 | n+1,i,h=>by
  unfold textFrom
  by_cases h1:bt s i < 97
  ·have:decide (97≤bt s i)=false:=df_ (by omega)
   rw [this,Bool.false_and,Bool.false_and]
   refine Ev.step (f:=fun _=>some false) (fun k=>?_) (evnow _)
   simp only [impl_textOk.l0]
   rw [if_pos (by omega),if_pos (by omega),if_pos h1]
  ·by_cases h2:bt s i > 100
   ·have:decide (bt s i≤100)=false:=df_ (by omega)
    rw [this,Bool.and_false,Bool.false_and]
    refine Ev.step (f:=fun _=>some false) (fun k=>?_) (evnow _)
    simp only [impl_textOk.l0]
    rw [if_pos (by omega),if_pos (by omega),if_neg h1,if_pos h2]
   ·have e1:decide (97≤bt s i)=true:=dt_ (by omega)
    have e2:decide (bt s i≤100)=true:=dt_ (by omega)
    rw [e1,e2,Bool.true_and,Bool.true_and]
    refine Ev.step (fun k=>?_) (itext_l0 s hs n (i+1) (by omega))
    simp only [impl_textOk.l0]
    rw [if_pos (by omega),if_pos (by omega),if_neg h1,if_neg h2,wrapT i (by omega) (by omega)]
    rfl
theorem itext_f (s:ByteArray) (hs:s.size≤9223372036854775807):Ev (fun k=>impl_textOk.f k s) (textB s):=by
 unfold impl_textOk.f textB
 by_cases h:(s.size:Int) > 4
 ·refine ev_pos h ?_
  have:decide (s.size≤4)=false:=df_ (by omega)
  rw [this,Bool.and_false]
  exact evnow _
 ·refine ev_neg h ?_
  have:decide (s.size≤4)=true:=dt_ (by omega)
  rw [this,Bool.and_true]
  exact itext_l0 s hs s.size 0 (by omega)
theorem text_nil (s:ByteArray) (h:s.toList.isEmpty=true):textB s=true:=by
 have:s.size=0:=by
  have h2:=List.isEmpty_iff.1 h
  have h3:s.toList.length=s.size:=by rw [Go.ByteArray.toList_eq];exact Array.length_toList
  rw [←h3,h2];rfl
 unfold textB
 rw [this]
 rfl
def opB (k i u a:Int) (s:ByteArray):Bool :=
 madeB i&&(if k=1 then placeB u a&&textB s else if k=2 then decide (u=0)&&decide (a=0)&&textB s else if k=3 then placeB u a&&s.toList.isEmpty else false)
theorem opOk_f (k i u a:Int) (s:ByteArray) (hs:s.size≤9223372036854775807):Ev (fun n=>impl_OpOk.f n k i u a s) (opB k i u a s):=by
 unfold impl_OpOk.f impl_changeOf.f opB
 rw [isMade_f]
 simp only [Option.bind_some]
 cases madeB i with
 | false=>simp only [Bool.false_eq_true,if_false,Bool.false_and];exact evnow _
 | true =>
  simp only [if_true,Bool.true_and,place_f,Option.bind_some]
  by_cases h1:k=1
  ·simp only [h1,if_true]
   cases placeB u a with
   | true=>simp only [if_true,Bool.true_and];exact itext_f s hs
   | false=>simp only [Bool.false_eq_true,if_false,Bool.false_and];exact evnow _
  ·simp only [h1,if_false]
   by_cases h2:k=2
   ·simp only [h2,if_true]
    by_cases h3:u=0
    ·by_cases h4:a=0
     ·simp only [h3,h4,if_true,decide_true,Bool.true_and];exact itext_f s hs
     ·simp only [h3,h4,if_true,if_false,decide_true,decide_false,Bool.true_and,Bool.false_and];exact evnow _
    ·simp only [h3,if_false,decide_false,Bool.false_and];exact evnow _
   ·simp only [h2,if_false]
    by_cases h3:k=3
    ·simp only [h3,if_true]
     cases placeB u a with
     | true=>simp only [if_true,Bool.true_and];exact evnow _
     | false=>simp only [Bool.false_eq_true,if_false,Bool.false_and];exact evnow _
    ·simp only [h3,if_false];exact evnow _
theorem sop_f (k i u a:Int) (s:ByteArray) (hi:I64 i) (hu:I64 u) (ha:I64 a) (hs:s.size≤9223372036854775807):Ev (fun n=>spec_OpOk.f n k i u a s) (opB k i u a s):=by
 unfold spec_OpOk.f opB
 rw [made_f i hi]
 simp only [Option.bind_some]
 cases madeB i with
 | false =>
  simp only [Bool.false_eq_true,if_false,Bool.false_and]
  refine Ev.step (f:=fun _=>some false) (fun n=>?_) (evnow _)
  simp only [spec_OpOk.j0,if_true]
 | true =>
  simp only [if_true,Bool.true_and]
  refine Ev.bind (text_f s hs) ?_
  have hp:(idB u&&(decide (a=0) || madeB a))=placeB u a:=rfl
  cases ht:textB s with
  | false =>
   have hne:s.toList.isEmpty=false:=by
    cases he:s.toList.isEmpty with
    | false=>rfl
    | true=>rw [text_nil s he] at ht;cases ht
   refine Ev.step (f:=fun _=>some false) (fun n=>?_) ?_
   ·simp only [spec_OpOk.j0,Bool.not_false,if_true]
   ·simp only [hne,Bool.and_false,ite_self]
    exact evnow _
  | true =>
   refine Ev.step (f:=fun _=>some (if k=1 then placeB u a&&true else if k=2 then decide (u=0)&&decide (a=0)&&true else if k=3 then placeB u a&&s.toList.isEmpty else false)) (fun n=>?_) (evnow _)
   simp only [spec_OpOk.j0,Bool.not_true,Bool.false_eq_true,if_false]
   rw [id_f u hu,made_f a ha]
   simp only [Option.bind_some,Bool.and_true]
   rw [←hp]
   have hnil:(s.toList==([]:List UInt8))=s.toList.isEmpty:=by cases s.toList <;> rfl
   rw [hnil]
   by_cases h1:k=1
   ·simp only [h1,if_true]
    by_cases h4:a=0
    ·simp only [h4,if_true,decide_true,Bool.true_or,Bool.and_true];cases idB u <;> simp
    ·simp only [h4,if_false,decide_false,Bool.false_or];cases idB u <;> simp
   ·simp only [h1,if_false]
    by_cases h2:k=2
    ·simp only [h2,if_true]
     by_cases h3:u=0
     ·simp [h3];by_cases h4:a=0 <;> simp [h4]
     ·simp [h3]
    ·simp only [h2,if_false]
     by_cases h3:k=3
     ·simp only [h3,if_true]
      by_cases h4:a=0
      ·simp only [h4,if_true,decide_true,Bool.true_or,Bool.and_true];cases idB u <;> simp
      ·simp only [h4,if_false,decide_false,Bool.false_or];cases idB u <;> cases madeB a <;> simp
     ·simp only [h3,if_false]
theorem made_small (a:Int) (h:madeB a=true):0≤a∧a < 37:=by
 rcases Int.lt_or_le a 0 with h0|h0
 ·unfold madeB at h;rw [ownI_out a (by omega)] at h;simp at h
 ·rcases Int.lt_or_le a 37 with h1|h1
  ·exact ⟨h0,h1⟩
  ·unfold madeB at h;rw [ownI_out a (by omega)] at h;simp at h
theorem opB_made (k i u a:Int) (s:ByteArray) (h:opB k i u a s=true):madeB i=true:=by
 unfold opB at h
 simp only [Bool.and_eq_true] at h
 exact h.1
def wfE (e:S44):Prop:=I64 e.f0∧I64 e.f1∧I64 e.f2.f0∧I64 e.f2.f1∧I64 e.f2.f2∧I64 e.f2.f3∧e.f2.f4.size≤9223372036854775807
def entB (e:S44):Bool :=
 decide (1≤e.f0)&&decide (e.f0≤3)&&(decide (1≤e.f1)&&decide (e.f1≤40))&&opB e.f2.f0 e.f2.f1 e.f2.f2 e.f2.f3 e.f2.f4&&(decide (e.f2.f0≠1) || decide (ownI e.f2.f1 - 1=e.f0))
theorem who_made (i:Int) (h:madeB i=true):ownI i - 1=wrap64 (Int.tdiv i 10):=by
 obtain ⟨h0,h1⟩:=made_small i h
 obtain ⟨n,rfl⟩:∃ n:Nat,i=n:=⟨i.toNat,by omega⟩
 rw [tdiv_wrap _ ⟨by omega,by omega⟩]
 exact small_who n (by omega) h
theorem ent_f (e:S44) (h:wfE e):Ev (fun n=>impl_EntryOk.f n e.f0 e.f1 e.f2.f0 e.f2.f1 e.f2.f2 e.f2.f3 e.f2.f4) (entB e):=by
 obtain ⟨h0,h1,h2,h3,h4,h5,h6⟩:=h
 unfold impl_EntryOk.f impl_whoOk.f entB
 by_cases a1:e.f0≥1
 ·simp only [a1,if_true,Option.bind_some,ge_iff_le,decide_true,Bool.true_and]
  cases a2:decide (e.f0≤3) with
  | false=>simp only [Bool.false_eq_true,if_false,Bool.false_and];exact evnow _
  | true =>
   simp only [if_true,Bool.true_and]
   by_cases a3:e.f1 < 1
   ·have:decide (1≤e.f1)=false:=df_ (by omega)
    simp only [a3,if_true,this,Bool.false_and];exact evnow _
   ·have e3:decide (1≤e.f1)=true:=dt_ (by omega)
    by_cases a4:e.f1 > 40
    ·have:decide (e.f1≤40)=false:=df_ (by omega)
     simp only [a3,if_false,a4,if_true,this,Bool.and_false,Bool.false_and];exact evnow _
    ·have e4:decide (e.f1≤40)=true:=dt_ (by omega)
     simp only [a3,if_false,a4,e3,e4,Bool.true_and]
     refine Ev.bind (opOk_f _ _ _ _ _ h6) ?_
     cases ho:opB e.f2.f0 e.f2.f1 e.f2.f2 e.f2.f3 e.f2.f4 with
     | false=>simp only [Bool.false_eq_true,if_false,Bool.false_and];exact evnow _
     | true =>
      simp only [if_true,Bool.true_and]
      have hm:=opB_made _ _ _ _ _ ho
      unfold impl_RowWho.f
      have hn:ownI e.f2.f1≠0:=by
       intro hz
       unfold madeB at hm
       rw [hz] at hm
       simp at hm
      rw [if_neg hn]
      simp only [Option.bind_some]
      by_cases a5:e.f2.f0=1
      ·simp only [a5,if_true,ne_eq,not_true,decide_false,Bool.false_or]
       have:(ownI e.f2.f1 - 1==e.f0)=decide (ownI e.f2.f1 - 1=e.f0):=by by_cases hq:ownI e.f2.f1 - 1=e.f0 <;> simp [hq]
       rw [this];exact evnow _
      ·simp only [a5,if_false,ne_eq,not_false_eq_true,decide_true,Bool.true_or];exact evnow _
 ·have:decide (1≤e.f0)=false:=df_ (by omega)
  simp only [a1,if_false,Option.bind_some,Bool.false_eq_true,this,Bool.false_and];exact evnow _
theorem sent_f (e:S44) (h:wfE e):Ev (fun n=>spec_EntryOk.f n e.f0 e.f1 e.f2.f0 e.f2.f1 e.f2.f2 e.f2.f3 e.f2.f4) (entB e):=by
 obtain ⟨h0,h1,h2,h3,h4,h5,h6⟩:=h
 unfold spec_EntryOk.f entB
 rw [in_f,in_f]
 simp only [Option.bind_some]
 cases (decide (1≤e.f0)&&decide (e.f0≤3)) with
 | false=>simp only [Bool.false_eq_true,if_false,Bool.false_and];exact evnow _
 | true =>
  cases (decide (1≤e.f1)&&decide (e.f1≤40)) with
  | false=>simp only [Bool.false_eq_true,if_true,if_false,Bool.true_and,Bool.false_and];exact evnow _
  | true =>
   simp only [if_true,Bool.true_and]
   refine Ev.bind (sop_f _ _ _ _ _ h3 h4 h5 h6) ?_
   cases ho:opB e.f2.f0 e.f2.f1 e.f2.f2 e.f2.f3 e.f2.f4 with
   | false=>simp only [Bool.false_eq_true,if_false,Bool.false_and];exact evnow _
   | true =>
    simp only [if_true,Bool.true_and]
    have hm:=who_made _ (opB_made _ _ _ _ _ ho)
    by_cases a5:e.f2.f0=1
    ·simp only [a5,if_true,ne_eq,not_true,decide_false,Bool.false_or]
     have:(wrap64 (Int.tdiv e.f2.f1 10)==e.f0)=decide (ownI e.f2.f1 - 1=e.f0):=by rw [hm];by_cases hq:wrap64 (Int.tdiv e.f2.f1 10)=e.f0 <;> simp [hq]
     rw [this];exact evnow _
    ·simp only [a5,if_false,ne_eq,not_false_eq_true,decide_true,Bool.true_or];exact evnow _
def goB:List S44→List S44→Bool
 | _,[]=>true
 | pre,e::rest=>entB e&&decide (cntE pre e.f0+1=e.f1)&&goB (pre++[e]) rest
def logB (l:List S44):Bool:=decide (l.length≤40)&&goB [] l
def wfL (l:List S44):Prop:=∀ e∈l,wfE e
theorem log_go:∀ (rest pre:List S44),wfL rest→Ev (fun n=>impl_LogOk.go n pre rest) (goB pre rest)
 | [],_,_=>Ev.congr (f:=fun _=>some true) (fun n=>by unfold impl_LogOk.go;rfl) (evnow _)
 | e::rest,pre,h=>by
  unfold goB
  refine Ev.congr (f:=fun k=>(impl_EntryOk.f k e.f0 e.f1 e.f2.f0 e.f2.f1 e.f2.f2 e.f2.f3 e.f2.f4).bind fun t=>if t=true then (if cntE pre e.f0+1=e.f1 then impl_LogOk.go k (pre++[e]) rest else some false) else some false) (fun n=>by rw [impl_LogOk.go]) ?_
  refine Ev.bind (ent_f e (h e (List.mem_cons_self))) ?_
  cases entB e with
  | false=>simp only [Bool.false_eq_true,if_false,Bool.false_and];exact evnow _
  | true =>
   simp only [if_true,Bool.true_and]
   by_cases hq:cntE pre e.f0+1=e.f1
   ·simp only [hq,if_true,decide_true,Bool.true_and];exact log_go rest _ (fun x hx=>h x (List.mem_cons_of_mem _ hx))
   ·simp only [hq,if_false,decide_false,Bool.false_and];exact evnow _
theorem log_f (l:List S44) (h:wfL l):Ev (fun n=>impl_LogOk.f n l) (logB l):=by
 unfold impl_LogOk.f logB
 by_cases h40:(l.length:Int) > 40
 ·refine ev_pos h40 ?_
  have:decide (l.length≤40)=false:=df_ (by omega)
  rw [this,Bool.false_and];exact evnow _
 ·refine ev_neg h40 ?_
  have:decide (l.length≤40)=true:=dt_ (by omega)
  rw [this,Bool.true_and];exact log_go l [] h
theorem rdE_get (l:List S44) (i:Nat) (h:i < l.length):rd_T44 l i=l[i]:=by
 unfold rd_T44
 rw [List.getD_eq_getElem?_getD,show ((i:Int)).toNat=i from rfl,List.getElem?_eq_getElem h]
 rfl
theorem seq_l0 (l:List S44) (who:Int) (hl:l.length≤281474976710656):∀ (n:Nat) (i:Nat) (c:Int),i+n=l.length→0≤c→c≤i→Ev (fun k=>spec_l12Seq.l0 k l who c i) (c+cntE (l.drop i) who)
 | 0,i,c,h,h0,h1=>by
  refine Ev.step (f:=fun _=>some c) (fun k=>?_) ?_
  ·simp only [spec_l12Seq.l0];rw [if_neg (by omega)]
  ·have:c+cntE (l.drop i) who=c:=by rw [List.drop_eq_nil_of_le (by omega)];unfold cntE;simp
   rw [this];exact evnow _
 | n+1,i,c,h,h0,h1=>by
  have hi:i < l.length:=by omega
  have hd:=List.drop_eq_getElem_cons hi
  have hc:cntE (l.drop i) who=cntE (l.drop (i+1)) who+(if l[i].f0=who then 1 else 0):=by
   rw [hd]
   unfold cntE
   rw [List.countP_cons]
   by_cases hq:l[i].f0=who <;> simp [hq]
  rw [hc]
  by_cases hq:l[i].f0=who
  ·rw [if_pos hq,show c+(cntE (l.drop (i+1)) who+1)=(c+1)+cntE (l.drop (i+1)) who by omega]
   refine Ev.step (fun k=>?_) (seq_l0 l who hl n (i+1) (c+1) (by omega) (by omega) (by omega))
   simp only [spec_l12Seq.l0]
   rw [if_pos (by omega),if_pos (by omega),rdE_get l i hi,if_pos hq,wrapS i (by omega) (by omega),wrapS c (by omega) (by omega)]
   rfl
  ·rw [if_neg hq,Int.add_zero]
   refine Ev.step (fun k=>?_) (seq_l0 l who hl n (i+1) c (by omega) (by omega) (by omega))
   simp only [spec_l12Seq.l0]
   rw [if_pos (by omega),if_pos (by omega),rdE_get l i hi,if_neg hq,wrapS i (by omega) (by omega)]
   rfl
theorem seq_f (l:List S44) (who:Int) (hl:l.length≤281474976710656):Ev (fun k=>spec_l12Seq.f k l who) (cntE l who):=by
 have:=seq_l0 l who hl l.length 0 0 (by omega) (by omega) (by omega)
 rw [Int.zero_add] at this
 exact this
theorem slog_l0 (l:List S44) (h:wfL l) (hl:l.length≤281474976710656):∀ (n:Nat) (i:Nat),i+n=l.length→Ev (fun k=>spec_LogOk.l0 k l i) (goB (l.take i) (l.drop i)&&decide (l.length≤40))
 | 0,i,hn=>by
  rw [List.drop_eq_nil_of_le (by omega)]
  refine Ev.step (f:=fun _=>some (decide ((l.length:Int)≤40))) (fun k=>?_) ?_
  ·simp only [spec_LogOk.l0];rw [if_neg (by omega)]
  ·have:decide ((l.length:Int)≤40)=(goB (l.take i) []&&decide (l.length≤40)):=by unfold goB;simp;omega
   rw [this];exact evnow _
 | n+1,i,hn=>by
  have hi:i < l.length:=by omega
  rw [List.drop_eq_getElem_cons hi]
  unfold goB
  rw [←List.take_succ_eq_append_getElem hi]
  refine Ev.step (f:=fun k=>(spec_EntryOk.f k l[i].f0 l[i].f1 l[i].f2.f0 l[i].f2.f1 l[i].f2.f2 l[i].f2.f3 l[i].f2.f4).bind fun t127=>(if t127=true then ((spec_l12Seq.f k (l.take i) l[i].f0).bind fun t134=>(if l[i].f1=(wrap64 (t134+1)) then (spec_LogOk.l0 k l ((i+1:Nat):Int)) else (some false))) else (some false))) (fun k=>?_) ?_
  ·simp only [spec_LogOk.l0]
   rw [if_pos (by omega),if_pos (by omega),rdE_get l i hi,if_pos (by omega),wrapS i (by omega) (by omega)]
   rfl
  ·refine Ev.bind (sent_f _ (h _ (List.getElem_mem hi))) ?_
   cases entB l[i] with
   | false=>simp only [Bool.false_eq_true,if_false,Bool.false_and];exact evnow _
   | true =>
    simp only [if_true,Bool.true_and]
    refine Ev.bind (seq_f (l.take i) l[i].f0 (by rw [List.length_take];omega)) ?_
    have hcn:=cntE_le (l.take i) l[i].f0
    have hw:wrap64 (cntE (l.take i) l[i].f0+1)=cntE (l.take i) l[i].f0+1:=wrapS _ hcn.1 (by have:=hcn.2;rw [List.length_take] at this;omega)
    rw [hw]
    by_cases hq:cntE (l.take i) l[i].f0+1=l[i].f1
    ·rw [dt_ hq,Bool.true_and]
     refine ev_pos hq.symm ?_
     exact slog_l0 l h hl n (i+1) (by omega)
    ·rw [df_ hq,Bool.false_and,Bool.false_and]
     refine ev_neg (fun e=>hq e.symm) ?_
     exact evnow _
theorem slog_f (l:List S44) (h:wfL l) (hl:l.length≤281474976710656):Ev (fun k=>spec_LogOk.f k l) (logB l):=by
 have:=slog_l0 l h hl l.length 0 (by omega)
 unfold logB
 rw [Bool.and_comm]
 exact this
theorem logB_len {l:List S44} (h:logB l=true):l.length≤40:=by
 unfold logB at h
 simp only [Bool.and_eq_true,decide_eq_true_eq] at h
 exact h.1
def Bytes (b:List Int):Prop:=b.length≤2000∧∀ x∈b,0≤x∧x≤255
def Rd (p:Int) (m:Nat):Prop:=0≤p∧p+m≤1000000
theorem Rd.less {p:Int} {m n:Nat} (h:Rd p m) (hn:n≤m):Rd p n:=⟨h.1,by have:=h.2;omega⟩
theorem wrap_id (x:Int) (h0:-9223372036854775808≤x) (h1:x≤9223372036854775807):wrap64 x=x:=by unfold wrap64;omega
theorem wraps_i64 (n:Int) (h0:0≤n) (h1:n < 2 ^ 62):IntKind.i64.wrap n=n:=by rw [IntKind.wrap_i64];omega
theorem xor_pos (a b:Int) (ha:0≤a) (hb:0≤b) (ha':a < 4611686018427387904) (hb':b < 4611686018427387904):0≤Go.bits .xor .i64 a b:=by
 obtain ⟨m,rfl⟩:∃ m:Nat,a=m:=⟨a.toNat,by omega⟩
 obtain ⟨n,rfl⟩:∃ n:Nat,b=n:=⟨b.toNat,by omega⟩
 have hm:m < 2 ^ 62:=by omega
 have hn:n < 2 ^ 62:=by omega
 have e1:m % 2 ^ 64=m:=Nat.mod_eq_of_lt (by omega)
 have e2:n % 2 ^ 64=n:=Nat.mod_eq_of_lt (by omega)
 have hx:m ^^^ n < 2 ^ 62:=Nat.xor_lt_two_pow hm hn
 have hq:(BitVec.ofNat 64 m ^^^ BitVec.ofNat 64 n).toNat=m ^^^ n:=by rw [BitVec.toNat_xor,BitVec.toNat_ofNat,BitVec.toNat_ofNat,e1,e2]
 have h2:Go.bits .xor .i64 (m:Int) (n:Int)=IntKind.i64.wrap (((BitVec.ofNat 64 m ^^^ BitVec.ofNat 64 n).toNat:Nat):Int):=by simp only [Go.bits,BitVec.ofInt_natCast];rfl
 rw [h2,hq,wraps_i64 _ (by omega) (by omega)]
 omega
theorem rd_byte {b:List Int} (hb:Bytes b) (i:Int):0≤rd b i∧rd b i≤255:=by
 unfold rd
 rw [List.getD_eq_getElem?_getD]
 rcases Nat.lt_or_ge i.toNat b.length with h|h
 ·rw [List.getElem?_eq_getElem h]
  exact hb.2 _ (List.getElem_mem h)
 ·rw [List.getElem?_eq_none h]
  simp
theorem tmod_range (x n:Int) (hx:0≤x) (hn:1≤n):0≤Int.tmod x n∧Int.tmod x n < n:=by
 rw [Int.tmod_eq_emod_of_nonneg hx]
 exact ⟨Int.emod_nonneg _ (by omega),Int.emod_lt_of_pos _ (by omega)⟩
theorem pick_f (b:List Int) (p n:Int) (m:Nat) (hb:Bytes b) (hp:Rd p (m+1)):∃ r:Int,Ev (fun k=>spec_l6Rd_pick.f k b p n) (r,p+1)∧Rd (p+1) m∧0≤r∧(1≤n→r < n)∧(n < 1→r=0):=by
 obtain ⟨h0,h1⟩:=hp
 have hR:Rd (p+1) m:=⟨by omega,by omega⟩
 have w1:wrap64 (p+1)=p+1:=wrap_id _ (by omega) (by omega)
 have w2:wrap64 (p+1 - 1)=p:=by rw [wrap_id (p+1 - 1) (by omega) (by omega)];omega
 unfold spec_l6Rd_pick.f
 rw [w1]
 by_cases hn:n < 1
 ·refine ⟨0,ev_pos hn ?_,hR,Int.le_refl _,fun h=>by omega,fun _=>rfl⟩
  refine Ev.step (f:=fun _=>some (0,p+1)) (fun k=>?_) (evnow _)
  simp only [spec_l6Rd_pick.j0,if_true]
 ·by_cases hl:b.length=0
  ·refine ⟨0,ev_neg hn ?_,hR,Int.le_refl _,fun h=>by omega,fun _=>rfl⟩
   refine Ev.step (f:=fun _=>some (0,p+1)) (fun k=>?_) (evnow _)
   have:((b.length:Int)==0)=true:=by simp [hl]
   simp only [spec_l6Rd_pick.j0,this,if_true]
  ·have hf:((b.length:Int)==0)=false:=beq_eq_false_iff_ne.2 (by omega)
   by_cases hk:p < (b.length:Int)
   ·have hx:=rd_byte hb p
    have hr:=tmod_range (wrap64 (rd b p)) n (by rw [wrap_id (rd b p) (by omega) (by omega)];omega) (by omega)
    refine ⟨Int.tmod (wrap64 (rd b p)) n,ev_neg hn ?_,hR,hr.1,fun _=>hr.2,fun h=>absurd h hn⟩
    refine Ev.step (f:=fun _=>some (Int.tmod (wrap64 (rd b p)) n,p+1)) (fun k=>?_) (evnow _)
    simp only [spec_l6Rd_pick.j0,hf,Bool.false_eq_true,if_false,w2]
    rw [if_pos hk,if_pos h0,if_neg (show ¬ n=0 by omega)]
   ·have hlen:(1:Int)≤b.length:=by omega
    have m1:=tmod_range p b.length h0 hlen
    have e7:wrap64 (p * 7)=p * 7:=wrap_id _ (by omega) (by omega)
    have e73:wrap64 (p * 7+3)=p * 7+3:=wrap_id _ (by omega) (by omega)
    have m2:=tmod_range (p * 7+3) b.length (by omega) hlen
    have x1:=rd_byte hb (Int.tmod p b.length)
    have x2:=rd_byte hb (Int.tmod (p * 7+3) b.length)
    have d1:0≤Int.tdiv p b.length∧Int.tdiv p b.length≤1000000:=by
     rw [Int.tdiv_eq_ediv_of_nonneg h0]
     exact ⟨Int.ediv_nonneg h0 (by omega),Int.le_trans (Int.ediv_le_self _ h0) (by omega)⟩
    obtain ⟨r,hr⟩:∃ r,r=Int.tmod (Go.bits .xor .i64 (wrap64 ((wrap64 ((wrap64 ((wrap64 ((wrap64 (rd b (Int.tmod p (b.length:Int)))) * 131))+(wrap64 ((wrap64 (rd b (Int.tmod (p * 7+3) (b.length:Int)))) * 1117))))+(wrap64 (p * 29))))+(wrap64 ((wrap64 (Int.tdiv p (b.length:Int))) * 53)))) (wrap64 (Int.tdiv (wrap64 ((wrap64 ((wrap64 ((wrap64 ((wrap64 (rd b (Int.tmod p (b.length:Int)))) * 131))+(wrap64 ((wrap64 (rd b (Int.tmod (p * 7+3) (b.length:Int)))) * 1117))))+(wrap64 (p * 29))))+(wrap64 ((wrap64 (Int.tdiv p (b.length:Int))) * 53)))) 64))) n:=⟨_,rfl⟩
    have hrr:0≤r∧r < n:=by
     rw [hr]
     refine tmod_range _ n ?_ (by omega)
     generalize rd b (Int.tmod p (b.length:Int))=u at x1
     generalize rd b (Int.tmod (p * 7+3) (b.length:Int))=v at x2
     generalize Int.tdiv p (b.length:Int)=d at d1
     rw [wrap_id u (by omega) (by omega),wrap_id v (by omega) (by omega),wrap_id d (by omega) (by omega)]
     rw [wrap_id (u * 131) (by omega) (by omega),wrap_id (v * 1117) (by omega) (by omega),wrap_id (p * 29) (by omega) (by omega),wrap_id (d * 53) (by omega) (by omega)]
     rw [wrap_id (u * 131+v * 1117) (by omega) (by omega)]
     rw [wrap_id (u * 131+v * 1117+p * 29) (by omega) (by omega)]
     rw [wrap_id (u * 131+v * 1117+p * 29+d * 53) (by omega) (by omega)]
     have hs:Int.tdiv (u * 131+v * 1117+p * 29+d * 53) 64=(u * 131+v * 1117+p * 29+d * 53) / 64:=Int.tdiv_eq_ediv_of_nonneg (by omega)
     rw [hs,wrap_id _ (by omega) (by omega)]
     exact xor_pos _ _ (by omega) (by omega) (by omega) (by omega)
    refine ⟨r,ev_neg hn ?_,hR,hrr.1,fun _=>hrr.2,fun h=>absurd h hn⟩
    refine Ev.step (f:=fun _=>some (r,p+1)) (fun k=>?_) (evnow _)
    simp only [spec_l6Rd_pick.j0,hf,Bool.false_eq_true,if_false,w2,e7,e73]
    rw [if_neg hk,if_neg (show ¬ (b.length:Int)=0 by omega),if_pos m1.1,if_pos m1.2,if_pos m2.1,if_pos m2.2,if_neg (show ¬ n=0 by omega),hr]
theorem rdR_get (t:List S69) (i:Nat) (h:i < t.length):rd_T69 t i=t[i]:=by
 unfold rd_T69
 rw [List.getD_eq_getElem?_getD,show ((i:Int)).toNat=i from rfl,List.getElem?_eq_getElem h]
 rfl
def atFrom (id:Int):List S69→Nat→Int
 | [],_=>-1
 | r::rest,i=>if r.f0=id then (i:Int) else atFrom id rest (i+1)
def atI (t:List S69) (id:Int):Int:=atFrom id t 0
theorem at_l0 (t:List S69) (id:Int) (hl:t.length≤1099511627776):∀ (n i:Nat),i+n=t.length→Ev (fun k=>spec_l2At.l0 k t id i) (atFrom id (t.drop i) i)
 | 0,i,h=>by
  rw [List.drop_eq_nil_of_le (by omega)]
  refine Ev.step (f:=fun _=>some (-1)) (fun k=>?_) (evnow _)
  simp only [spec_l2At.l0];rw [if_neg (by omega)]
 | n+1,i,h=>by
  have hi:i < t.length:=by omega
  rw [List.drop_eq_getElem_cons hi]
  unfold atFrom
  by_cases hq:t[i].f0=id
  ·rw [if_pos hq]
   refine Ev.step (f:=fun _=>some (i:Int)) (fun k=>?_) (evnow _)
   simp only [spec_l2At.l0]
   rw [if_pos (by omega),if_pos (by omega),rdR_get t i hi,if_pos hq]
  ·rw [if_neg hq]
   refine Ev.step (fun k=>?_) (at_l0 t id hl n (i+1) (by omega))
   simp only [spec_l2At.l0]
   rw [if_pos (by omega),if_pos (by omega),rdR_get t i hi,if_neg hq,wrapS i (by omega) (by omega)]
   rfl
theorem at_f (t:List S69) (id:Int) (hl:t.length≤1099511627776):Ev (fun k=>spec_l2At.f k t id) (atI t id):=at_l0 t id hl t.length 0 (by omega)
theorem atFrom_spec (id:Int):∀ (t:List S69) (i:Nat),(atFrom id t i=-1∧∀ x∈t,x.f0≠id)∨∃ (j:Nat) (h:j < t.length),atFrom id t i=((i+j:Nat):Int)∧t[j].f0=id
 | [],i=>Or.inl ⟨rfl,fun x hx=>by cases hx⟩
 | r::rest,i=>by
  unfold atFrom
  by_cases hq:r.f0=id
  ·rw [if_pos hq]
   exact Or.inr ⟨0,by simp,by simp,hq⟩
  ·rw [if_neg hq]
   rcases atFrom_spec id rest (i+1) with ⟨h1,h2⟩|⟨j,h,h1,h2⟩
   ·refine Or.inl ⟨h1,fun x hx=>?_⟩
    rcases List.mem_cons.1 hx with rfl|hx
    ·exact hq
    ·exact h2 x hx
   ·exact Or.inr ⟨j+1,by simp;omega,by rw [h1];congr 1;omega,by simpa using h2⟩
theorem atI_spec (t:List S69) (id:Int):(atI t id=-1∧∀ x∈t,x.f0≠id)∨∃ (j:Nat) (h:j < t.length),atI t id=(j:Int)∧t[j].f0=id:=by
 rcases atFrom_spec id t 0 with h|⟨j,h,h1,h2⟩
 ·exact Or.inl h
 ·exact Or.inr ⟨j,h,by rw [atI,h1];congr 1;omega,h2⟩
theorem atI_mem {t:List S69} {id:Int} {x:S69} (hx:x∈t) (h:x.f0=id):∃ (j:Nat) (hj:j < t.length),atI t id=(j:Int)∧t[j].f0=id:=by
 rcases atI_spec t id with ⟨_,h2⟩|h2
 ·exact absurd h (h2 x hx)
 ·exact h2
def endFrom (d:Int):List S69→Nat→Nat
 | [],e=>e
 | r::rest,e=>if r.f1 > d then endFrom d rest (e+1) else e
def endI (t:List S69) (i:Nat):Nat:=endFrom (t.getD i z69).f1 (t.drop (i+1)) (i+1)
theorem getD_get (t:List S69) (i:Nat) (h:i < t.length):t.getD i z69=t[i]:=by
 rw [List.getD_eq_getElem?_getD,List.getElem?_eq_getElem h]
 rfl
theorem end_l0 (t:List S69) (a:Nat) (ha:a < t.length) (hl:t.length≤1099511627776):∀ (n i:Nat),i+n=t.length→Ev (fun k=>spec_l2End.l0 k t a i) (endFrom t[a].f1 (t.drop i) i:Int)
 | 0,i,h=>by
  rw [List.drop_eq_nil_of_le (by omega)]
  refine Ev.step (f:=fun _=>some (i:Int)) (fun k=>?_) (evnow _)
  simp only [spec_l2End.l0];rw [if_neg (by omega)]
 | n+1,i,h=>by
  have hi:i < t.length:=by omega
  rw [List.drop_eq_getElem_cons hi]
  unfold endFrom
  by_cases hq:t[i].f1 > t[a].f1
  ·rw [if_pos hq]
   refine Ev.step (fun k=>?_) (end_l0 t a ha hl n (i+1) (by omega))
   simp only [spec_l2End.l0]
   rw [if_pos (by omega),if_pos (by omega),if_pos (by omega),if_pos (by omega),rdR_get t i hi,rdR_get t a ha,if_pos hq,wrapS i (by omega) (by omega)]
   rfl
  ·rw [if_neg hq]
   refine Ev.step (f:=fun _=>some (i:Int)) (fun k=>?_) (evnow _)
   simp only [spec_l2End.l0]
   rw [if_pos (by omega),if_pos (by omega),if_pos (by omega),if_pos (by omega),rdR_get t i hi,rdR_get t a ha,if_neg hq]
theorem end_f (t:List S69) (a:Nat) (ha:a < t.length) (hl:t.length≤1099511627776):Ev (fun k=>spec_l2End.f k t a) (endI t a:Int):=by
 have:=end_l0 t a ha hl (t.length - (a+1)) (a+1) (by omega)
 unfold endI
 rw [getD_get t a ha]
 refine Ev.congr (fun k=>?_) this
 unfold spec_l2End.f
 rw [wrapS a (by omega) (by omega)]
 rfl
theorem endFrom_spec (d:Int):∀ (t:List S69) (e:Nat),e≤endFrom d t e∧endFrom d t e≤e+t.length∧(∀ (j:Nat) (hj:j < t.length),e+j < endFrom d t e→d < t[j].f1)∧(∀ (hj:endFrom d t e - e < t.length),t[endFrom d t e - e].f1≤d)
 | [],e=>⟨Nat.le_refl _,by simp [endFrom],fun j hj=>by simp at hj,fun hj=>by simp at hj⟩
 | r::rest,e=>by
  by_cases hq:r.f1 > d
  ·have he:endFrom d (r::rest) e=endFrom d rest (e+1):=if_pos hq
   obtain ⟨h1,h2,h3,h4⟩:=endFrom_spec d rest (e+1)
   refine ⟨by rw [he];omega,by rw [he];simp;omega,fun j hj hlt=>?_,fun hj=>?_⟩
   ·rw [he] at hlt
    cases j with
    | zero=>exact hq
    | succ j=>exact h3 j (by simpa using hj) (by omega)
   ·have e1:endFrom d (r::rest) e - e=(endFrom d rest (e+1) - (e+1))+1:=by rw [he];omega
    have hj':endFrom d rest (e+1) - (e+1) < rest.length:=by rw [e1] at hj;simpa using hj
    have:=h4 hj'
    simp only [e1,List.getElem_cons_succ]
    exact this
  ·have he:endFrom d (r::rest) e=e:=if_neg hq
   refine ⟨by rw [he];exact Nat.le_refl _,by rw [he];omega,fun j hj hlt=>by rw [he] at hlt;omega,fun hj=>?_⟩
   have e1:endFrom d (r::rest) e - e=0:=by rw [he];omega
   simp only [e1,List.getElem_cons_zero]
   omega
theorem endI_spec (t:List S69) (a:Nat) (ha:a < t.length):a < endI t a∧endI t a≤t.length∧(∀ (j:Nat) (hj:j < t.length),a < j→j < endI t a→t[a].f1 < t[j].f1)∧(∀ (hj:endI t a < t.length),t[endI t a].f1≤t[a].f1):=by
 unfold endI
 rw [getD_get t a ha]
 obtain ⟨h1,h2,h3,h4⟩:=endFrom_spec t[a].f1 (t.drop (a+1)) (a+1)
 rw [List.length_drop] at h2
 refine ⟨by omega,by omega,fun j hj h5 h6=>?_,fun hj=>?_⟩
 ·have:=h3 (j - (a+1)) (by rw [List.length_drop];omega) (by omega)
  rw [List.getElem_drop] at this
  simpa [show a+1+(j - (a+1))=j by omega] using this
 ·have:=h4 (by rw [List.length_drop];omega)
  rw [List.getElem_drop] at this
  simpa [show a+1+(endFrom t[a].f1 (t.drop (a+1)) (a+1) - (a+1))=endFrom t[a].f1 (t.drop (a+1)) (a+1) by omega] using this
def KidOf (t:List S69) (a i:Nat) (x:Int):Prop:=∃ (ha:a < t.length) (j:Nat) (hj:j < t.length),i≤j∧j < endI t a∧t[j].f0=x∧t[j].f1=wrap64 (t[a].f1+1)
theorem kids_l0 (t:List S69) (a:Nat) (ha:a < t.length) (hl:t.length≤1099511627776):∀ (n i:Nat) (acc:List Int),i+n=endI t a→acc.length+n≤1099511627776 →
  ∃ r:List Int,Ev (fun k=>spec_l2Kids.l0 k t acc a i) (acc++r)∧r.length≤n∧∀ x∈r,KidOf t a i x
 | 0,i,acc,h,hacc=>by
  refine ⟨[],?_,by simp,fun x hx=>by cases hx⟩
  rw [List.append_nil]
  refine Ev.step (fun k=>by simp only [spec_l2Kids.l0];rfl) ?_
  refine Ev.bind (end_f t a ha hl) ?_
  refine ev_neg (by omega) ?_
  exact evnow _
 | n+1,i,acc,h,hacc=>by
  obtain ⟨e1,e2,_,_⟩:=endI_spec t a ha
  have hi:i < t.length:=by omega
  by_cases hq:t[i].f1=wrap64 (t[a].f1+1)
  ·obtain ⟨r,hr,hlen,hk⟩:=kids_l0 t a ha hl n (i+1) (acc++[t[i].f0]) (by omega) (by simp;omega)
   refine ⟨t[i].f0::r,?_,by simp;omega,fun x hx=>?_⟩
   ·rw [List.append_assoc] at hr
    refine Ev.step (fun k=>by simp only [spec_l2Kids.l0];rfl) ?_
    refine Ev.bind (end_f t a ha hl) ?_
    refine ev_pos (by omega) (ev_pos (by omega) (ev_pos (by omega) (ev_pos (by omega) (ev_pos (by omega) ?_))))
    rw [rdR_get t i hi,rdR_get t a ha,wrapS i (by omega) (by omega)]
    refine ev_pos hq (ev_pos (by omega) ?_)
    exact hr
   ·rcases List.mem_cons.1 hx with rfl|hx
    ·exact ⟨ha,i,hi,Nat.le_refl _,by omega,rfl,hq⟩
    ·obtain ⟨h1,j,hj,h2,h3,h4,h5⟩:=hk x hx
     exact ⟨h1,j,hj,by omega,h3,h4,h5⟩
  ·obtain ⟨r,hr,hlen,hk⟩:=kids_l0 t a ha hl n (i+1) acc (by omega) (by omega)
   refine ⟨r,?_,by omega,fun x hx=>?_⟩
   ·refine Ev.step (fun k=>by simp only [spec_l2Kids.l0];rfl) ?_
    refine Ev.bind (end_f t a ha hl) ?_
    refine ev_pos (by omega) (ev_pos (by omega) (ev_pos (by omega) (ev_pos (by omega) (ev_pos (by omega) ?_))))
    rw [rdR_get t i hi,rdR_get t a ha,wrapS i (by omega) (by omega)]
    refine ev_neg hq ?_
    exact hr
   ·obtain ⟨h1,j,hj,h2,h3,h4,h5⟩:=hk x hx
    exact ⟨h1,j,hj,by omega,h3,h4,h5⟩
theorem kids_f (t:List S69) (id:Int) (hl:t.length≤1000000):∃ r:List Int,Ev (fun k=>spec_l2Kids.f k t id) r∧r.length≤t.length∧∀ x∈r,∃ a:Nat,atI t id=(a:Int)∧KidOf t a (a+1) x:=by
 unfold spec_l2Kids.f
 simp only [Option.bind_some]
 rcases atI_spec t id with ⟨h1,_⟩|⟨a,ha,h1,_⟩
 ·refine ⟨[],?_,by simp,fun x hx=>by cases hx⟩
  refine Ev.bind (at_f t id (by omega)) ?_
  rw [h1]
  exact ev_pos (by omega) (evnow _)
 ·obtain ⟨e1,e2,_,_⟩:=endI_spec t a ha
  obtain ⟨r,hr,hlen,hk⟩:=kids_l0 t a ha (by omega) (endI t a - (a+1)) (a+1) [] (by omega) (by simp;omega)
  refine ⟨r,?_,by omega,fun x hx=>⟨a,h1,hk x hx⟩⟩
  refine Ev.bind (at_f t id (by omega)) ?_
  rw [h1]
  refine ev_neg (by omega) ?_
  rw [wrapS a (by omega) (by omega)]
  exact hr
end Go.Proofs.YtdpklbomhdpimaaDoor.PL
