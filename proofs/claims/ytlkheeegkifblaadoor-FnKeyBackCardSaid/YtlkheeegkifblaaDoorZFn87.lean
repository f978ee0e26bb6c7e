/- FnKeyBack: a part. -/
import Derived.Test.YtlkheeegkifblaaDoorZFn86
set_option linter.unusedVariables false
set_option linter.unusedSimpArgs false
set_option linter.unusedSectionVars false
set_option maxHeartbeats 8000000
set_option maxRecDepth 100000
namespace Go.Proofs.YtlkheeegkifblaaDoor.P
open Go.RowKit Go.Proofs.YtlkheeegkifblaaDoorW.PrintWords Go.Proofs.YtlkheeegkifblaaDoorW.PrintLast Go.Proofs.YtlkheeegkifblaaDoorW.PrintMore Go.Proofs.YtlkheeegkifblaaDoor.PL Go.Proofs.YtlkheeegkifblaaDoor.FP
theorem made_num {a:Int} (h:madeB a=true):∃ i:Nat,a=(i:Int)∧4≤i∧i < 37:=by
 obtain ⟨h0,h1⟩:=made_small a h
 obtain ⟨i,rfl⟩:=Int.eq_ofNat_of_zero_le h0
 refine ⟨i,rfl,?_,by omega⟩
 rcases Nat.lt_or_ge i 4 with g|g
 ·exfalso
  have:i=0∨i=1∨i=2∨i=3:=by omega
  rcases this with rfl|rfl|rfl|rfl <;> exact absurd h (by decide)
 ·exact g
theorem apply_any {w:World} {n0 F:Nat} {A:Nat→Option Nat} {h:Nat→Nd} {G:Fo} (t:At w n0 F A h G) (hn0:n0≤w.heap.size) (kd id up at_:Int) (s:ByteArray) (hk:kd=1∨kd=2∨kd=3) (hm:madeB id=true) :
  Calls Tryd.prog 64 #[.pointer (some ⟨F,0,none⟩),ChV kd id up at_ s] w (ApplyPost w n0 F (doF G kd id up at_ s)):=by
 obtain ⟨i,rfl,h4,h37⟩:=made_num hm
 have hi0:i≠0:=by omega
 have hit:i∉G.tops:=by rw [t.tops];simp;omega
 have hcase:fndF G (i:Int)=0∨fndF G (i:Int)=i:=by unfold fndF;split <;> simp
 rcases hk with rfl|rfl|rfl
 ·unfold ChV doF
  rw [if_pos rfl,if_neg (by decide),if_pos rfl]
  by_cases h1:fndF G (i:Int)=0
  ·rw [if_pos h1]
   exact apply_make_yes t hn0 i up at_ s h1 hi0 h37
  ·rw [if_neg h1]
   exact apply_make_no t hn0 _ up at_ s h1
 ·unfold ChV doF
  rw [if_neg (by decide),if_pos rfl,if_pos rfl]
  by_cases h1:fndF G (i:Int)=0
  ·rw [if_pos h1];exact apply_text_no t hn0 _ s h1
  ·rw [if_neg h1];exact apply_text_yes t hn0 _ s _ rfl h1
 ·unfold ChV doF
  rw [if_neg (by decide),if_neg (by decide),if_neg (by decide),if_neg (by decide)]
  by_cases h1:fndF G (i:Int)=0
  ·rw [if_pos h1];exact apply_move_no t hn0 _ up at_ (fun g=>g.1 h1)
  ·rw [if_neg h1]
   have h2:=hcase.resolve_left h1
   by_cases hu:under (fndF G (i:Int)) (fndF G up) G
   ·rw [if_pos hu];exact apply_move_no t hn0 _ up at_ (fun g=>g.2 hu)
   ·rw [if_neg hu]
    rw [h2] at hu ⊢
    exact apply_move_yes t hn0 i up at_ h2 hi0 hit hu
theorem At.len {w:World} {n0 F:Nat} {A:Nat→Option Nat} {h:Nat→Nd} {G:Fo} (t:At w n0 F A h G):G.ids.length≤36:=by
 have:=nodup_len 37 (0::G.ids) (List.nodup_cons.2 ⟨fun g=>t.rep.ne0 0 g rfl,t.nd⟩) fun x hx=>by
  rcases List.mem_cons.1 hx with rfl|hx
  ·omega
  ·obtain ⟨b,hb⟩:=t.ok hx;exact t.m.rng x b hb
 simp only [List.length_cons] at this
 omega
def impl_OpDo.f (k:Nat) (l0:List S37) (a0 a1 a2 a3:Int) (a4:ByteArray):Option (List S37) :=
 (impl_changeOf.f k a0 a1 a2 a3 a4).bind fun ok=>some (if ok=true then (if treeB l0=true then (doF (toFo l0) a0 a1 a2 a3 a4).fl 0 else []) else [])
theorem impl_OpDo.mono (l0:List S37) (a0 a1 a2 a3:Int) (a4:ByteArray) (k:Nat):LeO (impl_OpDo.f k l0 a0 a1 a2 a3 a4) (impl_OpDo.f (k+1) l0 a0 a1 a2 a3 a4):=by
 unfold impl_OpDo.f
 exact LeO.bind (impl_changeOf.mono _ _ _ _ _ _) (fun _=>LeO.refl _)
theorem changeOf_yes {k:Nat} {a0 a1 a2 a3:Int} {a4:ByteArray} (h:impl_changeOf.f k a0 a1 a2 a3 a4=some true):(a0=1∨a0=2∨a0=3)∧madeB a1=true:=by
 unfold impl_changeOf.f at h
 rw [isMade_f] at h
 simp only [Option.bind_some] at h
 cases hm:madeB a1 with
 | false=>rw [hm] at h;simp at h
 | true =>
  refine ⟨?_,rfl⟩
  rw [hm,if_pos rfl] at h
  by_cases h1:a0=1
  ·exact Or.inl h1
  ·by_cases h2:a0=2
   ·exact Or.inr (Or.inl h2)
   ·by_cases h3:a0=3
    ·exact Or.inr (Or.inr h3)
    ·rw [if_neg h1,if_neg h2,if_neg h3] at h;simp at h
def OpDoPost (w:World) (r:List S37) (e:Ending) (w':World):Prop:=∃ v0_:Value,e=.returned v0_∧Kd.R k37 37 w' w.heap.size (fun _=>True) v0_ r∧Below w.heap.size w w'
theorem opDo_notree (k:Nat) (A0:Option Addr) (c0:Nat) (l0:List S37) (a0 a1 a2 a3:Int) (a4:ByteArray) (ok:Bool) (w:World) (hr0:Kd.C k37 w A0 l0.length l0) (hc0:l0.length≤c0) (hok:impl_changeOf.f k a0 a1 a2 a3 a4=some ok) (ht:treeB l0=false) (hG:Glob w) :
  Calls Tryd.prog 23 #[.slice A0 l0.length c0,.agg #[.int .i64 a0,.int .i64 a1,.int .i64 a2,.int .i64 a3,.string a4]] w (OpDoPost w []):=by
 have HR:=a_ hr0
 have HC:=a_ hc0
 have HO:=a_ hok
 have HT:=a_ ht
 have HG:=a_ hG
 have hu:=Tryd.underlying27
 clear hr0 hc0 hok ht hG
 go_enter Tryd.func23,Tryd.ntmps23
 go_wp2_with (first
  | (go_at_call 63;(with_reducible refine (impl_changeOf.calls k a0 a1 a2 a3 a4 ok _ HO.out (HG.out.below (below_box0 w _))).mono ?_);rintro en W1 ⟨v1,rfl,_,hb⟩;have HB1:=a_ ((below_box0 w _).trans (hb.mono (by simp)));clear hb)
  | (go_at_call 60;(with_reducible refine (plant_no A0 c0 l0 _ (Kd.C_below HR.out HB1.out) HC.out HT.out (HG.out.below HB1.out)).mono ?_);rintro en W2 ⟨rfl,hb⟩;have HB2:=a_ (bS_ HB1.out hb);clear hb))
 cases ok
 all_goals go_wp2
 all_goals go_ret
 all_goals exact ⟨_,rfl,Kd.R_nil _ _ _ _ _,HB2.out⟩
theorem opDo_noop (k:Nat) (A0:Option Addr) (c0:Nat) (l0:List S37) (a0 a1 a2 a3:Int) (a4:ByteArray) (w:World) (hr0:Kd.C k37 w A0 l0.length l0) (hc0:l0.length≤c0) (hok:impl_changeOf.f k a0 a1 a2 a3 a4=some false) (ht:treeB l0=true) (hG:Glob w) :
  Calls Tryd.prog 23 #[.slice A0 l0.length c0,.agg #[.int .i64 a0,.int .i64 a1,.int .i64 a2,.int .i64 a3,.string a4]] w (OpDoPost w []):=by
 have HR:=a_ hr0
 have HC:=a_ hc0
 have HO:=a_ hok
 have HT:=a_ ht
 have HG:=a_ hG
 have hu:=Tryd.underlying27
 clear hr0 hc0 hok ht hG
 go_enter Tryd.func23,Tryd.ntmps23
 go_wp2_with (first
  | (go_at_call 63;(with_reducible refine (impl_changeOf.calls k a0 a1 a2 a3 a4 false _ HO.out (HG.out.below (below_box0 w _))).mono ?_);rintro en W1 ⟨v1,rfl,_,hb⟩;have HB1:=a_ ((below_box0 w _).trans (hb.mono (by simp)));clear hb)
  | (go_at_call 60;(with_reducible refine (plant_yes A0 c0 l0 _ (Kd.C_below HR.out HB1.out) HC.out HT.out (HG.out.below HB1.out)).mono ?_);rintro en W2 ⟨Fb,G,A,h,rfl,_,_,_,_,_,_,hb⟩;have HB2:=a_ (bS_ HB1.out hb);clear hb))
 go_ret
 exact ⟨_,rfl,Kd.R_nil _ _ _ _ _,HB2.out⟩
theorem opDo_yes (k:Nat) (A0:Option Addr) (c0:Nat) (l0:List S37) (a0 a1 a2 a3:Int) (a4:ByteArray) (w:World) (hr0:Kd.C k37 w A0 l0.length l0) (hc0:l0.length≤c0) (hok:impl_changeOf.f k a0 a1 a2 a3 a4=some true) (ht:treeB l0=true) (hG:Glob w) :
  Calls Tryd.prog 23 #[.slice A0 l0.length c0,.agg #[.int .i64 a0,.int .i64 a1,.int .i64 a2,.int .i64 a3,.string a4]] w (OpDoPost w ((doF (toFo l0) a0 a1 a2 a3 a4).fl 0)):=by
 have HR:=a_ hr0
 have HC:=a_ hc0
 have HO:=a_ hok
 have HT:=a_ ht
 have HG:=a_ hG
 have HY:=a_ (changeOf_yes hok)
 have hu:=Tryd.underlying27
 clear hr0 hc0 hok ht hG
 go_enter Tryd.func23,Tryd.ntmps23
 go_wp2_with (first
  | (go_at_call 63;(with_reducible refine (impl_changeOf.calls k a0 a1 a2 a3 a4 true _ HO.out (HG.out.below (below_box0 w _))).mono ?_);rintro en W1 ⟨v1,rfl,hv,hb⟩;obtain rfl:=hv rfl;have HB1:=a_ ((below_box0 w _).trans (hb.mono (by simp)));clear hb hv)
  | (go_at_call 60;(with_reducible refine (plant_yes A0 c0 l0 _ (Kd.C_below HR.out HB1.out) HC.out HT.out (HG.out.below HB1.out)).mono ?_);rintro en W2 ⟨Fb,G,A,h,rfl,p1,p2,p3,p4,p5,p6,hb⟩;have HB2:=a_ (bS_ HB1.out hb);have HAT:=a_ (show At W2 W1.heap.size Fb A h G from ⟨p1,p2,p3,p4,p5⟩);have HTO:=a_ (toFo_of HT.out p6);have HS:=a_ hb.size;clear hb p1 p2 p3 p4 p5 p6)
  | (go_at_call 64;(with_reducible refine (apply_any HAT.out HS.out a0 a1 a2 a3 a4 HY.out.1 HY.out.2).mono ?_);rintro en W3 ⟨⟨v3,rfl⟩,⟨A3,h3,t3⟩,hb⟩;have HB3:=a_ (HB2.out.trans (hb.mono HB1.out.size));have HT3:=a_ t3;clear hb t3)
  | (go_at_call 65;(with_reducible refine (rows_any HT3.out.m HT3.out.rep HT3.out.nd HT3.out.tops (fun x hx=>(HT3.out.dom x).2 hx) HT3.out.len).mono ?_);rintro en W4 ⟨v4,rfl,ho,hb⟩;have HB4:=a_ (bS_ HB3.out hb);have HO4:=a_ (Kd.R_lower ho HB3.out.size);clear hb ho))
 go_ret
 rw [HTO.out]
 exact ⟨_,rfl,HO4.out,HB4.out⟩
theorem impl_OpDo.calls (k:Nat) (A0:Option Addr) (c0:Nat) (l0:List S37) (a0 a1 a2 a3:Int) (a4:ByteArray) (r:List S37) (w:World) (hr0:Kd.C k37 w A0 l0.length l0) (hc0:l0.length≤c0) (h:impl_OpDo.f k l0 a0 a1 a2 a3 a4=some r) (hG:Glob w) :
  Calls Tryd.prog 23 #[.slice A0 l0.length c0,.agg #[.int .i64 a0,.int .i64 a1,.int .i64 a2,.int .i64 a3,.string a4]] w fun e w'=>∃ v0_:Value,e=.returned v0_∧Kd.R k37 37 w' w.heap.size (fun _=>True) v0_ r∧Below w.heap.size w w':=by
 unfold impl_OpDo.f at h
 obtain ⟨ok,hok,h⟩:=Option.bind_eq_some_iff.1 h
 cases ht:treeB l0 with
 | false =>
  have hr:r=[]:=by rw [ht] at h;cases ok <;> simpa using h.symm
  subst hr
  exact opDo_notree k A0 c0 l0 a0 a1 a2 a3 a4 ok w hr0 hc0 hok ht hG
 | true =>
  rw [ht] at h
  cases ok with
  | false =>
   have hr:r=[]:=by simpa using h.symm
   subst hr
   exact opDo_noop k A0 c0 l0 a0 a1 a2 a3 a4 w hr0 hc0 hok ht hG
  | true =>
   simp only [if_true,Option.some.injEq] at h
   subst h
   exact opDo_yes k A0 c0 l0 a0 a1 a2 a3 a4 w hr0 hc0 hok ht hG
theorem At.ahead {w:World} {n0 F:Nat} {A:Nat→Option Nat} {h:Nat→Nd} {G:Fo} (t:At w n0 F A h G) {i b:Nat} (hi:A i=some b) (hp:FP.par i 0 G≠0) :
  Calls Tryd.prog 76 #[.pointer (some ⟨b,0,none⟩)] w fun e W'=>e=.returned (.pointer (pa (A (sibT i G))))∧Below w.heap.size w W':=by
 have hG:i∈G.ids:=(t.dom i).1 (by rw [hi];simp)
 have hit:=par_top h t.rep t.nd hG hp
 obtain ⟨u1,u2⟩:=reptop_up t.rep t.nd hG hit
 obtain ⟨r1,r2⟩:=reptop_sub t.rep t.nd u1
 obtain ⟨s1,s2⟩:=sibT_pv t.rep t.nd hG hit
 obtain ⟨bu,hbu⟩:=t.ok u1
 have hsA:∀ x∈(sub (h i).up G).ids,A x≠none:=fun x hx=>(t.dom x).2 (sub_ids _ hx)
 have hL:=nlist_of t.m r1 hsA
 rw [←r2] at hL
 rw [s1]
 exact ahead_any t.m hi hbu rfl (sub (h i).up G).tops (fun x hx=>hsA x (tops_ids hx)) hL
theorem At.sibOk {w:World} {n0 F:Nat} {A:Nat→Option Nat} {h:Nat→Nd} {G:Fo} (t:At w n0 F A h G) (i:Nat):sibT i G=0∨A (sibT i G)≠none:=(sibT_mem i G).imp id fun g=>(t.dom _).2 g
end Go.Proofs.YtlkheeegkifblaaDoor.P
namespace Go.Proofs.YtlkheeegkifblaaDoor.P
open Go.RowKit Go.Shelf Go.Proofs.YtlkheeegkifblaaDoorW.PrintWords Go.Proofs.YtlkheeegkifblaaDoorW.PrintLast Go.Proofs.YtlkheeegkifblaaDoorW.PrintMore Go.Proofs.YtlkheeegkifblaaDoor.PL Go.Proofs.YtlkheeegkifblaaDoor.FP
attribute [local go_sem] Oper.semAt_some
structure Bx (w:World) (gb:Nat) (W:World):Prop where
 blk:W.heap[gb]?=some (.cells #[.int .i64 0,.int .i64 0,.int .i64 0,.int .i64 0,.string (⟨#[]⟩:ByteArray)] 27 (0,0))
 ge:w.heap.size≤gb
 below:Below w.heap.size w W
theorem Bx.step {w W W':World} {gb:Nat} (b:Bx w gb W) (hb:Below W.heap.size W W'):Bx w gb W':=⟨blk_below b.blk hb,b.ge,bS_ b.below hb⟩
theorem Bx.drew {w W:World} {gb:Nat} (b:Bx w gb W):Bx w gb W.drew:=⟨b.blk,b.ge,b.below.drew⟩
theorem Bx.c0 {w W:World} {gb:Nat} (b:Bx w gb W):W.cell? ⟨gb,0,none⟩=some (.int .i64 0):=(bC_ b.blk 0).trans rfl
theorem Bx.c1 {w W:World} {gb:Nat} (b:Bx w gb W):W.cell? ⟨gb,1,none⟩=some (.int .i64 0):=(bC_ b.blk 1).trans rfl
theorem Bx.c2 {w W:World} {gb:Nat} (b:Bx w gb W):W.cell? ⟨gb,2,none⟩=some (.int .i64 0):=(bC_ b.blk 2).trans rfl
theorem Bx.c3 {w W:World} {gb:Nat} (b:Bx w gb W):W.cell? ⟨gb,3,none⟩=some (.int .i64 0):=(bC_ b.blk 3).trans rfl
theorem Bx.c4 {w W:World} {gb:Nat} (b:Bx w gb W):W.cell? ⟨gb,4,none⟩=some (.string (⟨#[]⟩:ByteArray)):=(bC_ b.blk 4).trans rfl
theorem Bx.f {w W:World} {gb:Nat} (b:Bx w gb W) (j:Nat):W.frozen? ⟨gb,j,none⟩=false:=bF_ b.blk j
theorem Bx.put {w W:World} {gb:Nat} (b:Bx w gb W) (k i u a:Int) (s:ByteArray):(((((W.setCell ⟨gb,0,none⟩ (.int .i64 k)).setCell ⟨gb,1,none⟩ (.int .i64 i)).setCell ⟨gb,2,none⟩ (.int .i64 u)).setCell ⟨gb,3,none⟩ (.int .i64 a)).setCell ⟨gb,4,none⟩ (.string s)).heap[gb]?=some (.cells #[.int .i64 k,.int .i64 i,.int .i64 u,.int .i64 a,.string s] 27 (0,0)):=by
 refine blk_put (cs:=#[.int .i64 k,.int .i64 i,.int .i64 u,.int .i64 a,.string (⟨#[]⟩:ByteArray)]) ?_ 4 _ rfl
 refine blk_put (cs:=#[.int .i64 k,.int .i64 i,.int .i64 u,.int .i64 0,.string (⟨#[]⟩:ByteArray)]) ?_ 3 _ rfl
 refine blk_put (cs:=#[.int .i64 k,.int .i64 i,.int .i64 0,.int .i64 0,.string (⟨#[]⟩:ByteArray)]) ?_ 2 _ rfl
 refine blk_put (cs:=#[.int .i64 k,.int .i64 0,.int .i64 0,.int .i64 0,.string (⟨#[]⟩:ByteArray)]) ?_ 1 _ rfl
 exact blk_put (cs:=#[.int .i64 0,.int .i64 0,.int .i64 0,.int .i64 0,.string (⟨#[]⟩:ByteArray)]) b.blk 0 _ rfl
theorem Bx.put_below {w W:World} {gb:Nat} (b:Bx w gb W) (k i u a:Int) (s:ByteArray):Below w.heap.size w (((((W.setCell ⟨gb,0,none⟩ (.int .i64 k)).setCell ⟨gb,1,none⟩ (.int .i64 i)).setCell ⟨gb,2,none⟩ (.int .i64 u)).setCell ⟨gb,3,none⟩ (.int .i64 a)).setCell ⟨gb,4,none⟩ (.string s)) :=
 ((((b.below.setCell (p:=⟨gb,0,none⟩) b.ge _).setCell (p:=⟨gb,1,none⟩) b.ge _).setCell (p:=⟨gb,2,none⟩) b.ge _).setCell (p:=⟨gb,3,none⟩) b.ge _).setCell (p:=⟨gb,4,none⟩) b.ge _
theorem moveTo_any {w:World} {n0 F:Nat} {A:Nat→Option Nat} {h:Nat→Nd} (m:Mem w n0 F A h) {i u a bi bu:Nat} (hi:A i=some bi) (hu:A u=some bu) (ha:a=0∨A a≠none) :
  Calls Tryd.prog 104 #[.pointer (some ⟨bi,0,none⟩),.pointer (some ⟨bu,0,none⟩),.pointer (pa (A a))] w fun e w'=>e=.returned (.agg #[.int .i64 3,.int .i64 (i:Int),.int .i64 (u:Int),.int .i64 (a:Int),.string (⟨#[]⟩:ByteArray)])∧Below w.heap.size w w':=by
 have hu27:=Tryd.underlying27
 have M:=a_ m
 have HI:=a_ hi
 have HU:=a_ hu
 have HA:=a_ ha
 clear m hi hu ha
 go_enter Tryd.func104,Tryd.ntmps104
 go_wp2_with ((with_reducible refine gD_ (N:=6) rfl ?_);refine bx_ 6 (#[.int .i64 0,.int .i64 0,.int .i64 0,.int .i64 0,.string (⟨#[]⟩:ByteArray)]) 27 ?_;intro gb hg W1 hbox hb;have X1:=a_ (Bx.mk hbox (by rw [hg];exact Nat.le_refl _) (hb));have hb1:=a_ hb;clear hbox hb hg;have M1:=a_ (M.out.below hb1.out);have q0:=M1.out.c0 HI.out;have q1:=M1.out.c0 HU.out;have za_0:=X1.out.c0;have ya_0:=X1.out.f 0;have za_1:=X1.out.c1;have ya_1:=X1.out.f 1;have za_2:=X1.out.c2;have ya_2:=X1.out.f 2;have za_3:=X1.out.c3;have ya_3:=X1.out.f 3;have za_4:=X1.out.c4;have ya_4:=X1.out.f 4)
 go_region_with (go_at_call 75;(with_reducible refine (idOf_any M1.out.drew a HA.out).mono ?_);rintro en W4 ⟨rfl,rfl⟩)
 all_goals go_wp2
 all_goals refine bodyPost_ret (results_cell_row rfl _ _ gb 27 #[.int .i64 3,.int .i64 (i:Int),.int .i64 (u:Int),.int .i64 (a:Int),.string (⟨#[]⟩:ByteArray)] (0,0) _ rfl (by (with_reducible repeat (first|refine bN_ ?_ _|refine bD_ ?_));exact X1.out.put _ _ _ _ _) hu27 rfl (by kernel_rfl)) rfl ?_
 all_goals exact ⟨rfl,(by (with_reducible repeat (first|apply pw_below_drewN|apply below_drew1));exact X1.out.put_below _ _ _ _ _)⟩
end Go.Proofs.YtlkheeegkifblaaDoor.P
namespace Go.Proofs.YtlkheeegkifblaaDoor.FP
open Go.Proofs.YtlkheeegkifblaaDoor.P
def dep (x:Nat) (d:Nat):Fo→Nat
 | .nil=>d
 | .nd j _ k n=>if j=x then d else if x∈k.ids then dep x (d+1) k else dep x d n
theorem setF_id (x:Nat) (t:ByteArray):∀ {F:Fo},x∉F.ids→setF x t F=F
 | .nil,_=>rfl
 | .nd j u k n,h=>by
  simp only [Fo.ids,List.mem_cons,List.mem_append,not_or] at h
  rw [setF,if_neg (fun e=>h.1 e.symm),setF_id x t h.2.1,setF_id x t h.2.2]
theorem fl_ids:∀ (F:Fo) (d:Nat) {r:S37},r∈F.fl d→∃ i∈F.ids,r.f0=(i:Int)
 | .nil,d,r,h=>by simp [Fo.fl] at h
 | .nd j t k n,d,r,h=>by
  simp only [Fo.fl,List.mem_cons,List.mem_append] at h
  rcases h with rfl|h|h
  ·exact ⟨j,by simp [Fo.ids],rfl⟩
  ·obtain ⟨i,hi,e⟩:=fl_ids k (d+1) h;exact ⟨i,by simp [Fo.ids,hi],e⟩
  ·obtain ⟨i,hi,e⟩:=fl_ids n d h;exact ⟨i,by simp [Fo.ids,hi],e⟩
theorem fl_map:∀ (F:Fo) (d:Nat),(F.fl d).map (·.f0)=F.ids.map Int.ofNat
 | .nil,d=>rfl
 | .nd j t k n,d=>by simp [Fo.fl,Fo.ids,fl_map k,fl_map n]
theorem fl_len (F:Fo) (d:Nat):(F.fl d).length=F.ids.length:=by
 have:=congrArg List.length (fl_map F d)
 simpa using this
structure Spot (x d:Nat) (G:Fo) (pre post:List S37):Prop where
 all:G.fl d=pre++(⟨(x:Int),(dep x d G:Int),txtF x G⟩::((sub x G).fl (dep x d G+1)++post))
 out:∀ r∈pre,r.f0≠(x:Int)
 high:post=[]∨∃ r rest,post=r::rest∧r.f1≤(dep x d G:Int)
 ge:d≤dep x d G
 del:(del x G).fl d=pre++post
 first:∀ i t s,(insFirst x i t s G).fl d=pre++(⟨(x:Int),(dep x d G:Int),txtF x G⟩::(⟨(i:Int),((dep x d G+1:Nat):Int),t⟩::(s.fl (dep x d G+2)++((sub x G).fl (dep x d G+1)++post))))
 after:∀ i t s,(insAfter x i t s G).fl d=pre++(⟨(x:Int),(dep x d G:Int),txtF x G⟩::((sub x G).fl (dep x d G+1)++(⟨(i:Int),(dep x d G:Int),t⟩::(s.fl (dep x d G+1)++post))))
 text:∀ t',(setF x t' G).fl d=pre++(⟨(x:Int),(dep x d G:Int),t'⟩::((sub x G).fl (dep x d G+1)++post))
theorem spot (x:Nat):∀ (G:Fo) (d:Nat),G.ids.Nodup→x∈G.ids→∃ pre post,Spot x d G pre post
 | .nil,d,_,hx=>by simp [Fo.ids] at hx
 | .nd j u k n,d,hn,hx=>by
  obtain ⟨n1,n2,n3,n4,n5⟩:=nodup_nd hn
  simp only [Fo.ids,List.mem_cons,List.mem_append] at hx
  by_cases e:j=x
  ·subst e
   refine ⟨[],n.fl d,?_,by simp,?_,?_,?_,fun i t s=>?_,fun i t s=>?_,fun t'=>?_⟩
   ·simp [Fo.fl,dep,txtF,sub]
   ·rcases fl_head n d with h|⟨r,rest,h,h2⟩
    ·exact Or.inl h
    ·refine Or.inr ⟨r,rest,h,?_⟩;simp [dep,h2]
   ·simp [dep]
   ·simp [FP.del]
   ·simp [insFirst,Fo.fl,dep,txtF,sub]
   ·simp [insAfter,Fo.fl,dep,txtF,sub]
   ·simp [setF,Fo.fl,dep,sub,setF_id j t' n1,setF_id j t' n2]
  ·have e':x≠j:=fun g=>e g.symm
   by_cases hk:x∈k.ids
   ·have hxn:x∉n.ids:=n5 x hk
    obtain ⟨pre,post,s⟩:=spot x k (d+1) n3 hk
    have hd:dep x d (.nd j u k n)=dep x (d+1) k:=by rw [dep,if_neg e,if_pos hk]
    have ht:txtF x (.nd j u k n)=txtF x k:=by rw [txtF,if_neg e,if_pos hk]
    have hs:sub x (.nd j u k n)=sub x k:=by rw [sub,if_neg e,if_pos hk]
    refine ⟨⟨(j:Int),(d:Int),u⟩::pre,post++n.fl d,?_,?_,?_,?_,?_,fun i t s'=>?_,fun i t s'=>?_,fun t'=>?_⟩
    ·rw [hd,ht,hs,Fo.fl,s.all];simp
    ·intro r hr
     rcases List.mem_cons.1 hr with rfl|hr
     ·show (j:Int)≠(x:Int);omega
     ·exact s.out r hr
    ·rw [hd]
     have hge:=s.ge
     rcases s.high with h|⟨r,rest,h,h2⟩
     ·rw [h,List.nil_append]
      rcases fl_head n d with h|⟨r,rest,h,h2⟩
      ·exact Or.inl h
      ·exact Or.inr ⟨r,rest,h,by omega⟩
     ·exact Or.inr ⟨r,rest++n.fl d,by rw [h];rfl,h2⟩
    ·rw [hd];have:=s.ge;omega
    ·rw [FP.del,if_neg e,Fo.fl,s.del,del_id x hxn];simp
    ·rw [hd,ht,hs,insFirst,if_neg e,Fo.fl,s.first,insFirst_id x i t s' hxn];simp
    ·rw [hd,ht,hs,insAfter,if_neg e,Fo.fl,s.after,insAfter_id x i t s' hxn];simp
    ·rw [hd,hs,setF,if_neg e,Fo.fl,s.text,setF_id x t' hxn];simp
   ·have hxn:x∈n.ids:=by rcases hx with g|g|g;exact absurd g e';exact absurd g hk;exact g
    obtain ⟨pre,post,s⟩:=spot x n d n4 hxn
    have hd:dep x d (.nd j u k n)=dep x d n:=by rw [dep,if_neg e,if_neg hk]
    have ht:txtF x (.nd j u k n)=txtF x n:=by rw [txtF,if_neg e,if_neg hk]
    have hs:sub x (.nd j u k n)=sub x n:=by rw [sub,if_neg e,if_neg hk]
    refine ⟨⟨(j:Int),(d:Int),u⟩::(k.fl (d+1)++pre),post,?_,?_,?_,?_,?_,fun i t s'=>?_,fun i t s'=>?_,fun t'=>?_⟩
    ·rw [hd,ht,hs,Fo.fl,s.all];simp
    ·intro r hr
     rcases List.mem_cons.1 hr with rfl|hr
     ·show (j:Int)≠(x:Int);omega
     ·rcases List.mem_append.1 hr with hr|hr
      ·obtain ⟨i,hi,e2⟩:=fl_ids k (d+1) hr
       rw [e2]
       intro e3
       exact hk ((show i=x by omega) ▸ hi)
      ·exact s.out r hr
    ·rw [hd];exact s.high
    ·rw [hd];exact s.ge
    ·rw [FP.del,if_neg e,Fo.fl,s.del,del_id x hk];simp
    ·rw [hd,ht,hs,insFirst,if_neg e,Fo.fl,s.first,insFirst_id x i t s' hk];simp
    ·rw [hd,ht,hs,insAfter,if_neg e,Fo.fl,s.after,insAfter_id x i t s' hk];simp
    ·rw [hd,hs,setF,if_neg e,Fo.fl,s.text,setF_id x t' hk];simp
theorem dep_par (x:Nat):∀ (G:Fo) (d up:Nat),G.ids.Nodup→x∈G.ids→(x∈G.tops∧dep x d G=d∧par x up G=up)∨(par x up G∈G.ids∧dep x d G=dep (par x up G) d G+1)
 | .nil,d,up,_,hx=>by simp [Fo.ids] at hx
 | .nd j u k n,d,up,hn,hx=>by
  obtain ⟨n1,n2,n3,n4,n5⟩:=nodup_nd hn
  simp only [Fo.ids,List.mem_cons,List.mem_append] at hx
  by_cases e:j=x
  ·left
   exact ⟨by simp [Fo.tops,e],by rw [dep,if_pos e],by rw [par,if_pos e]⟩
  ·by_cases hk:x∈k.ids
   ·right
    have hp:par x up (.nd j u k n)=par x j k:=by rw [par,if_neg e,if_pos hk]
    have hd:dep x d (.nd j u k n)=dep x (d+1) k:=by rw [dep,if_neg e,if_pos hk]
    rw [hp,hd]
    rcases dep_par x k (d+1) j n3 hk with ⟨_,h2,h3⟩|⟨h2,h3⟩
    ·rw [h3,h2]
     refine ⟨by simp [Fo.ids],?_⟩
     rw [dep,if_pos rfl]
    ·refine ⟨by simp [Fo.ids,h2],?_⟩
     rw [h3,dep,if_neg (fun (g:j=par x j k)=>n1 (by rw [g];exact h2)),if_pos h2]
   ·have hxn:x∈n.ids:=by rcases hx with g|g|g;exact absurd g.symm e;exact absurd g hk;exact g
    have hp:par x up (.nd j u k n)=par x up n:=by rw [par,if_neg e,if_neg hk]
    have hd:dep x d (.nd j u k n)=dep x d n:=by rw [dep,if_neg e,if_neg hk]
    rw [hp,hd]
    rcases dep_par x n d up n4 hxn with ⟨h1,h2,h3⟩|⟨h2,h3⟩
    ·exact Or.inl ⟨by simp [Fo.tops,h1],h2,h3⟩
    ·refine Or.inr ⟨by simp [Fo.ids,h2],?_⟩
     rw [h3,dep,if_neg (fun (g:j=par x up n)=>n2 (by rw [g];exact h2)),if_neg (fun g=>n5 _ g h2)]
theorem del_ids_sub (i:Nat):∀ {F:Fo} {y:Nat},y∈(del i F).ids→y∈F.ids
 | .nil,y,h=>h
 | .nd j t k n,y,h=>by
  rw [FP.del] at h
  split at h
  ·simp [Fo.ids,h]
  ·simp only [Fo.ids,List.mem_cons,List.mem_append] at h ⊢
   exact h.imp id (Or.imp (del_ids_sub i) (del_ids_sub i))
theorem par_del (i a:Nat):∀ (G:Fo) (up:Nat),G.ids.Nodup→a∈(del i G).ids→par a up (del i G)=par a up G
 | .nil,up,_,h=>rfl
 | .nd j u k n,up,hn,h=>by
  obtain ⟨n1,n2,n3,n4,n5⟩:=nodup_nd hn
  rw [FP.del] at h ⊢
  by_cases e:j=i
  ·rw [if_pos e] at h ⊢
   rw [par,if_neg (fun (g:j=a)=>n2 (by rw [g];exact h)),if_neg (fun g=>n5 a g h)]
  ·rw [if_neg e] at h ⊢
   simp only [Fo.ids,List.mem_cons,List.mem_append] at h
   rw [par,par]
   by_cases e2:j=a
   ·rw [if_pos e2,if_pos e2]
   ·rw [if_neg e2,if_neg e2]
    by_cases hk:a∈(FP.del i k).ids
    ·rw [if_pos hk,if_pos (del_ids_sub i hk)];exact par_del i a k j n3 hk
    ·have hn':a∈(FP.del i n).ids:=by rcases h with g|g|g;exact absurd g.symm e2;exact absurd g hk;exact g
     rw [if_neg hk,if_neg (fun g=>n5 a g (del_ids_sub i hn'))];exact par_del i a n up n4 hn'
theorem rep_ex:∀ (G:Fo) (up:Nat),G.ids.Nodup→(∀ x∈G.ids,x≠0)→∃ h,Rep h up G
 | .nil,up,_,_=>⟨fun _=>⟨ByteArray.empty,0,0,0⟩,trivial⟩
 | .nd j u k n,up,hn,h0=>by
  obtain ⟨n1,n2,n3,n4,n5⟩:=nodup_nd hn
  obtain ⟨hk,rk⟩:=rep_ex k j n3 fun x hx=>h0 x (by simp [Fo.ids,hx])
  obtain ⟨hm,rm⟩:=rep_ex n up n4 fun x hx=>h0 x (by simp [Fo.ids,hx])
  refine ⟨fun x=>if x=j then ⟨u,up,k.hd,n.hd⟩ else if x∈k.ids then hk x else hm x,h0 j (by simp [Fo.ids]),if_pos rfl,rk.ext fun x hx=>?_,rm.ext fun x hx=>?_⟩
  ·rw [if_neg (fun (e:x=j)=>n1 (e ▸ hx)),if_pos hx]
  ·rw [if_neg (fun (e:x=j)=>n2 (e ▸ hx)),if_neg (fun g=>n5 x g hx)]
theorem reptop_ex:∀ (G:Fo),G.ids.Nodup→(∀ x∈G.ids,x≠0)→∃ h,RepTop h G
 | .nil,_,_=>⟨fun _=>⟨ByteArray.empty,0,0,0⟩,trivial⟩
 | .nd j u k n,hn,h0=>by
  obtain ⟨n1,n2,n3,n4,n5⟩:=nodup_nd hn
  obtain ⟨hk,rk⟩:=rep_ex k j n3 fun x hx=>h0 x (by simp [Fo.ids,hx])
  obtain ⟨hm,rm⟩:=reptop_ex n n4 fun x hx=>h0 x (by simp [Fo.ids,hx])
  refine ⟨fun x=>if x=j then ⟨u,0,k.hd,0⟩ else if x∈k.ids then hk x else hm x,h0 j (by simp [Fo.ids]),if_pos rfl,rk.ext fun x hx=>?_,rm.ext fun x hx=>?_⟩
  ·rw [if_neg (fun (e:x=j)=>n1 (e ▸ hx)),if_pos hx]
  ·rw [if_neg (fun (e:x=j)=>n2 (e ▸ hx)),if_neg (fun g=>n5 x g hx)]
theorem kids_par {G:Fo} (hn:G.ids.Nodup) (h0:∀ x∈G.ids,x≠0) {u x:Nat} (hu:u∈G.ids):x∈(sub u G).tops↔x∈G.ids∧par x 0 G=u:=by
 obtain ⟨h,hr⟩:=reptop_ex G hn h0
 obtain ⟨r1,_⟩:=reptop_sub hr hn hu
 constructor
 ·intro hx
  have hxs:=tops_ids hx
  have hxG:=sub_ids u hxs
  refine ⟨hxG,?_⟩
  rw [←reptop_par hr hn hxG]
  rcases rep_at r1 (sub_nodup u hn) hxs with ⟨_,g⟩|⟨g,_⟩
  ·exact g
  ·exact absurd hx g
 ·rintro ⟨hxG,hp⟩
  have ht:=par_top h hr hn hxG (by rw [hp];exact h0 u hu)
  have:=(sibT_pv hr hn hxG ht).2
  rwa [reptop_par hr hn hxG,hp] at this
theorem mem_insFirst (p i:Nat) (t:ByteArray) (s:Fo) (y:Nat):∀ (F:Fo),y∈(insFirst p i t s F).ids↔y∈F.ids∨(p∈F.ids∧(y=i∨y∈s.ids))
 | .nil=>by simp [insFirst,Fo.ids]
 | .nd j u k n=>by
  rw [insFirst]
  have h1:=mem_insFirst p i t s y k
  have h2:=mem_insFirst p i t s y n
  by_cases e:j=p
  ·rw [if_pos e]
   simp only [Fo.ids,List.mem_cons,List.mem_append,e]
   grind
  ·rw [if_neg e]
   simp only [Fo.ids,List.mem_cons,List.mem_append,h1,h2]
   grind
theorem mem_insAfter (a i:Nat) (t:ByteArray) (s:Fo) (y:Nat):∀ (F:Fo),y∈(insAfter a i t s F).ids↔y∈F.ids∨(a∈F.ids∧(y=i∨y∈s.ids))
 | .nil=>by simp [insAfter,Fo.ids]
 | .nd j u k n=>by
  rw [insAfter]
  have h1:=mem_insAfter a i t s y k
  have h2:=mem_insAfter a i t s y n
  by_cases e:j=a
  ·rw [if_pos e]
   simp only [Fo.ids,List.mem_cons,List.mem_append,e]
   grind
  ·rw [if_neg e]
   simp only [Fo.ids,List.mem_cons,List.mem_append,h1,h2]
   grind
theorem del_insFirst (p i:Nat) (t:ByteArray) (s:Fo):∀ {F:Fo},i∉F.ids→del i (insFirst p i t s F)=F
 | .nil,_=>rfl
 | .nd j u k n,h=>by
  simp only [Fo.ids,List.mem_cons,List.mem_append,not_or] at h
  have hj:¬ j=i:=fun e=>h.1 e.symm
  rw [insFirst]
  by_cases e:j=p
  ·rw [if_pos e,del,if_neg hj,del,if_pos rfl,del_id i h.2.2]
  ·rw [if_neg e,del,if_neg hj,del_insFirst p i t s h.2.1,del_insFirst p i t s h.2.2]
theorem del_insAfter (a i:Nat) (t:ByteArray) (s:Fo):∀ {F:Fo},i∉F.ids→del i (insAfter a i t s F)=F
 | .nil,_=>rfl
 | .nd j u k n,h=>by
  simp only [Fo.ids,List.mem_cons,List.mem_append,not_or] at h
  have hj:¬ j=i:=fun e=>h.1 e.symm
  rw [insAfter]
  by_cases e:j=a
  ·rw [if_pos e,del,if_neg hj,del,if_pos rfl,del_id i h.2.1]
  ·rw [if_neg e,del,if_neg hj,del_insAfter a i t s h.2.1,del_insAfter a i t s h.2.2]
theorem sub_insFirst_new (p i:Nat) (t:ByteArray) (s:Fo):∀ {F:Fo},i∉F.ids→p∈F.ids→sub i (insFirst p i t s F)=s
 | .nil,_,h=>by simp [Fo.ids] at h
 | .nd j u k n,h,hp=>by
  simp only [Fo.ids,List.mem_cons,List.mem_append,not_or] at h hp
  have hj:¬ j=i:=fun e=>h.1 e.symm
  rw [insFirst]
  by_cases e:j=p
  ·rw [if_pos e,sub,if_neg hj,if_pos (by simp [Fo.ids]),sub,if_pos rfl]
  ·rw [if_neg e,sub,if_neg hj]
   by_cases hk:p∈k.ids
   ·rw [if_pos ((mem_insFirst p i t s i k).2 (Or.inr ⟨hk,Or.inl rfl⟩)),sub_insFirst_new p i t s h.2.1 hk]
   ·rw [if_neg (by rw [mem_insFirst];grind),sub_insFirst_new p i t s h.2.2 (by grind)]
theorem sub_insAfter_new (a i:Nat) (t:ByteArray) (s:Fo):∀ {F:Fo},i∉F.ids→a∈F.ids→sub i (insAfter a i t s F)=s
 | .nil,_,h=>by simp [Fo.ids] at h
 | .nd j u k n,h,hp=>by
  simp only [Fo.ids,List.mem_cons,List.mem_append,not_or] at h hp
  have hj:¬ j=i:=fun e=>h.1 e.symm
  rw [insAfter]
  by_cases e:j=a
  ·rw [if_pos e,sub,if_neg hj,if_neg h.2.1,sub,if_pos rfl]
  ·rw [if_neg e,sub,if_neg hj]
   by_cases hk:a∈k.ids
   ·rw [if_pos ((mem_insAfter a i t s i k).2 (Or.inr ⟨hk,Or.inl rfl⟩)),sub_insAfter_new a i t s h.2.1 hk]
   ·rw [if_neg (by rw [mem_insAfter];grind),sub_insAfter_new a i t s h.2.2 (by grind)]
theorem txt_insFirst_new (p i:Nat) (t:ByteArray) (s:Fo):∀ {F:Fo},i∉F.ids→p∈F.ids→txtF i (insFirst p i t s F)=t
 | .nil,_,h=>by simp [Fo.ids] at h
 | .nd j u k n,h,hp=>by
  simp only [Fo.ids,List.mem_cons,List.mem_append,not_or] at h hp
  have hj:¬ j=i:=fun e=>h.1 e.symm
  rw [insFirst]
  by_cases e:j=p
  ·rw [if_pos e,txtF,if_neg hj,if_pos (by simp [Fo.ids]),txtF,if_pos rfl]
  ·rw [if_neg e,txtF,if_neg hj]
   by_cases hk:p∈k.ids
   ·rw [if_pos ((mem_insFirst p i t s i k).2 (Or.inr ⟨hk,Or.inl rfl⟩)),txt_insFirst_new p i t s h.2.1 hk]
   ·rw [if_neg (by rw [mem_insFirst];grind),txt_insFirst_new p i t s h.2.2 (by grind)]
theorem txt_insAfter_new (a i:Nat) (t:ByteArray) (s:Fo):∀ {F:Fo},i∉F.ids→a∈F.ids→txtF i (insAfter a i t s F)=t
 | .nil,_,h=>by simp [Fo.ids] at h
 | .nd j u k n,h,hp=>by
  simp only [Fo.ids,List.mem_cons,List.mem_append,not_or] at h hp
  have hj:¬ j=i:=fun e=>h.1 e.symm
  rw [insAfter]
  by_cases e:j=a
  ·rw [if_pos e,txtF,if_neg hj,if_neg h.2.1,txtF,if_pos rfl]
  ·rw [if_neg e,txtF,if_neg hj]
   by_cases hk:a∈k.ids
   ·rw [if_pos ((mem_insAfter a i t s i k).2 (Or.inr ⟨hk,Or.inl rfl⟩)),txt_insAfter_new a i t s h.2.1 hk]
   ·rw [if_neg (by rw [mem_insAfter];grind),txt_insAfter_new a i t s h.2.2 (by grind)]
theorem par_insFirst_new (p i:Nat) (t:ByteArray) (s:Fo):∀ {F:Fo} (up:Nat),i∉F.ids→p∈F.ids→par i up (insFirst p i t s F)=p
 | .nil,_,_,h=>by simp [Fo.ids] at h
 | .nd j u k n,up,h,hp=>by
  simp only [Fo.ids,List.mem_cons,List.mem_append,not_or] at h hp
  have hj:¬ j=i:=fun e=>h.1 e.symm
  rw [insFirst]
  by_cases e:j=p
  ·rw [if_pos e,par,if_neg hj,if_pos (by simp [Fo.ids]),par,if_pos rfl,e]
  ·rw [if_neg e,par,if_neg hj]
   by_cases hk:p∈k.ids
   ·rw [if_pos ((mem_insFirst p i t s i k).2 (Or.inr ⟨hk,Or.inl rfl⟩)),par_insFirst_new p i t s j h.2.1 hk]
   ·rw [if_neg (by rw [mem_insFirst];grind),par_insFirst_new p i t s up h.2.2 (by grind)]
theorem par_insAfter_new (a i:Nat) (t:ByteArray) (s:Fo):∀ {F:Fo} (up:Nat),i∉F.ids→a∈F.ids→par i up (insAfter a i t s F)=par a up F
 | .nil,_,_,h=>by simp [Fo.ids] at h
 | .nd j u k n,up,h,hp=>by
  simp only [Fo.ids,List.mem_cons,List.mem_append,not_or] at h hp
  have hj:¬ j=i:=fun e=>h.1 e.symm
  rw [insAfter]
  by_cases e:j=a
  ·rw [if_pos e,par,if_neg hj,if_neg h.2.1,par,if_pos rfl,par,if_pos e]
  ·rw [if_neg e,par,if_neg hj,par,if_neg e]
   by_cases hk:a∈k.ids
   ·rw [if_pos ((mem_insAfter a i t s i k).2 (Or.inr ⟨hk,Or.inl rfl⟩)),if_pos hk,par_insAfter_new a i t s j h.2.1 hk]
   ·rw [if_neg (by rw [mem_insAfter];grind),if_neg hk,par_insAfter_new a i t s up h.2.2 (by grind)]
theorem par_insFirst_in (p i:Nat) (t:ByteArray) (s:Fo) {x:Nat} (hx:x∈s.ids) (hxi:x≠i):∀ {F:Fo} (up:Nat),x∉F.ids→p∈F.ids→par x up (insFirst p i t s F)=par x i s
 | .nil,_,_,h=>by simp [Fo.ids] at h
 | .nd j u k n,up,h,hp=>by
  simp only [Fo.ids,List.mem_cons,List.mem_append,not_or] at h hp
  have hj:¬ j=x:=fun e=>h.1 e.symm
  rw [insFirst]
  by_cases e:j=p
  ·rw [if_pos e,par,if_neg hj,if_pos (by simp [Fo.ids,hx]),par,if_neg (fun e=>hxi e.symm),if_pos hx]
  ·rw [if_neg e,par,if_neg hj]
   by_cases hk:p∈k.ids
   ·rw [if_pos ((mem_insFirst p i t s x k).2 (Or.inr ⟨hk,Or.inr hx⟩)),par_insFirst_in p i t s hx hxi j h.2.1 hk]
   ·rw [if_neg (by rw [mem_insFirst];grind),par_insFirst_in p i t s hx hxi up h.2.2 (by grind)]
theorem par_insAfter_in (a i:Nat) (t:ByteArray) (s:Fo) {x:Nat} (hx:x∈s.ids) (hxi:x≠i):∀ {F:Fo} (up:Nat),x∉F.ids→a∈F.ids→par x up (insAfter a i t s F)=par x i s
 | .nil,_,_,h=>by simp [Fo.ids] at h
 | .nd j u k n,up,h,hp=>by
  simp only [Fo.ids,List.mem_cons,List.mem_append,not_or] at h hp
  have hj:¬ j=x:=fun e=>h.1 e.symm
  rw [insAfter]
  by_cases e:j=a
  ·rw [if_pos e,par,if_neg hj,if_neg h.2.1,par,if_neg (fun e=>hxi e.symm),if_pos hx]
  ·rw [if_neg e,par,if_neg hj]
   by_cases hk:a∈k.ids
   ·rw [if_pos ((mem_insAfter a i t s x k).2 (Or.inr ⟨hk,Or.inr hx⟩)),par_insAfter_in a i t s hx hxi j h.2.1 hk]
   ·rw [if_neg (by rw [mem_insAfter];grind),par_insAfter_in a i t s hx hxi up h.2.2 (by grind)]
theorem txt_insFirst_in (p i:Nat) (t:ByteArray) (s:Fo) {x:Nat} (hx:x∈s.ids) (hxi:x≠i):∀ {F:Fo},x∉F.ids→p∈F.ids→txtF x (insFirst p i t s F)=txtF x s
 | .nil,_,h=>by simp [Fo.ids] at h
 | .nd j u k n,h,hp=>by
  simp only [Fo.ids,List.mem_cons,List.mem_append,not_or] at h hp
  have hj:¬ j=x:=fun e=>h.1 e.symm
  rw [insFirst]
  by_cases e:j=p
  ·rw [if_pos e,txtF,if_neg hj,if_pos (by simp [Fo.ids,hx]),txtF,if_neg (fun e=>hxi e.symm),if_pos hx]
  ·rw [if_neg e,txtF,if_neg hj]
   by_cases hk:p∈k.ids
   ·rw [if_pos ((mem_insFirst p i t s x k).2 (Or.inr ⟨hk,Or.inr hx⟩)),txt_insFirst_in p i t s hx hxi h.2.1 hk]
   ·rw [if_neg (by rw [mem_insFirst];grind),txt_insFirst_in p i t s hx hxi h.2.2 (by grind)]
theorem txt_insAfter_in (a i:Nat) (t:ByteArray) (s:Fo) {x:Nat} (hx:x∈s.ids) (hxi:x≠i):∀ {F:Fo},x∉F.ids→a∈F.ids→txtF x (insAfter a i t s F)=txtF x s
 | .nil,_,h=>by simp [Fo.ids] at h
 | .nd j u k n,h,hp=>by
  simp only [Fo.ids,List.mem_cons,List.mem_append,not_or] at h hp
  have hj:¬ j=x:=fun e=>h.1 e.symm
  rw [insAfter]
  by_cases e:j=a
  ·rw [if_pos e,txtF,if_neg hj,if_neg h.2.1,txtF,if_neg (fun e=>hxi e.symm),if_pos hx]
  ·rw [if_neg e,txtF,if_neg hj]
   by_cases hk:a∈k.ids
   ·rw [if_pos ((mem_insAfter a i t s x k).2 (Or.inr ⟨hk,Or.inr hx⟩)),txt_insAfter_in a i t s hx hxi h.2.1 hk]
   ·rw [if_neg (by rw [mem_insAfter];grind),txt_insAfter_in a i t s hx hxi h.2.2 (by grind)]
theorem par_insFirst_old (p i:Nat) (t:ByteArray) (s:Fo) {x:Nat} (hx:x∉s.ids) (hxi:x≠i):∀ (F:Fo) (up:Nat),par x up (insFirst p i t s F)=par x up F
 | .nil,_=>rfl
 | .nd j u k n,up=>by
  have m1:x∈(insFirst p i t s k).ids↔x∈k.ids:=by rw [mem_insFirst];grind
  have m2:x∈(Fo.nd i t s k).ids↔x∈k.ids:=by simp only [Fo.ids,List.mem_cons,List.mem_append];grind
  rw [insFirst]
  by_cases e:j=p
  ·rw [if_pos e]
   simp only [par,m2,if_neg (fun e:i=x=>hxi e.symm),if_neg hx]
  ·rw [if_neg e]
   simp only [par,m1,par_insFirst_old p i t s hx hxi k,par_insFirst_old p i t s hx hxi n]
theorem par_insAfter_old (a i:Nat) (t:ByteArray) (s:Fo) {x:Nat} (hx:x∉s.ids) (hxi:x≠i):∀ (F:Fo) (up:Nat),par x up (insAfter a i t s F)=par x up F
 | .nil,_=>rfl
 | .nd j u k n,up=>by
  have m1:x∈(insAfter a i t s k).ids↔x∈k.ids:=by rw [mem_insAfter];grind
  rw [insAfter]
  by_cases e:j=a
  ·rw [if_pos e]
   simp only [par,if_neg (fun e:i=x=>hxi e.symm),if_neg hx]
  ·rw [if_neg e]
   simp only [par,m1,par_insAfter_old a i t s hx hxi k,par_insAfter_old a i t s hx hxi n]
theorem txt_insFirst_old (p i:Nat) (t:ByteArray) (s:Fo) {x:Nat} (hx:x∉s.ids) (hxi:x≠i):∀ (F:Fo),txtF x (insFirst p i t s F)=txtF x F
 | .nil=>rfl
 | .nd j u k n=>by
  have m1:x∈(insFirst p i t s k).ids↔x∈k.ids:=by rw [mem_insFirst];grind
  have m2:x∈(Fo.nd i t s k).ids↔x∈k.ids:=by simp only [Fo.ids,List.mem_cons,List.mem_append];grind
  rw [insFirst]
  by_cases e:j=p
  ·rw [if_pos e]
   simp only [txtF,m2,if_neg (fun e:i=x=>hxi e.symm),if_neg hx]
  ·rw [if_neg e]
   simp only [txtF,m1,txt_insFirst_old p i t s hx hxi k,txt_insFirst_old p i t s hx hxi n]
theorem txt_insAfter_old (a i:Nat) (t:ByteArray) (s:Fo) {x:Nat} (hx:x∉s.ids) (hxi:x≠i):∀ (F:Fo),txtF x (insAfter a i t s F)=txtF x F
 | .nil=>rfl
 | .nd j u k n=>by
  have m1:x∈(insAfter a i t s k).ids↔x∈k.ids:=by rw [mem_insAfter];grind
  rw [insAfter]
  by_cases e:j=a
  ·rw [if_pos e]
   simp only [txtF,if_neg (fun e:i=x=>hxi e.symm),if_neg hx]
  ·rw [if_neg e]
   simp only [txtF,m1,txt_insAfter_old a i t s hx hxi k,txt_insAfter_old a i t s hx hxi n]
theorem txt_del (i a:Nat):∀ (G:Fo),G.ids.Nodup→a∈(del i G).ids→txtF a (del i G)=txtF a G
 | .nil,_,h=>rfl
 | .nd j u k n,hn,h=>by
  obtain ⟨n1,n2,n3,n4,n5⟩:=nodup_nd hn
  rw [FP.del] at h ⊢
  by_cases e:j=i
  ·rw [if_pos e] at h ⊢
   rw [txtF,if_neg (fun (g:j=a)=>n2 (by rw [g];exact h)),if_neg (fun g=>n5 a g h)]
  ·rw [if_neg e] at h ⊢
   simp only [Fo.ids,List.mem_cons,List.mem_append] at h
   rw [txtF,txtF]
   by_cases e2:j=a
   ·rw [if_pos e2,if_pos e2]
   ·rw [if_neg e2,if_neg e2]
    by_cases hk:a∈(FP.del i k).ids
    ·rw [if_pos hk,if_pos (del_ids_sub i hk)];exact txt_del i a k n3 hk
    ·have hn':a∈(FP.del i n).ids:=by rcases h with g|g|g;exact absurd g.symm e2;exact absurd g hk;exact g
     rw [if_neg hk,if_neg (fun g=>n5 a g (del_ids_sub i hn'))];exact txt_del i a n n4 hn'
theorem par_sub (i a:Nat):∀ (G:Fo) (up:Nat),G.ids.Nodup→a∈(sub i G).ids→par a up G=par a i (sub i G)
 | .nil,up,_,h=>by simp [sub,Fo.ids] at h
 | .nd j u k n,up,hn,h=>by
  obtain ⟨n1,n2,n3,n4,n5⟩:=nodup_nd hn
  rw [sub] at h ⊢
  by_cases e:j=i
  ·rw [if_pos e] at h ⊢
   rw [par,if_neg (fun (g:j=a)=>n1 (by rw [g];exact h)),if_pos h,e]
  ·rw [if_neg e] at h ⊢
   by_cases hk:i∈k.ids
   ·rw [if_pos hk] at h ⊢
    have ha:=sub_ids i h
    rw [par,if_neg (fun (g:j=a)=>n1 (by rw [g];exact ha)),if_pos ha]
    exact par_sub i a k j n3 h
   ·rw [if_neg hk] at h ⊢
    have ha:=sub_ids i h
    rw [par,if_neg (fun (g:j=a)=>n2 (by rw [g];exact ha)),if_neg (fun g=>n5 a g ha)]
    exact par_sub i a n up n4 h
theorem txt_sub (i a:Nat):∀ (G:Fo),G.ids.Nodup→a∈(sub i G).ids→txtF a G=txtF a (sub i G)
 | .nil,_,h=>by simp [sub,Fo.ids] at h
 | .nd j u k n,hn,h=>by
  obtain ⟨n1,n2,n3,n4,n5⟩:=nodup_nd hn
  rw [sub] at h ⊢
  by_cases e:j=i
  ·rw [if_pos e] at h ⊢
   rw [txtF,if_neg (fun (g:j=a)=>n1 (by rw [g];exact h)),if_pos h]
  ·rw [if_neg e] at h ⊢
   by_cases hk:i∈k.ids
   ·rw [if_pos hk] at h ⊢
    have ha:=sub_ids i h
    rw [txtF,if_neg (fun (g:j=a)=>n1 (by rw [g];exact ha)),if_pos ha]
    exact txt_sub i a k n3 h
   ·rw [if_neg hk] at h ⊢
    have ha:=sub_ids i h
    rw [txtF,if_neg (fun (g:j=a)=>n2 (by rw [g];exact ha)),if_neg (fun g=>n5 a g ha)]
    exact txt_sub i a n n4 h
theorem set_txt_ne (x:Nat) (t':ByteArray) {i:Nat} (h:i≠x):∀ (F:Fo),txtF i (setF x t' F)=txtF i F
 | .nil=>rfl
 | .nd j u k n=>by
  rw [setF,txtF,txtF,setF_ids,set_txt_ne x t' h k,set_txt_ne x t' h n]
  by_cases e:j=i
  ·rw [if_pos e,if_pos e,if_neg (fun g=>h (e ▸ g))]
  ·rw [if_neg e,if_neg e]
theorem set_txt_eq (x:Nat) (t':ByteArray):∀ {F:Fo},x∈F.ids→txtF x (setF x t' F)=t'
 | .nil,h=>by simp [Fo.ids] at h
 | .nd j u k n,h=>by
  simp only [Fo.ids,List.mem_cons,List.mem_append] at h
  rw [setF,txtF,setF_ids]
  by_cases e:j=x
  ·rw [if_pos e,if_pos e]
  ·rw [if_neg e]
   by_cases hk:x∈k.ids
   ·rw [if_pos hk];exact set_txt_eq x t' hk
   ·rw [if_neg hk];exact set_txt_eq x t' (by grind)
theorem set_set (x:Nat) (t t':ByteArray):∀ (F:Fo),setF x t' (setF x t F)=setF x t' F
 | .nil=>rfl
 | .nd j u k n=>by
  simp only [setF,set_set x t t' k,set_set x t t' n]
  congr 1
  split <;> rfl
theorem set_same (x:Nat):∀ (F:Fo),F.ids.Nodup→setF x (txtF x F) F=F
 | .nil,_=>rfl
 | .nd j u k n,hn=>by
  obtain ⟨n1,n2,n3,n4,n5⟩:=nodup_nd hn
  rw [setF,txtF]
  by_cases e:j=x
  ·subst e
   rw [if_pos rfl,if_pos rfl,setF_id j u n1,setF_id j u n2]
  ·rw [if_neg e,if_neg e]
   by_cases hk:x∈k.ids
   ·rw [if_pos hk,set_same x k n3,setF_id x _ (n5 x hk)]
   ·rw [if_neg hk,setF_id x _ hk,set_same x n n4]
structure PutOk (H:Fo) (q:Nat×Nat) (i:Nat) (s:Fo):Prop where
 nd:H.ids.Nodup
 snd:s.ids.Nodup
 iH:i∉H.ids
 is:i∉s.ids
 dis:∀ x∈s.ids,x∉H.ids
 up:q.1∈H.ids
 at_:q.2=0∨(q.2∈H.ids∧par q.2 0 H=q.1)
section
variable {H:Fo} {q:Nat×Nat} {i:Nat} {s:Fo} {t:ByteArray}
theorem PutOk.del (o:PutOk H q i s):del i (putF H q i t s)=H:=by
 unfold putF
 split
 ·exact del_insFirst _ _ _ _ o.iH
 ·exact del_insAfter _ _ _ _ o.iH
theorem PutOk.sub (o:PutOk H q i s):sub i (putF H q i t s)=s:=by
 unfold putF
 split
 ·exact sub_insFirst_new _ _ _ _ o.iH o.up
 ·rename_i h;exact sub_insAfter_new _ _ _ _ o.iH (o.at_.resolve_left h).1
theorem PutOk.txt (o:PutOk H q i s):txtF i (putF H q i t s)=t:=by
 unfold putF
 split
 ·exact txt_insFirst_new _ _ _ _ o.iH o.up
 ·rename_i h;exact txt_insAfter_new _ _ _ _ o.iH (o.at_.resolve_left h).1
theorem PutOk.par (o:PutOk H q i s):par i 0 (putF H q i t s)=q.1:=by
 unfold putF
 split
 ·exact par_insFirst_new _ _ _ _ _ o.iH o.up
 ·rename_i h
  rw [par_insAfter_new _ _ _ _ _ o.iH (o.at_.resolve_left h).1];exact (o.at_.resolve_left h).2
theorem PutOk.mem (o:PutOk H q i s) (y:Nat):y∈(putF H q i t s).ids↔y=i∨y∈s.ids∨y∈H.ids:=by
 unfold putF
 split
 ·rw [mem_insFirst];have:=o.up;grind
 ·rename_i h;rw [mem_insAfter];have:=(o.at_.resolve_left h).1;grind
theorem PutOk.perm (o:PutOk H q i s):(putF H q i t s).ids.Perm (i::(s.ids++H.ids)):=putF_ids o.nd o.up (o.at_.imp id And.left)
theorem PutOk.nodup (o:PutOk H q i s):(putF H q i t s).ids.Nodup:=by
 refine o.perm.nodup_iff.2 (List.nodup_cons.2 ⟨?_,List.nodup_append.2 ⟨o.snd,o.nd,fun a ha b hb e=>o.dis a ha (e ▸ hb)⟩⟩)
 rw [List.mem_append]
 exact fun h=>h.elim o.is o.iH
theorem PutOk.ne {x:Nat} (o:PutOk H q i s) (hx:x∈H.ids):x≠i∧x∉s.ids:=⟨fun e=>o.iH (e ▸ hx),fun g=>o.dis x g hx⟩
theorem PutOk.par_old (o:PutOk H q i s) {x:Nat} (hx:x∈H.ids):FP.par x 0 (putF H q i t s)=FP.par x 0 H:=by
 obtain ⟨h1,h2⟩:=o.ne hx
 unfold putF
 split
 ·exact par_insFirst_old _ _ _ _ h2 h1 _ _
 ·exact par_insAfter_old _ _ _ _ h2 h1 _ _
theorem PutOk.txt_old (o:PutOk H q i s) {x:Nat} (hx:x∈H.ids):txtF x (putF H q i t s)=txtF x H:=by
 obtain ⟨h1,h2⟩:=o.ne hx
 unfold putF
 split
 ·exact txt_insFirst_old _ _ _ _ h2 h1 _
 ·exact txt_insAfter_old _ _ _ _ h2 h1 _
theorem PutOk.par_in (o:PutOk H q i s) {x:Nat} (hx:x∈s.ids):FP.par x 0 (putF H q i t s)=FP.par x i s:=by
 have h1:x≠i:=fun e=>o.is (e ▸ hx)
 unfold putF
 split
 ·exact par_insFirst_in _ _ _ _ hx h1 _ (o.dis x hx) o.up
 ·rename_i h;exact par_insAfter_in _ _ _ _ hx h1 _ (o.dis x hx) (o.at_.resolve_left h).1
theorem PutOk.txt_in (o:PutOk H q i s) {x:Nat} (hx:x∈s.ids):txtF x (putF H q i t s)=txtF x s:=by
 have h1:x≠i:=fun e=>o.is (e ▸ hx)
 unfold putF
 split
 ·exact txt_insFirst_in _ _ _ _ hx h1 (o.dis x hx) o.up
 ·rename_i h;exact txt_insAfter_in _ _ _ _ hx h1 (o.dis x hx) (o.at_.resolve_left h).1
end
theorem fnd_congr {G G':Fo} (h:∀ y,y∈G'.ids↔y∈G.ids) (x:Int):fndF G' x=fndF G x:=by
 unfold fndF;simp only [h]
theorem mem_del {i y:Nat} {G:Fo} (hn:G.ids.Nodup) (hi:i∈G.ids):y∈(del i G).ids↔y∈G.ids∧y≠i∧y∉(sub i G).ids:=by
 have hp:=ids_del i G hn hi
 obtain ⟨m1,m2⟩:=List.nodup_cons.1 (hp.nodup_iff.1 hn)
 have m3:=(List.nodup_append.1 m2).2.2
 have m4:=hp.mem_iff (a:=y)
 simp only [List.mem_cons,List.mem_append] at m4 m1
 constructor
 ·intro h
  exact ⟨m4.2 (Or.inr (Or.inr h)),fun e=>m1 (Or.inr (e ▸ h)),fun g=>m3 y g y h rfl⟩
 ·rintro ⟨h1,h2,h3⟩
  rcases m4.1 h1 with g|g|g
  ·exact absurd g h2
  ·exact absurd g h3
  ·exact g
structure MvOk (G:Fo) (i:Nat) (q:Nat×Nat):Prop where
 nd:G.ids.Nodup
 mem:i∈G.ids
 put:PutOk (del i G) q i (sub i G)
def mvF (G:Fo) (q:Nat×Nat) (i:Nat):Fo:=putF (del i G) q i (txtF i G) (sub i G)
section
variable {G:Fo} {i:Nat} {q:Nat×Nat}
theorem MvOk.ids (o:MvOk G i q) (y:Nat):y∈(mvF G q i).ids↔y∈G.ids:=by
 unfold mvF
 rw [o.put.mem,mem_del o.nd o.mem]
 have:=o.mem
 have h2:y∈(sub i G).ids→y∈G.ids:=sub_ids i
 grind
theorem MvOk.perm (o:MvOk G i q):(mvF G q i).ids.Perm G.ids:=by
 unfold mvF
 exact o.put.perm.trans (ids_del i G o.nd o.mem).symm
theorem MvOk.nodup (o:MvOk G i q):(mvF G q i).ids.Nodup:=o.put.nodup
theorem MvOk.par_ne (o:MvOk G i q) {x:Nat} (hx:x∈G.ids) (hne:x≠i):par x 0 (mvF G q i)=par x 0 G:=by
 unfold mvF
 by_cases hs:x∈(sub i G).ids
 ·rw [o.put.par_in hs,par_sub i x G 0 o.nd hs]
 ·have hd:=(mem_del o.nd o.mem).2 ⟨hx,hne,hs⟩
  rw [o.put.par_old hd,par_del i x G 0 o.nd hd]
theorem MvOk.txt (o:MvOk G i q) {x:Nat} (hx:x∈G.ids):txtF x (mvF G q i)=txtF x G:=by
 unfold mvF
 by_cases hne:x=i
 ·subst hne;exact o.put.txt
 ·by_cases hs:x∈(sub i G).ids
  ·rw [o.put.txt_in hs,txt_sub i x G o.nd hs]
  ·have hd:=(mem_del o.nd o.mem).2 ⟨hx,hne,hs⟩
   rw [o.put.txt_old hd,txt_del i x G o.nd hd]
theorem MvOk.sub_self (o:MvOk G i q):sub i (mvF G q i)=sub i G:=o.put.sub
theorem MvOk.del (o:MvOk G i q):del i (mvF G q i)=del i G:=o.put.del
theorem MvOk.again (o:MvOk G i q) (q':Nat×Nat):mvF (mvF G q i) q' i=mvF G q' i:=by
 have h1:=o.del
 have h2:=o.txt o.mem
 have h3:=o.sub_self
 unfold mvF at h1 h2 h3 ⊢
 rw [h1,h2,h3]
theorem MvOk.under (o:MvOk G i q) (x:Nat):under i x (mvF G q i)↔under i x G:=by
 unfold FP.under
 rw [o.sub_self,o.ids]
theorem MvOk.fnd (o:MvOk G i q) (x:Int):fndF (mvF G q i) x=fndF G x:=fnd_congr o.ids x
theorem MvOk.near (o:MvOk G i q) (up at_:Int):nearF (mvF G q i) (i:Int) up at_=nearF G (i:Int) up at_:=by
 unfold nearF
 rw [o.fnd,o.fnd]
 by_cases h1:fndF G up=0
 ·rw [if_pos h1,if_pos h1]
 ·rw [if_neg h1,if_neg h1]
  by_cases h2:fndF G at_=0
  ·rw [if_pos h2,if_pos h2]
  ·rw [if_neg h2,if_neg h2]
   by_cases h3:at_=(i:Int)
   ·simp only [h3,if_true,ite_self]
   ·obtain ⟨m1,m2⟩:=fndF_mem h2
    rw [o.par_ne m1 (fun e=>h3 (by rw [←m2,e]))]
end
theorem move_ok {G:Fo} (hn:G.ids.Nodup) (h0:∀ x∈G.ids,x≠0) (h3:3∈G.tops) {i:Nat} (hi:i∈G.ids) (hit:i∉G.tops) {up at_:Int} (hw:¬ under i (fndF G up) G):MvOk G i (nearF G (i:Int) up at_):=by
 obtain ⟨h,hr⟩:=reptop_ex G hn h0
 have hp:=near_del hr hn h3 hi hit (id:=(i:Int)) (up:=up) (at_:=at_) rfl hw
 have hperm:=ids_del i G hn hi
 obtain ⟨m1,m2⟩:=List.nodup_cons.1 (hperm.nodup_iff.1 hn)
 obtain ⟨m3,m4,m5⟩:=List.nodup_append.1 m2
 rw [List.mem_append,not_or] at m1
 refine ⟨hn,hi,⟨m4,m3,m1.2,m1.1,fun x hx g=>m5 x hx x g rfl,hp.1,hp.2.imp id fun ⟨a1,a2,_⟩=>⟨a1,?_⟩⟩⟩
 rw [par_del i _ G 0 hn a1,←reptop_par hr hn (del_ids_sub i a1)];exact a2
theorem make_ok {G:Fo} (hn:G.ids.Nodup) (h3:3∈G.tops) {i:Nat} (hi:i∉G.ids) {up at_:Int}:PutOk G (nearF G (i:Int) up at_) i .nil:=by
 have hp:=near_ok (G:=G) (tops_ids h3) (i:Int) up at_
 exact ⟨hn,by simp [Fo.ids],hi,by simp [Fo.ids],by simp [Fo.ids],hp.up,hp.at_.imp id fun ⟨a1,a2,_⟩=>⟨a1,a2⟩⟩
inductive Does (G:Fo) (kd:Int) (i:Nat) (up at_:Int) (s:ByteArray):Fo→Prop
 | text (h:kd=2) (hi:i∈G.ids):Does G kd i up at_ s (setF i s G)
 | make (h:kd=1) (hi:i∉G.ids) (o:PutOk G (nearF G (i:Int) up at_) i .nil):Does G kd i up at_ s (putF G (nearF G (i:Int) up at_) i s .nil)
 | move (h:kd=3) (hi:i∈G.ids) (hw:¬ under i (fndF G up) G) (o:MvOk G i (nearF G (i:Int) up at_)):Does G kd i up at_ s (mvF G (nearF G (i:Int) up at_) i)
 | none (h:(kd=2∧i∉G.ids)∨(kd=1∧i∈G.ids)∨(kd=3∧i∉G.ids)∨(kd=3∧i∈G.ids∧under i (fndF G up) G)):Does G kd i up at_ s G
theorem fnd_nat {G:Fo} {y:Nat} (hy:y∈G.ids):fndF G (y:Int)=y:=by unfold fndF;rw [if_pos ⟨by omega,by simpa using hy⟩];rfl
theorem fnd_not {G:Fo} {y:Nat} (hy:y∉G.ids):fndF G (y:Int)=0:=by unfold fndF;rw [if_neg (by simpa using hy)]
theorem does {G:Fo} (hn:G.ids.Nodup) (h0:∀ x∈G.ids,x≠0) (h3:3∈G.tops) (kd:Int) (i:Nat) (hit:i∉G.tops) (up at_:Int) (s:ByteArray) (hk:kd=1∨kd=2∨kd=3):Does G kd i up at_ s (doF G kd (i:Int) up at_ s):=by
 unfold doF
 by_cases hi:i∈G.ids
 ·have hi0:=h0 i hi
  rw [fnd_nat hi,if_neg hi0,if_neg hi0,if_neg hi0]
  rcases hk with rfl|rfl|rfl
  ·rw [if_neg (by decide),if_pos rfl];exact .none (Or.inr (Or.inl ⟨rfl,hi⟩))
  ·rw [if_pos rfl];exact .text rfl hi
  ·rw [if_neg (by decide),if_neg (by decide)]
   by_cases hu:under i (fndF G up) G
   ·rw [if_pos hu];exact .none (Or.inr (Or.inr (Or.inr ⟨rfl,hi,hu⟩)))
   ·rw [if_neg hu];exact .move rfl hi hu (move_ok hn h0 h3 hi hit hu)
 ·rw [fnd_not hi,if_pos rfl,if_pos rfl,if_pos rfl]
  rcases hk with rfl|rfl|rfl
  ·rw [if_neg (by decide),if_pos rfl];exact .make rfl hi (make_ok hn h3 hi)
  ·rw [if_pos rfl];exact .none (Or.inl ⟨rfl,hi⟩)
  ·rw [if_neg (by decide),if_neg (by decide)];exact .none (Or.inr (Or.inr (Or.inl ⟨rfl,hi⟩)))
theorem near_first {G:Fo} {id up at_:Int} {u:Nat} (h1:fndF G up=u) (h2:u≠0) (h3:fndF G at_=0):nearF G id up at_=(u,0):=by
 unfold nearF;rw [h1,if_neg h2,h3,if_pos rfl]
theorem doF_text {G:Fo} {i:Nat} (hi:i∈G.ids) (h0:i≠0) (u a:Int) (s:ByteArray):doF G 2 (i:Int) u a s=setF i s G:=by
 unfold doF;rw [if_pos rfl,fnd_nat hi,if_neg h0]
theorem doF_text_not {G:Fo} {i:Nat} (hi:i∉G.ids) (u a:Int) (s:ByteArray):doF G 2 (i:Int) u a s=G:=by
 unfold doF;rw [if_pos rfl,fnd_not hi,if_pos rfl]
theorem doF_move {G:Fo} {i:Nat} (hi:i∈G.ids) (h0:i≠0) (u a:Int) (s:ByteArray) (hw:¬ under i (fndF G u) G):doF G 3 (i:Int) u a s=mvF G (nearF G (i:Int) u a) i:=by
 unfold doF mvF;rw [if_neg (by decide),if_neg (by decide),fnd_nat hi,if_neg h0,if_neg hw]
theorem doF_loop {G:Fo} {i:Nat} (u a:Int) (s:ByteArray) (hw:i∈G.ids→under i (fndF G u) G):doF G 3 (i:Int) u a s=G:=by
 unfold doF
 rw [if_neg (by decide),if_neg (by decide)]
 by_cases hi:i∈G.ids
 ·rw [fnd_nat hi]
  split
  ·rfl
  ·rw [if_pos (hw hi)]
 ·rw [fnd_not hi,if_pos rfl]
theorem doF_make {G:Fo} {i:Nat} (hi:i∉G.ids) (u a:Int) (s:ByteArray):doF G 1 (i:Int) u a s=putF G (nearF G (i:Int) u a) i s .nil:=by
 unfold doF;rw [if_neg (by decide),if_pos rfl,fnd_not hi,if_pos rfl];rfl
theorem doF_make_not {G:Fo} {i:Nat} (hi:i∈G.ids) (h0:i≠0) (u a:Int) (s:ByteArray):doF G 1 (i:Int) u a s=G:=by
 unfold doF;rw [if_neg (by decide),if_pos rfl,fnd_nat hi,if_neg h0]
section
variable {G:Fo} (hn:G.ids.Nodup) (h0:∀ x∈G.ids,x≠0) (h3:3∈G.tops) {kd:Int} {i:Nat} (hi0:i≠0) (hit:i∉G.tops) {up at_:Int} {s:ByteArray} (hk:kd=1∨kd=2∨kd=3)
end
theorem par_top0 {G:Fo} {x:Nat}:∀ {F:Fo},F.ids.Nodup→x∈F.tops→par x 0 F=0
 | .nil,_,h=>by simp [Fo.tops] at h
 | .nd j u k n,hn,h=>by
  obtain ⟨n1,n2,n3,n4,n5⟩:=nodup_nd hn
  simp only [Fo.tops,List.mem_cons] at h
  rw [par]
  by_cases e:j=x
  ·rw [if_pos e]
  ·have hx:x∈n.tops:=by grind
   rw [if_neg e,if_neg (fun g=>n5 x g (tops_ids hx)),par_top0 (G:=G) n4 hx]
theorem sub_tops {G:Fo} (hn:G.ids.Nodup) (h0:∀ x∈G.ids,x≠0) {i x:Nat} (hi:i∈G.ids) (hx:x∈(sub i G).ids):x∉G.tops:=by
 obtain ⟨h,hr⟩:=reptop_ex G hn h0
 intro ht
 have h1:=par_top0 (G:=G) hn ht
 rw [par_sub i x G 0 hn hx] at h1
 obtain ⟨r1,_⟩:=reptop_sub hr hn hi
 have h2:=rep_par r1 (sub_nodup i hn) hx
 rcases rep_up r1 (sub_nodup i hn) hx with g|g
 ·rw [h2,h1] at g;exact h0 i hi g.symm
 ·rw [h2,h1] at g;exact h0 0 (sub_ids i g) rfl
theorem tops_not_under {G:Fo} (hn:G.ids.Nodup) (h0:∀ x∈G.ids,x≠0) {i x:Nat} (hit:i∉G.tops) (hx:x∈G.tops):¬ under i x G:=by
 rintro ⟨hi,rfl|hs⟩
 ·exact hit hx
 ·exact sub_tops hn h0 hi hs hx
theorem near_at_top {G:Fo} (hn:G.ids.Nodup) (h0:∀ x∈G.ids,x≠0) {H:Fo} {q:Nat×Nat} {i:Nat} {s:Fo} (o:PutOk H q i s) (hH:∀ x∈H.ids,x≠0):q.2=0∨q.2∉H.tops:=by
 refine o.at_.imp id fun ⟨h1,h2⟩ ht=>?_
 have:=par_top0 (G:=G) o.nd ht
 rw [h2] at this
 exact hH _ o.up this
theorem do_tops {G:Fo} (hn:G.ids.Nodup) (h0:∀ x∈G.ids,x≠0) {kd:Int} {i:Nat} (hi0:i≠0) (hit:i∉G.tops) {up at_:Int} {s:ByteArray} {G':Fo} (hd:Does G kd i up at_ s G'):G'.tops=G.tops∧G'.ids.Nodup∧(∀ x,x∈G'.ids↔x∈G.ids∨(kd=1∧x=i)):=by
 cases hd with
 | text h hi=>exact ⟨setF_tops _ _ _,by rw [setF_ids];exact hn,fun x=>by rw [setF_ids,h];simp⟩
 | make h hi o =>
  refine ⟨putF_tops (near_at_top hn h0 o h0),o.nodup,fun x=>?_⟩
  rw [o.mem];simp [Fo.ids,h,or_comm]
 | move h hi hw o =>
  refine ⟨?_,o.nodup,fun x=>by rw [o.ids,h];simp⟩
  unfold mvF
  rw [putF_tops (near_at_top hn h0 o.put fun x hx=>h0 x (del_ids_sub i hx)),tops_del i G hit]
 | none h=>exact ⟨rfl,hn,fun x=>⟨Or.inl,fun g=>g.elim id fun ⟨g1,g2⟩=>by rcases h with h|h|h|h <;> first|omega|exact g2 ▸ h.2⟩⟩
end Go.Proofs.YtlkheeegkifblaaDoor.FP
namespace Go.Proofs.YtlkheeegkifblaaDoor.PL
open Go.RowKit Go.Proofs.YtlkheeegkifblaaDoor.P Go.Proofs.YtlkheeegkifblaaDoorW.PrintWords Go.Proofs.YtlkheeegkifblaaDoorW.PrintLast
def Bytes (b:List Int):Prop:=b.length≤2000∧∀ x∈b,0≤x∧x≤255
def Rd (p:Int) (m:Nat):Prop:=0≤p∧p+m≤1000000
theorem Rd.less {p:Int} {m n:Nat} (h:Rd p m) (hn:n≤m):Rd p n:=⟨h.1,by have:=h.2;omega⟩
theorem wrap_id (x:Int) (h0:-9223372036854775808≤x) (h1:x≤9223372036854775807):wrap64 x=x:=by unfold wrap64;omega
theorem wraps_i64 (n:Int) (h0:0≤n) (h1:n < 2 ^ 62):IntKind.i64.wrap n=n:=by rw [IntKind.wrap_i64];omega
theorem xor_pos (a b:Int) (ha:0≤a) (hb:0≤b) (ha':a < 4611686018427387904) (hb':b < 4611686018427387904):0≤Go.bits .xor .i64 a b:=by
 obtain ⟨m,rfl⟩:∃ m:Nat,a=m:=⟨a.toNat,by omega⟩
 obtain ⟨n,rfl⟩:∃ n:Nat,b=n:=⟨b.toNat,by omega⟩
 have hm:m < 2 ^ 62:=by omega
 have hn:n < 2 ^ 62:=by omega
 have e1:m % 2 ^ 64=m:=Nat.mod_eq_of_lt (by omega)
 have e2:n % 2 ^ 64=n:=Nat.mod_eq_of_lt (by omega)
 have hx:m ^^^ n < 2 ^ 62:=Nat.xor_lt_two_pow hm hn
 have hq:(BitVec.ofNat 64 m ^^^ BitVec.ofNat 64 n).toNat=m ^^^ n:=by rw [BitVec.toNat_xor,BitVec.toNat_ofNat,BitVec.toNat_ofNat,e1,e2]
 have h2:Go.bits .xor .i64 (m:Int) (n:Int)=IntKind.i64.wrap (((BitVec.ofNat 64 m ^^^ BitVec.ofNat 64 n).toNat:Nat):Int):=by simp only [Go.bits,BitVec.ofInt_natCast];rfl
 rw [h2,hq,wraps_i64 _ (by omega) (by omega)]
 omega
theorem rd_byte {b:List Int} (hb:Bytes b) (i:Int):0≤rd b i∧rd b i≤255:=by
 unfold rd
 rw [List.getD_eq_getElem?_getD]
 rcases Nat.lt_or_ge i.toNat b.length with h|h
 ·rw [List.getElem?_eq_getElem h]
  exact hb.2 _ (List.getElem_mem h)
 ·rw [List.getElem?_eq_none h]
  simp
theorem tmod_range (x n:Int) (hx:0≤x) (hn:1≤n):0≤Int.tmod x n∧Int.tmod x n < n:=by
 rw [Int.tmod_eq_emod_of_nonneg hx]
 exact ⟨Int.emod_nonneg _ (by omega),Int.emod_lt_of_pos _ (by omega)⟩
theorem pick_f (b:List Int) (p n:Int) (m:Nat) (hb:Bytes b) (hp:Rd p (m+1)):∃ r:Int,Ev (fun k=>spec_l6Rd_pick.f k b p n) (r,p+1)∧Rd (p+1) m∧0≤r∧(1≤n→r < n)∧(n < 1→r=0):=by
 obtain ⟨h0,h1⟩:=hp
 have hR:Rd (p+1) m:=⟨by omega,by omega⟩
 have w1:wrap64 (p+1)=p+1:=wrap_id _ (by omega) (by omega)
 have w2:wrap64 (p+1 - 1)=p:=by rw [wrap_id (p+1 - 1) (by omega) (by omega)];omega
 unfold spec_l6Rd_pick.f
 rw [w1]
 by_cases hn:n < 1
 ·refine ⟨0,ev_pos hn ?_,hR,Int.le_refl _,fun h=>by omega,fun _=>rfl⟩
  refine Ev.step (f:=fun _=>some (0,p+1)) (fun k=>?_) (evnow _)
  simp only [spec_l6Rd_pick.j0,if_true]
 ·by_cases hl:b.length=0
  ·refine ⟨0,ev_neg hn ?_,hR,Int.le_refl _,fun h=>by omega,fun _=>rfl⟩
   refine Ev.step (f:=fun _=>some (0,p+1)) (fun k=>?_) (evnow _)
   have:((b.length:Int)==0)=true:=by simp [hl]
   simp only [spec_l6Rd_pick.j0,this,if_true]
  ·have hf:((b.length:Int)==0)=false:=beq_eq_false_iff_ne.2 (by omega)
   by_cases hk:p < (b.length:Int)
   ·have hx:=rd_byte hb p
    have hr:=tmod_range (wrap64 (rd b p)) n (by rw [wrap_id (rd b p) (by omega) (by omega)];omega) (by omega)
    refine ⟨Int.tmod (wrap64 (rd b p)) n,ev_neg hn ?_,hR,hr.1,fun _=>hr.2,fun h=>absurd h hn⟩
    refine Ev.step (f:=fun _=>some (Int.tmod (wrap64 (rd b p)) n,p+1)) (fun k=>?_) (evnow _)
    simp only [spec_l6Rd_pick.j0,hf,Bool.false_eq_true,if_false,w2]
    rw [if_pos hk,if_pos h0,if_neg (show ¬ n=0 by omega)]
   ·have hlen:(1:Int)≤b.length:=by omega
    have m1:=tmod_range p b.length h0 hlen
    have e7:wrap64 (p * 7)=p * 7:=wrap_id _ (by omega) (by omega)
    have e73:wrap64 (p * 7+3)=p * 7+3:=wrap_id _ (by omega) (by omega)
    have m2:=tmod_range (p * 7+3) b.length (by omega) hlen
    have x1:=rd_byte hb (Int.tmod p b.length)
    have x2:=rd_byte hb (Int.tmod (p * 7+3) b.length)
    have d1:0≤Int.tdiv p b.length∧Int.tdiv p b.length≤1000000:=by
     rw [Int.tdiv_eq_ediv_of_nonneg h0]
     exact ⟨Int.ediv_nonneg h0 (by omega),Int.le_trans (Int.ediv_le_self _ h0) (by omega)⟩
    obtain ⟨r,hr⟩:∃ r,r=Int.tmod (Go.bits .xor .i64 (wrap64 ((wrap64 ((wrap64 ((wrap64 ((wrap64 (rd b (Int.tmod p (b.length:Int)))) * 131))+(wrap64 ((wrap64 (rd b (Int.tmod (p * 7+3) (b.length:Int)))) * 1117))))+(wrap64 (p * 29))))+(wrap64 ((wrap64 (Int.tdiv p (b.length:Int))) * 53)))) (wrap64 (Int.tdiv (wrap64 ((wrap64 ((wrap64 ((wrap64 ((wrap64 (rd b (Int.tmod p (b.length:Int)))) * 131))+(wrap64 ((wrap64 (rd b (Int.tmod (p * 7+3) (b.length:Int)))) * 1117))))+(wrap64 (p * 29))))+(wrap64 ((wrap64 (Int.tdiv p (b.length:Int))) * 53)))) 64))) n:=⟨_,rfl⟩
    have hrr:0≤r∧r < n:=by
     rw [hr]
     refine tmod_range _ n ?_ (by omega)
     generalize rd b (Int.tmod p (b.length:Int))=u at x1
     generalize rd b (Int.tmod (p * 7+3) (b.length:Int))=v at x2
     generalize Int.tdiv p (b.length:Int)=d at d1
     rw [wrap_id u (by omega) (by omega),wrap_id v (by omega) (by omega),wrap_id d (by omega) (by omega)]
     rw [wrap_id (u * 131) (by omega) (by omega),wrap_id (v * 1117) (by omega) (by omega),wrap_id (p * 29) (by omega) (by omega),wrap_id (d * 53) (by omega) (by omega)]
     rw [wrap_id (u * 131+v * 1117) (by omega) (by omega)]
     rw [wrap_id (u * 131+v * 1117+p * 29) (by omega) (by omega)]
     rw [wrap_id (u * 131+v * 1117+p * 29+d * 53) (by omega) (by omega)]
     have hs:Int.tdiv (u * 131+v * 1117+p * 29+d * 53) 64=(u * 131+v * 1117+p * 29+d * 53) / 64:=Int.tdiv_eq_ediv_of_nonneg (by omega)
     rw [hs,wrap_id _ (by omega) (by omega)]
     exact xor_pos _ _ (by omega) (by omega) (by omega) (by omega)
    refine ⟨r,ev_neg hn ?_,hR,hrr.1,fun _=>hrr.2,fun h=>absurd h hn⟩
    refine Ev.step (f:=fun _=>some (r,p+1)) (fun k=>?_) (evnow _)
    simp only [spec_l6Rd_pick.j0,hf,Bool.false_eq_true,if_false,w2,e7,e73]
    rw [if_neg hk,if_neg (show ¬ (b.length:Int)=0 by omega),if_pos m1.1,if_pos m1.2,if_pos m2.1,if_pos m2.2,if_neg (show ¬ n=0 by omega),hr]
theorem rdR_get (t:List S37) (i:Nat) (h:i < t.length):rd_T37 t i=t[i]:=by
 unfold rd_T37
 rw [List.getD_eq_getElem?_getD,show ((i:Int)).toNat=i from rfl,List.getElem?_eq_getElem h]
 rfl
def atFrom (id:Int):List S37→Nat→Int
 | [],_=>-1
 | r::rest,i=>if r.f0=id then (i:Int) else atFrom id rest (i+1)
def atI (t:List S37) (id:Int):Int:=atFrom id t 0
theorem at_l0 (t:List S37) (id:Int) (hl:t.length≤1099511627776):∀ (n i:Nat),i+n=t.length→Ev (fun k=>spec_l2At.l0 k t id i) (atFrom id (t.drop i) i)
 | 0,i,h=>by
  rw [List.drop_eq_nil_of_le (by omega)]
  refine Ev.step (f:=fun _=>some (-1)) (fun k=>?_) (evnow _)
  simp only [spec_l2At.l0];rw [if_neg (by omega)]
 | n+1,i,h=>by
  have hi:i < t.length:=by omega
  rw [List.drop_eq_getElem_cons hi]
  unfold atFrom
  by_cases hq:t[i].f0=id
  ·rw [if_pos hq]
   refine Ev.step (f:=fun _=>some (i:Int)) (fun k=>?_) (evnow _)
   simp only [spec_l2At.l0]
   rw [if_pos (by omega),if_pos (by omega),rdR_get t i hi,if_pos hq]
  ·rw [if_neg hq]
   refine Ev.step (fun k=>?_) (at_l0 t id hl n (i+1) (by omega))
   simp only [spec_l2At.l0]
   rw [if_pos (by omega),if_pos (by omega),rdR_get t i hi,if_neg hq,wrapS i (by omega) (by omega)]
   rfl
theorem at_f (t:List S37) (id:Int) (hl:t.length≤1099511627776):Ev (fun k=>spec_l2At.f k t id) (atI t id):=at_l0 t id hl t.length 0 (by omega)
theorem atFrom_spec (id:Int):∀ (t:List S37) (i:Nat),(atFrom id t i=-1∧∀ x∈t,x.f0≠id)∨∃ (j:Nat) (h:j < t.length),atFrom id t i=((i+j:Nat):Int)∧t[j].f0=id
 | [],i=>Or.inl ⟨rfl,fun x hx=>by cases hx⟩
 | r::rest,i=>by
  unfold atFrom
  by_cases hq:r.f0=id
  ·rw [if_pos hq]
   exact Or.inr ⟨0,by simp,by simp,hq⟩
  ·rw [if_neg hq]
   rcases atFrom_spec id rest (i+1) with ⟨h1,h2⟩|⟨j,h,h1,h2⟩
   ·refine Or.inl ⟨h1,fun x hx=>?_⟩
    rcases List.mem_cons.1 hx with rfl|hx
    ·exact hq
    ·exact h2 x hx
   ·exact Or.inr ⟨j+1,by simp;omega,by rw [h1];congr 1;omega,by simpa using h2⟩
theorem atI_spec (t:List S37) (id:Int):(atI t id=-1∧∀ x∈t,x.f0≠id)∨∃ (j:Nat) (h:j < t.length),atI t id=(j:Int)∧t[j].f0=id:=by
 rcases atFrom_spec id t 0 with h|⟨j,h,h1,h2⟩
 ·exact Or.inl h
 ·exact Or.inr ⟨j,h,by rw [atI,h1];congr 1;omega,h2⟩
theorem atI_mem {t:List S37} {id:Int} {x:S37} (hx:x∈t) (h:x.f0=id):∃ (j:Nat) (hj:j < t.length),atI t id=(j:Int)∧t[j].f0=id:=by
 rcases atI_spec t id with ⟨_,h2⟩|h2
 ·exact absurd h (h2 x hx)
 ·exact h2
def endFrom (d:Int):List S37→Nat→Nat
 | [],e=>e
 | r::rest,e=>if r.f1 > d then endFrom d rest (e+1) else e
def endI (t:List S37) (i:Nat):Nat:=endFrom (t.getD i z37).f1 (t.drop (i+1)) (i+1)
theorem getD_get (t:List S37) (i:Nat) (h:i < t.length):t.getD i z37=t[i]:=by
 rw [List.getD_eq_getElem?_getD,List.getElem?_eq_getElem h]
 rfl
theorem end_l0 (t:List S37) (a:Nat) (ha:a < t.length) (hl:t.length≤1099511627776):∀ (n i:Nat),i+n=t.length→Ev (fun k=>spec_l2End.l0 k t a i) (endFrom t[a].f1 (t.drop i) i:Int)
 | 0,i,h=>by
  rw [List.drop_eq_nil_of_le (by omega)]
  refine Ev.step (f:=fun _=>some (i:Int)) (fun k=>?_) (evnow _)
  simp only [spec_l2End.l0];rw [if_neg (by omega)]
 | n+1,i,h=>by
  have hi:i < t.length:=by omega
  rw [List.drop_eq_getElem_cons hi]
  unfold endFrom
  by_cases hq:t[i].f1 > t[a].f1
  ·rw [if_pos hq]
   refine Ev.step (fun k=>?_) (end_l0 t a ha hl n (i+1) (by omega))
   simp only [spec_l2End.l0]
   rw [if_pos (by omega),if_pos (by omega),if_pos (by omega),if_pos (by omega),rdR_get t i hi,rdR_get t a ha,if_pos hq,wrapS i (by omega) (by omega)]
   rfl
  ·rw [if_neg hq]
   refine Ev.step (f:=fun _=>some (i:Int)) (fun k=>?_) (evnow _)
   simp only [spec_l2End.l0]
   rw [if_pos (by omega),if_pos (by omega),if_pos (by omega),if_pos (by omega),rdR_get t i hi,rdR_get t a ha,if_neg hq]
theorem end_f (t:List S37) (a:Nat) (ha:a < t.length) (hl:t.length≤1099511627776):Ev (fun k=>spec_l2End.f k t a) (endI t a:Int):=by
 have:=end_l0 t a ha hl (t.length - (a+1)) (a+1) (by omega)
 unfold endI
 rw [getD_get t a ha]
 refine Ev.congr (fun k=>?_) this
 unfold spec_l2End.f
 rw [wrapS a (by omega) (by omega)]
 rfl
theorem endFrom_spec (d:Int):∀ (t:List S37) (e:Nat),e≤endFrom d t e∧endFrom d t e≤e+t.length∧(∀ (j:Nat) (hj:j < t.length),e+j < endFrom d t e→d < t[j].f1)∧(∀ (hj:endFrom d t e - e < t.length),t[endFrom d t e - e].f1≤d)
 | [],e=>⟨Nat.le_refl _,by simp [endFrom],fun j hj=>by simp at hj,fun hj=>by simp at hj⟩
 | r::rest,e=>by
  by_cases hq:r.f1 > d
  ·have he:endFrom d (r::rest) e=endFrom d rest (e+1):=if_pos hq
   obtain ⟨h1,h2,h3,h4⟩:=endFrom_spec d rest (e+1)
   refine ⟨by rw [he];omega,by rw [he];simp;omega,fun j hj hlt=>?_,fun hj=>?_⟩
   ·rw [he] at hlt
    cases j with
    | zero=>exact hq
    | succ j=>exact h3 j (by simpa using hj) (by omega)
   ·have e1:endFrom d (r::rest) e - e=(endFrom d rest (e+1) - (e+1))+1:=by rw [he];omega
    have hj':endFrom d rest (e+1) - (e+1) < rest.length:=by rw [e1] at hj;simpa using hj
    have:=h4 hj'
    simp only [e1,List.getElem_cons_succ]
    exact this
  ·have he:endFrom d (r::rest) e=e:=if_neg hq
   refine ⟨by rw [he];exact Nat.le_refl _,by rw [he];omega,fun j hj hlt=>by rw [he] at hlt;omega,fun hj=>?_⟩
   have e1:endFrom d (r::rest) e - e=0:=by rw [he];omega
   simp only [e1,List.getElem_cons_zero]
   omega
theorem endI_spec (t:List S37) (a:Nat) (ha:a < t.length):a < endI t a∧endI t a≤t.length∧(∀ (j:Nat) (hj:j < t.length),a < j→j < endI t a→t[a].f1 < t[j].f1)∧(∀ (hj:endI t a < t.length),t[endI t a].f1≤t[a].f1):=by
 unfold endI
 rw [getD_get t a ha]
 obtain ⟨h1,h2,h3,h4⟩:=endFrom_spec t[a].f1 (t.drop (a+1)) (a+1)
 rw [List.length_drop] at h2
 refine ⟨by omega,by omega,fun j hj h5 h6=>?_,fun hj=>?_⟩
 ·have:=h3 (j - (a+1)) (by rw [List.length_drop];omega) (by omega)
  rw [List.getElem_drop] at this
  simpa [show a+1+(j - (a+1))=j by omega] using this
 ·have:=h4 (by rw [List.length_drop];omega)
  rw [List.getElem_drop] at this
  simpa [show a+1+(endFrom t[a].f1 (t.drop (a+1)) (a+1) - (a+1))=endFrom t[a].f1 (t.drop (a+1)) (a+1) by omega] using this
def KidOf (t:List S37) (a i:Nat) (x:Int):Prop:=∃ (ha:a < t.length) (j:Nat) (hj:j < t.length),i≤j∧j < endI t a∧t[j].f0=x∧t[j].f1=wrap64 (t[a].f1+1)
theorem kids_l0 (t:List S37) (a:Nat) (ha:a < t.length) (hl:t.length≤1099511627776):∀ (n i:Nat) (acc:List Int),i+n=endI t a→acc.length+n≤1099511627776 →
  ∃ r:List Int,Ev (fun k=>spec_l2Kids.l0 k t acc a i) (acc++r)∧r.length≤n∧∀ x∈r,KidOf t a i x
 | 0,i,acc,h,hacc=>by
  refine ⟨[],?_,by simp,fun x hx=>by cases hx⟩
  rw [List.append_nil]
  refine Ev.step (fun k=>by simp only [spec_l2Kids.l0];rfl) ?_
  refine Ev.bind (end_f t a ha hl) ?_
  refine ev_neg (by omega) ?_
  exact evnow _
 | n+1,i,acc,h,hacc=>by
  obtain ⟨e1,e2,_,_⟩:=endI_spec t a ha
  have hi:i < t.length:=by omega
  by_cases hq:t[i].f1=wrap64 (t[a].f1+1)
  ·obtain ⟨r,hr,hlen,hk⟩:=kids_l0 t a ha hl n (i+1) (acc++[t[i].f0]) (by omega) (by simp;omega)
   refine ⟨t[i].f0::r,?_,by simp;omega,fun x hx=>?_⟩
   ·rw [List.append_assoc] at hr
    refine Ev.step (fun k=>by simp only [spec_l2Kids.l0];rfl) ?_
    refine Ev.bind (end_f t a ha hl) ?_
    refine ev_pos (by omega) (ev_pos (by omega) (ev_pos (by omega) (ev_pos (by omega) (ev_pos (by omega) ?_))))
    rw [rdR_get t i hi,rdR_get t a ha,wrapS i (by omega) (by omega)]
    refine ev_pos hq (ev_pos (by omega) ?_)
    exact hr
   ·rcases List.mem_cons.1 hx with rfl|hx
    ·exact ⟨ha,i,hi,Nat.le_refl _,by omega,rfl,hq⟩
    ·obtain ⟨h1,j,hj,h2,h3,h4,h5⟩:=hk x hx
     exact ⟨h1,j,hj,by omega,h3,h4,h5⟩
  ·obtain ⟨r,hr,hlen,hk⟩:=kids_l0 t a ha hl n (i+1) acc (by omega) (by omega)
   refine ⟨r,?_,by omega,fun x hx=>?_⟩
   ·refine Ev.step (fun k=>by simp only [spec_l2Kids.l0];rfl) ?_
    refine Ev.bind (end_f t a ha hl) ?_
    refine ev_pos (by omega) (ev_pos (by omega) (ev_pos (by omega) (ev_pos (by omega) (ev_pos (by omega) ?_))))
    rw [rdR_get t i hi,rdR_get t a ha,wrapS i (by omega) (by omega)]
    refine ev_neg hq ?_
    exact hr
   ·obtain ⟨h1,j,hj,h2,h3,h4,h5⟩:=hk x hx
    exact ⟨h1,j,hj,by omega,h3,h4,h5⟩
theorem kids_f (t:List S37) (id:Int) (hl:t.length≤1000000):∃ r:List Int,Ev (fun k=>spec_l2Kids.f k t id) r∧r.length≤t.length∧∀ x∈r,∃ a:Nat,atI t id=(a:Int)∧KidOf t a (a+1) x:=by
 unfold spec_l2Kids.f
 simp only [Option.bind_some]
 rcases atI_spec t id with ⟨h1,_⟩|⟨a,ha,h1,_⟩
 ·refine ⟨[],?_,by simp,fun x hx=>by cases hx⟩
  refine Ev.bind (at_f t id (by omega)) ?_
  rw [h1]
  exact ev_pos (by omega) (evnow _)
 ·obtain ⟨e1,e2,_,_⟩:=endI_spec t a ha
  obtain ⟨r,hr,hlen,hk⟩:=kids_l0 t a ha (by omega) (endI t a - (a+1)) (a+1) [] (by omega) (by simp;omega)
  refine ⟨r,?_,by omega,fun x hx=>⟨a,h1,hk x hx⟩⟩
  refine Ev.bind (at_f t id (by omega)) ?_
  rw [h1]
  refine ev_neg (by omega) ?_
  rw [wrapS a (by omega) (by omega)]
  exact hr
def shift (d:Int) (r:S37):S37:=⟨r.f0,wrap64 (r.f1+d),r.f2⟩
theorem put_l0 (t rows:List S37) (d:Int) (p:Nat) (hp:p≤t.length) (hl:t.length≤1000000) (hr:rows.length≤1000000):∀ (n i:Nat) (acc:List S37),i+n=rows.length→acc.length+n≤3000000 →
  Ev (fun k=>spec_l3Put.l0 k t rows d p acc i) (acc++(rows.drop i).map (shift d)++t.drop p)
 | 0,i,acc,h,ha=>by
  rw [List.drop_eq_nil_of_le (show rows.length≤i by omega),List.map_nil,List.append_nil]
  refine Ev.step (fun k=>by simp only [spec_l3Put.l0];rfl) ?_
  refine ev_neg (by omega) (ev_pos (by omega) (ev_pos (by omega) ?_))
  simp only [Option.bind_some]
  refine ev_pos (by rw [List.length_drop];omega) ?_
  exact evnow _
 | n+1,i,acc,h,ha=>by
  have hi:i < rows.length:=by omega
  rw [List.drop_eq_getElem_cons hi,List.map_cons]
  have ih:=put_l0 t rows d p hp hl hr n (i+1) (acc++[shift d rows[i]]) (by omega) (by simp;omega)
  rw [List.append_assoc acc] at ih
  refine Ev.step (fun k=>by simp only [spec_l3Put.l0];rfl) ?_
  refine ev_pos (by omega) (ev_pos (by omega) (ev_pos (by omega) ?_))
  rw [rdR_get rows i hi,wrapS i (by omega) (by omega)]
  exact ih
theorem put_f (t rows:List S37) (u a:Int) (hl:t.length≤1000000) (hr:rows.length≤1000000) (h0:0 < rows.length) (hu:∃ x∈t,x.f0=u) (ha:a > 0→∃ x∈t,x.f0=a) :
  ∃ (y:S37) (p:Nat),y∈t∧y.f0=u∧p≤t.length∧Ev (fun k=>spec_l3Put.f k t rows u a) (t.take p++rows.map (shift (wrap64 (wrap64 (y.f1+1) - rows[0].f1)))++t.drop p):=by
 obtain ⟨x,hx,hxu⟩:=hu
 obtain ⟨j,hj,e1,e2⟩:=atI_mem hx hxu
 have fin:∀ (p:Nat),p≤t.length→Ev (fun k=>spec_l3Put.j0 k t rows (wrap64 (wrap64 (t[j].f1+1) - rows[0].f1)) p) (t.take p++rows.map (shift (wrap64 (wrap64 (t[j].f1+1) - rows[0].f1)))++t.drop p):=fun p hp=>by
  refine Ev.step (fun k=>by simp only [spec_l3Put.j0];rfl) ?_
  simp only [Option.bind_some]
  refine ev_pos (by omega) (ev_pos (by omega) ?_)
  refine ev_pos (by simp;omega) ?_
  simp only [List.nil_append,Int.toNat_natCast]
  have:=put_l0 t rows (wrap64 (wrap64 (t[j].f1+1) - rows[0].f1)) p hp hl hr rows.length 0 (t.take p) (by omega) (by rw [List.length_take];omega)
  simpa using this
 have r0:rd_T37 rows 0=rows[0]:=rdR_get rows 0 h0
 by_cases h:a > 0
 ·obtain ⟨x2,hx2,hxa⟩:=ha h
  obtain ⟨i,hi,e3,e4⟩:=atI_mem hx2 hxa
  obtain ⟨_,e5,_,_⟩:=endI_spec t i hi
  refine ⟨t[j],endI t i,List.getElem_mem hj,e2,e5,?_⟩
  unfold spec_l3Put.f
  refine Ev.bind (at_f t u (by omega)) ?_
  rw [e1]
  refine ev_pos (by omega) (ev_pos (by omega) (ev_pos (by omega) (ev_pos h ?_)))
  refine Ev.bind (at_f t a (by omega)) ?_
  rw [e3]
  refine Ev.bind (end_f t i hi (by omega)) ?_
  rw [rdR_get t j hj,r0]
  exact fin _ e5
 ·refine ⟨t[j],j+1,List.getElem_mem hj,e2,by omega,?_⟩
  unfold spec_l3Put.f
  refine Ev.bind (at_f t u (by omega)) ?_
  rw [e1]
  refine ev_pos (by omega) (ev_pos (by omega) (ev_pos (by omega) (ev_neg h ?_)))
  rw [rdR_get t j hj,r0,wrapS j (by omega) (by omega)]
  exact fin (j+1) (by omega)
theorem under_f (t:List S37) (u id:Int) (k:Nat) (hk:k < t.length) (hi:atI t id=(k:Int)) (hl:t.length≤1000000) :
  Ev (fun n=>spec_l2Under.f n t u id) (decide (0≤atI t u)&&(decide ((k:Int)≤atI t u)&&decide (atI t u≤(endI t k:Int) - 1))):=by
 obtain ⟨e1,e2,_,_⟩:=endI_spec t k hk
 unfold spec_l2Under.f
 refine Ev.bind (at_f t u (by omega)) ?_
 refine Ev.bind (at_f t id (by omega)) ?_
 rw [hi]
 by_cases h:atI t u≥0
 ·refine ev_pos h (ev_pos (by omega) ?_)
  refine Ev.bind (end_f t k hk (by omega)) ?_
  have hw:wrap64 ((endI t k:Int) - 1)=(endI t k:Int) - 1:=by unfold wrap64;omega
  rw [hw,in_f,dt_ (show 0≤atI t u from h),Bool.true_and]
  simp only [Option.bind_some]
  exact evnow _
 ·rw [df_ (show ¬ 0≤atI t u from h),Bool.false_and]
  exact ev_neg h (evnow _)
theorem where_l0 (u:Int) (ks:List Int) (kd id up at_:Int) (s:ByteArray) (hl:ks.length≤1000000):∀ (n i:Nat) (a:Int),i+n=ks.length→(a > 0→a∈ks∧a≠id)→∃ a':Int,Ev (fun k=>spec_l3Where.l0 k u a ks i kd id up at_ s) (u,a',true)∧(a' > 0→a'∈ks∧a'≠id)
 | 0,i,a,h,ha=>⟨a,by
   refine Ev.step (fun k=>by simp only [spec_l3Where.l0];rfl) ?_
   exact ev_neg (by omega) (evnow _),ha⟩
 | n+1,i,a,h,ha=>by
  have hi:i < ks.length:=by omega
  have hrd:rd ks i=ks[i]:=by
   unfold rd
   rw [List.getD_eq_getElem?_getD,show ((i:Int)).toNat=i from rfl,List.getElem?_eq_getElem hi]
   rfl
  by_cases hq:ks[i]=at_∧at_≠id
  ·obtain ⟨a',h1,h2⟩:=where_l0 u ks kd id up at_ s hl n (i+1) at_ (by omega) (fun _=>⟨hq.1 ▸ List.getElem_mem hi,hq.2⟩)
   refine ⟨a',?_,h2⟩
   refine Ev.step (fun k=>by simp only [spec_l3Where.l0];rfl) ?_
   rw [hrd,wrapS i (by omega) (by omega)]
   exact ev_pos (by omega) (ev_pos (by omega) (ev_pos hq.1 (ev_neg hq.2 h1)))
  ·obtain ⟨a',h1,h2⟩:=where_l0 u ks kd id up at_ s hl n (i+1) a (by omega) ha
   refine ⟨a',?_,h2⟩
   refine Ev.step (fun k=>by simp only [spec_l3Where.l0];rfl) ?_
   rw [hrd,wrapS i (by omega) (by omega)]
   refine ev_pos (by omega) (ev_pos (by omega) ?_)
   by_cases h3:ks[i]=at_
   ·refine ev_pos h3 (ev_pos ?_ h1)
    by_cases h4:at_=id
    ·exact h4
    ·exact absurd ⟨h3,h4⟩ hq
   ·exact ev_neg h3 h1
structure Inv (t:List S37) (B:Int):Prop where
 deep:∀ x∈t,0≤x.f1∧x.f1≤B
 root:∀ x∈t,x.f0=3→x.f1=0
 found:∃ x∈t,x.f0=3
 ids:∀ x∈t,I64 x.f0∧x.f2.size≤2000
def Fits (t:List S37) (kd id:Int) (u a:Int):Prop :=
 kd≠2∧(kd≠3→atI t id=-1)∧(kd=3→∃ k:Nat,k < t.length∧atI t id=(k:Int)) ∧
 ∃ (p:Nat) (hp:p < t.length),t[p].f0=u∧(a > 0→∃ (q:Nat) (hq:q < t.length),t[q].f0=a∧∀ k:Nat,kd=3→atI t id=(k:Int)→¬ (k≤q∧q < endI t k)) ∧
  ∀ k:Nat,kd=3→atI t id=(k:Int)→¬ (k≤p∧p < endI t k)
theorem where_f (t:List S37) (B kd id up at_:Int) (s:ByteArray) (hI:Inv t B) (hB:B≤1099511627776) (hid:id≠3) (hl:t.length≤1000000) :
  ∃ (u a:Int) (ok:Bool),Ev (fun n=>spec_l3Where.f n t kd id up at_ s) (u,a,ok)∧(ok=true→Fits t kd id u a):=by
 have none_:∀ f:Nat→Option (Int×Int×Bool),(∀ n,f n=spec_l3Where.j0 n t true kd id up at_ s)→Ev f (0,0,false):=fun f hf =>
  Ev.congr hf (Ev.step (f:=fun _=>some (0,0,false)) (fun n=>by simp only [spec_l3Where.j0,if_true]) (evnow _))
 unfold spec_l3Where.f
 by_cases h2:kd=2
 ·exact ⟨0,0,false,Ev.bind (at_f t id (by omega)) (ev_pos h2 (none_ _ (fun n=>rfl))),fun h=>by cases h⟩
 ·by_cases h3:((decide (atI t id≥0)) != (kd==3))=true
  ·exact ⟨0,0,false,Ev.bind (at_f t id (by omega)) (ev_neg h2 (ev_pos h3 (none_ _ (fun n=>rfl)))),fun h=>by cases h⟩
  ·have h3':decide (atI t id≥0)=(kd==3):=by simpa using h3
   have rest:(∀ (p k:Nat),atI t up=(p:Int)→kd=3→atI t id=(k:Int)→¬ (k≤p∧p < endI t k))→∃ (u a:Int),Ev (fun n=>spec_l3Where.j0 n t false kd id up at_ s) (u,a,true)∧Fits t kd id u a:=by
    intro hout
    have c1:kd≠3→atI t id=-1:=fun hk=>by
     have:(kd==3)=false:=beq_eq_false_iff_ne.2 hk
     rw [this] at h3'
     have h4:=of_decide_eq_false h3'
     rcases atI_spec t id with ⟨h5,_⟩|⟨j,hj,h5,_⟩
     ·exact h5
     ·omega
    have c2:kd=3→∃ k:Nat,k < t.length∧atI t id=(k:Int):=fun hk=>by
     have:(kd==3)=true:=beq_iff_eq.2 hk
     rw [this] at h3'
     have h4:=of_decide_eq_true h3'
     rcases atI_spec t id with ⟨h5,_⟩|⟨j,hj,h5,_⟩
     ·omega
     ·exact ⟨j,hj,h5⟩
    rcases atI_spec t up with ⟨h5,_⟩|⟨p,hp,h5,h6⟩
    ·obtain ⟨x,hx,hx3⟩:=hI.found
     obtain ⟨p,hp,rfl⟩:=List.getElem_of_mem hx
     refine ⟨3,0,?_,h2,c1,c2,p,hp,hx3,fun h=>by omega,fun k hk hik hin=>?_⟩
     ·refine Ev.step (fun n=>by simp only [spec_l3Where.j0];rfl) ?_
      refine ev_neg (by decide) ?_
      refine Ev.bind (at_f t up (by omega)) ?_
      exact ev_pos (by omega) (evnow _)
     ·obtain ⟨k',hk',e⟩:=c2 hk
      obtain rfl:k'=k:=by omega
      rcases Nat.eq_or_lt_of_le hin.1 with e6|e6
      ·subst e6
       rcases atI_spec t id with ⟨h7,_⟩|⟨j,hj,h7,h8⟩
       ·omega
       ·obtain rfl:j=k':=by omega
        exact hid (h8.symm.trans hx3)
      ·have:=(endI_spec t k' hk').2.2.1 p hp e6 hin.2
       have d1:=(hI.deep _ (List.getElem_mem hk')).1
       have d2:=hI.root _ hx hx3
       omega
    ·obtain ⟨ks,hks,hkl,hkk⟩:=kids_f t up hl
     obtain ⟨a,ha,hak⟩:=where_l0 up ks kd id up at_ s (by omega) ks.length 0 0 (by omega) (fun h=>by omega)
     refine ⟨up,a,?_,h2,c1,c2,p,hp,h6,fun hpos=>?_,fun k hk hik=>hout p k h5 hk hik⟩
     ·refine Ev.step (fun n=>by simp only [spec_l3Where.j0];rfl) ?_
      refine ev_neg (by decide) ?_
      refine Ev.bind (at_f t up (by omega)) ?_
      refine ev_neg (by omega) ?_
      exact Ev.bind hks ha
     ·obtain ⟨hmem,hne⟩:=hak hpos
      obtain ⟨p',hp',hpl,q,hq,hq1,hq2,hq3,hq4⟩:=hkk a hmem
      obtain rfl:p'=p:=by omega
      refine ⟨q,hq,hq3,fun k hk hik hin=>?_⟩
      obtain ⟨k',hk',e⟩:=c2 hk
      obtain rfl:k'=k:=by omega
      have out:=hout p' k' h5 hk hik
      have hkq:k'≠q:=by
       rintro rfl
       rcases atI_spec t id with ⟨h7,_⟩|⟨j,hj,h7,h8⟩
       ·omega
       ·obtain rfl:j=k':=by omega
        exact hne (hq3.symm.trans h8)
      have dq:=(endI_spec t k' hk').2.2.1 q hq (by omega) hin.2
      have dB:=hI.deep _ (List.getElem_mem hp)
      have hw:wrap64 (t[p'].f1+1)=t[p'].f1+1:=wrap_id _ (by omega) (by omega)
      rw [hw] at hq4
      rcases Nat.lt_or_ge p' k' with h9|h9
      ·have:=(endI_spec t p' hp).2.2.1 k' hk' h9 (by omega)
       omega
      ·exact out ⟨h9,by omega⟩
   by_cases h4:atI t id≥0
   ·have h33:kd=3:=by
     rw [dt_ h4] at h3'
     exact beq_iff_eq.1 h3'.symm
    rcases atI_spec t id with ⟨h5,_⟩|⟨k,hk,h5,h6⟩
    ·omega
    have hu:=under_f t up id k hk h5 hl
    cases hd:(decide (0≤atI t up)&&(decide ((k:Int)≤atI t up)&&decide (atI t up≤(endI t k:Int) - 1))) with
    | true =>
     rw [hd] at hu
     exact ⟨0,0,false,Ev.bind (at_f t id (by omega)) (ev_neg h2 (ev_neg h3 (ev_pos h4 (Ev.bind hu (none_ _ (fun n=>rfl)))))),fun h=>by cases h⟩
    | false =>
     rw [hd] at hu
     obtain ⟨u,a,h7,h8⟩:=rest (fun p k2 hp _ hk2 hin=>by
      obtain rfl:k2=k:=by omega
      have:(decide (0≤atI t up)&&(decide ((k2:Int)≤atI t up)&&decide (atI t up≤(endI t k2:Int) - 1)))=true:=by
       simp only [Bool.and_eq_true,decide_eq_true_eq]
       omega
      rw [this] at hd
      cases hd)
     exact ⟨u,a,true,Ev.bind (at_f t id (by omega)) (ev_neg h2 (ev_neg h3 (ev_pos h4 (Ev.bind hu h7)))),fun _=>h8⟩
   ·obtain ⟨u,a,h7,h8⟩:=rest (fun p k2 hp _ hk2 hin=>by omega)
    exact ⟨u,a,true,Ev.bind (at_f t id (by omega)) (ev_neg h2 (ev_neg h3 (ev_neg h4 h7))),fun _=>h8⟩
theorem mem_rest {t:List S37} {k e j:Nat} (hj:j < t.length) (h:¬ (k≤j∧j < e)) (hk:k≤e):t[j]∈t.take k++t.drop e:=by
 rcases Nat.lt_or_ge j k with h1|h1
 ·exact List.mem_append_left _ (List.mem_take_iff_getElem.2 ⟨j,by omega,rfl⟩)
 ·exact List.mem_append_right _ (List.mem_drop_iff_getElem.2 ⟨j - e,by omega,by congr 1;omega⟩)
theorem rest_mem {t:List S37} {k e:Nat} {x:S37} (h:x∈t.take k++t.drop e):x∈t:=by
 rcases List.mem_append.1 h with h|h
 ·exact List.mem_of_mem_take h
 ·exact List.mem_of_mem_drop h
theorem Inv.more {t:List S37} {B C:Int} (h:Inv t B) (hc:B≤C):Inv t C:=⟨fun x hx=>⟨(h.deep x hx).1,Int.le_trans (h.deep x hx).2 hc⟩,h.root,h.found,h.ids⟩
theorem do_f (t:List S37) (B kd id up at_:Int) (s:ByteArray) (hI:Inv t B) (hB0:0≤B) (hB:B≤1099511627776) (hk:kd=1∨kd=2∨kd=3) (hid:id≠3) (hid64:I64 id) (hl:t.length≤100000) (hs:s.size≤2000) :
  ∃ t':List S37,Ev (fun n=>spec_l3Do.f n t kd id up at_ s) t'∧Inv t' (2 * B+1)∧(t'.length≤t.length+1∧t.length≤t'.length):=by
 have same:∀ y:List S37,y=t→Inv y (2 * B+1)∧(y.length≤t.length+1∧t.length≤y.length):=fun y hy=>by
  subst hy
  exact ⟨hI.more (by omega),by omega⟩
 unfold spec_l3Do.f
 by_cases h2:kd=2
 ·rcases atI_spec t id with ⟨h5,_⟩|⟨k,hk',h5,h6⟩
  ·refine ⟨[]++t,Ev.bind (at_f t id (by omega)) (ev_pos h2 ?_),same _ (by simp)⟩
   simp only [Option.bind_some]
   refine ev_pos (by simp;omega) ?_
   rw [h5]
   exact ev_neg (by omega) (evnow _)
  ·refine ⟨t.set k ⟨t[k].f0,t[k].f1,s⟩,Ev.bind (at_f t id (by omega)) (ev_pos h2 ?_),?_,by rw [List.length_set];omega⟩
   ·simp only [Option.bind_some]
    refine ev_pos (by simp;omega) ?_
    rw [h5]
    simp only [List.nil_append,Int.toNat_natCast,rdR_get t k hk']
    exact ev_pos (by omega) (ev_pos (by omega) (ev_pos (by omega) (evnow _)))
   ·have hm:∀ x∈t.set k ⟨t[k].f0,t[k].f1,s⟩,∃ y∈t,x.f0=y.f0∧x.f1=y.f1∧(x.f2=s∨x.f2=y.f2):=fun x hx=>by
     obtain ⟨i,hi,rfl⟩:=List.getElem_of_mem hx
     rw [List.length_set] at hi
     rw [List.getElem_set]
     split
     ·exact ⟨t[k],List.getElem_mem hk',rfl,rfl,Or.inl rfl⟩
     ·exact ⟨t[i],List.getElem_mem hi,rfl,rfl,Or.inr rfl⟩
    refine ⟨fun x hx=>?_,fun x hx h3=>?_,?_,fun x hx=>?_⟩
    ·obtain ⟨y,hy,_,e,_⟩:=hm x hx
     have:=hI.deep y hy
     rw [e];omega
    ·obtain ⟨y,hy,e0,e,_⟩:=hm x hx
     rw [e]
     exact hI.root y hy (e0 ▸ h3)
    ·obtain ⟨x,hx,h3⟩:=hI.found
     obtain ⟨i,hi,rfl⟩:=List.getElem_of_mem hx
     refine ⟨(t.set k ⟨t[k].f0,t[k].f1,s⟩)[i]'(by rw [List.length_set];exact hi),List.getElem_mem _,?_⟩
     rw [List.getElem_set]
     split
     ·rename_i e;subst e;exact h3
     ·exact h3
    ·obtain ⟨y,hy,e0,_,e2⟩:=hm x hx
     rw [e0]
     refine ⟨(hI.ids y hy).1,?_⟩
     rcases e2 with e2|e2 <;> rw [e2]
     ·exact hs
     ·exact (hI.ids y hy).2
 ·obtain ⟨u,a,ok,hw,hfit⟩:=where_f t B kd id up at_ s hI hB hid (by omega)
  cases ok with
  | false =>
   refine ⟨[]++t,Ev.bind (at_f t id (by omega)) (ev_neg h2 (Ev.bind hw (ev_neg (by simp) ?_))),same _ (by simp)⟩
   simp only [Option.bind_some]
   exact ev_pos (by simp;omega) (evnow _)
  | true =>
   obtain ⟨_,c1,c2,p,hp,hpu,hpa,hpo⟩:=hfit rfl
   by_cases h1:kd=1
   ·obtain ⟨y,q,hy,hyu,hq,hev⟩:=put_f t [⟨id,0,s⟩] u a (by omega) (by simp) (by simp) ⟨t[p],List.getElem_mem hp,hpu⟩ (fun h=>by
     obtain ⟨q,hq,e,_⟩:=hpa h
     exact ⟨t[q],List.getElem_mem hq,e⟩)
    refine ⟨_,Ev.bind (at_f t id (by omega)) (ev_neg h2 (Ev.bind hw (ev_pos rfl (ev_pos h1 (Ev.bind hev (evnow _)))))),?_,by simp;omega⟩
    have dy:=hI.deep y hy
    have hw1:wrap64 (wrap64 (y.f1+1) - 0)=y.f1+1:=by rw [wrap_id (y.f1+1) (by omega) (by omega),wrap_id _ (by omega) (by omega)];omega
    have hmem:∀ x∈t.take q++[(⟨id,0,s⟩:S37)].map (shift (wrap64 (wrap64 (y.f1+1) - ([(⟨id,0,s⟩:S37)])[0].f1)))++t.drop q,x∈t∨(x.f0=id∧x.f1=y.f1+1∧x.f2=s):=fun x hx=>by
     rcases List.mem_append.1 hx with hx|hx
     ·rcases List.mem_append.1 hx with hx|hx
      ·exact Or.inl (List.mem_of_mem_take hx)
      ·right
       simp only [List.map_cons,List.map_nil,List.mem_singleton] at hx
       subst hx
       refine ⟨rfl,?_,rfl⟩
       show wrap64 (0+wrap64 (wrap64 (y.f1+1) - 0))=y.f1+1
       rw [hw1,wrap_id _ (by omega) (by omega)]
       omega
     ·exact Or.inl (List.mem_of_mem_drop hx)
    refine ⟨fun x hx=>?_,fun x hx h3=>?_,?_,fun x hx=>?_⟩
    ·rcases hmem x hx with h|⟨_,h,_⟩
     ·have:=hI.deep x h
      omega
     ·rw [h];omega
    ·rcases hmem x hx with h|⟨h,_⟩
     ·exact hI.root x h h3
     ·exact absurd (h.symm.trans h3) hid
    ·obtain ⟨x,hx,h3⟩:=hI.found
     rw [←List.take_append_drop q t] at hx
     rcases List.mem_append.1 hx with hx|hx
     ·exact ⟨x,List.mem_append_left _ (List.mem_append_left _ hx),h3⟩
     ·exact ⟨x,List.mem_append_right _ hx,h3⟩
    ·rcases hmem x hx with h|⟨h,_,h2⟩
     ·exact hI.ids x h
     ·rw [h,h2];exact ⟨hid64,hs⟩
   ·have h33:kd=3:=by
     rcases hk with h|h|h
     ·exact absurd h h1
     ·exact absurd h h2
     ·exact h
    obtain ⟨k,hk',h5⟩:=c2 h33
    obtain ⟨e1,e2,e3,_⟩:=endI_spec t k hk'
    have hkid:t[k].f0=id:=by
     rcases atI_spec t id with ⟨h7,_⟩|⟨j,hj,h7,h8⟩
     ·omega
     ·obtain rfl:j=k:=by omega
      exact h8
    have hout:=hpo k h33 h5
    obtain ⟨rest,hrest⟩:∃ r,r=t.take k++t.drop (endI t k):=⟨_,rfl⟩
    obtain ⟨rows,hrows⟩:∃ r,r=(t.take (endI t k)).drop k:=⟨_,rfl⟩
    have hrl:rows.length=endI t k - k:=by rw [hrows,List.length_drop,List.length_take];omega
    have hsl:rest.length=k+(t.length - endI t k):=by rw [hrest,List.length_append,List.length_take,List.length_drop];omega
    have hr0:rows[0]'(by omega)=t[k]:=by
     simp only [hrows,List.getElem_drop,List.getElem_take]
     rfl
    have hrm:∀ x∈rows,∃ (j:Nat) (hj:j < t.length),k≤j∧j < endI t k∧x=t[j]:=fun x hx=>by
     rw [hrows] at hx
     obtain ⟨i,hi,rfl⟩:=List.getElem_of_mem hx
     rw [List.length_drop,List.length_take] at hi
     refine ⟨k+i,by omega,by omega,by omega,?_⟩
     rw [List.getElem_drop,List.getElem_take]
    obtain ⟨y,q,hy,hyu,hq,hev⟩:=put_f rest rows u a (by omega) (by omega) (by omega) ⟨t[p],by rw [hrest];exact mem_rest hp hout (by omega),hpu⟩ (fun h=>by
     obtain ⟨q,hq,e,ho⟩:=hpa h
     exact ⟨t[q],by rw [hrest];exact mem_rest hq (ho k h33 h5) (by omega),e⟩)
    refine ⟨rest.take q++rows.map (shift (wrap64 (wrap64 (y.f1+1) - (rows[0]'(by omega)).f1)))++rest.drop q,Ev.bind (at_f t id (by omega)) (ev_neg h2 (Ev.bind hw (ev_pos rfl (ev_neg h1 ?_)))),?_,?_⟩
    rotate_left
    ·have hyt:y∈t:=rest_mem (hrest ▸ hy)
     have dy:=hI.deep y hyt
     have dk:=hI.deep _ (List.getElem_mem hk')
     have hw1:wrap64 (wrap64 (y.f1+1) - (rows[0]'(by omega)).f1)=y.f1+1 - t[k].f1:=by rw [hr0,wrap_id (y.f1+1) (by omega) (by omega),wrap_id _ (by omega) (by omega)]
     rw [hw1]
     have hmem:∀ x∈rest.take q++rows.map (shift (y.f1+1 - t[k].f1))++rest.drop q,x∈t∨(x.f0≠3∧(0≤x.f1∧x.f1≤2 * B+1)∧I64 x.f0∧x.f2.size≤2000):=fun x hx=>by
      rcases List.mem_append.1 hx with hx|hx
      ·rcases List.mem_append.1 hx with hx|hx
       ·exact Or.inl (rest_mem (hrest ▸ List.mem_of_mem_take hx))
       ·right
        obtain ⟨z,hz,rfl⟩:=List.mem_map.1 hx
        obtain ⟨j,hj,hkj,hje,rfl⟩:=hrm z hz
        have dj:=hI.deep _ (List.getElem_mem hj)
        have hge:t[k].f1≤t[j].f1:=by
         rcases Nat.eq_or_lt_of_le hkj with e|e
         ·subst e;exact Int.le_refl _
         ·exact Int.le_of_lt (e3 j hj e hje)
        have hf:(shift (y.f1+1 - t[k].f1) t[j]).f1=t[j].f1+(y.f1+1 - t[k].f1):=wrap_id _ (by omega) (by omega)
        refine ⟨?_,⟨by rw [hf];omega,by rw [hf];omega⟩,hI.ids t[j] (List.getElem_mem hj)⟩
        show t[j].f0≠3
        intro h3
        rcases Nat.eq_or_lt_of_le hkj with e|e
        ·subst e;exact hid (hkid.symm.trans h3)
        ·have:=e3 j hj e hje
         have:=hI.root _ (List.getElem_mem hj) h3
         omega
      ·exact Or.inl (rest_mem (hrest ▸ List.mem_of_mem_drop hx))
     refine ⟨fun x hx=>?_,fun x hx h3=>?_,?_,fun x hx=>?_⟩
     ·rcases hmem x hx with h|⟨_,h,_⟩
      ·have:=hI.deep x h
       omega
      ·exact h
     ·rcases hmem x hx with h|⟨h,_⟩
      ·exact hI.root x h h3
      ·exact absurd h3 h
     ·obtain ⟨x,hx,h3⟩:=hI.found
      obtain ⟨j,hj,rfl⟩:=List.getElem_of_mem hx
      have hj3:¬ (k≤j∧j < endI t k):=by
       rintro ⟨g1,g2⟩
       rcases Nat.eq_or_lt_of_le g1 with e|e
       ·subst e;exact hid (hkid.symm.trans h3)
       ·have:=e3 j hj e g2
        have:=hI.root _ (List.getElem_mem hj) h3
        omega
      have hxr:t[j]∈rest:=by rw [hrest];exact mem_rest hj hj3 (by omega)
      rw [←List.take_append_drop q rest] at hxr
      rcases List.mem_append.1 hxr with hx|hx
      ·exact ⟨_,List.mem_append_left _ (List.mem_append_left _ hx),h3⟩
      ·exact ⟨_,List.mem_append_right _ hx,h3⟩
     ·rcases hmem x hx with h|⟨_,_,h⟩
      ·exact hI.ids x h
      ·exact h
    ·rw [List.length_append,List.length_append,List.length_map,List.length_take,List.length_drop]
     omega
    ·rw [h5]
     refine Ev.bind (end_f t k hk' (by omega)) ?_
     simp only [Option.bind_some,Int.toNat_natCast]
     refine ev_pos (by omega) (ev_pos (by omega) (ev_pos (by omega) ?_))
     refine ev_pos (by rw [List.length_drop,List.length_take];simp;omega) ?_
     refine ev_pos (by omega) ?_
     refine ev_pos (by rw [List.length_take];simp;omega) ?_
     refine ev_pos (by omega) ?_
     refine ev_pos (by rw [List.length_append,List.length_take,List.length_drop];simp;omega) ?_
     simp only [List.nil_append]
     rw [←hrest,←hrows]
     exact Ev.bind hev (evnow _)
end Go.Proofs.YtlkheeegkifblaaDoor.PL
namespace Go.Proofs.YtlkheeegkifblaaDoor.PL
open Go.RowKit Go.Proofs.YtlkheeegkifblaaDoor.P Go.Proofs.YtlkheeegkifblaaDoorW.PrintWords Go.Proofs.YtlkheeegkifblaaDoorW.PrintLast Go.Proofs.YtlkheeegkifblaaDoor.FP
theorem tops_few:∀ (F:Fo),F.tops.length≤F.ids.length
 | .nil=>Nat.le_refl _
 | .nd i t k n=>by have:=tops_few n;simp only [Fo.tops,Fo.ids,List.length_cons,List.length_append];omega
structure Good (G:Fo):Prop where
 nd:G.ids.Nodup
 ne0:∀ x∈G.ids,x≠0
 tops:G.tops=[1,2,3]
 len:G.ids.length≤1000
theorem Good.three {G:Fo} (g:Good G):3∈G.tops:=by rw [g.tops];simp
theorem fl_le:∀ (F:Fo) (d:Nat) {r:S37},r∈F.fl d→r.f1 < (d:Int)+F.ids.length
 | .nil,d,r,h=>by simp [Fo.fl] at h
 | .nd j t k n,d,r,h=>by
  simp only [Fo.fl,List.mem_cons,List.mem_append] at h
  simp only [Fo.ids,List.length_cons,List.length_append]
  rcases h with rfl|h|h
  ·show (d:Int) < _;omega
  ·have:=fl_le k (d+1) h;omega
  ·have:=fl_le n d h;omega
theorem dep_le (x:Nat) (F:Fo) (d:Nat) (hn:F.ids.Nodup) (hx:x∈F.ids):dep x d F < d+F.ids.length:=by
 obtain ⟨pre,post,s⟩:=spot x F d hn hx
 have:=fl_le F d (r:=⟨(x:Int),(dep x d F:Int),txtF x F⟩) (by rw [s.all];simp)
 simp only at this
 omega
theorem atFrom_pre {r:S37} {rest:List S37} {id:Int} (hr:r.f0=id):∀ (pre:List S37) (i:Nat),(∀ q∈pre,q.f0≠id)→atFrom id (pre++r::rest) i=((i+pre.length:Nat):Int)
 | [],i,_=>by simp [atFrom,hr]
 | q::pre,i,h=>by
  rw [List.cons_append,atFrom,if_neg (h q List.mem_cons_self),atFrom_pre hr pre (i+1) fun x hx=>h x (List.mem_cons_of_mem _ hx),List.length_cons]
  congr 1;omega
theorem at_pre {r:S37} {pre rest:List S37} {id:Int} (hr:r.f0=id) (h:∀ q∈pre,q.f0≠id):atI (pre++r::rest) id=(pre.length:Int):=by
 rw [atI,atFrom_pre hr pre 0 h,Nat.zero_add]
theorem at_none {t:List S37} {id:Int} (h:∀ q∈t,q.f0≠id):atI t id=-1:=by
 rcases atI_spec t id with ⟨e,_⟩|⟨j,hj,_,e⟩
 ·exact e
 ·exact absurd e (h _ (List.getElem_mem hj))
theorem endFrom_mid {d:Int} {post:List S37} (hp:post=[]∨∃ q rest,post=q::rest∧q.f1≤d):∀ (mid:List S37) (e:Nat),(∀ q∈mid,d < q.f1)→endFrom d (mid++post) e=e+mid.length
 | [],e,_=>by
  rcases hp with rfl|⟨q,rest,rfl,h⟩
  ·rfl
  ·rw [List.nil_append,endFrom,if_neg (by omega)];rfl
 | q::mid,e,h=>by
  rw [List.cons_append,endFrom,if_pos (h q List.mem_cons_self),endFrom_mid hp mid (e+1) fun x hx=>h x (List.mem_cons_of_mem _ hx),List.length_cons]
  omega
theorem end_mid {pre mid post:List S37} {r:S37} (hm:∀ q∈mid,r.f1 < q.f1) (hp:post=[]∨∃ q rest,post=q::rest∧q.f1≤r.f1):endI (pre++r::(mid++post)) pre.length=pre.length+1+mid.length:=by
 have e1:(pre++r::(mid++post)).getD pre.length z37=r:=by simp
 have e2:(pre++r::(mid++post)).drop (pre.length+1)=mid++post:=by
  rw [List.drop_append];simp
 rw [endI,e1,e2,endFrom_mid hp mid _ hm]
theorem spot_end {x d:Nat} {G:Fo} {pre post:List S37} (s:Spot x d G pre post):endI (G.fl d) pre.length=pre.length+1+(sub x G).ids.length:=by
 rw [s.all,end_mid (fun q hq=>by have:=fl_deep _ _ hq;show (dep x d G:Int) < q.f1;omega) s.high,fl_len]
theorem spot_at {x d:Nat} {G:Fo} {pre post:List S37} (s:Spot x d G pre post):atI (G.fl d) (x:Int)=(pre.length:Int):=by
 rw [s.all];exact at_pre rfl s.out
theorem spot_len {x d:Nat} {G:Fo} {pre post:List S37} (s:Spot x d G pre post):(G.fl d).length=pre.length+1+(sub x G).ids.length+post.length:=by
 have:=congrArg List.length s.all
 simp only [List.length_append,List.length_cons,fl_len] at this ⊢
 omega
theorem spot_get {x d:Nat} {G:Fo} {pre post:List S37} (s:Spot x d G pre post) (h:pre.length < (G.fl d).length):(G.fl d)[pre.length]=⟨(x:Int),(dep x d G:Int),txtF x G⟩:=by
 simp [s.all]
theorem at_fnd0 {G:Fo} {x:Int} (h:fndF G x=0) (h0:∀ y∈G.ids,y≠0):atI (G.fl 0) x=-1:=at_none fun q hq e=>by
 obtain ⟨i,hi,e2⟩:=fl_ids G 0 hq
 have hx:x=(i:Int):=by rw [←e,e2]
 unfold fndF at h
 rw [if_pos ⟨by omega,by rw [hx];exact hi⟩,hx] at h
 exact h0 i hi h
theorem kids_fl:∀ (F:Fo) (d:Nat),((F.fl d).filter fun r=>decide (r.f1=(d:Int))).map (·.f0)=F.tops.map Int.ofNat
 | .nil,d=>rfl
 | .nd j t k n,d=>by
  have hk:(k.fl (d+1)).filter (fun r=>decide (r.f1=(d:Int)))=[]:=List.filter_eq_nil_iff.2 fun r hr=>by
   have:=fl_deep k (d+1) hr
   simp only [decide_eq_true_eq]
   omega
  have ih:=kids_fl n d
  simp only [Fo.fl,List.filter_cons,decide_true,if_true,List.map_cons,List.filter_append,hk,List.nil_append,Fo.tops]
  rw [ih];rfl
theorem kids_l0x (t:List S37) (a:Nat) (ha:a < t.length) (hl:t.length≤1099511627776):∀ (n i:Nat) (acc:List Int),i+n=endI t a→acc.length+n≤1099511627776 →
  Ev (fun k=>spec_l2Kids.l0 k t acc a i) (acc++(((t.drop i).take n).filter fun r=>decide (r.f1=wrap64 (t[a].f1+1))).map (·.f0))
 | 0,i,acc,h,hacc=>by
  simp only [List.take_zero,List.filter_nil,List.map_nil,List.append_nil]
  refine Ev.step (fun k=>by simp only [spec_l2Kids.l0];rfl) ?_
  refine Ev.bind (end_f t a ha hl) ?_
  refine ev_neg (by omega) ?_
  exact evnow _
 | n+1,i,acc,h,hacc=>by
  obtain ⟨e1,e2,_,_⟩:=endI_spec t a ha
  have hi:i < t.length:=by omega
  rw [List.drop_eq_getElem_cons hi,List.take_succ_cons,List.filter_cons]
  refine Ev.step (fun k=>by simp only [spec_l2Kids.l0];rfl) ?_
  refine Ev.bind (end_f t a ha hl) ?_
  refine ev_pos (by omega) (ev_pos (by omega) (ev_pos (by omega) (ev_pos (by omega) (ev_pos (by omega) ?_))))
  rw [rdR_get t i hi,rdR_get t a ha,wrapS i (by omega) (by omega)]
  by_cases hq:t[i].f1=wrap64 (t[a].f1+1)
  ·refine ev_pos hq (ev_pos (by omega) ?_)
   have ih:=kids_l0x t a ha hl n (i+1) (acc++[t[i].f0]) (by omega) (by simp;omega)
   rw [if_pos (by simpa using hq),List.map_cons]
   simpa using ih
  ·refine ev_neg hq ?_
   have ih:=kids_l0x t a ha hl n (i+1) acc (by omega) (by omega)
   rw [if_neg (by simpa using hq)]
   exact ih
theorem kids_x {G:Fo} (g:Good G) {u:Nat} (hu:u∈G.ids):Ev (fun k=>spec_l2Kids.f k (G.fl 0) (u:Int)) ((sub u G).tops.map Int.ofNat):=by
 obtain ⟨pre,post,s⟩:=spot u G 0 g.nd hu
 have hl:=(spot_len s)
 have hll:=fl_len G 0
 have hg:=g.len
 have ha:pre.length < (G.fl 0).length:=by omega
 unfold spec_l2Kids.f
 simp only [Option.bind_some]
 refine Ev.bind (at_f (G.fl 0) u (by omega)) ?_
 rw [(spot_at s)]
 refine ev_neg (by omega) ?_
 rw [wrapS pre.length (by omega) (by omega)]
 have:=kids_l0x (G.fl 0) pre.length ha (by omega) (sub u G).ids.length (pre.length+1) [] (by rw [(spot_end s)]) (by simp;omega)
 rw [(spot_get s ha)] at this
 have e2:(G.fl 0).drop (pre.length+1)=(sub u G).fl (dep u 0 G+1)++post:=by
  rw [s.all,List.drop_append];simp
 have hd:=dep_le u G 0 g.nd hu
 have e3:wrap64 ((dep u 0 G:Int)+1)=((dep u 0 G+1:Nat):Int):=by rw [wrap_id _ (by omega) (by omega)];omega
 rw [e2,show (sub u G).ids.length=((sub u G).fl (dep u 0 G+1)).length from (fl_len _ _).symm,List.take_left' rfl,e3,kids_fl,List.nil_append] at this
 exact this
theorem where_l0x (u:Int) (ks:List Int) (kd id up at_:Int) (s:ByteArray) (hl:ks.length≤1000000):∀ (n i:Nat) (a:Int),i+n=ks.length→Ev (fun k=>spec_l3Where.l0 k u a ks i kd id up at_ s) (u,if at_∈ks.drop i∧at_≠id then at_ else a,true)
 | 0,i,a,h=>by
  rw [List.drop_eq_nil_of_le (by omega),if_neg (by simp)]
  refine Ev.step (fun k=>by simp only [spec_l3Where.l0];rfl) ?_
  exact ev_neg (by omega) (evnow _)
 | n+1,i,a,h=>by
  have hi:i < ks.length:=by omega
  have hrd:rd ks i=ks[i]:=by
   unfold rd
   rw [List.getD_eq_getElem?_getD,show ((i:Int)).toNat=i from rfl,List.getElem?_eq_getElem hi]
   rfl
  have e1:(at_∈ks.drop i∧at_≠id)↔((at_=ks[i]∨at_∈ks.drop (i+1))∧at_≠id):=by rw [List.drop_eq_getElem_cons hi,List.mem_cons]
  refine Ev.step (fun k=>by simp only [spec_l3Where.l0];rfl) ?_
  rw [hrd,wrapS i (by omega) (by omega)]
  refine ev_pos (by omega) (ev_pos (by omega) ?_)
  by_cases h3:ks[i]=at_
  ·refine ev_pos h3 ?_
   by_cases h4:at_=id
   ·refine ev_pos h4 ?_
    rw [if_neg (fun q=>q.2 h4)]
    have:=where_l0x u ks kd id up at_ s hl n (i+1) a (by omega)
    rwa [if_neg (fun q=>q.2 h4)] at this
   ·refine ev_neg h4 ?_
    rw [if_pos (e1.2 ⟨Or.inl h3.symm,h4⟩)]
    have:=where_l0x u ks kd id up at_ s hl n (i+1) at_ (by omega)
    rwa [ite_self] at this
  ·refine ev_neg h3 ?_
   have:=where_l0x u ks kd id up at_ s hl n (i+1) a (by omega)
   have e2:(at_∈ks.drop i∧at_≠id)↔(at_∈ks.drop (i+1)∧at_≠id):=by
    rw [e1]
    exact ⟨fun ⟨q1,q2⟩=>⟨q1.resolve_left (fun q=>h3 q.symm),q2⟩,fun ⟨q1,q2⟩=>⟨Or.inr q1,q2⟩⟩
   rw [show (if at_∈ks.drop i∧at_≠id then at_ else a)=(if at_∈ks.drop (i+1)∧at_≠id then at_ else a) by simp only [e2]]
   exact this
theorem fndF_zero {G:Fo} (h0:∀ y∈G.ids,y≠0) {x:Int}:fndF G x=0↔∀ y∈G.ids,(y:Int)≠x:=by
 constructor
 ·intro h y hy e
  unfold fndF at h
  rw [if_pos ⟨by omega,by rw [←e];exact hy⟩,←e] at h
  exact h0 y hy h
 ·intro h
  unfold fndF
  rw [if_neg]
  rintro ⟨h1,h2⟩
  exact h _ h2 (by omega)
theorem fndF_nat {G:Fo} {y:Nat} (hy:y∈G.ids):fndF G (y:Int)=y:=by
 unfold fndF
 rw [if_pos ⟨by omega,show (y:Int).toNat∈G.ids from hy⟩];rfl
theorem near_x {G:Fo} (g:Good G) (kd id up at_:Int) (s:ByteArray):Ev (fun n=>spec_l3Where.j0 n (G.fl 0) false kd id up at_ s) (((nearF G id up at_).1:Int),((nearF G id up at_).2:Int),true):=by
 have hll:=fl_len G 0
 have hg:=g.len
 refine Ev.step (fun n=>by simp only [spec_l3Where.j0];rfl) ?_
 refine ev_neg (by decide) ?_
 refine Ev.bind (at_f (G.fl 0) up (by omega)) ?_
 by_cases h1:fndF G up=0
 ·rw [at_fnd0 h1 g.ne0]
  have:nearF G id up at_=(3,0):=by unfold nearF;rw [if_pos h1]
  rw [this]
  exact ev_pos (by omega) (evnow _)
 ·obtain ⟨hu,hue⟩:=fndF_mem h1
  obtain ⟨u,rfl⟩:∃ u:Nat,up=(u:Int):=⟨fndF G up,hue.symm⟩
  rw [fndF_nat (by have:=hu;rw [show fndF G (u:Int)=u by omega] at this;exact this)] at h1 hu
  obtain ⟨pre,post,sp⟩:=spot u G 0 g.nd hu
  rw [(spot_at sp)]
  refine ev_neg (by omega) ?_
  refine Ev.bind (kids_x g hu) ?_
  have hlen:((sub u G).tops.map Int.ofNat).length≤1000000:=by
   have:=tops_few (sub u G)
   have:=(spot_len sp)
   rw [List.length_map]
   omega
  have:=where_l0x (u:Int) ((sub u G).tops.map Int.ofNat) kd id u at_ s hlen _ 0 0 (by rw [Nat.zero_add])
  rw [List.drop_zero] at this
  refine Ev.congr (fun k=>rfl) ?_
  have e:nearF G id (u:Int) at_=(u,(if at_∈(sub u G).tops.map Int.ofNat∧at_≠id then at_ else 0).toNat):=by
   unfold nearF
   rw [fndF_nat hu,if_neg h1]
   by_cases h2:fndF G at_=0
   ·rw [if_pos h2,if_neg]
    ·rfl
    ·rintro ⟨q1,q2⟩
     obtain ⟨y,hy,rfl⟩:=List.mem_map.1 q1
     exact (fndF_zero g.ne0).1 h2 y (sub_ids u (tops_ids hy)) rfl
   ·rw [if_neg h2]
    obtain ⟨ha,hae⟩:=fndF_mem h2
    obtain ⟨a,rfl⟩:∃ a:Nat,at_=(a:Int):=⟨fndF G at_,hae.symm⟩
    have ha':a∈G.ids:=by have:=ha;rw [show fndF G (a:Int)=a by omega] at this;exact this
    rw [fndF_nat ha']
    have hk:=kids_par g.nd g.ne0 hu (x:=a)
    have hm:((a:Int)∈(sub u G).tops.map Int.ofNat)↔par a 0 G=u:=by
     rw [List.mem_map]
     constructor
     ·rintro ⟨y,hy,e⟩
      have e':y=a:=Int.ofNat.inj e
      exact (hk.1 (e' ▸ hy)).2
     ·intro h;exact ⟨a,hk.2 ⟨ha',h⟩,rfl⟩
    by_cases h4:par a 0 G≠u
    ·rw [if_pos h4,if_neg (fun q=>h4 (hm.1 q.1))];rfl
    ·have h4':par a 0 G=u:=Decidable.of_not_not h4
     rw [if_neg h4]
     by_cases h5:(a:Int)=id
     ·rw [if_pos h5,if_neg (fun q=>q.2 h5)];rfl
     ·rw [if_neg h5,if_pos ⟨hm.2 h4',h5⟩];rfl
  rw [e]
  have e2:(((if at_∈(sub u G).tops.map Int.ofNat∧at_≠id then at_ else 0).toNat:Nat):Int)=(if at_∈(sub u G).tops.map Int.ofNat∧at_≠id then at_ else 0):=by
   split
   ·rename_i q
    obtain ⟨y,hy,rfl⟩:=List.mem_map.1 q.1
    rfl
   ·rfl
  show Ev _ ((u:Int),((_:Nat):Int),true)
  rw [e2]
  exact this
theorem at_skip {id:Int} {b:List S37}:∀ (a:List S37) (i:Nat),(∀ q∈a,q.f0≠id)→atFrom id (a++b) i=atFrom id b (i+a.length)
 | [],i,_=>rfl
 | q::a,i,h=>by
  rw [List.cons_append,atFrom,if_neg (h q List.mem_cons_self),at_skip a (i+1) fun x hx=>h x (List.mem_cons_of_mem _ hx),List.length_cons]
  congr 1;omega
theorem at_in {id:Int} {b:List S37}:∀ (a:List S37) (i:Nat),(∃ q∈a,q.f0=id)→∃ j,j < a.length∧atFrom id (a++b) i=((i+j:Nat):Int)
 | [],i,h=>by obtain ⟨q,hq,_⟩:=h;cases hq
 | q::a,i,h=>by
  by_cases hq:q.f0=id
  ·exact ⟨0,by simp,by rw [List.cons_append,atFrom,if_pos hq];rfl⟩
  ·obtain ⟨j,hj,e⟩:=at_in (id:=id) (b:=b) a (i+1) (by
    obtain ⟨q',hq',e⟩:=h
    rcases List.mem_cons.1 hq' with rfl|hq'
    ·exact absurd e hq
    ·exact ⟨q',hq',e⟩)
   exact ⟨j+1,by simp;omega,by rw [List.cons_append,atFrom,if_neg hq,e];congr 1;omega⟩
theorem id_fl (F:Fo) (d:Nat) {y:Nat} (hy:y∈F.ids):∃ q∈F.fl d,q.f0=(y:Int):=by
 have h1:(y:Int)∈(F.fl d).map (·.f0):=by rw [fl_map];exact List.mem_map.2 ⟨y,hy,rfl⟩
 obtain ⟨q,hq,e⟩:=List.mem_map.1 h1
 exact ⟨q,hq,e⟩
theorem not_fl (F:Fo) (d:Nat) {y:Nat} (hy:y∉F.ids):∀ q∈F.fl d,q.f0≠(y:Int):=fun q hq e=>by
 obtain ⟨i,hi,e2⟩:=fl_ids F d hq
 rw [e2] at e
 exact hy ((show i=y by omega) ▸ hi)
theorem under_x {G:Fo} (g:Good G) {i:Nat} (hi:i∈G.ids) (up:Int):Ev (fun n=>spec_l2Under.f n (G.fl 0) up (i:Int)) (decide (under i (fndF G up) G)):=by
 obtain ⟨pre,post,s⟩:=spot i G 0 g.nd hi
 have hl:=spot_len s
 have hll:=fl_len G 0
 have hg:=g.len
 have hk:pre.length < (G.fl 0).length:=by omega
 have:=under_f (G.fl 0) up (i:Int) pre.length hk (spot_at s) (by omega)
 rw [spot_end s] at this
 suffices e:decide (under i (fndF G up) G)=(decide (0≤atI (G.fl 0) up)&&(decide ((pre.length:Int)≤atI (G.fl 0) up)&&decide (atI (G.fl 0) up≤((pre.length+1+(sub i G).ids.length:Nat):Int) - 1))) by
  rw [e];exact this
 clear this
 by_cases h0:fndF G up=0
 ·have hu:¬ under i (fndF G up) G:=by
   rw [h0]
   rintro ⟨_,h|h⟩
   ·exact g.ne0 i hi h.symm
   ·exact g.ne0 0 (sub_ids i h) rfl
  rw [df_ hu,at_fnd0 h0 g.ne0]
  simp
 ·obtain ⟨hu,hue⟩:=fndF_mem h0
  obtain ⟨y,rfl⟩:∃ y:Nat,up=(y:Int):=⟨fndF G up,hue.symm⟩
  have hy:y∈G.ids:=by have:=hu;rw [show fndF G (y:Int)=y by omega] at this;exact this
  rw [fndF_nat hy]
  have hperm:=ids_del i G g.nd hi
  have hnd:=hperm.nodup_iff.1 g.nd
  obtain ⟨n1,n2⟩:=List.nodup_cons.1 hnd
  obtain ⟨n3,n4,n5⟩:=List.nodup_append.1 n2
  have hal:atI (G.fl 0) (y:Int)=atFrom (y:Int) (pre++(⟨(i:Int),(dep i 0 G:Int),txtF i G⟩::((sub i G).fl (dep i 0 G+1)++post))) 0:=by rw [←s.all];rfl
  by_cases hyi:y=i
  ·rw [dt_ (show under i y G from ⟨hi,Or.inl hyi⟩),hyi,spot_at s]
   have:((pre.length:Int)≤((pre.length+1+(sub i G).ids.length:Nat):Int) - 1):=by omega
   simp only [Int.natCast_nonneg,decide_true,Int.le_refl,this,Bool.and_self]
  ·by_cases hys:y∈(sub i G).ids
   ·rw [dt_ (show under i y G from ⟨hi,Or.inr hys⟩)]
    have hyd:y∉(del i G).ids:=fun q=>n5 y hys y q rfl
    have hout:∀ q∈pre++post,q.f0≠(y:Int):=by rw [←s.del];exact not_fl _ _ hyd
    obtain ⟨j,hj,e⟩:=at_in (id:=(y:Int)) (b:=post) ((sub i G).fl (dep i 0 G+1)) (0+pre.length+1) (id_fl _ _ hys)
    rw [fl_len] at hj
    rw [hal,at_skip pre 0 (fun q hq=>hout q (List.mem_append_left _ hq)),atFrom,if_neg (show (i:Int)≠(y:Int) by omega),e]
    have a1:(0:Int)≤((0+pre.length+1+j:Nat):Int):=by omega
    have a2:(pre.length:Int)≤((0+pre.length+1+j:Nat):Int):=by omega
    have a3:((0+pre.length+1+j:Nat):Int)≤((pre.length+1+(sub i G).ids.length:Nat):Int) - 1:=by omega
    rw [dt_ a1,dt_ a2,dt_ a3];rfl
   ·have hnu:¬ under i y G:=by
     rintro ⟨_,h|h⟩
     ·exact hyi h
     ·exact hys h
    rw [df_ hnu]
    have hyd:y∈(del i G).ids:=by
     have:=hperm.mem_iff.1 hy
     simp only [List.mem_cons,List.mem_append] at this
     rcases this with q|q|q
     ·exact absurd q hyi
     ·exact absurd q hys
     ·exact q
    obtain ⟨q,hq,hqe⟩:=id_fl (del i G) 0 hyd
    rw [s.del] at hq
    by_cases hpre:∃ q∈pre,q.f0=(y:Int)
    ·obtain ⟨j,hj,e⟩:=at_in (id:=(y:Int)) (b:=(⟨(i:Int),(dep i 0 G:Int),txtF i G⟩:S37)::((sub i G).fl (dep i 0 G+1)++post)) pre 0 hpre
     rw [hal,e,df_ (show ¬ (pre.length:Int)≤((0+j:Nat):Int) by omega)]
     simp
    ·have hpre':∀ q∈pre,q.f0≠(y:Int):=fun q hq e=>hpre ⟨q,hq,e⟩
     have hpost:∃ q∈post,q.f0=(y:Int):=by
      rcases List.mem_append.1 hq with h|h
      ·exact absurd hqe (hpre' q h)
      ·exact ⟨q,h,hqe⟩
     obtain ⟨j,hj,e⟩:=at_in (id:=(y:Int)) (b:=[]) post (0+pre.length+1+((sub i G).fl (dep i 0 G+1)).length) hpost
     rw [List.append_nil] at e
     rw [hal,at_skip pre 0 hpre',atFrom,if_neg (show (i:Int)≠(y:Int) by omega),at_skip _ _ (not_fl _ _ hys),e,fl_len]
     rw [df_ (show ¬ ((0+pre.length+1+(sub i G).ids.length+j:Nat):Int)≤((pre.length+1+(sub i G).ids.length:Nat):Int) - 1 by omega)]
     simp
theorem fl_shift:∀ (F:Fo) (d d':Nat) (δ:Int),(d':Int)=d+δ→d'+F.ids.length≤1000000→(F.fl d).map (shift δ)=F.fl d'
 | .nil,_,_,_,_,_=>rfl
 | .nd i t k n,d,d',δ,h,hl=>by
  simp only [Fo.ids,List.length_cons,List.length_append] at hl
  simp only [Fo.fl,List.map_cons,List.map_append]
  rw [fl_shift k (d+1) (d'+1) δ (by omega) (by omega),fl_shift n d d' δ h (by omega)]
  congr 1
  show (⟨(i:Int),wrap64 ((d:Int)+δ),t⟩:S37)=_
  rw [wrap_id _ (by omega) (by omega),h]
theorem put_x (t rows:List S37) (u a:Int) (hl:t.length≤1000000) (hr:rows.length≤1000000) (h0:0 < rows.length) (j:Nat) (hj:j < t.length) (e1:atI t u=(j:Int)) (p:Nat)
  (hc:(a > 0∧∃ i:Nat,i < t.length∧atI t a=(i:Int)∧p=endI t i)∨(¬ a > 0∧p=j+1)) :
  Ev (fun k=>spec_l3Put.f k t rows u a) (t.take p++rows.map (shift (wrap64 (wrap64 (t[j].f1+1) - rows[0].f1)))++t.drop p):=by
 have fin:∀ (p:Nat),p≤t.length→Ev (fun k=>spec_l3Put.j0 k t rows (wrap64 (wrap64 (t[j].f1+1) - rows[0].f1)) p) (t.take p++rows.map (shift (wrap64 (wrap64 (t[j].f1+1) - rows[0].f1)))++t.drop p):=fun p hp=>by
  refine Ev.step (fun k=>by simp only [spec_l3Put.j0];rfl) ?_
  simp only [Option.bind_some]
  refine ev_pos (by omega) (ev_pos (by omega) ?_)
  refine ev_pos (by simp;omega) ?_
  simp only [List.nil_append,Int.toNat_natCast]
  have:=put_l0 t rows (wrap64 (wrap64 (t[j].f1+1) - rows[0].f1)) p hp hl hr rows.length 0 (t.take p) (by omega) (by rw [List.length_take];omega)
  simpa using this
 have r0:rd_T37 rows 0=rows[0]:=rdR_get rows 0 h0
 rcases hc with ⟨h,i,hi,e3,rfl⟩|⟨h,rfl⟩
 ·obtain ⟨_,e5,_,_⟩:=endI_spec t i hi
  unfold spec_l3Put.f
  refine Ev.bind (at_f t u (by omega)) ?_
  rw [e1]
  refine ev_pos (by omega) (ev_pos (by omega) (ev_pos (by omega) (ev_pos h ?_)))
  refine Ev.bind (at_f t a (by omega)) ?_
  rw [e3]
  refine Ev.bind (end_f t i hi (by omega)) ?_
  rw [rdR_get t j hj,r0]
  exact fin _ e5
 ·unfold spec_l3Put.f
  refine Ev.bind (at_f t u (by omega)) ?_
  rw [e1]
  refine ev_pos (by omega) (ev_pos (by omega) (ev_pos (by omega) (ev_neg h ?_)))
  rw [rdR_get t j hj,r0,wrapS j (by omega) (by omega)]
  exact fin (j+1) (by omega)
theorem put_F {G:Fo} (hn:G.ids.Nodup) (h0:∀ x∈G.ids,x≠0) (hlen:G.ids.length≤1000) (p:Nat×Nat) (hu:p.1∈G.ids) (ha:p.2=0∨(p.2∈G.ids∧par p.2 0 G=p.1)) (i di:Nat) (t:ByteArray) (s:Fo) (hd:di≤1000) (hs:s.ids.length≤1000) :
  Ev (fun k=>spec_l3Put.f k (G.fl 0) (⟨(i:Int),(di:Int),t⟩::s.fl (di+1)) (p.1:Int) (p.2:Int)) ((putF G p i t s).fl 0):=by
 obtain ⟨u,a⟩:=p
 simp only at hu ha ⊢
 obtain ⟨pre,post,sp⟩:=spot u G 0 hn hu
 have hl:=spot_len sp
 have hll:=fl_len G 0
 have hj:pre.length < (G.fl 0).length:=by omega
 have hdu:=dep_le u G 0 hn hu
 have hrl:((⟨(i:Int),(di:Int),t⟩:S37)::s.fl (di+1)).length≤1000000:=by rw [List.length_cons,fl_len];omega
 have hδ:wrap64 (wrap64 (((G.fl 0)[pre.length]'hj).f1+1) - (((⟨(i:Int),(di:Int),t⟩:S37)::s.fl (di+1))[0]'(by simp)).f1)=(dep u 0 G:Int)+1 - di:=by
  rw [spot_get sp hj]
  show wrap64 (wrap64 ((dep u 0 G:Int)+1) - (di:Int))=_
  rw [wrap_id ((dep u 0 G:Int)+1) (by omega) (by omega),wrap_id _ (by omega) (by omega)]
 have hrows:((⟨(i:Int),(di:Int),t⟩:S37)::s.fl (di+1)).map (shift ((dep u 0 G:Int)+1 - di))=⟨(i:Int),((dep u 0 G+1:Nat):Int),t⟩::s.fl (dep u 0 G+2):=by
  rw [List.map_cons,fl_shift s (di+1) (dep u 0 G+2) _ (by omega) (by omega)]
  congr 1
  show (⟨(i:Int),wrap64 ((di:Int)+((dep u 0 G:Int)+1 - di)),t⟩:S37)=_
  rw [wrap_id _ (by omega) (by omega)]
  congr 1;omega
 unfold putF
 by_cases ha0:a=0
 ·subst ha0
  rw [if_pos rfl]
  have:=put_x (G.fl 0) (⟨(i:Int),(di:Int),t⟩::s.fl (di+1)) (u:Int) ((0:Nat):Int) (by omega) hrl (by simp) pre.length hj (spot_at sp) (pre.length+1) (Or.inr ⟨by omega,rfl⟩)
  rw [hδ,hrows] at this
  have e1:(G.fl 0).take (pre.length+1)=pre++[⟨(u:Int),(dep u 0 G:Int),txtF u G⟩]:=by
   rw [sp.all,show pre++(⟨(u:Int),(dep u 0 G:Int),txtF u G⟩::((sub u G).fl (dep u 0 G+1)++post))=(pre++[⟨(u:Int),(dep u 0 G:Int),txtF u G⟩])++((sub u G).fl (dep u 0 G+1)++post) by simp]
   exact List.take_left' (by simp)
  have e2:(G.fl 0).drop (pre.length+1)=(sub u G).fl (dep u 0 G+1)++post:=by
   rw [sp.all,List.drop_append];simp
  rw [e1,e2] at this
  rw [sp.first]
  simpa using this
 ·rw [if_neg ha0]
  obtain ⟨haG,hap⟩:=ha.resolve_left ha0
  obtain ⟨pre',post',sa⟩:=spot a G 0 hn haG
  have hl':=spot_len sa
  have hda:dep a 0 G=dep u 0 G+1:=by
   rcases dep_par a G 0 0 hn haG with ⟨_,_,h⟩|⟨_,h⟩
   ·rw [hap] at h;exact absurd h (h0 u hu)
   ·rw [h,hap]
  have:=put_x (G.fl 0) (⟨(i:Int),(di:Int),t⟩::s.fl (di+1)) (u:Int) (a:Int) (by omega) hrl (by simp) pre.length hj (spot_at sp) (pre'.length+1+(sub a G).ids.length) (Or.inl ⟨by omega,pre'.length,by omega,spot_at sa,(spot_end sa).symm⟩)
  rw [hδ,hrows] at this
  have e0:(sub a G).ids.length=((sub a G).fl (dep a 0 G+1)).length:=(fl_len _ _).symm
  have e1:(G.fl 0).take (pre'.length+1+(sub a G).ids.length)=pre'++⟨(a:Int),(dep a 0 G:Int),txtF a G⟩::(sub a G).fl (dep a 0 G+1):=by
   rw [sa.all,e0,show pre'++(⟨(a:Int),(dep a 0 G:Int),txtF a G⟩::((sub a G).fl (dep a 0 G+1)++post'))=(pre'++⟨(a:Int),(dep a 0 G:Int),txtF a G⟩::(sub a G).fl (dep a 0 G+1))++post' by simp]
   exact List.take_left' (by simp;omega)
  have e2:(G.fl 0).drop (pre'.length+1+(sub a G).ids.length)=post':=by
   rw [sa.all,e0,show pre'++(⟨(a:Int),(dep a 0 G:Int),txtF a G⟩::((sub a G).fl (dep a 0 G+1)++post'))=(pre'++⟨(a:Int),(dep a 0 G:Int),txtF a G⟩::(sub a G).fl (dep a 0 G+1))++post' by simp]
   exact List.drop_left' (by simp;omega)
  rw [e1,e2] at this
  rw [sa.after,hda,show dep u 0 G+1+1=dep u 0 G+2 by omega]
  rw [hda] at this
  simpa using this
theorem set_mid {pre rest:List S37} {r r':S37}:(pre++r::rest).set pre.length r'=pre++r'::rest:=by
 rw [List.set_append_right _ _ (Nat.le_refl _),Nat.sub_self,List.set_cons_zero]
theorem where_x {G:Fo} (g:Good G) (kd:Int) (i:Nat) (hi0:i≠0) (up at_:Int) (s:ByteArray) (hk:kd=1∨kd=3) :
  Ev (fun n=>spec_l3Where.f n (G.fl 0) kd (i:Int) up at_ s) (if (kd=1∧i∉G.ids)∨(kd=3∧i∈G.ids∧¬ under i (fndF G up) G) then (((nearF G (i:Int) up at_).1:Int),((nearF G (i:Int) up at_).2:Int),true) else (0,0,false)):=by
 have none_:∀ f:Nat→Option (Int×Int×Bool),(∀ n,f n=spec_l3Where.j0 n (G.fl 0) true kd (i:Int) up at_ s)→Ev f (0,0,false):=fun f hf =>
  Ev.congr hf (Ev.step (f:=fun _=>some (0,0,false)) (fun n=>by simp only [spec_l3Where.j0,if_true]) (evnow _))
 have hll:=fl_len G 0
 have hg:=g.len
 have h2:kd≠2:=by rcases hk with rfl|rfl <;> decide
 unfold spec_l3Where.f
 refine Ev.bind (at_f (G.fl 0) i (by omega)) (ev_neg h2 ?_)
 by_cases hi:i∈G.ids
 ·obtain ⟨pre,post,sp⟩:=spot i G 0 g.nd hi
  rw [spot_at sp]
  have hd:decide ((pre.length:Int)≥0)=true:=dt_ (by omega)
  rw [hd]
  rcases hk with rfl|rfl
  ·rw [if_neg (show ¬ ((1:Int)=1∧i∉G.ids∨(1:Int)=3∧i∈G.ids∧¬ under i (fndF G up) G) by simp [hi])]
   exact ev_pos (by decide) (none_ _ fun n=>rfl)
  ·refine ev_neg (by decide) (ev_pos (by omega) ?_)
   refine Ev.bind (under_x g hi up) ?_
   by_cases hu:under i (fndF G up) G
   ·rw [if_neg (by simp [hu])]
    exact none_ _ fun n=>by simp only [dt_ hu]
   ·rw [if_pos (Or.inr ⟨rfl,hi,hu⟩)]
    exact Ev.congr (fun n=>by simp only [df_ hu]) (near_x g 3 (i:Int) up at_ s)
 ·have hf:fndF G (i:Int)=0:=(fndF_zero g.ne0).2 fun y hy e=>hi ((show y=i by omega) ▸ hy)
  rw [at_fnd0 hf g.ne0]
  rcases hk with rfl|rfl
  ·rw [if_pos (Or.inl ⟨rfl,hi⟩)]
   refine ev_neg (by decide) (ev_neg (by decide) ?_)
   exact near_x g 1 (i:Int) up at_ s
  ·rw [if_neg (by simp [hi])]
   exact ev_pos (by decide) (none_ _ fun n=>rfl)
theorem fndF_cases {G:Fo} (g:Good G) (i:Nat):(i∈G.ids∧fndF G (i:Int)=i)∨(i∉G.ids∧fndF G (i:Int)=0):=by
 by_cases hi:i∈G.ids
 ·exact Or.inl ⟨hi,fndF_nat hi⟩
 ·exact Or.inr ⟨hi,(fndF_zero g.ne0).2 fun y hy e=>hi ((show y=i by omega) ▸ hy)⟩
theorem do_x {G:Fo} (g:Good G) (kd:Int) (i:Nat) (hi0:i≠0) (hit:i∉G.tops) (up at_:Int) (s:ByteArray) (hk:kd=1∨kd=2∨kd=3) :
  Ev (fun n=>spec_l3Do.f n (G.fl 0) kd (i:Int) up at_ s) ((doF G kd (i:Int) up at_ s).fl 0):=by
 have hll:=fl_len G 0
 have hg:=g.len
 have same:∀ f:Nat→Option (List S37),(∀ n,f n=((some (([]:List S37):List S37)).bind fun y=>(if y.length+(G.fl 0).length < 4398046511104 then (some (y++G.fl 0)) else none)))→Ev f (G.fl 0):=fun f hf=>Ev.congr hf (by
  simp only [Option.bind_some,List.nil_append]
  exact ev_pos (by simp;omega) (evnow _))
 unfold spec_l3Do.f doF
 rcases hk with rfl|rfl|rfl
 ·rw [if_neg (by decide),if_pos rfl]
  refine Ev.bind (at_f (G.fl 0) i (by omega)) (ev_neg (by decide) ?_)
  refine Ev.bind (where_x g 1 i hi0 up at_ s (Or.inl rfl)) ?_
  rcases fndF_cases g i with ⟨hi,hf⟩|⟨hi,hf⟩
  ·rw [hf,if_neg hi0,if_neg (by simp [hi])]
   exact ev_neg (by simp) (same _ fun n=>rfl)
  ·rw [hf,if_pos rfl,if_pos (Or.inl ⟨rfl,hi⟩)]
   refine ev_pos rfl (ev_pos rfl ?_)
   have hp:=near_ok (G:=G) (tops_ids g.three) (i:Int) up at_
   have:=put_F g.nd g.ne0 hg (nearF G (i:Int) up at_) hp.up (hp.at_.imp id fun ⟨a1,a2,_⟩=>⟨a1,a2⟩) i 0 s .nil (by omega) (by simp [Fo.ids])
   exact Ev.bind this (evnow _)
 ·rw [if_pos rfl]
  refine Ev.bind (at_f (G.fl 0) i (by omega)) (ev_pos rfl ?_)
  simp only [Option.bind_some]
  refine ev_pos (by simp;omega) ?_
  rcases fndF_cases g i with ⟨hi,hf⟩|⟨hi,hf⟩
  ·rw [hf,if_neg hi0]
   obtain ⟨pre,post,sp⟩:=spot i G 0 g.nd hi
   have hl:=spot_len sp
   have hj:pre.length < (G.fl 0).length:=by omega
   rw [spot_at sp]
   simp only [List.nil_append,Int.toNat_natCast,rdR_get (G.fl 0) pre.length hj]
   refine ev_pos (by omega) (ev_pos (by omega) (ev_pos (by omega) ?_))
   have:(G.fl 0).set pre.length (⟨((G.fl 0)[pre.length]'hj).f0,((G.fl 0)[pre.length]'hj).f1,s⟩:S37)=(setF i s G).fl 0:=by
    rw [spot_get sp hj,sp.text,sp.all]
    exact set_mid
   rw [this]
   exact evnow _
  ·rw [hf,if_pos rfl,at_fnd0 hf g.ne0]
   simp only [List.nil_append]
   exact ev_neg (by omega) (evnow _)
 ·rw [if_neg (by decide),if_neg (by decide)]
  refine Ev.bind (at_f (G.fl 0) i (by omega)) (ev_neg (by decide) ?_)
  refine Ev.bind (where_x g 3 i hi0 up at_ s (Or.inr rfl)) ?_
  rcases fndF_cases g i with ⟨hi,hf⟩|⟨hi,hf⟩
  ·rw [hf,if_neg hi0]
   by_cases hu:under i (fndF G up) G
   ·rw [if_pos hu,if_neg (by simp [hu])]
    exact ev_neg (by simp) (same _ fun n=>rfl)
   ·rw [if_neg hu,if_pos (Or.inr ⟨rfl,hi,hu⟩)]
    obtain ⟨pre,post,sp⟩:=spot i G 0 g.nd hi
    have hl:=spot_len sp
    have hj:pre.length < (G.fl 0).length:=by omega
    rw [spot_at sp]
    refine ev_pos rfl (ev_neg (by decide) ?_)
    refine Ev.bind (end_f (G.fl 0) pre.length hj (by omega)) ?_
    rw [spot_end sp]
    have e0:(sub i G).ids.length=((sub i G).fl (dep i 0 G+1)).length:=(fl_len _ _).symm
    have eall:G.fl 0=(pre++⟨(i:Int),(dep i 0 G:Int),txtF i G⟩::(sub i G).fl (dep i 0 G+1))++post:=by rw [sp.all];simp
    have eT:(G.fl 0).take (pre.length+1+(sub i G).ids.length)=pre++⟨(i:Int),(dep i 0 G:Int),txtF i G⟩::(sub i G).fl (dep i 0 G+1):=by
     rw [eall,e0];exact List.take_left' (by simp;omega)
    have eD:(G.fl 0).drop (pre.length+1+(sub i G).ids.length)=post:=by
     rw [eall,e0];exact List.drop_left' (by simp;omega)
    have eP:(G.fl 0).take pre.length=pre:=by rw [sp.all];exact List.take_left' rfl
    have eM:(pre++(⟨(i:Int),(dep i 0 G:Int),txtF i G⟩:S37)::(sub i G).fl (dep i 0 G+1)).drop pre.length=⟨(i:Int),(dep i 0 G:Int),txtF i G⟩::(sub i G).fl (dep i 0 G+1):=List.drop_left' rfl
    simp only [Option.bind_some,Int.toNat_natCast]
    refine ev_pos (by omega) (ev_pos (by omega) (ev_pos (by omega) ?_))
    refine ev_pos (by rw [List.length_drop,List.length_take];simp;omega) ?_
    refine ev_pos (by omega) ?_
    refine ev_pos (by rw [List.length_take];simp;omega) ?_
    refine ev_pos (by omega) ?_
    refine ev_pos (by rw [List.length_append,List.length_take,List.length_drop];simp;omega) ?_
    simp only [List.nil_append]
    rw [eT,eM,eP,eD,←sp.del]
    obtain ⟨h,hr⟩:=reptop_ex G g.nd g.ne0
    have hp:=near_del hr g.nd g.three hi hit (id:=(i:Int)) (up:=up) (at_:=at_) rfl hu
    have hperm:=ids_del i G g.nd hi
    obtain ⟨n1,n2⟩:=List.nodup_cons.1 (hperm.nodup_iff.1 g.nd)
    obtain ⟨n3,n4,n5⟩:=List.nodup_append.1 n2
    have hlens:=hperm.length_eq
    simp only [List.length_cons,List.length_append] at hlens
    have hd:=dep_le i G 0 g.nd hi
    have:=put_F (G:=FP.del i G) n4 (fun x hx=>g.ne0 x (del_ids_sub i hx)) (by omega) (nearF G (i:Int) up at_) hp.1 (hp.2.imp id fun ⟨a1,a2,_⟩=>⟨a1,by
     rw [par_del i _ G 0 g.nd a1,←reptop_par hr g.nd (del_ids_sub i a1)];exact a2⟩) i (dep i 0 G) (txtF i G) (sub i G) (by omega) (by omega)
    exact Ev.bind this (evnow _)
  ·rw [hf,if_pos rfl,if_neg (by simp [hi])]
   exact ev_neg (by simp) (same _ fun n=>rfl)
def wfR (r:S37):Prop:=I64 r.f0∧r.f2.size≤9223372036854775807
theorem treeGo_congr:∀ (l:List S37) (s s':List Int) (roots d:Int),(∀ x,x∈s↔x∈s')→treeGo s roots d l=treeGo s' roots d l
 | [],_,_,_,_,_=>rfl
 | r::rest,s,s',roots,d,h=>by
  have hc:∀ x,x∈r.f0::s↔x∈r.f0::s':=fun x=>by simp only [List.mem_cons,h x]
  have hd:decide (r.f0∉s)=decide (r.f0∉s'):=by simp only [h r.f0]
  unfold treeGo
  rw [hd,treeGo_congr rest _ _ (roots+1) r.f1 hc,treeGo_congr rest _ _ roots r.f1 hc]
theorem rowB_deep {r:S37} (h:rowB r=true):0≤r.f1∧r.f1≤18:=by
 obtain ⟨_,_,d0,d18⟩:=rowB_id h
 exact ⟨d0,d18⟩
theorem st_l1 (t:List S37) (hl:t.length≤1000000000) (roots:Int) (i:Nat) (hi:i < t.length) (b:Bool) (hnext:Ev (fun k=>spec_TreeOk.l0 k t roots ((i:Int)+1)) b):∀ (n j:Nat),j+n=i→Ev (fun k=>spec_TreeOk.l1 k t roots i j) (decide (t[i].f0∉((t.take i).drop j).map (·.f0))&&b)
 | 0,j,h=>by
  have hji:j=i:=by omega
  subst hji
  rw [List.drop_eq_nil_of_le (by rw [List.length_take];omega)]
  refine Ev.step (fun k=>by simp only [spec_TreeOk.l1];rfl) ?_
  refine ev_neg (by omega) ?_
  rw [wrapS j (by omega) (by omega)]
  simpa using hnext
 | n+1,j,h=>by
  have hj:j < (t.take i).length:=by rw [List.length_take];omega
  have hjt:j < t.length:=by omega
  rw [List.drop_eq_getElem_cons hj,List.map_cons,List.getElem_take]
  refine Ev.step (fun k=>by simp only [spec_TreeOk.l1];rfl) ?_
  refine ev_pos (by omega) (ev_pos (by omega) (ev_pos (by omega) (ev_pos (by omega) (ev_pos (by omega) ?_))))
  rw [rdR_get t j hjt,rdR_get t i hi,wrapS j (by omega) (by omega)]
  by_cases hq:t[j].f0=t[i].f0
  ·refine ev_pos hq ?_
   rw [df_ (by simp [hq]),Bool.false_and]
   exact evnow _
  ·refine ev_neg hq ?_
   have ih:=st_l1 t hl roots i hi b hnext n (j+1) (by omega)
   have e:decide (t[i].f0∉t[j].f0::((t.take i).drop (j+1)).map (·.f0))=decide (t[i].f0∉((t.take i).drop (j+1)).map (·.f0)):=by
    rw [decide_eq_decide,List.mem_cons,not_or]
    exact ⟨fun q=>q.2,fun q=>⟨fun e=>hq e.symm,q⟩⟩
   rw [e]
   exact ih
theorem st_l0 (t:List S37) (hl:t.length≤1000000000) (hw:∀ r∈t,wfR r):∀ (n i:Nat) (roots:Int) (h:i+n=t.length) (h1:0 < i) (h2:i≤t.length),0≤roots→roots≤i→rowB (t[i - 1]'(by omega))=true →
  Ev (fun k=>spec_TreeOk.l0 k t roots i) (treeGo ((t.take i).map (·.f0)) roots (t[i - 1]'(by omega)).f1 (t.drop i)&&((t[0]'(by omega)).f0==1))
 | 0,i,roots,h,h1,h2,r0,r1,hp=>by
  rw [List.drop_eq_nil_of_le (by omega)]
  refine Ev.step (fun k=>by simp only [spec_TreeOk.l0];rfl) ?_
  refine ev_neg (by omega) ?_
  unfold treeGo
  by_cases hr:roots=3
  ·refine ev_pos hr (ev_pos (by omega) ?_)
   rw [dt_ hr,Bool.true_and,show rd_T37 t 0=t[0]'(by omega) from rdR_get t 0 (by omega)]
   exact evnow _
  ·refine ev_neg hr ?_
   rw [df_ hr,Bool.false_and]
   exact evnow _
 | n+1,i,roots,h,h1,h2,r0,r1,hp=>by
  have hi:i < t.length:=by omega
  have hi1:i - 1 < t.length:=by omega
  obtain ⟨w0,w1⟩:=hw t[i] (List.getElem_mem hi)
  obtain ⟨d0,d18⟩:=rowB_deep hp
  rw [List.drop_eq_getElem_cons hi]
  refine Ev.step (fun k=>by simp only [spec_TreeOk.l0];rfl) ?_
  refine ev_pos (by omega) (ev_pos (by omega) ?_)
  rw [rdR_get t i hi]
  refine Ev.bind (srow_f t[i] w0 w1) ?_
  unfold treeGo
  cases hrow:rowB t[i] with
  | false =>
   simp only [Bool.false_eq_true,if_false,Bool.false_and]
   refine Ev.step (fun k=>by simp only [spec_TreeOk.j1];rfl) ?_
   exact ev_pos trivial (evnow _)
  | true =>
   simp only [if_true,Bool.true_and]
   have hw1:wrap64 ((i:Int) - 1)=((i - 1:Nat):Int):=by rw [wrap_id _ (by omega) (by omega)];omega
   rw [hw1]
   refine ev_pos (by omega) (ev_pos (by omega) (ev_pos (by omega) ?_))
   rw [rdR_get t (i - 1) hi1,wrap_id (t[i - 1].f1+1) (by omega) (by omega)]
   refine Ev.step (fun k=>by simp only [spec_TreeOk.j1];rfl) ?_
   by_cases hd:t[i].f1 > t[i - 1].f1+1
   ·refine ev_pos (by simpa using hd) ?_
    rw [df_ (show ¬ t[i].f1≤t[i - 1].f1+1 by omega),Bool.false_and,Bool.and_false,Bool.false_and]
    exact evnow _
   ·refine ev_neg (by simpa using hd) (ev_pos (by omega) (ev_pos (by omega) ?_))
    rw [dt_ (show t[i].f1≤t[i - 1].f1+1 by omega),Bool.true_and,rdR_get t i hi,root_f]
    simp only [Option.bind_some]
    have hseen:∀ x,x∈(t.take (i+1)).map (·.f0)↔x∈t[i].f0::(t.take i).map (·.f0):=fun x=>by
     rw [List.take_succ_eq_append_getElem hi,List.map_append,List.mem_append,List.mem_cons]
     simp [or_comm]
    have hstep:∀ (roots':Int),0≤roots'→roots'≤(i+1:Nat)→Ev (fun k=>spec_TreeOk.j2 k t roots' i) (decide (t[i].f0∉(t.take i).map (·.f0))&&(treeGo (t[i].f0::(t.take i).map (·.f0)) roots' t[i].f1 (t.drop (i+1))&&((t[0]'(by omega)).f0==1))):=fun roots' q0 q1=>by
     refine Ev.step (fun k=>by simp only [spec_TreeOk.j2];rfl) ?_
     have ih:=st_l0 t hl hw n (i+1) roots' (by omega) (by omega) (by omega) q0 q1 hrow
     have ih2:Ev (fun k=>spec_TreeOk.l0 k t roots' ((i:Int)+1)) (treeGo (t[i].f0::(t.take i).map (·.f0)) roots' t[i].f1 (t.drop (i+1))&&((t[0]'(by omega)).f0==1)):=by
      rw [←treeGo_congr (t.drop (i+1)) _ _ roots' t[i].f1 hseen]
      exact ih
     have:=st_l1 t hl roots' i hi _ ih2 i 0 (by omega)
     rw [List.drop_zero] at this
     exact this
    cases hroot:rootB t[i].f0 with
    | true =>
     simp only [if_true]
     have hw2:wrap64 (roots+1)=roots+1:=wrap_id _ (by omega) (by omega)
     rw [hw2]
     by_cases he:t[i].f0=roots+1
     ·refine ev_pos he ?_
      rw [dt_ he,Bool.true_and,Bool.and_assoc]
      exact hstep (roots+1) (by omega) (by omega)
     ·refine ev_neg he ?_
      rw [df_ he,Bool.false_and,Bool.and_false,Bool.false_and]
      exact evnow _
    | false =>
     simp only [Bool.false_eq_true,if_false]
     rw [Bool.and_assoc]
     exact hstep roots r0 (by omega)
theorem stree_f (t:List S37) (hl:t.length≤1000000000) (hw:∀ r∈t,wfR r):Ev (fun k=>spec_TreeOk.f k t) (treeB t):=by
 unfold spec_TreeOk.f treeB
 cases t with
 | nil =>
  refine Ev.step (fun k=>by simp only [spec_TreeOk.l0];rfl) ?_
  exact ev_neg (by simp) (ev_neg (by decide) (evnow _))
 | cons r rest =>
  obtain ⟨w0,w1⟩:=hw r List.mem_cons_self
  have hr0:rd_T37 (r::rest) 0=r:=rdR_get (r::rest) 0 (by simp)
  refine Ev.step (fun k=>by simp only [spec_TreeOk.l0];rfl) ?_
  refine ev_pos (by simp) (ev_pos (by omega) ?_)
  rw [hr0]
  refine Ev.bind (srow_f r w0 w1) ?_
  unfold treeGo
  cases hrow:rowB r with
  | false =>
   simp only [Bool.false_eq_true,if_false,Bool.false_and]
   refine Ev.step (fun k=>by simp only [spec_TreeOk.j1];rfl) ?_
   exact ev_pos trivial (evnow _)
  | true =>
   simp only [if_true,Bool.true_and]
   refine ev_neg (by omega) ?_
   refine Ev.step (fun k=>by simp only [spec_TreeOk.j1];rfl) ?_
   refine ev_neg (by decide) (ev_pos (by omega) (ev_pos (by simp) ?_))
   rw [hr0,root_f]
   simp only [Option.bind_some]
   have hstep:∀ (roots':Int),0≤roots'→roots'≤1→Ev (fun k=>spec_TreeOk.j2 k (r::rest) roots' 0) (treeGo [r.f0] roots' r.f1 rest&&(r.f0==1)):=fun roots' q0 q1=>by
    refine Ev.step (fun k=>by simp only [spec_TreeOk.j2];rfl) ?_
    have ih:=st_l0 (r::rest) hl hw rest.length 1 roots' (by simp;omega) (by omega) (by simp) q0 (by omega) hrow
    have:=st_l1 (r::rest) hl roots' 0 (by simp) _ ih 0 0 rfl
    simpa using this
   have hdp:=rowB_deep hrow
   cases hroot:rootB r.f0 with
   | true =>
    simp only [if_true]
    have hd:r.f1=0:=by
     unfold rowB at hrow
     rw [if_pos hroot] at hrow
     simp only [Bool.and_eq_true,decide_eq_true_eq] at hrow
     exact hrow.1
    rw [dt_ (show r.f1≤-1+1 by omega),Bool.true_and,show wrap64 (0+1)=1 from wrap_id (0+1) (by omega) (by omega)]
    by_cases he:r.f0=1
    ·refine ev_pos he ?_
     have:=hstep 1 (by omega) (by omega)
     have e1:(r.f0==1)=true:=beq_iff_eq.2 he
     rw [e1,Bool.and_true] at this
     simpa [he] using this
    ·refine ev_neg he ?_
     rw [df_ (show ¬ r.f0=0+1 by omega),Bool.false_and,Bool.and_false]
     exact evnow _
   | false =>
    simp only [Bool.false_eq_true,if_false]
    have hd:1≤r.f1:=by
     unfold rowB at hrow
     rw [if_neg (by rw [hroot];decide)] at hrow
     simp only [Bool.and_eq_true,decide_eq_true_eq] at hrow
     exact hrow.2.1
    have hne:(r.f0==1)=false:=beq_eq_false_iff_ne.2 fun e=>by rw [e] at hroot;exact absurd hroot (by decide)
    rw [df_ (show ¬ r.f1≤-1+1 by omega),Bool.false_and,Bool.and_false]
    have:=hstep 0 (by omega) (by omega)
    rwa [hne,Bool.and_false] at this
theorem good_fold:∀ (l:List S37) (G:Fo) (seen:List Int) (roots:Nat),treeGo seen (roots:Int) ((dpth G:Int) - 1) l=true→G.ids.Nodup→(∀ x∈G.ids,x≠0∧x < 37∧(x:Int)∈seen)→G.tops=List.range' 1 roots →
  (l.foldl (fun G x=>snoc x.f0.toNat x.f2 x.f1.toNat G) G).ids.Nodup∧(∀ x∈(l.foldl (fun G x=>snoc x.f0.toNat x.f2 x.f1.toNat G) G).ids,x≠0∧x < 37)∧(l.foldl (fun G x=>snoc x.f0.toNat x.f2 x.f1.toNat G) G).tops=[1,2,3]
 | [],G,seen,roots,h,hn,hs,ht=>by
  unfold treeGo at h
  have h3:=of_decide_eq_true h
  refine ⟨hn,fun x hx=>⟨(hs x hx).1,(hs x hx).2.1⟩,?_⟩
  show G.tops=_
  rw [ht,show roots=3 by omega];rfl
 | x::l,G,seen,roots,h,hn,hs,ht=>by
  unfold treeGo at h
  simp only [Bool.and_eq_true,decide_eq_true_eq] at h
  obtain ⟨hrow,hns,hdep,hrest⟩:=h
  obtain ⟨b0,b37,d0,d18⟩:=rowB_id hrow
  have he:x.f1.toNat≤dpth G:=by omega
  have hd:((dpth (snoc x.f0.toNat x.f2 x.f1.toNat G):Int) - 1)=x.f1:=by rw [snoc_dpth _ _ G _ he];omega
  have hx0:x.f0.toNat≠0:=by
   intro e
   have e2:x.f0=0:=by omega
   unfold rowB at hrow
   rw [e2] at hrow
   have r0:rootB (0:Int)=false:=by decide
   have m0:madeB (0:Int)=false:=by decide
   simp [r0,m0] at hrow
  have hi:x.f0.toNat∉G.ids:=fun hc=>hns (by have:=(hs _ hc).2.2;rwa [show ((x.f0.toNat:Nat):Int)=x.f0 by omega] at this)
  have hn2:(snoc x.f0.toNat x.f2 x.f1.toNat G).ids.Nodup:=by
   rw [snoc_ids]
   exact List.nodup_append.2 ⟨hn,by simp,fun a ha b hb e=>by rw [List.mem_singleton.1 hb] at e;exact hi (e ▸ ha)⟩
  have hs2:∀ y∈(snoc x.f0.toNat x.f2 x.f1.toNat G).ids,y≠0∧y < 37∧(y:Int)∈x.f0::seen:=fun y hy=>by
   rw [snoc_ids] at hy
   rcases List.mem_append.1 hy with hy|hy
   ·obtain ⟨q1,q2,q3⟩:=hs y hy;exact ⟨q1,q2,List.mem_cons_of_mem _ q3⟩
   ·rw [List.mem_singleton.1 hy]
    exact ⟨hx0,by omega,by rw [show ((x.f0.toNat:Nat):Int)=x.f0 by omega];exact List.mem_cons_self⟩
  rw [List.foldl_cons]
  by_cases hroot:rootB x.f0=true
  ·rw [if_pos hroot,Bool.and_eq_true,decide_eq_true_eq] at hrest
   have hd0:x.f1=0:=by
    unfold rowB at hrow
    rw [if_pos hroot] at hrow
    simp only [Bool.and_eq_true,decide_eq_true_eq] at hrow
    exact hrow.1
   refine good_fold l _ (x.f0::seen) (roots+1) ?_ hn2 hs2 ?_
   ·rw [hd];exact hrest.2
   ·rw [snoc_tops _ _ G _ he,if_pos (by omega),ht,List.range'_concat]
    rw [show x.f0.toNat=1+1 * roots by omega]
  ·rw [if_neg hroot] at hrest
   have hd1:1≤x.f1:=by
    unfold rowB at hrow
    rw [if_neg hroot] at hrow
    simp only [Bool.and_eq_true,decide_eq_true_eq] at hrow
    exact hrow.2.1
   refine good_fold l _ (x.f0::seen) roots ?_ hn2 hs2 ?_
   ·rw [hd];exact hrest
   ·rw [snoc_tops _ _ G _ he,if_neg (by omega),ht]
theorem good_of {l:List S37} (h:treeB l=true):Good (toFo l):=by
 obtain ⟨h1,h2,h3⟩:=good_fold l .nil [] 0 h (by simp [Fo.ids]) (by simp [Fo.ids]) rfl
 exact ⟨h1,fun x hx=>(h2 x hx).1,h3,by have:=nodup_len 37 _ h1 (fun x hx=>(h2 x hx).2);unfold toFo;omega⟩
theorem opB_kind {k i u a:Int} {s:ByteArray} (h:opB k i u a s=true):k=1∨k=2∨k=3:=by
 unfold opB at h
 by_cases h1:k=1
 ·exact Or.inl h1
 ·by_cases h2:k=2
  ·exact Or.inr (Or.inl h2)
  ·by_cases h3:k=3
   ·exact Or.inr (Or.inr h3)
   ·rw [if_neg h1,if_neg h2,if_neg h3] at h;simp at h
def opDoR (l:List S37) (k i u a:Int) (s:ByteArray):List S37:=if opB k i u a s=true then (if treeB l=true then (doF (toFo l) k i u a s).fl 0 else []) else []
theorem iopDo_f (l:List S37) (k i u a:Int) (s:ByteArray) (hs:s.size≤9223372036854775807):Ev (fun n=>impl_OpDo.f n l k i u a s) (opDoR l k i u a s):=by
 unfold impl_OpDo.f opDoR
 exact Ev.bind (opOk_f k i u a s hs) (evnow _)
def okT (x:Nat) (t:ByteArray):Bool:=if rootB (x:Int) then (t.toList==([]:List UInt8)) else madeB (x:Int)&&textB t
structure Val (G:Fo):Prop where
 nd:G.ids.Nodup
 tops:G.tops=[1,2,3]
 ok:∀ x∈G.ids,okT x (txtF x G)=true
theorem okT_ne {x:Nat} {t:ByteArray} (h:okT x t=true):1≤x∧x < 37:=by
 unfold okT at h
 by_cases hr:rootB (x:Int)=true
 ·unfold rootB at hr;simp only [Bool.and_eq_true,decide_eq_true_eq] at hr;omega
 ·rw [if_neg hr,Bool.and_eq_true] at h
  have:=made_small _ h.1
  obtain ⟨m,hm,h4,h37⟩:=made_num h.1
  omega
theorem Val.ne0 {G:Fo} (v:Val G):∀ x∈G.ids,x≠0:=fun x hx=>by have:=okT_ne (v.ok x hx);omega
theorem Val.three {G:Fo} (v:Val G):3∈G.tops:=by rw [v.tops];simp
theorem made_not_root {x:Int} (h:madeB x=true):rootB x=false:=by
 obtain ⟨m,rfl,h4,h37⟩:=made_num h
 unfold rootB;simp;omega
theorem Val.top {G:Fo} (v:Val G) {x:Nat} (hm:madeB (x:Int)=true):x∉G.tops:=by
 have:=made_not_root hm
 rw [v.tops]
 intro h
 simp only [List.mem_cons,List.not_mem_nil,or_false] at h
 rcases h with rfl|rfl|rfl <;> exact absurd this (by decide)
theorem sub_len:∀ (l m:List Nat),l.Nodup→(∀ x∈l,x∈m)→l.length≤m.length
 | [],m,_,_=>Nat.zero_le _
 | x::l,m,hn,h=>by
  obtain ⟨h1,h2⟩:=List.nodup_cons.1 hn
  have:=sub_len l (m.erase x) h2 fun y hy=>(List.mem_erase_of_ne (fun (e:y=x)=>h1 (e ▸ hy))).2 (h y (List.mem_cons_of_mem _ hy))
  rw [List.length_erase_of_mem (h x List.mem_cons_self)] at this
  have:=List.length_pos_of_mem (h x List.mem_cons_self)
  simp only [List.length_cons];omega
theorem made_list:∀ n:Nat,n < 37→madeB (n:Int)=true→n∈[11,12,13,14,15,16,21,22,23,24,25,26,31,32,33,34,35,36]:=by decide
theorem all_list:∀ n:Nat,n < 37→(rootB (n:Int) || madeB (n:Int))=true→n∈[1,2,3,11,12,13,14,15,16,21,22,23,24,25,26,31,32,33,34,35,36]:=by decide
theorem Val.len {G:Fo} (v:Val G):G.ids.length≤21:=sub_len _ [1,2,3,11,12,13,14,15,16,21,22,23,24,25,26,31,32,33,34,35,36] v.nd fun x hx=>by
 have h:=v.ok x hx
 have h2:=okT_ne h
 refine all_list x h2.2 ?_
 unfold okT at h
 by_cases hr:rootB (x:Int)=true
 ·rw [hr];rfl
 ·rw [if_neg hr,Bool.and_eq_true] at h
  rw [h.1,Bool.or_true]
theorem Val.good {G:Fo} (v:Val G):Good G:=⟨v.nd,v.ne0,v.tops,by have:=v.len;omega⟩
theorem made_of_ok {x:Nat} {t:ByteArray} (h:okT x t=true) (h3:4≤x):madeB (x:Int)=true∧textB t=true:=by
 unfold okT at h
 have hr:¬ rootB (x:Int)=true:=by unfold rootB;simp;omega
 rwa [if_neg hr,Bool.and_eq_true] at h
theorem treeGo_rows:∀ (l:List S37) (seen:List Int) (roots d:Int),treeGo seen roots d l=true→∀ r∈l,rowB r=true
 | [],_,_,_,_,r,hr=>by cases hr
 | x::l,seen,roots,d,h,r,hr=>by
  unfold treeGo at h
  simp only [Bool.and_eq_true] at h
  obtain ⟨h1,_,_,h2⟩:=h
  rcases List.mem_cons.1 hr with rfl|hr
  ·exact h1
  ·split at h2
   ·simp only [Bool.and_eq_true] at h2;exact treeGo_rows l _ _ _ h2.2 r hr
   ·exact treeGo_rows l _ _ _ h2 r hr
theorem row_fl {G:Fo} (hn:G.ids.Nodup) {x d:Nat} (hx:x∈G.ids):(⟨(x:Int),(dep x d G:Int),txtF x G⟩:S37)∈G.fl d:=by
 obtain ⟨pre,post,s⟩:=spot x G d hn hx
 rw [s.all];simp
theorem val_of {l:List S37} (h:treeB l=true):Val (toFo l):=by
 have g:=good_of h
 refine ⟨g.nd,g.tops,fun x hx=>?_⟩
 have hr:=row_fl g.nd (d:=0) hx
 rw [toFo_fl h] at hr
 have:=treeGo_rows l _ _ _ h _ hr
 unfold rowB at this
 unfold okT
 simp only at this
 split
 ·rename_i e;rw [if_pos e,Bool.and_eq_true] at this;exact this.2
 ·rename_i e;rw [if_neg e] at this;simp only [Bool.and_eq_true] at this;rw [this.1,this.2.2.2];rfl
theorem go_in:∀ (F:Fo) (d:Nat) (seen:List Int) (roots prev:Int) (rest:List S37),1≤d→(d:Int)≤prev+1→F.ids.Nodup→(∀ x∈F.ids,(x:Int)∉seen)→(∀ r∈F.fl d,rowB r=true∧rootB r.f0=false) →
  (∀ (seen':List Int) (prev':Int),(d:Int)≤prev'+1→(∀ y,y∈seen'↔y∈seen∨∃ x∈F.ids,y=(x:Int))→treeGo seen' roots prev' rest=true)→treeGo seen roots prev (F.fl d++rest)=true
 | .nil,d,seen,roots,prev,rest,h1,hd,hn,hs,hr,k=>k seen prev hd fun y=>by simp [Fo.ids]
 | .nd j t k n,d,seen,roots,prev,rest,h1,hd,hn,hs,hr,kk=>by
  obtain ⟨n1,n2,n3,n4,n5⟩:=nodup_nd hn
  obtain ⟨q1,q2⟩:=hr ⟨(j:Int),(d:Int),t⟩ (by simp [Fo.fl])
  simp only at q2
  rw [Fo.fl,List.cons_append,List.append_assoc]
  unfold treeGo
  simp only [q1,q2,Bool.true_and,Bool.false_eq_true,if_false]
  rw [dt_ (hs j (by simp [Fo.ids])),dt_ hd,Bool.true_and,Bool.true_and]
  refine go_in k (d+1) _ roots d _ (by omega) (by omega) n3 (fun x hx=>?_) (fun r hr'=>hr r (by simp [Fo.fl,hr'])) fun seen1 prev1 hp1 hs1=>?_
  ·rw [List.mem_cons,not_or]
   exact ⟨fun e=>n1 (by rw [show j=x by omega];exact hx),hs x (by simp [Fo.ids,hx])⟩
  ·refine go_in n d seen1 roots prev1 rest h1 (by omega) n4 (fun x hx=>?_) (fun r hr'=>hr r (by simp [Fo.fl,hr'])) fun seen2 prev2 hp2 hs2=>?_
   ·rw [hs1,List.mem_cons]
    rintro ((e|e)|⟨z,hz,e⟩)
    ·exact n2 (by rw [show j=x by omega];exact hx)
    ·exact hs x (by simp [Fo.ids,hx]) e
    ·exact n5 z hz (by rw [show z=x by omega];exact hx)
   ·refine kk seen2 prev2 hp2 fun y=>?_
    rw [hs2,hs1]
    simp only [Fo.ids,List.mem_cons,List.mem_append]
    constructor
    ·rintro (((e|e)|⟨x,hx,e⟩)|⟨x,hx,e⟩)
     ·exact Or.inr ⟨j,Or.inl rfl,e⟩
     ·exact Or.inl e
     ·exact Or.inr ⟨x,Or.inr (Or.inl hx),e⟩
     ·exact Or.inr ⟨x,Or.inr (Or.inr hx),e⟩
    ·rintro (e|⟨x,rfl|hx|hx,e⟩)
     ·exact Or.inl (Or.inl (Or.inr e))
     ·exact Or.inl (Or.inl (Or.inl e))
     ·exact Or.inl (Or.inr ⟨x,hx,e⟩)
     ·exact Or.inr ⟨x,hx,e⟩
theorem fl_get {F:Fo} {d:Nat} {r:S37} (hn:F.ids.Nodup) (h:r∈F.fl d):∃ x∈F.ids,r=⟨(x:Int),(dep x d F:Int),txtF x F⟩:=by
 obtain ⟨x,hx,e⟩:=fl_ids F d h
 obtain ⟨pre,post,s⟩:=spot x F d hn hx
 refine ⟨x,hx,?_⟩
 have hm:=fl_map F d
 have hnd:((F.fl d).map (·.f0)).Nodup:=by
  rw [hm]
  exact (List.pairwise_map.2 (List.Pairwise.imp (fun {a b} (hne:a≠b)=>(by intro e2;exact hne (Int.ofNat.inj e2):Int.ofNat a≠Int.ofNat b)) hn))
 rw [s.all] at h hnd
 rw [List.map_append,List.map_cons,List.nodup_append] at hnd
 obtain ⟨_,h2,h3⟩:=hnd
 rcases List.mem_append.1 h with h|h
 ·exact absurd e (s.out r h)
 ·rcases List.mem_cons.1 h with h|h
  ·exact h
  ·exfalso
   refine (List.nodup_cons.1 h2).1 ?_
   rw [←e]
   exact List.mem_map.2 ⟨r,h,rfl⟩
theorem three_shape {G:Fo} (h:G.tops=[1,2,3]):∃ t1 k1 t2 k2 t3 k3,G=.nd 1 t1 k1 (.nd 2 t2 k2 (.nd 3 t3 k3 .nil)):=by
 match G,h with
 | .nd a t1 k1 (.nd b t2 k2 (.nd c t3 k3 .nil)),h =>
  simp only [Fo.tops,List.cons.injEq,and_true] at h
  obtain ⟨rfl,rfl,rfl⟩:=h
  exact ⟨t1,k1,t2,k2,t3,k3,rfl⟩
theorem treeB_fl {G:Fo} (v:Val G):treeB (G.fl 0)=true:=by
 have hok:=v.ok
 have hnd:=v.nd
 obtain ⟨t1,k1,t2,k2,t3,k3,rfl⟩:=three_shape v.tops
 obtain ⟨a1,a2,a3,a4,a5⟩:=nodup_nd hnd
 obtain ⟨b1,b2,b3,b4,b5⟩:=nodup_nd a4
 obtain ⟨c1,c2,c3,c4,c5⟩:=nodup_nd b4
 simp only [Fo.ids,List.mem_cons,List.mem_append,not_or,List.not_mem_nil,or_false,not_false_eq_true,and_true] at a2 a5 b2 b5
 replace a5:∀ x∈k1.ids,(x=2∨x∈k2.ids∨x=3∨x∈k3.ids)→False:=fun x hx g=>by have:=a5 x hx;grind
 replace b5:∀ x∈k2.ids,(x=3∨x∈k3.ids)→False:=fun x hx g=>by have:=b5 x hx;grind
 have big:∀ k:Fo,k.ids.Nodup→(∀ x∈k.ids,x≠1∧x≠2∧x≠3)→(∀ x∈k.ids,okT x (txtF x k)=true)→∀ r∈k.fl 1,rowB r=true∧rootB r.f0=false:=by
  intro k hn hne hk r hr
  obtain ⟨x,hx,rfl⟩:=fl_get hn hr
  have h4:=hne x hx
  have h5:=okT_ne (hk x hx)
  obtain ⟨m1,m2⟩:=made_of_ok (hk x hx) (by omega)
  have mr:=made_not_root m1
  have hd:=fl_deep k 1 hr
  have hl:=fl_le k 1 hr
  have hlen:k.ids.length≤18:=sub_len _ [11,12,13,14,15,16,21,22,23,24,25,26,31,32,33,34,35,36] hn fun y hy=>by
   have g4:=hne y hy
   have g5:=okT_ne (hk y hy)
   exact made_list y g5.2 (made_of_ok (hk y hy) (by omega)).1
  simp only at hd hl
  refine ⟨?_,mr⟩
  unfold rowB
  simp only [mr,Bool.false_eq_true,if_false,m1,m2,Bool.true_and,Bool.and_true]
  rw [dt_ (by omega),dt_ (by omega)];rfl
 have root:∀ (x:Nat) (t:ByteArray),rootB (x:Int)=true→okT x t=true→rowB ⟨(x:Int),0,t⟩=true:=by
  intro x t hr h
  unfold okT at h
  rw [if_pos hr] at h
  unfold rowB
  simp only [hr,if_true,h];rfl
 have o1:okT 1 t1=true:=by have:=hok 1 (by simp [Fo.ids]);rwa [txtF,if_pos rfl] at this
 have o2:okT 2 t2=true:=by have:=hok 2 (by simp [Fo.ids]);rwa [txtF,if_neg (by decide),if_neg (fun g=>a5 2 g (Or.inl rfl)),txtF,if_pos rfl] at this
 have o3:okT 3 t3=true:=by have:=hok 3 (by simp [Fo.ids]);rwa [txtF,if_neg (by decide),if_neg (fun g=>a5 3 g (Or.inr (Or.inr (Or.inl rfl)))),txtF,if_neg (by decide),if_neg (fun g=>b5 3 g (Or.inl rfl)),txtF,if_pos rfl] at this
 have i1:∀ x∈k1.ids,okT x (txtF x k1)=true:=fun x hx=>by
  have:=hok x (by simp [Fo.ids,hx])
  rwa [txtF,if_neg (fun e=>a1 (by rw [e];exact hx)),if_pos hx] at this
 have i2:∀ x∈k2.ids,okT x (txtF x k2)=true:=fun x hx=>by
  have:=hok x (by simp [Fo.ids,hx])
  rwa [txtF,if_neg (fun e=>a2.2.1 (by rw [e];exact hx)),if_neg (fun g=>a5 x g (by grind)),txtF,if_neg (fun e=>b1 (by rw [e];exact hx)),if_pos hx] at this
 have i3:∀ x∈k3.ids,okT x (txtF x k3)=true:=fun x hx=>by
  have:=hok x (by simp [Fo.ids,hx])
  rwa [txtF,if_neg (fun e=>a2.2.2.2 (by rw [e];exact hx)),if_neg (fun g=>a5 x g (by grind)),txtF,if_neg (fun e=>b2.2 (by rw [e];exact hx)),if_neg (fun g=>b5 x g (by grind)),txtF,if_neg (fun e=>c1 (by rw [e];exact hx)),if_pos hx] at this
 have e1:=big k1 a3 (fun x hx=>⟨fun e=>a1 (e ▸ hx),fun e=>a5 x hx (Or.inl e),fun e=>a5 x hx (Or.inr (Or.inr (Or.inl e)))⟩) i1
 have e2:=big k2 b3 (fun x hx=>⟨fun e=>a2.2.1 (e ▸ hx),fun e=>b1 (e ▸ hx),fun e=>b5 x hx (Or.inl e)⟩) i2
 have e3:=big k3 c3 (fun x hx=>⟨fun e=>a2.2.2.2 (e ▸ hx),fun e=>b2.2 (e ▸ hx),fun e=>c1 (e ▸ hx)⟩) i3
 have r1:=root 1 t1 (by decide) o1
 have r2:=root 2 t2 (by decide) o2
 have r3:=root 3 t3 (by decide) o3
 simp only [Fo.fl,Nat.zero_add,List.append_nil]
 unfold treeB
 have q1:rootB ((1:Nat):Int)=true:=by decide
 have q2:rootB ((2:Nat):Int)=true:=by decide
 have q3:rootB ((3:Nat):Int)=true:=by decide
 unfold treeGo
 simp only [Int.natCast_zero] at r1 r2 r3 ⊢
 rw [r1,Bool.true_and,dt_ (by simp),Bool.true_and,dt_ (by omega),Bool.true_and,if_pos q1,dt_ (by omega),Bool.true_and]
 refine go_in k1 1 _ _ _ _ (by omega) (by omega) a3 (fun x hx=>?_) e1 fun s1 p1 hp1 hs1=>?_
 ·simp only [List.mem_cons,List.not_mem_nil,or_false]
  intro e;exact a1 (by rw [show 1=x by omega];exact hx)
 unfold treeGo
 have z2:((2:Nat):Int)∉s1:=by
  rw [hs1];simp only [List.mem_cons,List.not_mem_nil,or_false]
  rintro (e|⟨x,hx,e⟩)
  ·omega
  ·exact a5 x hx (Or.inl (by omega))
 simp only
 rw [r2,Bool.true_and,dt_ z2,Bool.true_and,dt_ (by omega),Bool.true_and,if_pos q2,dt_ (by omega),Bool.true_and]
 refine go_in k2 1 _ _ _ _ (by omega) (by omega) b3 (fun x hx=>?_) e2 fun s2 p2 hp2 hs2=>?_
 ·rw [List.mem_cons,hs1];simp only [List.mem_cons,List.not_mem_nil,or_false]
  rintro (e|e|⟨y,hy,e⟩)
  ·exact b1 (by rw [show 2=x by omega];exact hx)
  ·exact a2.2.1 (by rw [show 1=x by omega];exact hx)
  ·exact a5 y hy (by rw [show y=x by omega];exact Or.inr (Or.inl hx))
 unfold treeGo
 have z3:((3:Nat):Int)∉s2:=by
  rw [hs2,List.mem_cons,hs1];simp only [List.mem_cons,List.not_mem_nil,or_false]
  rintro ((e|e|⟨x,hx,e⟩)|⟨x,hx,e⟩)
  ·omega
  ·omega
  ·exact a5 x hx (Or.inr (Or.inr (Or.inl (by omega))))
  ·exact b5 x hx (Or.inl (by omega))
 simp only
 rw [r3,Bool.true_and,dt_ z3,Bool.true_and,dt_ (by omega),Bool.true_and,if_pos q3,dt_ (by omega),Bool.true_and]
 rw [←List.append_nil (k3.fl 1)]
 refine go_in k3 1 _ _ _ _ (by omega) (by omega) c3 (fun x hx=>?_) e3 fun s3 p3 hp3 hs3=>?_
 ·rw [List.mem_cons,hs2,List.mem_cons,hs1];simp only [List.mem_cons,List.not_mem_nil,or_false]
  rintro (e|(e|e|⟨y,hy,e⟩)|⟨y,hy,e⟩)
  ·exact c1 (by rw [show 3=x by omega];exact hx)
  ·exact b2.2 (by rw [show 2=x by omega];exact hx)
  ·exact a2.2.2.2 (by rw [show 1=x by omega];exact hx)
  ·exact a5 y hy (by rw [show y=x by omega];exact Or.inr (Or.inr (Or.inr hx)))
  ·exact b5 y hy (by rw [show y=x by omega];exact Or.inr hx)
 unfold treeGo
 exact dt_ (by omega)
theorem made_nat {k i u a:Int} {s:ByteArray} (h:opB k i u a s=true):∃ m:Nat,i=(m:Int)∧4≤m∧m < 37∧madeB (m:Int)=true:=by
 obtain ⟨m,rfl,h4,h37⟩:=made_num (opB_made k i u a s h)
 exact ⟨m,rfl,h4,h37,opB_made k _ u a s h⟩
theorem Val.does {G:Fo} (v:Val G) {k u a:Int} {i:Nat} {s:ByteArray} (h:opB k (i:Int) u a s=true):Does G k i u a s (doF G k i u a s) :=
 FP.does v.nd v.ne0 v.three k i (v.top (opB_made _ _ _ _ _ h)) u a s (opB_kind h)
theorem opB_text {k i u a:Int} {s:ByteArray} (h:opB k i u a s=true) (hk:k=1∨k=2):textB s=true:=by
 unfold opB at h
 simp only [Bool.and_eq_true] at h
 rcases hk with rfl|rfl
 ·rw [if_pos rfl,Bool.and_eq_true] at h;exact h.2.2
 ·rw [if_neg (by decide),if_pos rfl] at h;simp only [Bool.and_eq_true] at h;exact h.2.2
theorem okT_made {x:Nat} {t:ByteArray} (h:madeB (x:Int)=true) (ht:textB t=true):okT x t=true:=by
 unfold okT;rw [made_not_root h,h,ht];rfl
theorem Val.done {G:Fo} (v:Val G) {k u a:Int} {i:Nat} {s:ByteArray} (h:opB k (i:Int) u a s=true) {G':Fo} (hd:Does G k i u a s G'):Val G':=by
 have hm:=opB_made _ _ _ _ _ h
 have hi0:i≠0:=by rintro rfl;exact absurd hm (by decide)
 obtain ⟨h1,h2,h3⟩:=do_tops v.nd v.ne0 hi0 (v.top hm) hd
 refine ⟨h2,h1.trans v.tops,fun x hx=>?_⟩
 cases hd with
 | text hk hi =>
  rw [setF_ids] at hx
  by_cases e:x=i
  ·subst e;rw [set_txt_eq _ _ hi];exact okT_made hm (opB_text h (Or.inr hk))
  ·rw [set_txt_ne _ _ e];exact v.ok x hx
 | make hk hi o =>
  rcases (o.mem x).1 hx with rfl|g|g
  ·rw [o.txt];exact okT_made hm (opB_text h (Or.inl hk))
  ·simp [Fo.ids] at g
  ·rw [o.txt_old g];exact v.ok x g
 | move hk hi hw o=>rw [o.txt ((o.ids x).1 hx)];exact v.ok x ((o.ids x).1 hx)
 | none hk=>exact v.ok x hx
theorem Val.doF {G:Fo} (v:Val G) {k u a:Int} {i:Nat} {s:ByteArray} (h:opB k (i:Int) u a s=true):Val (doF G k i u a s):=v.done h (v.does h)
theorem opDo_val {l:List S37} {k u a:Int} {i:Nat} {s:ByteArray} (ho:opB k (i:Int) u a s=true) (ht:treeB l=true) :
  opDoR l k i u a s=(FP.doF (toFo l) k i u a s).fl 0∧treeB (opDoR l k i u a s)=true∧toFo (opDoR l k i u a s)=FP.doF (toFo l) k i u a s∧Val (FP.doF (toFo l) k i u a s):=by
 have e:opDoR l k i u a s=(FP.doF (toFo l) k i u a s).fl 0:=by unfold opDoR;rw [if_pos ho,if_pos ht]
 have v:=(val_of ht).doF ho
 have ht2:treeB (opDoR l k i u a s)=true:=by rw [e];exact treeB_fl v
 exact ⟨e,ht2,toFo_of ht2 e.symm,v⟩
end Go.Proofs.YtlkheeegkifblaaDoor.PL
namespace Go.Proofs.YtlkheeegkifblaaDoor.FP
open Go.Proofs.YtlkheeegkifblaaDoor.P
theorem hd_shape {F:Fo} {x:Nat} (h:F.hd=x) (hx:x≠0):∃ t k n,F=.nd x t k n:=by
 cases F with
 | nil=>exact absurd h.symm hx
 | nd j t k n=>exact ⟨t,k,n,by rw [←h];rfl⟩
structure Back (x up p:Nat) (F:Fo):Prop where
 mem:sib x p F=0∨sib x p F∈F.ids
 aft:sib x p F≠0→insAfter (sib x p F) x (txtF x F) (sub x F) (del x F)=F
 fst:sib x p F=0→par x up F∈F.ids∧insFirst (par x up F) x (txtF x F) (sub x F) (del x F)=F
 upr:sib x p F≠0→par (sib x p F) up F=par x up F∧sib x p F≠x
theorem back_in {x:Nat} (hx0:x≠0):∀ (F:Fo) (up p:Nat),F.ids.Nodup→(∀ y∈F.ids,y≠0)→x∈F.ids→F.hd≠x→Back x up p F
 | .nil,up,p,_,_,hx,_=>by simp [Fo.ids] at hx
 | .nd j u k n,up,p,hn,h0,hx,hh=>by
  obtain ⟨n1,n2,n3,n4,n5⟩:=nodup_nd hn
  have hj0:j≠0:=h0 j (by simp [Fo.ids])
  have e:¬ j=x:=hh
  simp only [Fo.ids,List.mem_cons,List.mem_append] at hx
  by_cases hk:x∈k.ids
  ·have hxn:=n5 x hk
   have es:sib x p (.nd j u k n)=sib x 0 k:=by rw [sib,if_neg e,if_pos hk]
   have et:txtF x (.nd j u k n)=txtF x k:=by rw [txtF,if_neg e,if_pos hk]
   have eb:sub x (.nd j u k n)=sub x k:=by rw [sub,if_neg e,if_pos hk]
   have ep:par x up (.nd j u k n)=par x j k:=by rw [par,if_neg e,if_pos hk]
   have ed:FP.del x (.nd j u k n)=.nd j u (FP.del x k) n:=by rw [FP.del,if_neg e,del_id x hxn]
   by_cases hkx:k.hd=x
   ·obtain ⟨t,s,m,rfl⟩:=hd_shape hkx hx0
    have s0:sib x 0 (.nd x t s m)=0:=by rw [sib,if_pos rfl]
    refine ⟨Or.inl (es.trans s0),fun h=>absurd (es.trans s0) h,fun _=>?_,fun h=>absurd (es.trans s0) h⟩
    rw [ep,et,eb,ed,par,if_pos rfl,txtF,if_pos rfl,sub,if_pos rfl,FP.del,if_pos rfl,insFirst,if_pos rfl]
    exact ⟨by simp [Fo.ids],rfl⟩
   ·have b:=back_in hx0 k j 0 n3 (fun y hy=>h0 y (by simp [Fo.ids,hy])) hk hkx
    refine ⟨?_,fun h=>?_,fun h=>?_,fun h=>?_⟩
    ·rw [es];exact b.mem.imp id fun h=>by simp [Fo.ids,h]
    ·rw [es] at h
     have hm:=b.mem.resolve_left h
     rw [es,et,eb,ed,insAfter,if_neg (fun g=>n1 (by rw [g];exact hm)),b.aft h,insAfter_id _ _ _ _ (n5 _ hm)]
    ·rw [es] at h
     obtain ⟨q1,q2⟩:=b.fst h
     refine ⟨by rw [ep];simp [Fo.ids,q1],?_⟩
     rw [et,eb,ed,ep,insFirst,if_neg (fun g=>n1 (by rw [g];exact q1)),q2,insFirst_id _ _ _ _ (n5 _ q1)]
    ·rw [es] at h ⊢
     have hm:=b.mem.resolve_left h
     obtain ⟨q1,q2⟩:=b.upr h
     refine ⟨?_,q2⟩
     rw [ep,par,if_neg (fun g=>n1 (by rw [g];exact hm)),if_pos hm,q1]
  ·have hxn:x∈n.ids:=by grind
   have es:sib x p (.nd j u k n)=sib x j n:=by rw [sib,if_neg e,if_neg hk]
   have et:txtF x (.nd j u k n)=txtF x n:=by rw [txtF,if_neg e,if_neg hk]
   have eb:sub x (.nd j u k n)=sub x n:=by rw [sub,if_neg e,if_neg hk]
   have ep:par x up (.nd j u k n)=par x up n:=by rw [par,if_neg e,if_neg hk]
   have ed:FP.del x (.nd j u k n)=.nd j u k (FP.del x n):=by rw [FP.del,if_neg e,del_id x hk]
   by_cases hnx:n.hd=x
   ·obtain ⟨t,s,m,rfl⟩:=hd_shape hnx hx0
    have s0:sib x j (.nd x t s m)=j:=by rw [sib,if_pos rfl]
    refine ⟨?_,fun h=>?_,fun h=>absurd (h.symm.trans (es.trans s0)).symm hj0,fun h=>?_⟩
    ·rw [es,s0];exact Or.inr (by simp [Fo.ids])
    ·rw [es,s0,et,eb,ed,txtF,if_pos rfl,sub,if_pos rfl,FP.del,if_pos rfl,insAfter,if_pos rfl]
    ·rw [es,s0,ep,par,if_pos rfl,par,if_pos rfl];exact ⟨rfl,e⟩
   ·have b:=back_in hx0 n up j n4 (fun y hy=>h0 y (by simp [Fo.ids,hy])) hxn hnx
    refine ⟨?_,fun h=>?_,fun h=>?_,fun h=>?_⟩
    ·rw [es];exact b.mem.imp id fun h=>by simp [Fo.ids,h]
    ·rw [es] at h
     have hm:=b.mem.resolve_left h
     rw [es,et,eb,ed,insAfter,if_neg (fun g=>n2 (by rw [g];exact hm)),b.aft h,insAfter_id _ _ _ _ (fun g=>n5 _ g hm)]
    ·rw [es] at h
     obtain ⟨q1,q2⟩:=b.fst h
     refine ⟨by rw [ep];simp [Fo.ids,q1],?_⟩
     rw [et,eb,ed,ep,insFirst,if_neg (fun g=>n2 (by rw [g];exact q1)),q2,insFirst_id _ _ _ _ (fun g=>n5 _ g q1)]
    ·rw [es] at h ⊢
     have hm:=b.mem.resolve_left h
     obtain ⟨q1,q2⟩:=b.upr h
     refine ⟨?_,q2⟩
     rw [ep,par,if_neg (fun g=>n2 (by rw [g];exact hm)),if_neg (fun g=>n5 _ g hm),q1]
structure BackT (x:Nat) (F:Fo):Prop where
 mem:sibT x F=0∨sibT x F∈F.ids
 aft:sibT x F≠0→insAfter (sibT x F) x (txtF x F) (sub x F) (del x F)=F
 fst:sibT x F=0→insFirst (par x 0 F) x (txtF x F) (sub x F) (del x F)=F
 up:par x 0 F∈F.ids
 upr:sibT x F≠0→par (sibT x F) 0 F=par x 0 F∧sibT x F≠x
theorem back_top {x:Nat} (hx0:x≠0):∀ (F:Fo),F.ids.Nodup→(∀ y∈F.ids,y≠0)→x∈F.ids→x∉F.tops→BackT x F
 | .nil,_,_,hx,_=>by simp [Fo.ids] at hx
 | .nd j u k n,hn,h0,hx,ht=>by
  have hpar:par x 0 (.nd j u k n)∈(Fo.nd j u k n).ids:=by
   rcases dep_par x (.nd j u k n) 0 0 hn hx with ⟨h,_⟩|⟨h,_⟩
   ·exact absurd h ht
   ·exact h
  obtain ⟨n1,n2,n3,n4,n5⟩:=nodup_nd hn
  have hj0:j≠0:=h0 j (by simp [Fo.ids])
  simp only [Fo.tops,List.mem_cons,not_or] at ht
  have e:¬ j=x:=fun g=>ht.1 g.symm
  simp only [Fo.ids,List.mem_cons,List.mem_append] at hx
  by_cases hk:x∈k.ids
  ·have hxn:=n5 x hk
   have es:sibT x (.nd j u k n)=sib x 0 k:=by rw [sibT,if_pos hk]
   have et:txtF x (.nd j u k n)=txtF x k:=by rw [txtF,if_neg e,if_pos hk]
   have eb:sub x (.nd j u k n)=sub x k:=by rw [sub,if_neg e,if_pos hk]
   have ep:par x 0 (.nd j u k n)=par x j k:=by rw [par,if_neg e,if_pos hk]
   have ed:FP.del x (.nd j u k n)=.nd j u (FP.del x k) n:=by rw [FP.del,if_neg e,del_id x hxn]
   by_cases hkx:k.hd=x
   ·obtain ⟨t,s,m,rfl⟩:=hd_shape hkx hx0
    have s0:sib x 0 (.nd x t s m)=0:=by rw [sib,if_pos rfl]
    refine ⟨Or.inl (es.trans s0),fun h=>absurd (es.trans s0) h,fun _=>?_,hpar,fun h=>absurd (es.trans s0) h⟩
    rw [ep,et,eb,ed,par,if_pos rfl,txtF,if_pos rfl,sub,if_pos rfl,FP.del,if_pos rfl,insFirst,if_pos rfl]
   ·have b:=back_in hx0 k j 0 n3 (fun y hy=>h0 y (by simp [Fo.ids,hy])) hk hkx
    refine ⟨?_,fun h=>?_,fun h=>?_,hpar,fun h=>?_⟩
    ·rw [es];exact b.mem.imp id fun h=>by simp [Fo.ids,h]
    ·rw [es] at h
     have hm:=b.mem.resolve_left h
     rw [es,et,eb,ed,insAfter,if_neg (fun g=>n1 (by rw [g];exact hm)),b.aft h,insAfter_id _ _ _ _ (n5 _ hm)]
    ·rw [es] at h
     obtain ⟨q1,q2⟩:=b.fst h
     rw [et,eb,ed,ep,insFirst,if_neg (fun g=>n1 (by rw [g];exact q1)),q2,insFirst_id _ _ _ _ (n5 _ q1)]
    ·rw [es] at h ⊢
     have hm:=b.mem.resolve_left h
     obtain ⟨q1,q2⟩:=b.upr h
     refine ⟨?_,q2⟩
     rw [ep,par,if_neg (fun g=>n1 (by rw [g];exact hm)),if_pos hm,q1]
  ·have hxn:x∈n.ids:=by grind
   have es:sibT x (.nd j u k n)=sibT x n:=by rw [sibT,if_neg hk]
   have et:txtF x (.nd j u k n)=txtF x n:=by rw [txtF,if_neg e,if_neg hk]
   have eb:sub x (.nd j u k n)=sub x n:=by rw [sub,if_neg e,if_neg hk]
   have ep:par x 0 (.nd j u k n)=par x 0 n:=by rw [par,if_neg e,if_neg hk]
   have ed:FP.del x (.nd j u k n)=.nd j u k (FP.del x n):=by rw [FP.del,if_neg e,del_id x hk]
   have b:=back_top hx0 n n4 (fun y hy=>h0 y (by simp [Fo.ids,hy])) hxn ht.2
   refine ⟨?_,fun h=>?_,fun h=>?_,hpar,fun h=>?_⟩
   ·rw [es];exact b.mem.imp id fun h=>by simp [Fo.ids,h]
   ·rw [es] at h
    have hm:=b.mem.resolve_left h
    rw [es,et,eb,ed,insAfter,if_neg (fun g=>n2 (by rw [g];exact hm)),b.aft h,insAfter_id _ _ _ _ (fun g=>n5 _ g hm)]
   ·rw [es] at h
    have q1:=b.up
    rw [et,eb,ed,ep,insFirst,if_neg (fun g=>n2 (by rw [g];exact q1)),b.fst h,insFirst_id _ _ _ _ (fun g=>n5 _ g q1)]
   ·rw [es] at h ⊢
    have hm:=b.mem.resolve_left h
    obtain ⟨q1,q2⟩:=b.upr h
    refine ⟨?_,q2⟩
    rw [ep,par,if_neg (fun g=>n2 (by rw [g];exact hm)),if_neg (fun g=>n5 _ g hm),q1]
theorem put_back {x:Nat} {G:Fo} (b:BackT x G):mvF G (par x 0 G,sibT x G) x=G:=by
 unfold mvF putF
 by_cases h:sibT x G=0
 ·rw [if_pos h];exact b.fst h
 ·rw [if_neg h];exact b.aft h
theorem sib_insFirst_new (p i:Nat) (t:ByteArray) (s:Fo):∀ {F:Fo} (q:Nat),i∉F.ids→p∈F.ids→sib i q (insFirst p i t s F)=0
 | .nil,_,_,h=>by simp [Fo.ids] at h
 | .nd j u k n,q,h,hp=>by
  simp only [Fo.ids,List.mem_cons,List.mem_append,not_or] at h hp
  have hj:¬ j=i:=fun e=>h.1 e.symm
  rw [insFirst]
  by_cases e:j=p
  ·rw [if_pos e,sib,if_neg hj,if_pos (by simp [Fo.ids]),sib,if_pos rfl]
  ·rw [if_neg e,sib,if_neg hj]
   by_cases hk:p∈k.ids
   ·rw [if_pos ((mem_insFirst p i t s i k).2 (Or.inr ⟨hk,Or.inl rfl⟩)),sib_insFirst_new p i t s 0 h.2.1 hk]
   ·rw [if_neg (by rw [mem_insFirst];grind),sib_insFirst_new p i t s j h.2.2 (by grind)]
theorem sib_insAfter_new (a i:Nat) (t:ByteArray) (s:Fo):∀ {F:Fo} (q:Nat),i∉F.ids→a∈F.ids→sib i q (insAfter a i t s F)=a
 | .nil,_,_,h=>by simp [Fo.ids] at h
 | .nd j u k n,q,h,hp=>by
  simp only [Fo.ids,List.mem_cons,List.mem_append,not_or] at h hp
  have hj:¬ j=i:=fun e=>h.1 e.symm
  rw [insAfter]
  by_cases e:j=a
  ·rw [if_pos e,sib,if_neg hj,if_neg h.2.1,sib,if_pos rfl,e]
  ·rw [if_neg e,sib,if_neg hj]
   by_cases hk:a∈k.ids
   ·rw [if_pos ((mem_insAfter a i t s i k).2 (Or.inr ⟨hk,Or.inl rfl⟩)),sib_insAfter_new a i t s 0 h.2.1 hk]
   ·rw [if_neg (by rw [mem_insAfter];grind),sib_insAfter_new a i t s j h.2.2 (by grind)]
theorem sibT_insFirst_new (p i:Nat) (t:ByteArray) (s:Fo):∀ {F:Fo},i∉F.ids→p∈F.ids→sibT i (insFirst p i t s F)=0
 | .nil,_,h=>by simp [Fo.ids] at h
 | .nd j u k n,h,hp=>by
  simp only [Fo.ids,List.mem_cons,List.mem_append,not_or] at h hp
  rw [insFirst]
  by_cases e:j=p
  ·rw [if_pos e,sibT,if_pos (by simp [Fo.ids]),sib,if_pos rfl]
  ·rw [if_neg e,sibT]
   by_cases hk:p∈k.ids
   ·rw [if_pos ((mem_insFirst p i t s i k).2 (Or.inr ⟨hk,Or.inl rfl⟩)),sib_insFirst_new p i t s 0 h.2.1 hk]
   ·rw [if_neg (by rw [mem_insFirst];grind),sibT_insFirst_new p i t s h.2.2 (by grind)]
theorem sibT_insAfter_new (a i:Nat) (t:ByteArray) (s:Fo):∀ {F:Fo},i∉F.ids→a∈F.ids→a∉F.tops→sibT i (insAfter a i t s F)=a
 | .nil,_,h,_=>by simp [Fo.ids] at h
 | .nd j u k n,h,hp,ht=>by
  simp only [Fo.ids,Fo.tops,List.mem_cons,List.mem_append,not_or] at h hp ht
  have e:¬ j=a:=fun g=>ht.1 g.symm
  rw [insAfter,if_neg e,sibT]
  by_cases hk:a∈k.ids
  ·rw [if_pos ((mem_insAfter a i t s i k).2 (Or.inr ⟨hk,Or.inl rfl⟩)),sib_insAfter_new a i t s 0 h.2.1 hk]
  ·rw [if_neg (by rw [mem_insAfter];grind),sibT_insAfter_new a i t s h.2.2 (by grind) ht.2]
theorem PutOk.sib {H:Fo} {q:Nat×Nat} {i:Nat} {s:Fo} {t:ByteArray} (o:PutOk H q i s) (h0:∀ x∈H.ids,x≠0):sibT i (putF H q i t s)=q.2:=by
 have ht:=near_at_top (G:=H) o.nd h0 o h0
 unfold putF
 by_cases h:q.2=0
 ·rw [if_pos h,sibT_insFirst_new _ _ _ _ o.iH o.up,h]
 ·rw [if_neg h,sibT_insAfter_new _ _ _ _ o.iH (o.at_.resolve_left h).1 (ht.resolve_left h)]
theorem MvOk.sib {G:Fo} {q:Nat×Nat} {i:Nat} (o:MvOk G i q) (h0:∀ x∈G.ids,x≠0):sibT i (mvF G q i)=q.2:=o.put.sib fun x hx=>h0 x (del_ids_sub i hx)
theorem MvOk.par_new {G:Fo} {q:Nat×Nat} {i:Nat} (o:MvOk G i q):par i 0 (mvF G q i)=q.1:=o.put.par
theorem par_not_under {G:Fo} (hn:G.ids.Nodup) (h0:∀ x∈G.ids,x≠0) {i:Nat} (hi:i∈G.ids) (hit:i∉G.tops):¬ under i (par i 0 G) G:=by
 obtain ⟨h,hr⟩:=reptop_ex G hn h0
 have hp:=reptop_par hr hn hi
 obtain ⟨q1,q2⟩:=reptop_up hr hn hi hit
 rintro ⟨_,e|hs⟩
 ·exact q2 (hp.trans e)
 ·exact upT_out hr hn hi hit (hp ▸ hs)
theorem near_back {G:Fo} (hn:G.ids.Nodup) (h0:∀ x∈G.ids,x≠0) {i:Nat} (hi:i∈G.ids) (hit:i∉G.tops):nearF G (i:Int) (par i 0 G:Nat) (sibT i G:Nat)=(par i 0 G,sibT i G):=by
 have b:=back_top (h0 i hi) G hn h0 hi hit
 have hp0:=h0 _ b.up
 unfold nearF
 rw [fnd_nat b.up,if_neg hp0]
 by_cases h:sibT i G=0
 ·have:fndF G ((sibT i G:Nat):Int)=0:=by rw [h];exact fnd_not (y:=0) fun g=>h0 0 g rfl
  rw [this,if_pos rfl,h]
 ·have hm:=b.mem.resolve_left h
  obtain ⟨q1,q2⟩:=b.upr h
  rw [fnd_nat hm,if_neg h,if_neg (fun g=>g q1),if_neg (by omega)]
theorem move_back {G:Fo} (hn:G.ids.Nodup) (h0:∀ x∈G.ids,x≠0) {i:Nat} (hi:i∈G.ids) (hit:i∉G.tops) {q:Nat×Nat} (o:MvOk G i q) (e:ByteArray):doF (mvF G q i) 3 (i:Int) (par i 0 G:Nat) (sibT i G:Nat) e=G:=by
 have b:=back_top (h0 i hi) G hn h0 hi hit
 have hw:¬ under i (fndF (mvF G q i) (par i 0 G:Nat)) (mvF G q i):=by rw [o.fnd,o.under,fnd_nat b.up];exact par_not_under hn h0 hi hit
 rw [doF_move ((o.ids i).2 hi) (h0 i hi) _ _ _ hw,o.near,near_back hn h0 hi hit,o.again,put_back b]
def upO (D:Int):List S37→Option Int
 | []=>none
 | r::l=>if r.f1 < D then some r.f0 else upO D l
def aheadO (D:Int):List S37→Option Int
 | []=>none
 | r::l=>if r.f1 < D then some 0 else if r.f1=D then some r.f0 else aheadO D l
theorem upO_append (D:Int):∀ (a b:List S37),upO D (a++b)=match upO D a with|some v=>some v|none=>upO D b
 | [],b=>rfl
 | r::a,b=>by
  rw [List.cons_append,upO,upO]
  split
  ·rfl
  ·exact upO_append D a b
theorem aheadO_append (D:Int):∀ (a b:List S37),aheadO D (a++b)=match aheadO D a with|some v=>some v|none=>aheadO D b
 | [],b=>rfl
 | r::a,b=>by
  rw [List.cons_append,aheadO,aheadO]
  split
  ·rfl
  ·split
   ·rfl
   ·exact aheadO_append D a b
theorem upO_none {D:Int}:∀ {l:List S37},(∀ r∈l,D≤r.f1)→upO D l=none
 | [],_=>rfl
 | r::l,h=>by
  rw [upO,if_neg (by have:=h r List.mem_cons_self;omega)]
  exact upO_none fun q hq=>h q (List.mem_cons_of_mem _ hq)
theorem aheadO_none {D:Int}:∀ {l:List S37},(∀ r∈l,D < r.f1)→aheadO D l=none
 | [],_=>rfl
 | r::l,h=>by
  have:=h r List.mem_cons_self
  rw [aheadO,if_neg (by omega),if_neg (by omega)]
  exact aheadO_none fun q hq=>h q (List.mem_cons_of_mem _ hq)
def preF (x:Nat) (d:Nat):Fo→List S37
 | .nil=>[]
 | .nd j u k n=>if j=x then [] else ⟨(j:Int),(d:Int),u⟩::(if x∈k.ids then preF x (d+1) k else k.fl (d+1)++preF x d n)
theorem pre_split (x:Nat):∀ (F:Fo) (d:Nat),x∈F.ids→∃ rest,F.fl d=preF x d F++⟨(x:Int),(dep x d F:Int),txtF x F⟩::rest
 | .nil,d,h=>by simp [Fo.ids] at h
 | .nd j u k n,d,h=>by
  simp only [Fo.ids,List.mem_cons,List.mem_append] at h
  by_cases e:j=x
  ·subst e
   exact ⟨k.fl (d+1)++n.fl d,by rw [preF,if_pos rfl,dep,if_pos rfl,txtF,if_pos rfl,Fo.fl];rfl⟩
  ·by_cases hk:x∈k.ids
   ·obtain ⟨rest,hr⟩:=pre_split x k (d+1) hk
    refine ⟨rest++n.fl d,?_⟩
    rw [preF,if_neg e,if_pos hk,dep,if_neg e,if_pos hk,txtF,if_neg e,if_pos hk,Fo.fl,hr]
    simp
   ·obtain ⟨rest,hr⟩:=pre_split x n d (by grind)
    refine ⟨rest,?_⟩
    rw [preF,if_neg e,if_neg hk,dep,if_neg e,if_neg hk,txtF,if_neg e,if_neg hk,Fo.fl,hr]
    simp
theorem preF_out (x:Nat):∀ (F:Fo) (d:Nat),F.ids.Nodup→∀ r∈preF x d F,r.f0≠(x:Int)
 | .nil,d,_,r,h=>by simp [preF] at h
 | .nd j u k n,d,hn,r,h=>by
  obtain ⟨n1,n2,n3,n4,n5⟩:=nodup_nd hn
  rw [preF] at h
  by_cases e:j=x
  ·rw [if_pos e] at h;cases h
  ·rw [if_neg e] at h
   rcases List.mem_cons.1 h with rfl|h
   ·show (j:Int)≠(x:Int);omega
   ·by_cases hk:x∈k.ids
    ·rw [if_pos hk] at h;exact preF_out x k (d+1) n3 r h
    ·rw [if_neg hk] at h
     rcases List.mem_append.1 h with h|h
     ·obtain ⟨i,hi,e2⟩:=fl_ids k (d+1) h
      intro e3
      rw [e2] at e3
      exact hk (by rw [show x=i by omega];exact hi)
     ·exact preF_out x n d n4 r h
theorem split_one {x:Int}:∀ {a a' b b':List S37} {r r':S37},(∀ q∈a,q.f0≠x)→(∀ q∈a',q.f0≠x)→r.f0=x→r'.f0=x→a++r::b=a'++r'::b'→a=a'
 | [],[],_,_,_,_,_,_,_,_,_=>rfl
 | [],q::a',_,_,r,r',_,h2,h3,_,e=>by
  simp only [List.nil_append,List.cons_append,List.cons.injEq] at e
  exact absurd h3 (by rw [e.1];exact h2 q List.mem_cons_self)
 | q::a,[],_,_,r,r',h1,_,_,h4,e=>by
  simp only [List.nil_append,List.cons_append,List.cons.injEq] at e
  exact absurd h4 (by rw [←e.1];exact h1 q List.mem_cons_self)
 | q::a,q'::a',b,b',r,r',h1,h2,h3,h4,e=>by
  simp only [List.cons_append,List.cons.injEq] at e
  rw [e.1,split_one (fun y hy=>h1 y (List.mem_cons_of_mem _ hy)) (fun y hy=>h2 y (List.mem_cons_of_mem _ hy)) h3 h4 e.2]
theorem spot_pre {x d:Nat} {G:Fo} {pre post:List S37} (hn:G.ids.Nodup) (hx:x∈G.ids) (s:Spot x d G pre post):pre=preF x d G:=by
 obtain ⟨rest,hr⟩:=pre_split x G d hx
 have:=s.all
 rw [hr] at this
 exact (split_one (x:=(x:Int)) (preF_out x G d hn) s.out rfl rfl this).symm
theorem up_pre (x:Nat):∀ (F:Fo) (d up:Nat),F.ids.Nodup→x∈F.ids→upO (dep x d F) (preF x d F).reverse=if x∈F.tops then none else some (par x up F:Int)
 | .nil,d,up,_,h=>by simp [Fo.ids] at h
 | .nd j u k n,d,up,hn,h=>by
  obtain ⟨n1,n2,n3,n4,n5⟩:=nodup_nd hn
  simp only [Fo.ids,List.mem_cons,List.mem_append] at h
  by_cases e:j=x
  ·rw [preF,if_pos e,if_pos (by simp [Fo.tops,e])];rfl
  ·have e':x≠j:=fun g=>e g.symm
   by_cases hk:x∈k.ids
   ·have ht:x∉(Fo.nd j u k n).tops:=by
     simp only [Fo.tops,List.mem_cons,not_or]
     exact ⟨e',fun g=>n5 x hk (tops_ids g)⟩
    rw [if_neg ht,preF,if_neg e,if_pos hk,dep,if_neg e,if_pos hk,par,if_neg e,if_pos hk,List.reverse_cons,upO_append,up_pre x k (d+1) j n3 hk]
    by_cases hkt:x∈k.tops
    ·rw [if_pos hkt]
     have hd:dep x (d+1) k=d+1∧par x j k=j:=by
      rcases dep_par x k (d+1) j n3 hk with ⟨_,h2,h3⟩|⟨h2,h3⟩
      ·exact ⟨h2,h3⟩
      ·exfalso
       have:=up_top x k j n3 hkt
       rw [this] at h2
       exact n1 h2
     show upO _ [_]=_
     rw [upO,if_pos (by rw [hd.1];simp only;omega),hd.2]
    ·rw [if_neg hkt]
   ·have hxn:x∈n.ids:=by grind
    rw [preF,if_neg e,if_neg hk,dep,if_neg e,if_neg hk,par,if_neg e,if_neg hk,List.reverse_cons,List.reverse_append,upO_append,upO_append,up_pre x n d up n4 hxn]
    by_cases hnt:x∈n.tops
    ·have hd:=dep_top x n d n4 hnt
     rw [if_pos hnt,if_pos (by simp [Fo.tops,hnt])]
     simp only
     rw [upO_none (l:=(k.fl (d+1)).reverse) (fun r hr=>by have:=fl_deep k (d+1) (List.mem_reverse.1 hr);rw [hd];omega)]
     simp only
     rw [upO,if_neg (by rw [hd];simp only;omega)];rfl
    ·rw [if_neg hnt,if_neg (by simp only [Fo.tops,List.mem_cons,not_or];exact ⟨e',hnt⟩)];try rfl
where
 up_top (x:Nat):∀ (F:Fo) (up:Nat),F.ids.Nodup→x∈F.tops→par x up F=up
  | .nil,_,_,h=>by simp [Fo.tops] at h
  | .nd j u k n,up,hn,h=>by
   obtain ⟨n1,n2,n3,n4,n5⟩:=nodup_nd hn
   simp only [Fo.tops,List.mem_cons] at h
   rw [par]
   by_cases e:j=x
   ·rw [if_pos e]
   ·have hx:x∈n.tops:=by grind
    rw [if_neg e,if_neg (fun g=>n5 x g (tops_ids hx)),up_top x n up n4 hx]
 dep_top (x:Nat):∀ (F:Fo) (d:Nat),F.ids.Nodup→x∈F.tops→dep x d F=d
  | .nil,_,_,h=>by simp [Fo.tops] at h
  | .nd j u k n,d,hn,h=>by
   obtain ⟨n1,n2,n3,n4,n5⟩:=nodup_nd hn
   simp only [Fo.tops,List.mem_cons] at h
   rw [dep]
   by_cases e:j=x
   ·rw [if_pos e]
   ·have hx:x∈n.tops:=by grind
    rw [if_neg e,if_neg (fun g=>n5 x g (tops_ids hx)),dep_top x n d n4 hx]
theorem dep_ge (x:Nat):∀ (F:Fo) (d:Nat),x∈F.ids→d≤dep x d F
 | .nil,d,h=>by simp [Fo.ids] at h
 | .nd j u k n,d,h=>by
  simp only [Fo.ids,List.mem_cons,List.mem_append] at h
  rw [dep]
  by_cases e:j=x
  ·rw [if_pos e];exact Nat.le_refl _
  ·rw [if_neg e]
   by_cases hk:x∈k.ids
   ·rw [if_pos hk];have:=dep_ge x k (d+1) hk;omega
   ·rw [if_neg hk];exact dep_ge x n d (by grind)
theorem hd_top {x:Nat} (hx:x≠0) {F:Fo} (h:F.hd=x):x∈F.tops:=by
 obtain ⟨t,k,n,rfl⟩:=hd_shape h hx
 simp [Fo.tops]
theorem ahead_in {x:Nat} (hx0:x≠0):∀ (F:Fo) (d p:Nat),F.ids.Nodup→x∈F.ids→aheadO (dep x d F) (preF x d F).reverse=if F.hd=x then none else some (sib x p F:Int)
 | .nil,d,p,_,h=>by simp [Fo.ids] at h
 | .nd j u k n,d,p,hn,h=>by
  obtain ⟨n1,n2,n3,n4,n5⟩:=nodup_nd hn
  simp only [Fo.ids,List.mem_cons,List.mem_append] at h
  by_cases e:j=x
  ·rw [preF,if_pos e,if_pos (by exact e)];rfl
  ·rw [if_neg (show ¬ (Fo.nd j u k n).hd=x from e)]
   by_cases hk:x∈k.ids
   ·rw [preF,if_neg e,if_pos hk,dep,if_neg e,if_pos hk,sib,if_neg e,if_pos hk,List.reverse_cons,aheadO_append,ahead_in hx0 k (d+1) 0 n3 hk]
    by_cases hkx:k.hd=x
    ·rw [if_pos hkx]
     simp only
     have:=dep_ge x k (d+1) hk
     rw [aheadO,if_pos (by simp only;omega)]
     obtain ⟨t,s,m,rfl⟩:=hd_shape hkx hx0
     rw [sib,if_pos rfl];rfl
    ·rw [if_neg hkx]
   ·have hxn:x∈n.ids:=by grind
    rw [preF,if_neg e,if_neg hk,dep,if_neg e,if_neg hk,sib,if_neg e,if_neg hk,List.reverse_cons,List.reverse_append,aheadO_append,aheadO_append,ahead_in hx0 n d j n4 hxn]
    by_cases hnx:n.hd=x
    ·rw [if_pos hnx]
     have hd:=up_pre.dep_top x n d n4 (hd_top hx0 hnx)
     simp only
     rw [aheadO_none (l:=(k.fl (d+1)).reverse) (fun r hr=>by have:=fl_deep k (d+1) (List.mem_reverse.1 hr);rw [hd];omega)]
     simp only
     rw [aheadO,if_neg (by rw [hd];simp),if_pos (by rw [hd])]
     obtain ⟨t,s,m,rfl⟩:=hd_shape hnx hx0
     rw [sib,if_pos rfl]
    ·rw [if_neg hnx]
theorem ahead_top {x:Nat} (hx0:x≠0):∀ (F:Fo) (d:Nat),F.ids.Nodup→x∈F.ids→x∉F.tops→aheadO (dep x d F) (preF x d F).reverse=some (sibT x F:Int)
 | .nil,d,_,h,_=>by simp [Fo.ids] at h
 | .nd j u k n,d,hn,h,ht=>by
  obtain ⟨n1,n2,n3,n4,n5⟩:=nodup_nd hn
  simp only [Fo.ids,List.mem_cons,List.mem_append] at h
  simp only [Fo.tops,List.mem_cons,not_or] at ht
  have e:¬ j=x:=fun g=>ht.1 g.symm
  by_cases hk:x∈k.ids
  ·rw [preF,if_neg e,if_pos hk,dep,if_neg e,if_pos hk,sibT,if_pos hk,List.reverse_cons,aheadO_append,ahead_in hx0 k (d+1) 0 n3 hk]
   by_cases hkx:k.hd=x
   ·rw [if_pos hkx]
    simp only
    have:=dep_ge x k (d+1) hk
    rw [aheadO,if_pos (by simp only;omega)]
    obtain ⟨t,s,m,rfl⟩:=hd_shape hkx hx0
    rw [sib,if_pos rfl];rfl
   ·rw [if_neg hkx]
  ·have hxn:x∈n.ids:=by grind
   rw [preF,if_neg e,if_neg hk,dep,if_neg e,if_neg hk,sibT,if_neg hk,List.reverse_cons,List.reverse_append,aheadO_append,aheadO_append,ahead_top hx0 n d n4 hxn ht.2]
structure SibOk (G:Fo) (m a:Nat):Prop where
 mem:a∈G.ids
 par:FP.par a 0 G=FP.par m 0 G
 ne:a≠m
 out:¬ under m a G
 in_:¬ under a m G
 top:a∉G.tops
theorem not_under_sib {G:Fo} (hn:G.ids.Nodup) (h0:∀ x∈G.ids,x≠0) {m a:Nat} (hm:m∈G.ids) (hmt:m∉G.tops) (hp:par a 0 G=par m 0 G) (hne:a≠m):¬ under m a G:=by
 rintro ⟨_,e|hs⟩
 ·exact hne e
 ·obtain ⟨h,hr⟩:=reptop_ex G hn h0
  obtain ⟨r1,_⟩:=reptop_sub hr hn hm
  have h1:=rep_par r1 (sub_nodup m hn) hs
  rw [←par_sub m a G 0 hn hs,hp] at h1
  have h2:=par_not_under hn h0 hm hmt
  rcases rep_up r1 (sub_nodup m hn) hs with g|g
  ·rw [h1] at g;exact h2 ⟨hm,Or.inl g⟩
  ·rw [h1] at g;exact h2 ⟨hm,Or.inr g⟩
theorem sib_ok {G:Fo} (hn:G.ids.Nodup) (h0:∀ x∈G.ids,x≠0) {m:Nat} (hm:m∈G.ids) (hmt:m∉G.tops) (hs:sibT m G≠0):SibOk G m (sibT m G):=by
 have b:=back_top (h0 m hm) G hn h0 hm hmt
 have hmem:=b.mem.resolve_left hs
 obtain ⟨q1,q2⟩:=b.upr hs
 have hat:sibT m G∉G.tops:=fun ht=>by
  have:=par_top0 (G:=G) hn ht
  rw [q1] at this
  exact h0 _ b.up this
 exact ⟨hmem,q1,q2,not_under_sib hn h0 hm hmt q1 q2,not_under_sib hn h0 hmem hat q1.symm (fun e=>q2 e.symm),hat⟩
end Go.Proofs.YtlkheeegkifblaaDoor.FP
namespace Go.Proofs.YtlkheeegkifblaaDoor.P
open Go.RowKit Go.Proofs.YtlkheeegkifblaaDoorW.PrintWords Go.Proofs.YtlkheeegkifblaaDoorW.PrintLast Go.Proofs.YtlkheeegkifblaaDoorW.PrintMore Go.Proofs.YtlkheeegkifblaaDoor.PL Go.Proofs.YtlkheeegkifblaaDoor.FP
def whB (G:Fo) (kd id up:Int):Bool :=
 if kd=1 then decide (fndF G id=0) else if kd=2 then false else decide (fndF G id≠0∧¬ under (fndF G id) (fndF G up) G)
def whP (G:Fo) (kd id up at_:Int):Nat×Nat:=if whB G kd id up=true then nearF G id up at_ else (0,0)
theorem whB_make (G:Fo) (id up:Int):whB G 1 id up=decide (fndF G id=0):=by unfold whB;rw [if_pos rfl]
theorem whB_text (G:Fo) (id up:Int):whB G 2 id up=false:=by unfold whB;rw [if_neg (by decide),if_pos rfl]
theorem whB_move (G:Fo) (id up:Int):whB G 3 id up=decide (fndF G id≠0∧¬ under (fndF G id) (fndF G up) G):=by unfold whB;rw [if_neg (by decide),if_neg (by decide)]
end Go.Proofs.YtlkheeegkifblaaDoor.P
namespace Go.Proofs.YtlkheeegkifblaaDoor.P
open Go.RowKit Go.Proofs.YtlkheeegkifblaaDoorW.PrintWords Go.Proofs.YtlkheeegkifblaaDoorW.PrintLast
attribute [local go_sem high] eqA37
def impl_Row.l0:Nat→List (S37)→List (S37)→Int→Int→Option (Bool)
 | 0,_,_,_,_=>none
 | k+1,x0,x1,x12,x13=>if x13 < x12 then (if 0≤x13 then (if x13 < (x0.length:Int) then (if x13 < (x1.length:Int) then (if (!(((rd_T37 x0 x13).f0)==((rd_T37 x1 x13).f0)) || (!(((rd_T37 x0 x13).f1)==((rd_T37 x1 x13).f1)) || (!((((rd_T37 x0 x13).f2).toList)==(((rd_T37 x1 x13).f2).toList)))))=true then (some false) else (impl_Row.l0 k x0 x1 x12 (wrap64 (x13+1)))) else (none)) else (none)) else (none)) else (some true)
def impl_Row.f (k:Nat) (l0:List (S37)) (l1:List (S37)):Option (Bool):=if (l0.length:Int)=(l1.length:Int) then (impl_Row.l0 k l0 l1 (l0.length:Int) 0) else (some false)
theorem impl_Row.mono_l:∀ k,(∀ y0 y1 y2 y3,LeO (impl_Row.l0 k y0 y1 y2 y3) (impl_Row.l0 (k+1) y0 y1 y2 y3))
 | 0=>fun _ _ _ _ r h=>by simp [impl_Row.l0] at h
 | k+1=>by
  have ih0:=impl_Row.mono_l k
  ·intro y0 y1 y2 y3
   unfold impl_Row.l0
   repeat' first
   | (with_reducible exact ih0 _ _ _ _)
   | (with_reducible exact LeO.refl _)
   | (with_reducible exact LeO.none _)
   | (with_reducible refine LeO.ite ?_ ?_)
   | (with_reducible refine LeO.bind ?_ (fun _=>?_))
theorem impl_Row.mono:∀ a0 a1 k,LeO (impl_Row.f k a0 a1) (impl_Row.f (k+1) a0 a1):=by
 intro a0 a1 k
 have ih0:=impl_Row.mono_l k
 unfold impl_Row.f
 repeat' first
   | (with_reducible exact ih0 _ _ _ _)
   | (with_reducible exact LeO.refl _)
   | (with_reducible exact LeO.none _)
   | (with_reducible refine LeO.ite ?_ ?_)
   | (with_reducible refine LeO.bind ?_ (fun _=>?_))
theorem impl_Row.calls (k:Nat) (A0:Option Addr) (c0:Nat) (l0:List (S37)) (A1:Option Addr) (c1:Nat) (l1:List (S37)) (r:Bool) (w:World) (hr0:Kd.C k37 w A0 l0.length l0) (hc0:l0.length≤c0) (hr1:Kd.C k37 w A1 l1.length l1) (hc1:l1.length≤c1) (h:impl_Row.f k l0 l1=some r) :
  Calls Tryd.prog 71 #[.slice A0 l0.length c0,.slice A1 l1.length c1] w fun e w'=>e=.returned (.bool r)∧Drawn0 w w':=by
 have hu37:=Tryd.underlying37
 have HR0:=a_ hr0
 have HC0:=a_ hc0
 clear hr0 hc0
 have HR1:=a_ hr1
 have HC1:=a_ hc1
 clear hr1 hc1
 unfold impl_Row.f at h
 have H:=h
 clear h
 by_cases c3:(l0.length:Int)=(l1.length:Int)
 ·rw [if_pos c3] at H
  have c3b0:((l0.length:Int)==(l1.length:Int))=true:=beq_iff_eq.mpr c3
  have c3b1:((l0.length:Int) != (l1.length:Int))=false:=be_ c3
  have c3b2:(l0.length==l1.length)=true:=by first|simpa using c3|(simp at c3 ⊢;omega)
  clear c3
  have H':=a_ H
  clear H
  go_enter Tryd.func71,Tryd.ntmps71
  go_wp2
  repeat (go_quiet (fail);try go_wp2)
  go_loopg [13] k (fun kq v13 w'=>∃ (x13_1:Int),v13=.int .i64 x13_1∧Aside0 (impl_Row.l0 kq l0 l1 (l0.length:Int) x13_1=some r)∧Aside0 (kq≤k)∧Drawn0 w w')
  case atStart=>exact ⟨(0),(si_),H',⟨Nat.le_refl _⟩,by repeat (first|exact Drawn0.refl _|apply Drawn0.step)⟩
  case round =>
   clear H'
   try clear c1
   try clear p2
   try clear c3
   try clear c3b0
   try clear c3b1
   try clear c3b2
   obtain ⟨x13_1,rfl,HA,HK1,⟨m1,rfl⟩⟩:=hrel
   cases gk with
   | zero=>exact absurd HA.out (by simp [impl_Row.l0])
   | succ k1 =>
    have H:=HA.out
    clear HA
    simp only [impl_Row.l0] at H
    by_cases c4:x13_1 < (l0.length:Int)
    ·rw [if_pos c4] at H
     have c4b0:decide (x13_1 < (l0.length:Int))=true:=dt_ c4
     clear c4
     by_cases c5:0≤x13_1
     ·rw [if_pos c5] at H
      have c5b0:decide (0≤x13_1)=true:=dt_ c5
      clear c5
      by_cases c6:x13_1 < (l0.length:Int)
      ·rw [if_pos c6] at H
       have c6b0:decide (x13_1 < (l0.length:Int))=true:=dt_ c6
       clear c6
       by_cases c7:x13_1 < (l1.length:Int)
       ·rw [if_pos c7] at H
        have c7b0:decide (x13_1 < (l1.length:Int))=true:=dt_ c7
        clear c7
        by_cases c8:(!(((rd_T37 l0 x13_1).f0)==((rd_T37 l1 x13_1).f0)) || (!(((rd_T37 l0 x13_1).f1)==((rd_T37 l1 x13_1).f1)) || (!((((rd_T37 l0 x13_1).f2).toList)==(((rd_T37 l1 x13_1).f2).toList)))))=true
        ·rw [if_pos c8] at H
         have c8b0:(!(((rd_T37 l0 x13_1).f0)==((rd_T37 l1 x13_1).f0)) || (!(((rd_T37 l0 x13_1).f1)==((rd_T37 l1 x13_1).f1)) || (!((((rd_T37 l0 x13_1).f2).toList)==(((rd_T37 l1 x13_1).f2).toList)))))=true:=c8
         clear c8
         obtain rfl:=sj_ H
         have p519:0≤(x13_1:Int):=od_
         have q519:x13_1 < (l0.length:Int):=od_
         obtain ⟨ad519,e519,hx519_0,hx519_1,hx519_2⟩:=at_T37 HR0.out x13_1 p519 q519
         cases e519
         replace p519:=eq_true p519
         replace q519:=eq_true q519
         have p520:0≤(x13_1:Int):=od_
         have q520:x13_1 < (l1.length:Int):=od_
         obtain ⟨ad520,e520,hx520_0,hx520_1,hx520_2⟩:=at_T37 HR1.out x13_1 p520 q520
         cases e520
         replace p520:=eq_true p520
         replace q520:=eq_true q520
         go_wp2
         repeat (go_quiet (fail);try go_wp2)
         go_ret
         exact ⟨si_,by repeat (first|exact Drawn0.refl _|apply Drawn0.step)⟩
        ·rw [if_neg c8] at H
         have c8b0:(!(((rd_T37 l0 x13_1).f0)==((rd_T37 l1 x13_1).f0)) || (!(((rd_T37 l0 x13_1).f1)==((rd_T37 l1 x13_1).f1)) || (!((((rd_T37 l0 x13_1).f2).toList)==(((rd_T37 l1 x13_1).f2).toList)))))=false:=by simpa using c8
         clear c8
         have H':=a_ H
         clear H
         have p519:0≤(x13_1:Int):=od_
         have q519:x13_1 < (l0.length:Int):=od_
         obtain ⟨ad519,e519,hx519_0,hx519_1,hx519_2⟩:=at_T37 HR0.out x13_1 p519 q519
         cases e519
         replace p519:=eq_true p519
         replace q519:=eq_true q519
         have p520:0≤(x13_1:Int):=od_
         have q520:x13_1 < (l1.length:Int):=od_
         obtain ⟨ad520,e520,hx520_0,hx520_1,hx520_2⟩:=at_T37 HR1.out x13_1 p520 q520
         cases e520
         replace p520:=eq_true p520
         replace q520:=eq_true q520
         go_wp2
         repeat (go_quiet (fail);try go_wp2)
         go_roundg k1
         case measure=>have:=HK1.out;omega
         case rel=>exact ⟨(wrap64 (x13_1+1)),(si_),H',⟨by have:=HK1.out;omega⟩,by repeat (first|exact Drawn0.refl _|apply Drawn0.step)⟩
       ·rw [if_neg c7] at H
        exact absurd H (by simp)
      ·rw [if_neg c6] at H
       exact absurd H (by simp)
     ·rw [if_neg c5] at H
      exact absurd H (by simp)
    ·rw [if_neg c4] at H
     have c4b0:decide (x13_1 < (l0.length:Int))=false:=df_ c4
     clear c4
     obtain rfl:=sj_ H
     go_wp2
     repeat (go_quiet (fail);try go_wp2)
     go_ret
     exact ⟨si_,by repeat (first|exact Drawn0.refl _|apply Drawn0.step)⟩
 ·rw [if_neg c3] at H
  have c3b0:((l0.length:Int)==(l1.length:Int))=false:=bn_ c3
  have c3b1:((l0.length:Int) != (l1.length:Int))=true:=bne_iff_ne.mpr c3
  have c3b2:(l0.length==l1.length)=false:=by first|simpa using c3|(simp at c3 ⊢;omega)
  obtain rfl:=sj_ H
  go_enter Tryd.func71,Tryd.ntmps71
  go_wp2
  repeat (go_quiet (fail);try go_wp2)
  go_ret
  exact ⟨si_,by repeat (first|exact Drawn0.refl _|apply Drawn0.step)⟩
end Go.Proofs.YtlkheeegkifblaaDoor.P
namespace Go.Proofs.YtlkheeegkifblaaDoor.PL
open Go.RowKit Go.Proofs.YtlkheeegkifblaaDoor.P Go.Proofs.YtlkheeegkifblaaDoorW.PrintWords Go.Proofs.YtlkheeegkifblaaDoorW.PrintLast Go.Proofs.YtlkheeegkifblaaDoor.FP
instance rowEq:DecidableEq S37:=fun a b =>
 decidable_of_iff (a.f0=b.f0∧a.f1=b.f1∧a.f2=b.f2) ⟨fun h=>by cases a;cases b;simp_all,fun h=>by rw [h];exact ⟨rfl,rfl,rfl⟩⟩
def kNo:Int×Int×Int×Int×ByteArray×Bool:=(0,0,0,0,⟨#[]⟩,false)
def kMv (i u a:Int):Int×Int×Int×Int×ByteArray×Bool:=(3,i,u,a,⟨#[]⟩,true)
def keyR (K:Fo→Nat→Int×Int×Int×Int×ByteArray×Bool) (l:List S37) (id:Int):Int×Int×Int×Int×ByteArray×Bool :=
 if treeB l=true then (if madeB id=true then (if fndF (toFo l) id=0 then kNo else K (toFo l) (fndF (toFo l) id)) else kNo) else kNo
def backF (G:Fo) (k:Int) (m:Nat):Int×Int×Int×Int×ByteArray×Bool :=
 if k=1 then kMv m 2 0 else if k=2 then (2,(m:Int),0,0,txtF m G,true) else kMv m (FP.par m 0 G:Nat) (sibT m G:Nat)
def keyBackR (ok:Bool) (l:List S37) (k i u a:Int) (s:ByteArray):Int×Int×Int×Int×ByteArray×Bool :=
 if treeB l=true then (if ok=true then (if (FP.doF (toFo l) k i u a s).fl 0=l then kNo else backF (toFo l) k i.toNat) else kNo) else kNo
theorem bytes_inj {s t:ByteArray} (h:s.toList=t.toList):s=t:=ByteArray.ext (Array.toList_inj.mp (by rw [←Go.ByteArray.toList_eq,←Go.ByteArray.toList_eq,h]))
theorem row_ne {a b:S37}:((!(a.f0==b.f0)) || ((!(a.f1==b.f1)) || (!(a.f2.toList==b.f2.toList))))=!decide (a=b):=by
 by_cases h:a=b
 ·subst h;simp
 ·rw [df_ h]
  obtain ⟨a0,a1,a2⟩:=a
  obtain ⟨b0,b1,b2⟩:=b
  simp only [Bool.not_false,Bool.or_eq_true,Bool.not_eq_eq_eq_not,Bool.not_true,beq_eq_false_iff_ne]
  by_cases h0:a0=b0
  ·by_cases h1:a1=b1
   ·right;right
    intro e
    exact h (by rw [h0,h1,bytes_inj e])
   ·right;left;exact h1
  ·left;exact h0
theorem same_l0 (a b:List S37) (h:a.length=b.length) (hl:a.length≤1099511627776):∀ (n i:Nat),i+n=a.length→Ev (fun k=>impl_Row.l0 k a b (a.length:Int) i) (decide (a.drop i=b.drop i))
 | 0,i,hi=>by
  refine Ev.step (f:=fun _=>some true) (fun k=>?_) ?_
  ·simp only [impl_Row.l0];rw [if_neg (by omega)]
  ·rw [List.drop_eq_nil_of_le (by omega),List.drop_eq_nil_of_le (by omega),dt_ rfl];exact evnow _
 | n+1,i,hi=>by
  have ha:i < a.length:=by omega
  have hb:i < b.length:=by omega
  have da:=List.drop_eq_getElem_cons ha
  have db:=List.drop_eq_getElem_cons hb
  by_cases e:a[i]=b[i]
  ·refine Ev.step (fun k=>?_) (Eq.mp (congrArg (Ev _) ?_) (same_l0 a b h hl n (i+1) (by omega)))
   ·simp only [impl_Row.l0]
    rw [if_pos (by omega),if_pos (by omega),if_pos (by omega),if_pos (by omega),rdR_get a i ha,rdR_get b i hb,row_ne,dt_ e]
    rw [if_neg (by decide),wrapS i (by omega) (by omega)]
    rfl
   ·have:(a.drop i=b.drop i)↔(a.drop (i+1)=b.drop (i+1)):=by rw [da,db,e];exact ⟨fun h=>(List.cons.inj h).2,fun h=>by rw [h]⟩
    exact decide_eq_decide.2 this.symm
  ·refine Ev.step (f:=fun _=>some false) (fun k=>?_) ?_
   ·simp only [impl_Row.l0]
    rw [if_pos (by omega),if_pos (by omega),if_pos (by omega),if_pos (by omega),rdR_get a i ha,rdR_get b i hb,row_ne,df_ e]
    rfl
   ·rw [df_ fun g=>e (List.cons.inj (da.symm.trans (g.trans db))).1];exact evnow _
theorem same_f (a b:List S37) (hl:a.length≤1099511627776):Ev (fun k=>impl_Row.f k a b) (decide (a=b)):=by
 unfold impl_Row.f
 by_cases h:a.length=b.length
 ·exact ev_pos (by omega) (same_l0 a b h hl a.length 0 (by omega))
 ·refine ev_neg (by omega) ?_
  rw [df_ fun e=>h (by rw [e])]
  exact evnow _
end Go.Proofs.YtlkheeegkifblaaDoor.PL
namespace Go.Proofs.YtlkheeegkifblaaDoor.P
open Go.RowKit Go.Shelf Go.Proofs.YtlkheeegkifblaaDoorW.PrintWords Go.Proofs.YtlkheeegkifblaaDoorW.PrintLast Go.Proofs.YtlkheeegkifblaaDoorW.PrintMore Go.Proofs.YtlkheeegkifblaaDoor.PL Go.Proofs.YtlkheeegkifblaaDoor.FP
attribute [local go_sem] Oper.semAt_some
def KeyPost (w:World) (r:Int×Int×Int×Int×ByteArray×Bool) (e:Ending) (w':World):Prop :=
 e=.returned (.tuple #[.agg #[.int .i64 r.1,.int .i64 r.2.1,.int .i64 r.2.2.1,.int .i64 r.2.2.2.1,.string r.2.2.2.2.1],.bool r.2.2.2.2.2])∧Below w.heap.size w w'
attribute [local go_sem] Oper.semAt_some
open Go.Maps (Keyed)
def fnD (v:Value):Option (DataW Unit×List MemPlace) :=
 match v with
 | .func (.func f) a b=>if a.size=0∧b.size=0 then some (.lit (.int .i64 (f:Int)),[]) else none
 | .nilFunc=>some (.lit (.bool false),[])
 | _=>none
theorem fnD_inv {v:Value} {f:Nat} {ps:List MemPlace} (h:fnD v=some (.lit (.int .i64 (f:Int)),ps)):v=.func (.func f) #[] #[]:=by
 unfold fnD at h
 split at h
 ·rename_i g a b
  split at h
  ·rename_i hs
   obtain ⟨ha,hb⟩:=hs
   have e1:a=#[]:=Array.eq_empty_of_size_eq_zero ha
   have e2:b=#[]:=Array.eq_empty_of_size_eq_zero hb
   subst e1 e2
   have h2:(g:Int)=(f:Int):=by
    have h3:=congrArg Prod.fst (sj_ h)
    injection h3 with h4
    injection h4
   rw [show g=f from Int.ofNat.inj h2]
  ·cases h
 ·simp at h
 ·cases h
theorem zeroFn (w:World):(zeroValue 79).run Tryd.prog w=.ok .nilFunc w:=by kernel_rfl
def backD:DataW Unit:=((((DataW.map []).put (.int .i64 1) (.lit (.int .i64 101))).put (.int .i64 2) (.lit (.int .i64 102))).put (.int .i64 3) (.lit (.int .i64 103)))
def MapOk (g:Nat) (W:World):Prop:=∃ n,W.ownsMap Tryd.prog 3 fnD g n backD
theorem MapOk.look {g:Nat} {W:World} (m:MapOk g W) (k:Int) (f:Nat) (h:∀ zd,backD.atKey (.int .i64 k) zd=.lit (.int .i64 (f:Int))) (hw:(Lit.int .i64 k).wf=true) :
  (Instr.lookup 80 (.map (some g)) (.int .i64 k) false).run Tryd.prog W=.ok (.func (.func f) #[] #[]) W:=by
 obtain ⟨n,o⟩:=m
 obtain ⟨v,ps,hr,hv⟩:=o.lookup (Go.Maps.int_keyed Tryd.underlying3) Tryd.underlying80 (zeroFn _) (z:=.nilFunc) (zd:=.lit (.bool false)) (zp:=[]) rfl (Go.Maps.keyOf_int_mk Tryd.underlying3 hw)
 rw [h] at hv
 rw [hr,fnD_inv hv]
theorem MapOk.kept {g:Nat} {W W':World} (m:MapOk g W) (h:W'.heap[g]?=W.heap[g]?):MapOk g W':=by
 obtain ⟨n,es,clock,hb,r⟩:=m
 exact ⟨n,es,clock,h.trans hb,r⟩
theorem backCommands_any (w:World):Calls Tryd.prog 72 #[] w fun e w'=>∃ g,e=.returned (.map (some g))∧MapOk g w'∧Below w.heap.size w w':=by
 have hmm:=@run_makeMap Tryd.prog
 have K:=Go.Maps.int_keyed Tryd.underlying3
 have T:=Tryd.underlying80
 have k1:keyOf Tryd.prog 3 (.int .i64 1)=some (.int .i64 1):=Go.Maps.keyOf_int_mk Tryd.underlying3 (by decide)
 have k2:keyOf Tryd.prog 3 (.int .i64 2)=some (.int .i64 2):=Go.Maps.keyOf_int_mk Tryd.underlying3 (by decide)
 have k3:keyOf Tryd.prog 3 (.int .i64 3)=some (.int .i64 3):=Go.Maps.keyOf_int_mk Tryd.underlying3 (by decide)
 have o0:=World.ownsMap_made w Tryd.prog 3 fnD
 obtain ⟨w1,r1,o1,g1⟩:=o0.update K T (by unfold maxLen;omega) (val:=.func (.func 101) #[] #[]) (d:=.lit (.int .i64 101)) (ps:=[]) k1 rfl
 obtain ⟨w2,r2,o2,g2⟩:=o1.update K T (by unfold maxLen;omega) (val:=.func (.func 102) #[] #[]) (d:=.lit (.int .i64 102)) (ps:=[]) k2 rfl
 obtain ⟨w3,r3,o3,g3⟩:=o2.update K T (by unfold maxLen;omega) (val:=.func (.func 103) #[] #[]) (d:=.lit (.int .i64 103)) (ps:=[]) k3 rfl
 have b0:Below w.heap.size w (w.alloc (.map #[] 0)):=below_box0 w _
 have b1:=b0.grown g1 b0.size (fun j e=>by cases e;exact Nat.le_refl _)
 have b2:=b1.grown g2 b1.size (fun j e=>by cases e;exact Nat.le_refl _)
 have b3:=b2.grown g3 b2.size (fun j e=>by cases e;exact Nat.le_refl _)
 have M:=a_ (show MapOk w.heap.size w3 from ⟨_,o3⟩)
 have B:=a_ b3
 clear K T k1 k2 k3 o0 o1 o2 o3 g1 g2 g3 b0 b1 b2 b3
 go_enter Tryd.func72,Tryd.ntmps72
 go_wp2
 go_ret
 exact ⟨_,rfl,M.out,B.out⟩
attribute [local go_sem] Oper.semAt_some
theorem back_notree (k:Nat) (A0:Option Addr) (c0:Nat) (l0:List S37) (a0 a1 a2 a3:Int) (a4:ByteArray) (w:World) (hr0:Kd.C k37 w A0 l0.length l0) (hc0:l0.length≤c0) (hG:Glob w) (ht:treeB l0=false):Calls Tryd.prog 31 #[.slice A0 l0.length c0,.agg #[.int .i64 a0,.int .i64 a1,.int .i64 a2,.int .i64 a3,.string a4]] w (KeyPost w kNo):=by
 unfold KeyPost kNo
 have hu27:=Tryd.underlying27
 have HR:=a_ hr0
 have HC:=a_ hc0
 have HG:=a_ hG
 clear hr0 hc0 hG
 have HT:=a_ ht
 clear ht
 go_enter Tryd.func31,Tryd.ntmps31
 go_wp2_with (first
  | ((with_reducible refine gD_ (N:=3) rfl ?_);refine bx_ 3 (#[.int .i64 a0,.int .i64 a1,.int .i64 a2,.int .i64 a3,.string a4]) 27 ?_;intro ga hga W0 hboxa hba;have P0:=a_ hboxa;have hb0:=a_ hba;clear hboxa hba hga)
  | ((with_reducible refine gD_ (N:=4) rfl ?_);refine bx_ 4 (#[.int .i64 0,.int .i64 0,.int .i64 0,.int .i64 0,.string (⟨#[]⟩:ByteArray)]) 27 ?_;intro gb hg W1 hbox hb;have X1:=a_ (Bx.mk hbox (by rw [hg];exact hb0.out.size) (bS_ hb0.out hb));have hbx:=a_ hb;clear hbox hb hg;have P1:=a_ (blk_below P0.out hbx.out);have hb1:=a_ X1.out.below)
  | (go_at_call 60;(with_reducible refine (plant_no A0 c0 l0 _ (Kd.C_below HR.out hb1.out) HC.out HT.out (HG.out.below hb1.out)).mono ?_);rintro en W2 ⟨rfl,hb⟩;have X2:=a_ (X1.out.step hb);clear hb;have zb_0:=X2.out.c0;have yb_0:=X2.out.f 0;have zb_1:=X2.out.c1;have yb_1:=X2.out.f 1;have zb_2:=X2.out.c2;have yb_2:=X2.out.f 2;have zb_3:=X2.out.c3;have yb_3:=X2.out.f 3;have zb_4:=X2.out.c4;have yb_4:=X2.out.f 4))
 refine bodyPost_ret (results_ct rfl _ _ gb 27 #[.int .i64 0,.int .i64 0,.int .i64 0,.int .i64 0,.string (⟨#[]⟩:ByteArray)] (0,0) _ rfl (by (with_reducible repeat (first|refine bN_ ?_ _|refine bD_ ?_));exact X2.out.put _ _ _ _ _) hu27 rfl (by kernel_rfl)) rfl ?_
 exact ⟨rfl,(by (with_reducible repeat (first|apply pw_below_drewN|apply below_drew1));exact X2.out.put_below _ _ _ _ _)⟩
theorem back_noop (k:Nat) (A0:Option Addr) (c0:Nat) (l0:List S37) (a0 a1 a2 a3:Int) (a4:ByteArray) (w:World) (hr0:Kd.C k37 w A0 l0.length l0) (hc0:l0.length≤c0) (hG:Glob w) (hok:impl_OpOk.f k a0 a1 a2 a3 a4=some false) (ht:treeB l0=true):Calls Tryd.prog 31 #[.slice A0 l0.length c0,.agg #[.int .i64 a0,.int .i64 a1,.int .i64 a2,.int .i64 a3,.string a4]] w (KeyPost w kNo):=by
 unfold KeyPost kNo
 have hu27:=Tryd.underlying27
 have HR:=a_ hr0
 have HC:=a_ hc0
 have HG:=a_ hG
 clear hr0 hc0 hG
 have HT:=a_ ht
 have HK:=a_ hok
 clear ht hok
 go_enter Tryd.func31,Tryd.ntmps31
 go_wp2_with (first
  | ((with_reducible refine gD_ (N:=3) rfl ?_);refine bx_ 3 (#[.int .i64 a0,.int .i64 a1,.int .i64 a2,.int .i64 a3,.string a4]) 27 ?_;intro ga hga W0 hboxa hba;have P0:=a_ hboxa;have hb0:=a_ hba;clear hboxa hba hga)
  | ((with_reducible refine gD_ (N:=4) rfl ?_);refine bx_ 4 (#[.int .i64 0,.int .i64 0,.int .i64 0,.int .i64 0,.string (⟨#[]⟩:ByteArray)]) 27 ?_;intro gb hg W1 hbox hb;have X1:=a_ (Bx.mk hbox (by rw [hg];exact hb0.out.size) (bS_ hb0.out hb));have hbx:=a_ hb;clear hbox hb hg;have P1:=a_ (blk_below P0.out hbx.out);have hb1:=a_ X1.out.below)
  | (go_at_call 60;(with_reducible refine (plant_at A0 c0 l0 _ (Kd.C_below HR.out hb1.out) HC.out HT.out (HG.out.below hb1.out)).mono ?_);rintro en W2 ⟨Fb,A,h,rfl,hat,hb⟩;have X2:=a_ (X1.out.step hb);have P2:=a_ (blk_below P1.out hb);have T2:=a_ hat;clear hb hat;have vb_0:W2.cell? ⟨ga,0,none⟩=some (.int .i64 a0):=(bC_ P2.out 0).trans rfl;have vb_1:W2.cell? ⟨ga,1,none⟩=some (.int .i64 a1):=(bC_ P2.out 1).trans rfl;have vb_2:W2.cell? ⟨ga,2,none⟩=some (.int .i64 a2):=(bC_ P2.out 2).trans rfl;have vb_3:W2.cell? ⟨ga,3,none⟩=some (.int .i64 a3):=(bC_ P2.out 3).trans rfl;have vb_4:W2.cell? ⟨ga,4,none⟩=some (.string a4):=(bC_ P2.out 4).trans rfl)
  | (go_at_call 36;(with_reducible refine (impl_OpOk.calls k a0 a1 a2 a3 a4 false _ HK.out (HG.out.below X2.out.below)).mono ?_);rintro en W3 ⟨rfl,hb⟩;have X3:=a_ (X2.out.step hb);have P3:=a_ (blk_below P2.out hb);have T3:=a_ (T2.out.kept (T2.out.m.below hb));clear hb;have vc_0:W3.cell? ⟨ga,0,none⟩=some (.int .i64 a0):=(bC_ P3.out 0).trans rfl;have vc_1:W3.cell? ⟨ga,1,none⟩=some (.int .i64 a1):=(bC_ P3.out 1).trans rfl;have vc_2:W3.cell? ⟨ga,2,none⟩=some (.int .i64 a2):=(bC_ P3.out 2).trans rfl;have vc_3:W3.cell? ⟨ga,3,none⟩=some (.int .i64 a3):=(bC_ P3.out 3).trans rfl;have vc_4:W3.cell? ⟨ga,4,none⟩=some (.string a4):=(bC_ P3.out 4).trans rfl;have zc_0:=X3.out.c0;have yc_0:=X3.out.f 0;have zc_1:=X3.out.c1;have yc_1:=X3.out.f 1;have zc_2:=X3.out.c2;have yc_2:=X3.out.f 2;have zc_3:=X3.out.c3;have yc_3:=X3.out.f 3;have zc_4:=X3.out.c4;have yc_4:=X3.out.f 4))
 refine bodyPost_ret (results_ct rfl _ _ gb 27 #[.int .i64 0,.int .i64 0,.int .i64 0,.int .i64 0,.string (⟨#[]⟩:ByteArray)] (0,0) _ rfl (by (with_reducible repeat (first|refine bN_ ?_ _|refine bD_ ?_));exact X3.out.put _ _ _ _ _) hu27 rfl (by kernel_rfl)) rfl ?_
 exact ⟨rfl,(by (with_reducible repeat (first|apply pw_below_drewN|apply below_drew1));exact X3.out.put_below _ _ _ _ _)⟩
theorem back_same (k:Nat) (A0:Option Addr) (c0:Nat) (l0:List S37) (a0 a1 a2 a3:Int) (a4:ByteArray) (w:World) (hr0:Kd.C k37 w A0 l0.length l0) (hc0:l0.length≤c0) (hG:Glob w) (hok:impl_changeOf.f k a0 a1 a2 a3 a4=some true) (ht:treeB l0=true) (ks:Nat) (hs:impl_Row.f ks ((FP.doF (toFo l0) a0 a1 a2 a3 a4).fl 0) l0=some true):Calls Tryd.prog 31 #[.slice A0 l0.length c0,.agg #[.int .i64 a0,.int .i64 a1,.int .i64 a2,.int .i64 a3,.string a4]] w (KeyPost w kNo):=by
 unfold KeyPost kNo
 have hu27:=Tryd.underlying27
 have HR:=a_ hr0
 have HC:=a_ hc0
 have HG:=a_ hG
 clear hr0 hc0 hG
 have HT:=a_ ht
 have HO:=a_ hok
 have HK:=a_ (show impl_OpOk.f k a0 a1 a2 a3 a4=some true from hok)
 have HS:=a_ hs
 clear ht hok hs
 go_enter Tryd.func31,Tryd.ntmps31
 go_wp2_with (first
  | ((with_reducible refine gD_ (N:=3) rfl ?_);refine bx_ 3 (#[.int .i64 a0,.int .i64 a1,.int .i64 a2,.int .i64 a3,.string a4]) 27 ?_;intro ga hga W0 hboxa hba;have P0:=a_ hboxa;have hb0:=a_ hba;clear hboxa hba hga)
  | ((with_reducible refine gD_ (N:=4) rfl ?_);refine bx_ 4 (#[.int .i64 0,.int .i64 0,.int .i64 0,.int .i64 0,.string (⟨#[]⟩:ByteArray)]) 27 ?_;intro gb hg W1 hbox hb;have X1:=a_ (Bx.mk hbox (by rw [hg];exact hb0.out.size) (bS_ hb0.out hb));have hbx:=a_ hb;clear hbox hb hg;have P1:=a_ (blk_below P0.out hbx.out);have hb1:=a_ X1.out.below)
  | (go_at_call 60;(with_reducible refine (plant_at A0 c0 l0 _ (Kd.C_below HR.out hb1.out) HC.out HT.out (HG.out.below hb1.out)).mono ?_);rintro en W2 ⟨Fb,A,h,rfl,hat,hb⟩;have X2:=a_ (X1.out.step hb);have P2:=a_ (blk_below P1.out hb);have T2:=a_ hat;clear hb hat;have vb_0:W2.cell? ⟨ga,0,none⟩=some (.int .i64 a0):=(bC_ P2.out 0).trans rfl;have vb_1:W2.cell? ⟨ga,1,none⟩=some (.int .i64 a1):=(bC_ P2.out 1).trans rfl;have vb_2:W2.cell? ⟨ga,2,none⟩=some (.int .i64 a2):=(bC_ P2.out 2).trans rfl;have vb_3:W2.cell? ⟨ga,3,none⟩=some (.int .i64 a3):=(bC_ P2.out 3).trans rfl;have vb_4:W2.cell? ⟨ga,4,none⟩=some (.string a4):=(bC_ P2.out 4).trans rfl)
  | (go_at_call 36;(with_reducible refine (impl_OpOk.calls k a0 a1 a2 a3 a4 true _ HK.out (HG.out.below X2.out.below)).mono ?_);rintro en W3 ⟨rfl,hb⟩;have X3:=a_ (X2.out.step hb);have P3:=a_ (blk_below P2.out hb);have T3:=a_ (T2.out.kept (T2.out.m.below hb));clear hb;have vc_0:W3.cell? ⟨ga,0,none⟩=some (.int .i64 a0):=(bC_ P3.out 0).trans rfl;have vc_1:W3.cell? ⟨ga,1,none⟩=some (.int .i64 a1):=(bC_ P3.out 1).trans rfl;have vc_2:W3.cell? ⟨ga,2,none⟩=some (.int .i64 a2):=(bC_ P3.out 2).trans rfl;have vc_3:W3.cell? ⟨ga,3,none⟩=some (.int .i64 a3):=(bC_ P3.out 3).trans rfl;have vc_4:W3.cell? ⟨ga,4,none⟩=some (.string a4):=(bC_ P3.out 4).trans rfl)
  | (go_at_call 23;(with_reducible refine (opDo_yes k A0 c0 l0 a0 a1 a2 a3 a4 _ (Kd.C_below HR.out X3.out.below) HC.out HO.out HT.out (HG.out.below X3.out.below)).mono ?_);rintro en W4 ⟨v4,rfl,ho,hb⟩;have X4:=a_ (X3.out.step hb);have P4:=a_ (blk_below P3.out hb);have T4:=a_ (T3.out.kept (T3.out.m.below hb));obtain ⟨Ao,co,eo⟩:=Kd.R_slice ho;subst eo;have HO4:=a_ (Kd.R_reads' ho);clear hb ho)
  | (go_at_call 71;(with_reducible refine (impl_Row.calls ks Ao co _ A0 c0 l0 true _ HO4.out.2.2 HO4.out.2.1 (Kd.C_below HR.out X4.out.below) HC.out HS.out).mono ?_);rintro en W5 ⟨rfl,hbd⟩;have hb:=hbd.below;have X5:=a_ (X4.out.step hb);have P5:=a_ (blk_below P4.out hb);have T5:=a_ (T4.out.kept (T4.out.m.below hb));clear hb hbd;have ve_0:W5.cell? ⟨ga,0,none⟩=some (.int .i64 a0):=(bC_ P5.out 0).trans rfl;have ve_1:W5.cell? ⟨ga,1,none⟩=some (.int .i64 a1):=(bC_ P5.out 1).trans rfl;have ve_2:W5.cell? ⟨ga,2,none⟩=some (.int .i64 a2):=(bC_ P5.out 2).trans rfl;have ve_3:W5.cell? ⟨ga,3,none⟩=some (.int .i64 a3):=(bC_ P5.out 3).trans rfl;have ve_4:W5.cell? ⟨ga,4,none⟩=some (.string a4):=(bC_ P5.out 4).trans rfl;have ze_0:=X5.out.c0;have ye_0:=X5.out.f 0;have ze_1:=X5.out.c1;have ye_1:=X5.out.f 1;have ze_2:=X5.out.c2;have ye_2:=X5.out.f 2;have ze_3:=X5.out.c3;have ye_3:=X5.out.f 3;have ze_4:=X5.out.c4;have ye_4:=X5.out.f 4))
 refine bodyPost_ret (results_ct rfl _ _ gb 27 #[.int .i64 0,.int .i64 0,.int .i64 0,.int .i64 0,.string (⟨#[]⟩:ByteArray)] (0,0) _ rfl (by (with_reducible repeat (first|refine bN_ ?_ _|refine bD_ ?_));exact X5.out.put _ _ _ _ _) hu27 rfl (by kernel_rfl)) rfl ?_
 exact ⟨rfl,(by (with_reducible repeat (first|apply pw_below_drewN|apply below_drew1));exact X5.out.put_below _ _ _ _ _)⟩
attribute [local go_sem] Oper.semAt_some
theorem At.mem {w:World} {n0 F:Nat} {A:Nat→Option Nat} {h:Nat→Nd} {G:Fo} (t:At w n0 F A h G) {i b:Nat} (hi:A i=some b):i∈G.ids:=(t.dom i).1 (by rw [hi];simp)
def FnPost (w:World) (k i u a:Int) (s:ByteArray) (e:Ending) (w':World):Prop:=e=.returned (.agg #[.int .i64 k,.int .i64 i,.int .i64 u,.int .i64 a,.string s])∧Below w.heap.size w w'
theorem back1_any (F:Value) (a0 a1 a2 a3:Int) (a4:ByteArray) (w:World):Calls Tryd.prog 101 #[F,.agg #[.int .i64 a0,.int .i64 a1,.int .i64 a2,.int .i64 a3,.string a4]] w (FnPost w 3 a1 2 0 (⟨#[]⟩:ByteArray)):=by
 unfold FnPost
 have hu27:=Tryd.underlying27
 go_enter Tryd.func101,Tryd.ntmps101
 go_wp2_with (first
  | ((with_reducible refine gD_ (N:=3) rfl ?_);refine bx_ 3 (#[.int .i64 a0,.int .i64 a1,.int .i64 a2,.int .i64 a3,.string a4]) 27 ?_;intro ga hga W0 hboxa hba;have P0:=a_ hboxa;have hb0:=a_ hba;clear hboxa hba hga)
  | ((with_reducible refine gD_ (N:=4) rfl ?_);refine bx_ 4 (#[.int .i64 0,.int .i64 0,.int .i64 0,.int .i64 0,.string (⟨#[]⟩:ByteArray)]) 27 ?_;intro gb hg W1 hbox hb;have X1:=a_ (Bx.mk hbox (by rw [hg];exact hb0.out.size) (bS_ hb0.out hb));have hbx:=a_ hb;clear hbox hb hg;have P1:=a_ (blk_below P0.out hbx.out);have hb1:=a_ X1.out.below;have va_0:W1.cell? ⟨ga,0,none⟩=some (.int .i64 a0):=(bC_ P1.out 0).trans rfl;have va_1:W1.cell? ⟨ga,1,none⟩=some (.int .i64 a1):=(bC_ P1.out 1).trans rfl;have va_2:W1.cell? ⟨ga,2,none⟩=some (.int .i64 a2):=(bC_ P1.out 2).trans rfl;have va_3:W1.cell? ⟨ga,3,none⟩=some (.int .i64 a3):=(bC_ P1.out 3).trans rfl;have va_4:W1.cell? ⟨ga,4,none⟩=some (.string a4):=(bC_ P1.out 4).trans rfl;have za_0:=X1.out.c0;have ya_0:=X1.out.f 0;have za_1:=X1.out.c1;have ya_1:=X1.out.f 1;have za_2:=X1.out.c2;have ya_2:=X1.out.f 2;have za_3:=X1.out.c3;have ya_3:=X1.out.f 3;have za_4:=X1.out.c4;have ya_4:=X1.out.f 4))
 refine bodyPost_ret (results_cell_row rfl _ _ gb 27 #[.int .i64 3,.int .i64 a1,.int .i64 2,.int .i64 0,.string (⟨#[]⟩:ByteArray)] (0,0) _ rfl (by (with_reducible repeat (first|refine bN_ ?_ _|refine bD_ ?_));exact X1.out.put _ _ _ _ _) hu27 rfl (by kernel_rfl)) rfl ?_
 exact ⟨rfl,(by (with_reducible repeat (first|apply pw_below_drewN|apply below_drew1));exact X1.out.put_below _ _ _ _ _)⟩
theorem back2_any {w:World} {n0 Fb:Nat} {A:Nat→Option Nat} {h:Nat→Nd} {G:Fo} (t:At w n0 Fb A h G) {i b:Nat} (hi:A i=some b) (a0 a1 a2 a3:Int) (a4:ByteArray) (hf:findA A a1=some b) :
  Calls Tryd.prog 102 #[.pointer (some ⟨Fb,0,none⟩),.agg #[.int .i64 a0,.int .i64 a1,.int .i64 a2,.int .i64 a3,.string a4]] w (FnPost w 2 a1 0 0 (txtF i G)):=by
 unfold FnPost
 have hu27:=Tryd.underlying27
 have HX:=a_ (reptop_txt t.rep t.nd (t.mem hi))
 have T0:=a_ t
 have HI:=a_ hi
 have HF:=a_ hf
 clear t hi hf
 go_enter Tryd.func102,Tryd.ntmps102
 go_wp2_with (first
  | ((with_reducible refine gD_ (N:=3) rfl ?_);refine bx_ 3 (#[.int .i64 a0,.int .i64 a1,.int .i64 a2,.int .i64 a3,.string a4]) 27 ?_;intro ga hga W0 hboxa hba;have P0:=a_ hboxa;have hb0:=a_ hba;clear hboxa hba hga)
  | ((with_reducible refine gD_ (N:=4) rfl ?_);refine bx_ 4 (#[.int .i64 0,.int .i64 0,.int .i64 0,.int .i64 0,.string (⟨#[]⟩:ByteArray)]) 27 ?_;intro gb hg W1 hbox hb;have X1:=a_ (Bx.mk hbox (by rw [hg];exact hb0.out.size) (bS_ hb0.out hb));have hbx:=a_ hb;clear hbox hb hg;have P1:=a_ (blk_below P0.out hbx.out);have hb1:=a_ X1.out.below;have T1:=a_ (T0.out.kept (T0.out.m.below hb1.out));have q1:=T1.out.m.c1 HI.out;rw [HX.out] at q1;have va_0:W1.cell? ⟨ga,0,none⟩=some (.int .i64 a0):=(bC_ P1.out 0).trans rfl;have va_1:W1.cell? ⟨ga,1,none⟩=some (.int .i64 a1):=(bC_ P1.out 1).trans rfl;have va_2:W1.cell? ⟨ga,2,none⟩=some (.int .i64 a2):=(bC_ P1.out 2).trans rfl;have va_3:W1.cell? ⟨ga,3,none⟩=some (.int .i64 a3):=(bC_ P1.out 3).trans rfl;have va_4:W1.cell? ⟨ga,4,none⟩=some (.string a4):=(bC_ P1.out 4).trans rfl;have za_0:=X1.out.c0;have ya_0:=X1.out.f 0;have za_1:=X1.out.c1;have ya_1:=X1.out.f 1;have za_2:=X1.out.c2;have ya_2:=X1.out.f 2;have za_3:=X1.out.c3;have ya_3:=X1.out.f 3;have za_4:=X1.out.c4;have ya_4:=X1.out.f 4))
 go_region_with (go_at_call 61;(with_reducible refine (find_any T1.out.m.drew a1).mono ?_);rw [HF.out,pa_some];rintro en W2 ⟨rfl,rfl⟩)
 all_goals go_wp2
 all_goals refine bodyPost_ret (results_cell_row rfl _ _ gb 27 #[.int .i64 2,.int .i64 a1,.int .i64 0,.int .i64 0,.string (txtF i G)] (0,0) _ rfl (by (with_reducible repeat (first|refine bN_ ?_ _|refine bD_ ?_));exact X1.out.put _ _ _ _ _) hu27 rfl (by kernel_rfl)) rfl ?_
 all_goals exact ⟨rfl,(by (with_reducible repeat (first|apply pw_below_drewN|apply below_drew1));exact X1.out.put_below _ _ _ _ _)⟩
theorem back3_any {w:World} {n0 Fb:Nat} {A:Nat→Option Nat} {h:Nat→Nd} {G:Fo} (t:At w n0 Fb A h G) {i b:Nat} (hi:A i=some b) (hp:FP.par i 0 G≠0) (a0 a1 a2 a3:Int) (a4:ByteArray) (hf:findA A a1=some b) :
  Calls Tryd.prog 103 #[.pointer (some ⟨Fb,0,none⟩),.agg #[.int .i64 a0,.int .i64 a1,.int .i64 a2,.int .i64 a3,.string a4]] w (FnPost w 3 (i:Int) (FP.par i 0 G:Nat) (sibT i G:Nat) (⟨#[]⟩:ByteArray)):=by
 unfold FnPost
 have hu27:=Tryd.underlying27
 have hiG:=t.mem hi
 obtain ⟨bu,hbu⟩:=Option.ne_none_iff_exists'.1 ((t.parOk hiG).resolve_left hp)
 have HPU:=a_ (t.par hiG)
 have HS:=a_ (t.sibOk i)
 have T0:=a_ t
 have HI:=a_ hi
 have HF:=a_ hf
 have HP:=a_ hp
 have HU:=a_ hbu
 clear t hi hf hp hiG hbu
 go_enter Tryd.func103,Tryd.ntmps103
 go_wp2_with (first
  | ((with_reducible refine gD_ (N:=3) rfl ?_);refine bx_ 3 (#[.int .i64 a0,.int .i64 a1,.int .i64 a2,.int .i64 a3,.string a4]) 27 ?_;intro ga hga W0 hboxa hba;have P0:=a_ hboxa;have hb0:=a_ hba;clear hboxa hba hga)
  | ((with_reducible refine gD_ (N:=4) rfl ?_);refine bx_ 4 (#[.int .i64 0,.int .i64 0,.int .i64 0,.int .i64 0,.string (⟨#[]⟩:ByteArray)]) 27 ?_;intro gb hg W1 hbox hb;have X1:=a_ (Bx.mk hbox (by rw [hg];exact hb0.out.size) (bS_ hb0.out hb));have hbx:=a_ hb;clear hbox hb hg;have P1:=a_ (blk_below P0.out hbx.out);have hb1:=a_ X1.out.below;have T1:=a_ (T0.out.kept (T0.out.m.below hb1.out));have q2:=T1.out.m.c2 HI.out;rw [HPU.out,HU.out,pa_some] at q2;have va_0:W1.cell? ⟨ga,0,none⟩=some (.int .i64 a0):=(bC_ P1.out 0).trans rfl;have va_1:W1.cell? ⟨ga,1,none⟩=some (.int .i64 a1):=(bC_ P1.out 1).trans rfl;have va_2:W1.cell? ⟨ga,2,none⟩=some (.int .i64 a2):=(bC_ P1.out 2).trans rfl;have va_3:W1.cell? ⟨ga,3,none⟩=some (.int .i64 a3):=(bC_ P1.out 3).trans rfl;have va_4:W1.cell? ⟨ga,4,none⟩=some (.string a4):=(bC_ P1.out 4).trans rfl)
  | (go_at_call 61;(with_reducible refine (find_any T1.out.m a1).mono ?_);rw [HF.out,pa_some];rintro en W2 ⟨rfl,rfl⟩))
 go_region_with (first
  | (go_at_call 76;(with_reducible refine ((T1.out.kept T1.out.m.drew).ahead HI.out HP.out).mono ?_);rintro en W3 ⟨rfl,hb⟩;have X3:=a_ (X1.out.drew.step hb);have T3:=a_ ((T1.out.kept T1.out.m.drew).kept ((T1.out.kept T1.out.m.drew).m.below hb));clear hb;have p2:=T3.out.m.c2 HI.out;rw [HPU.out,HU.out,pa_some] at p2;have HM:=a_ (moveTo_any T3.out.m HI.out HU.out HS.out))
  | (go_at_call 104;(with_reducible refine (HM.out).mono ?_);rintro en W4 ⟨rfl,hb⟩;have X4:=a_ (X3.out.step hb);clear hb;have zb_0:=X4.out.c0;have yb_0:=X4.out.f 0;have zb_1:=X4.out.c1;have yb_1:=X4.out.f 1;have zb_2:=X4.out.c2;have yb_2:=X4.out.f 2;have zb_3:=X4.out.c3;have yb_3:=X4.out.f 3;have zb_4:=X4.out.c4;have yb_4:=X4.out.f 4))
 all_goals go_wp2
 all_goals refine bodyPost_ret (results_cell_row rfl _ _ gb 27 #[.int .i64 3,.int .i64 (i:Int),.int .i64 (FP.par i 0 G:Nat),.int .i64 (sibT i G:Nat),.string (⟨#[]⟩:ByteArray)] (0,0) _ rfl (by (with_reducible repeat (first|refine bN_ ?_ _|refine bD_ ?_));exact X4.out.put _ _ _ _ _) hu27 rfl (by kernel_rfl)) rfl ?_
 all_goals exact ⟨rfl,(by (with_reducible repeat (first|apply pw_below_drewN|apply below_drew1));exact X4.out.put_below _ _ _ _ _)⟩
attribute [local go_sem] Oper.semAt_some
theorem At.parMade {w:World} {n0 F:Nat} {A:Nat→Option Nat} {h:Nat→Nd} {G:Fo} (t:At w n0 F A h G) {u:Nat} (hu:u∈G.ids) (hr:madeB (u:Int)=true):FP.par u 0 G≠0:=by
 have hut:u∉G.tops:=fun g=>by
  rw [t.tops] at g
  simp only [List.mem_cons,List.not_mem_nil,or_false] at g
  rcases g with rfl|rfl|rfl <;> exact absurd hr (by decide)
 have:=(reptop_up t.rep t.nd hu hut).1
 rw [t.par hu] at this
 exact t.rep.ne0 _ this
attribute [local go_sem] Oper.semAt_some
theorem back_way1 (k:Nat) (A0:Option Addr) (c0:Nat) (l0:List S37) (a1 a2 a3:Int) (a4:ByteArray) (w:World) (hr0:Kd.C k37 w A0 l0.length l0) (hc0:l0.length≤c0) (hG:Glob w) (hok:impl_changeOf.f k 1 a1 a2 a3 a4=some true) (ht:treeB l0=true) (ks:Nat) (hs:impl_Row.f ks ((FP.doF (toFo l0) 1 a1 a2 a3 a4).fl 0) l0=some false):Calls Tryd.prog 31 #[.slice A0 l0.length c0,.agg #[.int .i64 1,.int .i64 a1,.int .i64 a2,.int .i64 a3,.string a4]] w (KeyPost w (3,a1,2,0,(⟨#[]⟩:ByteArray),true)):=by
 unfold KeyPost
 have hu27:=Tryd.underlying27
 have HR:=a_ hr0
 have HC:=a_ hc0
 have HG:=a_ hG
 clear hr0 hc0 hG
 have HT:=a_ ht
 have HO:=a_ hok
 have HK:=a_ (show impl_OpOk.f k 1 a1 a2 a3 a4=some true from hok)
 have HS:=a_ hs
 clear ht hok hs
 go_enter Tryd.func31,Tryd.ntmps31
 go_wp2_with (first
  | ((with_reducible refine gD_ (N:=3) rfl ?_);refine bx_ 3 (#[.int .i64 1,.int .i64 a1,.int .i64 a2,.int .i64 a3,.string a4]) 27 ?_;intro ga hga W0 hboxa hba;have P0:=a_ hboxa;have hb0:=a_ hba;clear hboxa hba hga)
  | ((with_reducible refine gD_ (N:=4) rfl ?_);refine bx_ 4 (#[.int .i64 0,.int .i64 0,.int .i64 0,.int .i64 0,.string (⟨#[]⟩:ByteArray)]) 27 ?_;intro gb hg W1 hbox hb;have X1:=a_ (Bx.mk hbox (by rw [hg];exact hb0.out.size) (bS_ hb0.out hb));have hbx:=a_ hb;clear hbox hb hg;have P1:=a_ (blk_below P0.out hbx.out);have hb1:=a_ X1.out.below)
  | (go_at_call 60;(with_reducible refine (plant_at A0 c0 l0 _ (Kd.C_below HR.out hb1.out) HC.out HT.out (HG.out.below hb1.out)).mono ?_);rintro en W2 ⟨Fb,A,h,rfl,hat,hb⟩;have X2:=a_ (X1.out.step hb);have P2:=a_ (blk_below P1.out hb);have T2:=a_ hat;clear hb hat;have vb_0:W2.cell? ⟨ga,0,none⟩=some (.int .i64 1):=(bC_ P2.out 0).trans rfl;have vb_1:W2.cell? ⟨ga,1,none⟩=some (.int .i64 a1):=(bC_ P2.out 1).trans rfl;have vb_2:W2.cell? ⟨ga,2,none⟩=some (.int .i64 a2):=(bC_ P2.out 2).trans rfl;have vb_3:W2.cell? ⟨ga,3,none⟩=some (.int .i64 a3):=(bC_ P2.out 3).trans rfl;have vb_4:W2.cell? ⟨ga,4,none⟩=some (.string a4):=(bC_ P2.out 4).trans rfl)
  | (go_at_call 36;(with_reducible refine (impl_OpOk.calls k 1 a1 a2 a3 a4 true _ HK.out (HG.out.below X2.out.below)).mono ?_);rintro en W3 ⟨rfl,hb⟩;have X3:=a_ (X2.out.step hb);have P3:=a_ (blk_below P2.out hb);have T3:=a_ (T2.out.kept (T2.out.m.below hb));clear hb;have vc_0:W3.cell? ⟨ga,0,none⟩=some (.int .i64 1):=(bC_ P3.out 0).trans rfl;have vc_1:W3.cell? ⟨ga,1,none⟩=some (.int .i64 a1):=(bC_ P3.out 1).trans rfl;have vc_2:W3.cell? ⟨ga,2,none⟩=some (.int .i64 a2):=(bC_ P3.out 2).trans rfl;have vc_3:W3.cell? ⟨ga,3,none⟩=some (.int .i64 a3):=(bC_ P3.out 3).trans rfl;have vc_4:W3.cell? ⟨ga,4,none⟩=some (.string a4):=(bC_ P3.out 4).trans rfl)
  | (go_at_call 23;(with_reducible refine (opDo_yes k A0 c0 l0 1 a1 a2 a3 a4 _ (Kd.C_below HR.out X3.out.below) HC.out HO.out HT.out (HG.out.below X3.out.below)).mono ?_);rintro en W4 ⟨v4,rfl,ho,hb⟩;have X4:=a_ (X3.out.step hb);have P4:=a_ (blk_below P3.out hb);have T4:=a_ (T3.out.kept (T3.out.m.below hb));obtain ⟨Ao,co,eo⟩:=Kd.R_slice ho;subst eo;have HO4:=a_ (Kd.R_reads' ho);clear hb ho)
  | (go_at_call 71;(with_reducible refine (impl_Row.calls ks Ao co _ A0 c0 l0 false _ HO4.out.2.2 HO4.out.2.1 (Kd.C_below HR.out X4.out.below) HC.out HS.out).mono ?_);rintro en W5 ⟨rfl,hbd⟩;have hb:=hbd.below;have X5:=a_ (X4.out.step hb);have P5:=a_ (blk_below P4.out hb);have T5:=a_ (T4.out.kept (T4.out.m.below hb));clear hb hbd;have ve_0:W5.cell? ⟨ga,0,none⟩=some (.int .i64 1):=(bC_ P5.out 0).trans rfl;have ve_1:W5.cell? ⟨ga,1,none⟩=some (.int .i64 a1):=(bC_ P5.out 1).trans rfl;have ve_2:W5.cell? ⟨ga,2,none⟩=some (.int .i64 a2):=(bC_ P5.out 2).trans rfl;have ve_3:W5.cell? ⟨ga,3,none⟩=some (.int .i64 a3):=(bC_ P5.out 3).trans rfl;have ve_4:W5.cell? ⟨ga,4,none⟩=some (.string a4):=(bC_ P5.out 4).trans rfl;have ze_0:=X5.out.c0;have ye_0:=X5.out.f 0;have ze_1:=X5.out.c1;have ye_1:=X5.out.f 1;have ze_2:=X5.out.c2;have ye_2:=X5.out.f 2;have ze_3:=X5.out.c3;have ye_3:=X5.out.f 3;have ze_4:=X5.out.c4;have ye_4:=X5.out.f 4))
 go_region_with (first
  | (go_at_call 72;(with_reducible refine (backCommands_any _).mono ?_);rintro en W6 ⟨gm,rfl,hm,hb⟩;have X6:=a_ (X5.out.drew.step hb);have P6:=a_ (blk_below (bD_ P5.out) hb);have T6:=a_ ((T5.out.kept T5.out.m.drew).kept ((T5.out.kept T5.out.m.drew).m.below hb));have hl:=hm.look 1 101 (fun _=>rfl) (by decide);clear hb hm;have vg_0:W6.cell? ⟨ga,0,none⟩=some (.int .i64 1):=(bC_ P6.out 0).trans rfl;have vg_1:W6.cell? ⟨ga,1,none⟩=some (.int .i64 a1):=(bC_ P6.out 1).trans rfl;have vg_2:W6.cell? ⟨ga,2,none⟩=some (.int .i64 a2):=(bC_ P6.out 2).trans rfl;have vg_3:W6.cell? ⟨ga,3,none⟩=some (.int .i64 a3):=(bC_ P6.out 3).trans rfl;have vg_4:W6.cell? ⟨ga,4,none⟩=some (.string a4):=(bC_ P6.out 4).trans rfl;have zg_0:=X6.out.c0;have yg_0:=X6.out.f 0;have zg_1:=X6.out.c1;have yg_1:=X6.out.f 1;have zg_2:=X6.out.c2;have yg_2:=X6.out.f 2;have zg_3:=X6.out.c3;have yg_3:=X6.out.f 3;have zg_4:=X6.out.c4;have yg_4:=X6.out.f 4)
  | (go_at_call 101;(with_reducible refine (back1_any _ 1 a1 a2 a3 a4 _).mono ?_);unfold FnPost;rintro en W7 ⟨rfl,hb⟩;have X7:=a_ (X6.out.step hb);clear hb;have zh_0:=X7.out.c0;have yh_0:=X7.out.f 0;have zh_1:=X7.out.c1;have yh_1:=X7.out.f 1;have zh_2:=X7.out.c2;have yh_2:=X7.out.f 2;have zh_3:=X7.out.c3;have yh_3:=X7.out.f 3;have zh_4:=X7.out.c4;have yh_4:=X7.out.f 4))
 all_goals go_wp2
 all_goals refine bodyPost_ret (results_ct rfl _ _ gb 27 #[.int .i64 3,.int .i64 a1,.int .i64 2,.int .i64 0,.string (⟨#[]⟩:ByteArray)] (0,0) _ rfl (by (with_reducible repeat (first|refine bN_ ?_ _|refine bD_ ?_));exact X7.out.put _ _ _ _ _) hu27 rfl (by kernel_rfl)) rfl ?_
 all_goals exact ⟨rfl,(by (with_reducible repeat (first|apply pw_below_drewN|apply below_drew1));exact X7.out.put_below _ _ _ _ _)⟩
attribute [local go_sem] Oper.semAt_some
theorem back_way2 (k:Nat) (A0:Option Addr) (c0:Nat) (l0:List S37) (a1 a2 a3:Int) (a4:ByteArray) (w:World) (hr0:Kd.C k37 w A0 l0.length l0) (hc0:l0.length≤c0) (hG:Glob w) (i:Nat) (hi:fndF (toFo l0) a1=i) (hi0:i≠0) (hok:impl_changeOf.f k 2 a1 a2 a3 a4=some true) (ht:treeB l0=true) (ks:Nat) (hs:impl_Row.f ks ((FP.doF (toFo l0) 2 a1 a2 a3 a4).fl 0) l0=some false):Calls Tryd.prog 31 #[.slice A0 l0.length c0,.agg #[.int .i64 2,.int .i64 a1,.int .i64 a2,.int .i64 a3,.string a4]] w (KeyPost w (2,a1,0,0,(txtF i (toFo l0)),true)):=by
 unfold KeyPost
 have hu27:=Tryd.underlying27
 have HR:=a_ hr0
 have HC:=a_ hc0
 have HG:=a_ hG
 clear hr0 hc0 hG
 have HI:=a_ hi
 have H0:=a_ hi0
 clear hi hi0
 have HT:=a_ ht
 have HO:=a_ hok
 have HK:=a_ (show impl_OpOk.f k 2 a1 a2 a3 a4=some true from hok)
 have HS:=a_ hs
 clear ht hok hs
 go_enter Tryd.func31,Tryd.ntmps31
 go_wp2_with (first
  | ((with_reducible refine gD_ (N:=3) rfl ?_);refine bx_ 3 (#[.int .i64 2,.int .i64 a1,.int .i64 a2,.int .i64 a3,.string a4]) 27 ?_;intro ga hga W0 hboxa hba;have P0:=a_ hboxa;have hb0:=a_ hba;clear hboxa hba hga)
  | ((with_reducible refine gD_ (N:=4) rfl ?_);refine bx_ 4 (#[.int .i64 0,.int .i64 0,.int .i64 0,.int .i64 0,.string (⟨#[]⟩:ByteArray)]) 27 ?_;intro gb hg W1 hbox hb;have X1:=a_ (Bx.mk hbox (by rw [hg];exact hb0.out.size) (bS_ hb0.out hb));have hbx:=a_ hb;clear hbox hb hg;have P1:=a_ (blk_below P0.out hbx.out);have hb1:=a_ X1.out.below)
  | (go_at_call 60;(with_reducible refine (plant_at A0 c0 l0 _ (Kd.C_below HR.out hb1.out) HC.out HT.out (HG.out.below hb1.out)).mono ?_);rintro en W2 ⟨Fb,A,h,rfl,hat,hb⟩;have X2:=a_ (X1.out.step hb);have P2:=a_ (blk_below P1.out hb);have T2:=a_ hat;obtain ⟨b,hf1_,hf2_⟩:=hat.found (x:=a1) (by rw [HI.out];exact H0.out);rw [HI.out] at hf2_;have F1:=a_ hf1_;have F2:=a_ hf2_;clear hf1_ hf2_;clear hb hat;have vb_0:W2.cell? ⟨ga,0,none⟩=some (.int .i64 2):=(bC_ P2.out 0).trans rfl;have vb_1:W2.cell? ⟨ga,1,none⟩=some (.int .i64 a1):=(bC_ P2.out 1).trans rfl;have vb_2:W2.cell? ⟨ga,2,none⟩=some (.int .i64 a2):=(bC_ P2.out 2).trans rfl;have vb_3:W2.cell? ⟨ga,3,none⟩=some (.int .i64 a3):=(bC_ P2.out 3).trans rfl;have vb_4:W2.cell? ⟨ga,4,none⟩=some (.string a4):=(bC_ P2.out 4).trans rfl)
  | (go_at_call 36;(with_reducible refine (impl_OpOk.calls k 2 a1 a2 a3 a4 true _ HK.out (HG.out.below X2.out.below)).mono ?_);rintro en W3 ⟨rfl,hb⟩;have X3:=a_ (X2.out.step hb);have P3:=a_ (blk_below P2.out hb);have T3:=a_ (T2.out.kept (T2.out.m.below hb));clear hb;have vc_0:W3.cell? ⟨ga,0,none⟩=some (.int .i64 2):=(bC_ P3.out 0).trans rfl;have vc_1:W3.cell? ⟨ga,1,none⟩=some (.int .i64 a1):=(bC_ P3.out 1).trans rfl;have vc_2:W3.cell? ⟨ga,2,none⟩=some (.int .i64 a2):=(bC_ P3.out 2).trans rfl;have vc_3:W3.cell? ⟨ga,3,none⟩=some (.int .i64 a3):=(bC_ P3.out 3).trans rfl;have vc_4:W3.cell? ⟨ga,4,none⟩=some (.string a4):=(bC_ P3.out 4).trans rfl)
  | (go_at_call 23;(with_reducible refine (opDo_yes k A0 c0 l0 2 a1 a2 a3 a4 _ (Kd.C_below HR.out X3.out.below) HC.out HO.out HT.out (HG.out.below X3.out.below)).mono ?_);rintro en W4 ⟨v4,rfl,ho,hb⟩;have X4:=a_ (X3.out.step hb);have P4:=a_ (blk_below P3.out hb);have T4:=a_ (T3.out.kept (T3.out.m.below hb));obtain ⟨Ao,co,eo⟩:=Kd.R_slice ho;subst eo;have HO4:=a_ (Kd.R_reads' ho);clear hb ho)
  | (go_at_call 71;(with_reducible refine (impl_Row.calls ks Ao co _ A0 c0 l0 false _ HO4.out.2.2 HO4.out.2.1 (Kd.C_below HR.out X4.out.below) HC.out HS.out).mono ?_);rintro en W5 ⟨rfl,hbd⟩;have hb:=hbd.below;have X5:=a_ (X4.out.step hb);have P5:=a_ (blk_below P4.out hb);have T5:=a_ (T4.out.kept (T4.out.m.below hb));clear hb hbd;have ve_0:W5.cell? ⟨ga,0,none⟩=some (.int .i64 2):=(bC_ P5.out 0).trans rfl;have ve_1:W5.cell? ⟨ga,1,none⟩=some (.int .i64 a1):=(bC_ P5.out 1).trans rfl;have ve_2:W5.cell? ⟨ga,2,none⟩=some (.int .i64 a2):=(bC_ P5.out 2).trans rfl;have ve_3:W5.cell? ⟨ga,3,none⟩=some (.int .i64 a3):=(bC_ P5.out 3).trans rfl;have ve_4:W5.cell? ⟨ga,4,none⟩=some (.string a4):=(bC_ P5.out 4).trans rfl;have ze_0:=X5.out.c0;have ye_0:=X5.out.f 0;have ze_1:=X5.out.c1;have ye_1:=X5.out.f 1;have ze_2:=X5.out.c2;have ye_2:=X5.out.f 2;have ze_3:=X5.out.c3;have ye_3:=X5.out.f 3;have ze_4:=X5.out.c4;have ye_4:=X5.out.f 4))
 go_region_with (first
  | (go_at_call 72;(with_reducible refine (backCommands_any _).mono ?_);rintro en W6 ⟨gm,rfl,hm,hb⟩;have X6:=a_ (X5.out.drew.step hb);have P6:=a_ (blk_below (bD_ P5.out) hb);have T6:=a_ ((T5.out.kept T5.out.m.drew).kept ((T5.out.kept T5.out.m.drew).m.below hb));have hl:=hm.look 2 102 (fun _=>rfl) (by decide);clear hb hm;have vg_0:W6.cell? ⟨ga,0,none⟩=some (.int .i64 2):=(bC_ P6.out 0).trans rfl;have vg_1:W6.cell? ⟨ga,1,none⟩=some (.int .i64 a1):=(bC_ P6.out 1).trans rfl;have vg_2:W6.cell? ⟨ga,2,none⟩=some (.int .i64 a2):=(bC_ P6.out 2).trans rfl;have vg_3:W6.cell? ⟨ga,3,none⟩=some (.int .i64 a3):=(bC_ P6.out 3).trans rfl;have vg_4:W6.cell? ⟨ga,4,none⟩=some (.string a4):=(bC_ P6.out 4).trans rfl;have zg_0:=X6.out.c0;have yg_0:=X6.out.f 0;have zg_1:=X6.out.c1;have yg_1:=X6.out.f 1;have zg_2:=X6.out.c2;have yg_2:=X6.out.f 2;have zg_3:=X6.out.c3;have yg_3:=X6.out.f 3;have zg_4:=X6.out.c4;have yg_4:=X6.out.f 4)
  | (go_at_call 102;(with_reducible refine (back2_any T6.out F2.out 2 a1 a2 a3 a4 F1.out).mono ?_);unfold FnPost;rintro en W7 ⟨rfl,hb⟩;have X7:=a_ (X6.out.step hb);clear hb;have zh_0:=X7.out.c0;have yh_0:=X7.out.f 0;have zh_1:=X7.out.c1;have yh_1:=X7.out.f 1;have zh_2:=X7.out.c2;have yh_2:=X7.out.f 2;have zh_3:=X7.out.c3;have yh_3:=X7.out.f 3;have zh_4:=X7.out.c4;have yh_4:=X7.out.f 4))
 all_goals go_wp2
 all_goals refine bodyPost_ret (results_ct rfl _ _ gb 27 #[.int .i64 2,.int .i64 a1,.int .i64 0,.int .i64 0,.string (txtF i (toFo l0))] (0,0) _ rfl (by (with_reducible repeat (first|refine bN_ ?_ _|refine bD_ ?_));exact X7.out.put _ _ _ _ _) hu27 rfl (by kernel_rfl)) rfl ?_
 all_goals exact ⟨rfl,(by (with_reducible repeat (first|apply pw_below_drewN|apply below_drew1));exact X7.out.put_below _ _ _ _ _)⟩
attribute [local go_sem] Oper.semAt_some
theorem back_way3 (k:Nat) (A0:Option Addr) (c0:Nat) (l0:List S37) (a1 a2 a3:Int) (a4:ByteArray) (w:World) (hr0:Kd.C k37 w A0 l0.length l0) (hc0:l0.length≤c0) (hG:Glob w) (i:Nat) (hi:fndF (toFo l0) a1=i) (hi0:i≠0) (hm:madeB (i:Int)=true) (hok:impl_changeOf.f k 3 a1 a2 a3 a4=some true) (ht:treeB l0=true) (ks:Nat) (hs:impl_Row.f ks ((FP.doF (toFo l0) 3 a1 a2 a3 a4).fl 0) l0=some false):Calls Tryd.prog 31 #[.slice A0 l0.length c0,.agg #[.int .i64 3,.int .i64 a1,.int .i64 a2,.int .i64 a3,.string a4]] w (KeyPost w (3,(i:Int),(FP.par i 0 (toFo l0):Nat),(sibT i (toFo l0):Nat),(⟨#[]⟩:ByteArray),true)):=by
 unfold KeyPost
 have hu27:=Tryd.underlying27
 have HR:=a_ hr0
 have HC:=a_ hc0
 have HG:=a_ hG
 clear hr0 hc0 hG
 have HI:=a_ hi
 have H0:=a_ hi0
 have HMM:=a_ hm
 clear hi hi0 hm
 have HT:=a_ ht
 have HO:=a_ hok
 have HK:=a_ (show impl_OpOk.f k 3 a1 a2 a3 a4=some true from hok)
 have HS:=a_ hs
 clear ht hok hs
 go_enter Tryd.func31,Tryd.ntmps31
 go_wp2_with (first
  | ((with_reducible refine gD_ (N:=3) rfl ?_);refine bx_ 3 (#[.int .i64 3,.int .i64 a1,.int .i64 a2,.int .i64 a3,.string a4]) 27 ?_;intro ga hga W0 hboxa hba;have P0:=a_ hboxa;have hb0:=a_ hba;clear hboxa hba hga)
  | ((with_reducible refine gD_ (N:=4) rfl ?_);refine bx_ 4 (#[.int .i64 0,.int .i64 0,.int .i64 0,.int .i64 0,.string (⟨#[]⟩:ByteArray)]) 27 ?_;intro gb hg W1 hbox hb;have X1:=a_ (Bx.mk hbox (by rw [hg];exact hb0.out.size) (bS_ hb0.out hb));have hbx:=a_ hb;clear hbox hb hg;have P1:=a_ (blk_below P0.out hbx.out);have hb1:=a_ X1.out.below)
  | (go_at_call 60;(with_reducible refine (plant_at A0 c0 l0 _ (Kd.C_below HR.out hb1.out) HC.out HT.out (HG.out.below hb1.out)).mono ?_);rintro en W2 ⟨Fb,A,h,rfl,hat,hb⟩;have X2:=a_ (X1.out.step hb);have P2:=a_ (blk_below P1.out hb);have T2:=a_ hat;obtain ⟨b,hf1_,hf2_⟩:=hat.found (x:=a1) (by rw [HI.out];exact H0.out);rw [HI.out] at hf2_;have F1:=a_ hf1_;have F2:=a_ hf2_;have HPM:=a_ (hat.parMade (hat.mem hf2_) HMM.out);clear hf1_ hf2_;clear hb hat;have vb_0:W2.cell? ⟨ga,0,none⟩=some (.int .i64 3):=(bC_ P2.out 0).trans rfl;have vb_1:W2.cell? ⟨ga,1,none⟩=some (.int .i64 a1):=(bC_ P2.out 1).trans rfl;have vb_2:W2.cell? ⟨ga,2,none⟩=some (.int .i64 a2):=(bC_ P2.out 2).trans rfl;have vb_3:W2.cell? ⟨ga,3,none⟩=some (.int .i64 a3):=(bC_ P2.out 3).trans rfl;have vb_4:W2.cell? ⟨ga,4,none⟩=some (.string a4):=(bC_ P2.out 4).trans rfl)
  | (go_at_call 36;(with_reducible refine (impl_OpOk.calls k 3 a1 a2 a3 a4 true _ HK.out (HG.out.below X2.out.below)).mono ?_);rintro en W3 ⟨rfl,hb⟩;have X3:=a_ (X2.out.step hb);have P3:=a_ (blk_below P2.out hb);have T3:=a_ (T2.out.kept (T2.out.m.below hb));clear hb;have vc_0:W3.cell? ⟨ga,0,none⟩=some (.int .i64 3):=(bC_ P3.out 0).trans rfl;have vc_1:W3.cell? ⟨ga,1,none⟩=some (.int .i64 a1):=(bC_ P3.out 1).trans rfl;have vc_2:W3.cell? ⟨ga,2,none⟩=some (.int .i64 a2):=(bC_ P3.out 2).trans rfl;have vc_3:W3.cell? ⟨ga,3,none⟩=some (.int .i64 a3):=(bC_ P3.out 3).trans rfl;have vc_4:W3.cell? ⟨ga,4,none⟩=some (.string a4):=(bC_ P3.out 4).trans rfl)
  | (go_at_call 23;(with_reducible refine (opDo_yes k A0 c0 l0 3 a1 a2 a3 a4 _ (Kd.C_below HR.out X3.out.below) HC.out HO.out HT.out (HG.out.below X3.out.below)).mono ?_);rintro en W4 ⟨v4,rfl,ho,hb⟩;have X4:=a_ (X3.out.step hb);have P4:=a_ (blk_below P3.out hb);have T4:=a_ (T3.out.kept (T3.out.m.below hb));obtain ⟨Ao,co,eo⟩:=Kd.R_slice ho;subst eo;have HO4:=a_ (Kd.R_reads' ho);clear hb ho)
  | (go_at_call 71;(with_reducible refine (impl_Row.calls ks Ao co _ A0 c0 l0 false _ HO4.out.2.2 HO4.out.2.1 (Kd.C_below HR.out X4.out.below) HC.out HS.out).mono ?_);rintro en W5 ⟨rfl,hbd⟩;have hb:=hbd.below;have X5:=a_ (X4.out.step hb);have P5:=a_ (blk_below P4.out hb);have T5:=a_ (T4.out.kept (T4.out.m.below hb));clear hb hbd;have ve_0:W5.cell? ⟨ga,0,none⟩=some (.int .i64 3):=(bC_ P5.out 0).trans rfl;have ve_1:W5.cell? ⟨ga,1,none⟩=some (.int .i64 a1):=(bC_ P5.out 1).trans rfl;have ve_2:W5.cell? ⟨ga,2,none⟩=some (.int .i64 a2):=(bC_ P5.out 2).trans rfl;have ve_3:W5.cell? ⟨ga,3,none⟩=some (.int .i64 a3):=(bC_ P5.out 3).trans rfl;have ve_4:W5.cell? ⟨ga,4,none⟩=some (.string a4):=(bC_ P5.out 4).trans rfl;have ze_0:=X5.out.c0;have ye_0:=X5.out.f 0;have ze_1:=X5.out.c1;have ye_1:=X5.out.f 1;have ze_2:=X5.out.c2;have ye_2:=X5.out.f 2;have ze_3:=X5.out.c3;have ye_3:=X5.out.f 3;have ze_4:=X5.out.c4;have ye_4:=X5.out.f 4))
 go_region_with (first
  | (go_at_call 72;(with_reducible refine (backCommands_any _).mono ?_);rintro en W6 ⟨gm,rfl,hm,hb⟩;have X6:=a_ (X5.out.drew.step hb);have P6:=a_ (blk_below (bD_ P5.out) hb);have T6:=a_ ((T5.out.kept T5.out.m.drew).kept ((T5.out.kept T5.out.m.drew).m.below hb));have hl:=hm.look 3 103 (fun _=>rfl) (by decide);clear hb hm;have vg_0:W6.cell? ⟨ga,0,none⟩=some (.int .i64 3):=(bC_ P6.out 0).trans rfl;have vg_1:W6.cell? ⟨ga,1,none⟩=some (.int .i64 a1):=(bC_ P6.out 1).trans rfl;have vg_2:W6.cell? ⟨ga,2,none⟩=some (.int .i64 a2):=(bC_ P6.out 2).trans rfl;have vg_3:W6.cell? ⟨ga,3,none⟩=some (.int .i64 a3):=(bC_ P6.out 3).trans rfl;have vg_4:W6.cell? ⟨ga,4,none⟩=some (.string a4):=(bC_ P6.out 4).trans rfl;have zg_0:=X6.out.c0;have yg_0:=X6.out.f 0;have zg_1:=X6.out.c1;have yg_1:=X6.out.f 1;have zg_2:=X6.out.c2;have yg_2:=X6.out.f 2;have zg_3:=X6.out.c3;have yg_3:=X6.out.f 3;have zg_4:=X6.out.c4;have yg_4:=X6.out.f 4)
  | (go_at_call 103;(with_reducible refine (back3_any T6.out F2.out HPM.out 3 a1 a2 a3 a4 F1.out).mono ?_);unfold FnPost;rintro en W7 ⟨rfl,hb⟩;have X7:=a_ (X6.out.step hb);clear hb;have zh_0:=X7.out.c0;have yh_0:=X7.out.f 0;have zh_1:=X7.out.c1;have yh_1:=X7.out.f 1;have zh_2:=X7.out.c2;have yh_2:=X7.out.f 2;have zh_3:=X7.out.c3;have yh_3:=X7.out.f 3;have zh_4:=X7.out.c4;have yh_4:=X7.out.f 4))
 all_goals go_wp2
 all_goals refine bodyPost_ret (results_ct rfl _ _ gb 27 #[.int .i64 3,.int .i64 (i:Int),.int .i64 (FP.par i 0 (toFo l0):Nat),.int .i64 (sibT i (toFo l0):Nat),.string (⟨#[]⟩:ByteArray)] (0,0) _ rfl (by (with_reducible repeat (first|refine bN_ ?_ _|refine bD_ ?_));exact X7.out.put _ _ _ _ _) hu27 rfl (by kernel_rfl)) rfl ?_
 all_goals exact ⟨rfl,(by (with_reducible repeat (first|apply pw_below_drewN|apply below_drew1));exact X7.out.put_below _ _ _ _ _)⟩
theorem doF_few {G:Fo} (v:Val G) {k u a:Int} {i:Nat} {s:ByteArray} (hk:k=1∨k=2∨k=3) (hm:madeB (i:Int)=true):((FP.doF G k i u a s).fl 0).length≤22:=by
 have hi0:i≠0:=fun e=>by rw [e] at hm;exact absurd hm (by decide)
 obtain ⟨_,nd,mem⟩:=do_tops v.nd v.ne0 hi0 (v.top hm) (does v.nd v.ne0 v.three k i (v.top hm) u a s hk)
 have h1:=sub_len _ (i::G.ids) nd fun x hx=>by
  rcases (mem x).1 hx with h|⟨_,rfl⟩
  ·exact List.mem_cons_of_mem _ h
  ·exact List.mem_cons_self
 have h2:=v.len
 rw [fl_len]
 simp only [List.length_cons] at h1
 omega
def impl_KeyBack.f (k:Nat) (l0:List S37) (a0 a1 a2 a3:Int) (a4:ByteArray):Option (Int×Int×Int×Int×ByteArray×Bool):=(impl_changeOf.f k a0 a1 a2 a3 a4).bind fun ok=>some (keyBackR ok l0 a0 a1 a2 a3 a4)
theorem impl_KeyBack.mono (l0:List S37) (a0 a1 a2 a3:Int) (a4:ByteArray) (k:Nat):LeO (impl_KeyBack.f k l0 a0 a1 a2 a3 a4) (impl_KeyBack.f (k+1) l0 a0 a1 a2 a3 a4):=by
 unfold impl_KeyBack.f
 exact LeO.bind (impl_changeOf.mono _ _ _ _ _ _) (fun _=>LeO.refl _)
theorem keyBack_any (k:Nat) (A0:Option Addr) (c0:Nat) (l0:List S37) (a0 a1 a2 a3:Int) (a4:ByteArray) (ok:Bool) (w:World) (hr0:Kd.C k37 w A0 l0.length l0) (hc0:l0.length≤c0) (hok:impl_changeOf.f k a0 a1 a2 a3 a4=some ok) (hG:Glob w) :
  Calls Tryd.prog 31 #[.slice A0 l0.length c0,.agg #[.int .i64 a0,.int .i64 a1,.int .i64 a2,.int .i64 a3,.string a4]] w (KeyPost w (keyBackR ok l0 a0 a1 a2 a3 a4)):=by
 unfold keyBackR
 cases ht:treeB l0 with
 | false=>rw [if_neg (by decide)];exact back_notree k A0 c0 l0 a0 a1 a2 a3 a4 w hr0 hc0 hG ht
 | true =>
  rw [if_pos rfl]
  cases ok with
  | false=>rw [if_neg (by decide)];exact back_noop k A0 c0 l0 a0 a1 a2 a3 a4 w hr0 hc0 hG hok ht
  | true =>
   rw [if_pos rfl]
   obtain ⟨hk,hm⟩:=changeOf_yes hok
   obtain ⟨i,rfl,h4,h37⟩:=made_num hm
   have v:=val_of ht
   have hfl:=toFo_fl ht
   have hfew:=doF_few v (u:=a2) (a:=a3) (s:=a4) hk hm
   obtain ⟨ks,hks⟩:=same_f ((FP.doF (toFo l0) a0 i a2 a3 a4).fl 0) l0 (by omega)
   have hs:=hks ks (Nat.le_refl ks)
   by_cases e:(FP.doF (toFo l0) a0 i a2 a3 a4).fl 0=l0
   ·rw [if_pos e]
    rw [dt_ e] at hs
    exact back_same k A0 c0 l0 a0 i a2 a3 a4 w hr0 hc0 hG hok ht ks hs
   ·rw [if_neg e]
    rw [df_ e] at hs
    have hi0:i≠0:=by omega
    unfold backF kMv
    rw [Int.toNat_natCast]
    rcases hk with rfl|rfl|rfl
    ·rw [if_pos rfl]
     exact back_way1 k A0 c0 l0 i a2 a3 a4 w hr0 hc0 hG hok ht ks hs
    ·rw [if_neg (by decide),if_pos rfl]
     have hmem:i∈(toFo l0).ids:=Decidable.byContradiction fun g=>e (by rw [doF_text_not g,hfl])
     exact back_way2 k A0 c0 l0 i a2 a3 a4 w hr0 hc0 hG i (fnd_nat hmem) hi0 hok ht ks hs
    ·rw [if_neg (by decide),if_neg (by decide)]
     have hmem:i∈(toFo l0).ids:=Decidable.byContradiction fun g=>e (by rw [doF_loop a2 a3 a4 (fun h=>absurd h g),hfl])
     exact back_way3 k A0 c0 l0 i a2 a3 a4 w hr0 hc0 hG i (fnd_nat hmem) hi0 hm hok ht ks hs
theorem impl_KeyBack.calls (k:Nat) (A0:Option Addr) (c0:Nat) (l0:List S37) (a0 a1 a2 a3:Int) (a4:ByteArray) (r1 r2 r3 r4:Int) (r5:ByteArray) (r6:Bool) (w:World) (hr0:Kd.C k37 w A0 l0.length l0) (hc0:l0.length≤c0) (h:impl_KeyBack.f k l0 a0 a1 a2 a3 a4=some (r1,r2,r3,r4,r5,r6)) (hG:Glob w) :
  Calls Tryd.prog 31 #[.slice A0 l0.length c0,.agg #[.int .i64 a0,.int .i64 a1,.int .i64 a2,.int .i64 a3,.string a4]] w fun e w'=>e=.returned (.tuple #[.agg #[.int .i64 r1,.int .i64 r2,.int .i64 r3,.int .i64 r4,.string r5],.bool r6])∧Below w.heap.size w w':=by
 unfold impl_KeyBack.f at h
 obtain ⟨ok,hok,h⟩:=Option.bind_eq_some_iff.1 h
 have:=keyBack_any k A0 c0 l0 a0 a1 a2 a3 a4 ok w hr0 hc0 hok hG
 rw [sj_ h] at this
 exact this
end Go.Proofs.YtlkheeegkifblaaDoor.P
namespace Go.Proofs.YtlkheeegkifblaaDoor.P
open Go.RowKit Go.Proofs.YtlkheeegkifblaaDoorW.PrintWords Go.Proofs.YtlkheeegkifblaaDoorW.PrintLast Go.Proofs.YtlkheeegkifblaaDoorW.PrintMore Go.Proofs.YtlkheeegkifblaaDoor.PL Go.Proofs.YtlkheeegkifblaaDoor.FP
def underR (l:List S37) (id u:Int):Bool:=treeB l&&(decide (fndF (toFo l) id≠0)&&(decide (fndF (toFo l) u≠0)&&decide (under (fndF (toFo l) u) (fndF (toFo l) id) (toFo l))))
def impl_TreeUnder.f (k:Nat) (l0:List S37) (a1 a2:Int):Option Bool:=some (underR l0 a1 a2)
theorem impl_TreeUnder.mono (l0:List S37) (a1 a2:Int) (k:Nat):LeO (impl_TreeUnder.f k l0 a1 a2) (impl_TreeUnder.f (k+1) l0 a1 a2):=LeO.refl _
theorem treeUnder_any (A0:Option Addr) (c0:Nat) (l0:List S37) (id u:Int) (w:World) (hr0:Kd.C k37 w A0 l0.length l0) (hc0:l0.length≤c0) (hG:Glob w) :
  Calls Tryd.prog 22 #[.slice A0 l0.length c0,.int .i64 id,.int .i64 u] w fun e w'=>e=.returned (.bool (underR l0 id u))∧Below w.heap.size w w':=by
 unfold underR
 cases ht:treeB l0 with
 | false =>
  have HP:=a_ (plant_no A0 c0 l0 w hr0 hc0 ht hG)
  rw [Bool.false_and]
  clear hr0 hc0 ht hG
  go_enter Tryd.func22,Tryd.ntmps22
  go_wp2_with (go_at_call 60;(with_reducible refine (HP.out).mono ?_);clear HP;rintro en W1 ⟨rfl,hb⟩;have HB1:=a_ hb;clear hb)
  go_ret
  exact ⟨rfl,HB1.out⟩
 | true =>
  have HP:=a_ (plant_at A0 c0 l0 w hr0 hc0 ht hG)
  rw [Bool.true_and]
  clear hr0 hc0 ht hG
  by_cases h0:fndF (toFo l0) id=0
  ·rw [df_ (fun g=>g h0),Bool.false_and]
   have H0:=a_ h0
   clear h0
   by_cases h1:fndF (toFo l0) u=0
   ·have H1:=a_ h1
    clear h1
    go_enter Tryd.func22,Tryd.ntmps22
    go_wp2_with (first
     | (go_at_call 60;(with_reducible refine (HP.out).mono ?_);clear HP;rintro en W1 ⟨Fb,A,h,rfl,hat,hb⟩;have HB1:=a_ hb;have HT:=a_ hat;clear hb hat)
     | (go_at_call 61;(with_reducible refine (find_any HT.out.m id).mono ?_);rw [HT.out.lost H0.out,pa_none];rintro en W2 ⟨rfl,rfl⟩)
     | (go_at_call 61;(with_reducible refine (find_any HT.out.m u).mono ?_);rw [HT.out.lost H1.out,pa_none];rintro en W2 ⟨rfl,rfl⟩))
    go_ret
    exact ⟨rfl,HB1.out⟩
   ·have H1:=a_ h1
    clear h1
    go_enter Tryd.func22,Tryd.ntmps22
    go_wp2_with (first
     | (go_at_call 60;(with_reducible refine (HP.out).mono ?_);clear HP;rintro en W1 ⟨Fb,A,h,rfl,hat,hb⟩;have HB1:=a_ hb;have HT:=a_ hat;obtain ⟨b,hb1,hb2⟩:=hat.found H1.out;have F1:=a_ hb1;clear hb hat hb1 hb2)
     | (go_at_call 61;(with_reducible refine (find_any HT.out.m id).mono ?_);rw [HT.out.lost H0.out,pa_none];rintro en W2 ⟨rfl,rfl⟩)
     | (go_at_call 61;(with_reducible refine (find_any HT.out.m u).mono ?_);rw [F1.out,pa_some];rintro en W2 ⟨rfl,rfl⟩))
    go_ret
    exact ⟨rfl,HB1.out⟩
  ·rw [dt_ h0,Bool.true_and]
   obtain ⟨i,hi⟩:∃ i,i=fndF (toFo l0) id:=⟨_,rfl⟩
   have hmem:i∈(toFo l0).ids:=by rw [hi];exact (fndF_mem h0).1
   have H0:=a_ h0
   have HI:=a_ hi
   have HM:=a_ hmem
   rw [←hi]
   clear h0 hi hmem
   by_cases h1:fndF (toFo l0) u=0
   ·rw [df_ (fun g=>g h1),Bool.false_and]
    have H1:=a_ h1
    clear h1
    go_enter Tryd.func22,Tryd.ntmps22
    go_wp2_with (first
     | (go_at_call 60;(with_reducible refine (HP.out).mono ?_);clear HP;rintro en W1 ⟨Fb,A,h,rfl,hat,hb⟩;have HB1:=a_ hb;have HT:=a_ hat;obtain ⟨b,hb1,hb2⟩:=hat.found H0.out;have F0:=a_ hb1;clear hb hat hb1 hb2)
     | (go_at_call 61;(with_reducible refine (find_any HT.out.m id).mono ?_);rw [F0.out,pa_some];rintro en W2 ⟨rfl,rfl⟩)
     | (go_at_call 61;(with_reducible refine (find_any HT.out.m u).mono ?_);rw [HT.out.lost H1.out,pa_none];rintro en W2 ⟨rfl,rfl⟩))
    go_ret
    exact ⟨rfl,HB1.out⟩
   ·rw [dt_ h1,Bool.true_and]
    obtain ⟨j,hj⟩:∃ j,j=fndF (toFo l0) u:=⟨_,rfl⟩
    obtain ⟨r,hr⟩:∃ r,r=decide (under j i (toFo l0)):=⟨_,rfl⟩
    have H1:=a_ h1
    have HJ:=a_ hj
    have HR:=a_ hr
    rw [←hj,←hr]
    clear h1 hj hr
    go_enter Tryd.func22,Tryd.ntmps22
    go_wp2_with (first
     | (go_at_call 60;(with_reducible refine (HP.out).mono ?_);clear HP;rintro en W1 ⟨Fb,A,h,rfl,hat,hb⟩;have HB1:=a_ hb;have HT:=a_ hat;obtain ⟨b,hb1,hb2⟩:=hat.found H0.out;rw [←HI.out] at hb2;have F0:=a_ hb1;have G0:=a_ hb2;obtain ⟨c,hc1,hc2⟩:=hat.found H1.out;rw [←HJ.out] at hc2;have F1:=a_ hc1;have G1:=a_ hc2;obtain ⟨k,hk⟩:=hat.within j (Or.inr HM.out);rw [←HR.out] at hk;have HK:=a_ hk;clear hb hat hb1 hb2 hc1 hc2 hk)
     | (go_at_call 61;(with_reducible refine (find_any HT.out.m id).mono ?_);rw [F0.out,pa_some];rintro en W2 ⟨rfl,rfl⟩)
     | (go_at_call 61;(with_reducible refine (find_any HT.out.m u).mono ?_);rw [F1.out,pa_some];rintro en W2 ⟨rfl,rfl⟩)
     | (go_at_call 62;have hw_:=within_any HT.out.m i j (Or.inr (by rw [G0.out];simp)) G1.out k r HK.out;rw [G0.out,pa_some] at hw_;(with_reducible refine hw_.mono ?_);clear hw_;rintro en W2 ⟨rfl,rfl⟩))
    go_ret
    exact ⟨rfl,HB1.out⟩
theorem impl_TreeUnder.calls (k:Nat) (A0:Option Addr) (c0:Nat) (l0:List S37) (a1 a2:Int) (r:Bool) (w:World) (hr0:Kd.C k37 w A0 l0.length l0) (hc0:l0.length≤c0) (h:impl_TreeUnder.f k l0 a1 a2=some r) (hG:Glob w) :
  Calls Tryd.prog 22 #[.slice A0 l0.length c0,.int .i64 a1,.int .i64 a2] w fun e w'=>e=.returned (.bool r)∧Below w.heap.size w w':=by
 have:=treeUnder_any A0 c0 l0 a1 a2 w hr0 hc0 hG
 rw [sj_ h] at this
 exact this
end Go.Proofs.YtlkheeegkifblaaDoor.P
namespace Go.Proofs.YtlkheeegkifblaaDoor.P
open Go.RowKit Go.Proofs.YtlkheeegkifblaaDoorW.PrintWords Go.Proofs.YtlkheeegkifblaaDoorW.PrintLast
attribute [local go_sem high] eqA27
def laws_FnKeyBack.j0:Nat→List (S37)→Bool→Bool→Bool→Int→Int→Int→Int→ByteArray→Int→Int→Int→Int→ByteArray→Int→Int→Int→Int→ByteArray→Option (Bool)
 | 0,_,_,_,_,_,_,_,_,_,_,_,_,_,_,_,_,_,_,_=>none
 | k+1,x3,x6,x8,x42,x998000,x998001,x998002,x998003,x998004,x1005000,x1005001,x1005002,x1005003,x1005004,x1012000,x1012001,x1012002,x1012003,x1012004=>if x42=true then (if (x8==x6)=true then (some (x1012000==x1005000&&(x1012001==x1005001&&(x1012002==x1005002&&(x1012003==x1005003&&(x1012004.toList==x1005004.toList)))))) else (none)) else ((impl_OpDo.f k x3 x998000 x998001 x998002 x998003 x998004).bind fun t1012=>((impl_OpDo.f k t1012 x1012000 x1012001 x1012002 x1012003 x1012004).bind fun t1015=>(if x998000=1 then ((impl_TreeUnder.f k t1015 x998001 2).bind fun t1018=>(if t1018=true then (some ((t1015.length:Int)==(wrap64 ((x3.length:Int)+1)))) else (none))) else ((laws_lpRows.f k t1015 x3).bind fun t1019=>(if t1019=true then ((laws_lpRows.f k t1012 x3).bind fun t1020=>(if t1020=true then (none) else ((impl_OpOk.f k x1012000 x1012001 x1012002 x1012003 x1012004).bind fun t1021=>(some t1021)))) else (none))))))
def laws_FnKeyBack.f (k:Nat) (l0:List Int):Option (Bool):=if (l0.length:Int) > 1048576 then (some true) else ((spec_DrawKeyBack.f k l0).bind fun bt989=>((spec_KeyBack.f k bt989.1 bt989.2.1 bt989.2.2.1 bt989.2.2.2.1 bt989.2.2.2.2.1 bt989.2.2.2.2.2).bind fun bt998=>((impl_KeyBack.f k bt989.1 bt989.2.1 bt989.2.2.1 bt989.2.2.2.1 bt989.2.2.2.2.1 bt989.2.2.2.2.2).bind fun bt1005=>(if (bt1005.2.2.2.2.2 != bt998.2.2.2.2.2)=true then (none) else (if (!(bt1005.1==bt998.1) || (!(bt1005.2.1==bt998.2.1) || (!(bt1005.2.2.1==bt998.2.2.1) || (!(bt1005.2.2.2.1==bt998.2.2.2.1) || (!(bt1005.2.2.2.2.1.toList==bt998.2.2.2.2.1.toList))))))=true then (laws_FnKeyBack.j0 k bt989.1 bt998.2.2.2.2.2 bt1005.2.2.2.2.2 true bt989.2.1 bt989.2.2.1 bt989.2.2.2.1 bt989.2.2.2.2.1 bt989.2.2.2.2.2 bt998.1 bt998.2.1 bt998.2.2.1 bt998.2.2.2.1 bt998.2.2.2.2.1 bt1005.1 bt1005.2.1 bt1005.2.2.1 bt1005.2.2.2.1 bt1005.2.2.2.2.1) else (laws_FnKeyBack.j0 k bt989.1 bt998.2.2.2.2.2 bt1005.2.2.2.2.2 (!bt1005.2.2.2.2.2) bt989.2.1 bt989.2.2.1 bt989.2.2.2.1 bt989.2.2.2.2.1 bt989.2.2.2.2.2 bt998.1 bt998.2.1 bt998.2.2.1 bt998.2.2.2.1 bt998.2.2.2.2.1 bt1005.1 bt1005.2.1 bt1005.2.2.1 bt1005.2.2.2.1 bt1005.2.2.2.2.1))))))
theorem laws_FnKeyBack.mono_l:∀ k,(∀ y0 y1 y2 y3 y4 y5 y6 y7 y8 y9 y10 y11 y12 y13 y14 y15 y16 y17 y18,LeO (laws_FnKeyBack.j0 k y0 y1 y2 y3 y4 y5 y6 y7 y8 y9 y10 y11 y12 y13 y14 y15 y16 y17 y18) (laws_FnKeyBack.j0 (k+1) y0 y1 y2 y3 y4 y5 y6 y7 y8 y9 y10 y11 y12 y13 y14 y15 y16 y17 y18))
 | 0=>fun _ _ _ _ _ _ _ _ _ _ _ _ _ _ _ _ _ _ _ r h=>by simp [laws_FnKeyBack.j0] at h
 | k+1=>by
  have ih0:=laws_FnKeyBack.mono_l k
  ·intro y0 y1 y2 y3 y4 y5 y6 y7 y8 y9 y10 y11 y12 y13 y14 y15 y16 y17 y18
   unfold laws_FnKeyBack.j0
   repeat' first
   | (with_reducible exact ih0 _ _ _ _ _ _ _ _ _ _ _ _ _ _ _ _ _ _ _)
   | (with_reducible exact impl_KeyBack.mono _ _ _ _ _ _ _)
   | (with_reducible exact impl_OpDo.mono _ _ _ _ _ _ _)
   | (with_reducible exact impl_OpOk.mono _ _ _ _ _ _)
   | (with_reducible exact impl_TreeUnder.mono _ _ _ _)
   | (with_reducible exact laws_lpRows.mono _ _ _)
   | (with_reducible exact spec_DrawKeyBack.mono _ _)
   | (with_reducible exact spec_KeyBack.mono _ _ _ _ _ _ _)
   | (with_reducible exact LeO.refl _)
   | (with_reducible exact LeO.none _)
   | (with_reducible refine LeO.ite ?_ ?_)
   | (with_reducible refine LeO.bind ?_ (fun _=>?_))
theorem laws_FnKeyBack.mono:∀ a0 k,LeO (laws_FnKeyBack.f k a0) (laws_FnKeyBack.f (k+1) a0):=by
 intro a0 k
 have ih0:=laws_FnKeyBack.mono_l k
 unfold laws_FnKeyBack.f
 repeat' first
   | (with_reducible exact ih0 _ _ _ _ _ _ _ _ _ _ _ _ _ _ _ _ _ _ _)
   | (with_reducible exact impl_KeyBack.mono _ _ _ _ _ _ _)
   | (with_reducible exact impl_OpDo.mono _ _ _ _ _ _ _)
   | (with_reducible exact impl_OpOk.mono _ _ _ _ _ _)
   | (with_reducible exact impl_TreeUnder.mono _ _ _ _)
   | (with_reducible exact laws_lpRows.mono _ _ _)
   | (with_reducible exact spec_DrawKeyBack.mono _ _)
   | (with_reducible exact spec_KeyBack.mono _ _ _ _ _ _ _)
   | (with_reducible exact LeO.refl _)
   | (with_reducible exact LeO.none _)
   | (with_reducible refine LeO.ite ?_ ?_)
   | (with_reducible refine LeO.bind ?_ (fun _=>?_))
end Go.Proofs.YtlkheeegkifblaaDoor.P
