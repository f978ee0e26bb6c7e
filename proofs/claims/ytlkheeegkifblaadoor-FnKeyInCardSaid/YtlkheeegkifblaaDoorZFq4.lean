/- Joined by a program (wip/shake.py): the declarations that 'YtlkheeegkifblaaDoorCardFnKeyIn' reaches. -/
import Derived.Test.YtlkheeegkifblaaDoorZFq3
set_option linter.unusedVariables false
set_option linter.unusedSimpArgs false
set_option linter.unusedSectionVars false
set_option maxHeartbeats 8000000
set_option maxRecDepth 100000
namespace Go.Proofs.YtlkheeegkifblaaDoor.P
open Go.RowKit Go.Proofs.YtlkheeegkifblaaDoorW.PrintWords Go.Proofs.YtlkheeegkifblaaDoorW.PrintLast Go.Proofs.YtlkheeegkifblaaDoorW.PrintMore Go.Proofs.YtlkheeegkifblaaDoor.PL Go.Proofs.YtlkheeegkifblaaDoor.FP
theorem At.within {w:World} {n0 F:Nat} {A:Nat→Option Nat} {h:Nat→Nd} {G:Fo} (t:At w n0 F A h G) (u:Nat) {x:Nat} (hx:x=0∨x∈G.ids):∃ k,withinF h u k x=some (decide (under u x G)):=by
 rcases hx with rfl|hx
 ·refine ⟨1,?_⟩
  have:¬ under u 0 G:=by
   rintro ⟨h1,h2|h2⟩
   ·exact t.rep.ne0 u h1 h2.symm
   ·exact t.rep.ne0 0 (sub_ids u h2) rfl
  rw [withinF,if_pos rfl,df_ this]
 ·obtain ⟨c,hc⟩:=within_top (u:=u) t.rep t.nd hx
  by_cases hu:under u x G
  ·exact ⟨c+0,by rw [(hc 0).1 hu,dt_ hu]⟩
  ·exact ⟨c+0+1,by rw [(hc 0).2 hu,df_ hu]⟩
theorem fndF_ok (G:Fo) (x:Int):fndF G x=0∨fndF G x∈G.ids:=by
 by_cases h:fndF G x=0
 ·exact Or.inl h
 ·exact Or.inr (fndF_mem h).1
theorem At.where_move {w:World} {n0 F:Nat} {A:Nat→Option Nat} {h:Nat→Nd} {G:Fo} (t:At w n0 F A h G) (id up at_:Int) :
  Calls Tryd.prog 89 #[.pointer (some ⟨F,0,none⟩),.iface 119 (.agg #[.int .i64 id,.int .i64 up,.int .i64 at_])] w (WherePost w A (if fndF G id=0 then (0,0) else if under (fndF G id) (fndF G up) G then (0,0) else nearF G id up at_) (decide (fndF G id≠0∧¬ under (fndF G id) (fndF G up) G))):=by
 obtain ⟨k,hk⟩:=t.within (fndF G id) (fndF_ok G up)
 have:=P.where_move t.m id up at_ k (decide (under (fndF G id) (fndF G up) G)) (fun _=>by rw [t.fnd id,t.fnd up];exact hk)
 rw [t.fnd id,t.near] at this
 by_cases h1:fndF G id=0
 ·simpa [h1] using this
 ·by_cases h2:under (fndF G id) (fndF G up) G
  ·simpa [h1,h2] using this
  ·simpa [h1,h2] using this
theorem apply_move_no {w:World} {n0 F:Nat} {A:Nat→Option Nat} {h:Nat→Nd} {G:Fo} (t:At w n0 F A h G) (hn0:n0≤w.heap.size) (id up at_:Int) (h1:¬ (fndF G id≠0∧¬ under (fndF G id) (fndF G up) G)) :
  Calls Tryd.prog 64 #[.pointer (some ⟨F,0,none⟩),.iface 119 (.agg #[.int .i64 id,.int .i64 up,.int .i64 at_])] w (ApplyPost w n0 F G):=by
 have hz:whereR A (0,0) false=.returned (.tuple #[.pointer none,.pointer none,.bool false]):=by unfold whereR;rw [t.m.z];rfl
 have hw:=(t.kept (t.m.alloc (.cells #[.int .i64 id,.int .i64 up,.int .i64 at_] 119))).where_move id up at_
 rw [df_ h1] at hw
 have e:(if fndF G id=0 then ((0,0):Nat×Nat) else if under (fndF G id) (fndF G up) G then (0,0) else nearF G id up at_)=(0,0):=by
  by_cases h2:fndF G id=0
  ·rw [if_pos h2]
  ·rw [if_neg h2,if_pos]
   exact Decidable.byContradiction fun g=>h1 ⟨h2,g⟩
 rw [e] at hw
 have HW:=a_ hw
 have HT:=a_ t
 have HN:=a_ hn0
 have HZ:=a_ hz
 clear t h1 hn0 hz hw e
 go_enter Tryd.func64,Tryd.ntmps64
 go_wp2_with (go_at_call 89;(with_reducible refine (HW.out).mono ?_);rintro en w1 ⟨he,hb⟩;rw [HZ.out] at he;subst he;have HB:=a_ hb;clear hb)
 go_end0
 exact ⟨⟨_,rfl⟩,⟨A,h,HT.out.kept ((HT.out.m.alloc _).below HB.out)⟩,((below_box0 w _).mono HN.out).trans (HB.out.mono (by have:=HN.out;simp;omega))⟩
theorem apply_make_yes {w:World} {n0 F:Nat} {A:Nat→Option Nat} {h:Nat→Nd} {G:Fo} (t:At w n0 F A h G) (hn0:n0≤w.heap.size) (i:Nat) (up at_:Int) (s:ByteArray) (h1:fndF G (i:Int)=0) (hi0:i≠0) (hi37:i < 37) :
  Calls Tryd.prog 64 #[.pointer (some ⟨F,0,none⟩),.iface 114 (.agg #[.int .i64 (i:Int),.int .i64 up,.int .i64 at_,.string s])] w (ApplyPost w n0 F (putF G (nearF G (i:Int) up at_) i s .nil)):=by
 have hp:=near_ok (G:=G) (tops_ids t.three) (i:Int) up at_
 obtain ⟨p,hpe⟩:∃ p,p=nearF G (i:Int) up at_:=⟨_,rfl⟩
 have hw:=where_make (t.m.alloc (.cells #[.int .i64 (i:Int),.int .i64 up,.int .i64 at_,.string s] 114)) (i:Int) up at_ s
 rw [t.fnd,if_pos h1,dt_ h1,t.near,←hpe] at hw
 rw [←hpe] at hp ⊢
 have hiG:i∉G.ids:=fun g=>by
  unfold fndF at h1
  rw [if_pos ⟨by omega,show (i:Int).toNat∈G.ids from g⟩] at h1
  exact hi0 h1
 obtain ⟨bu,hbu⟩:=t.ok hp.up
 have hz:whereR A p true=.returned (.tuple #[.pointer (some ⟨bu,0,none⟩),.pointer (pa (A p.2)),.bool true]):=by unfold whereR;rw [hbu];rfl
 have hAi:A i=none:=Decidable.byContradiction fun g=>hiG ((t.dom i).1 g)
 have hui:p.1≠i:=fun g=>hiG (g ▸ hp.up)
 have hai:p.2≠i:=fun g=>by
  rcases hp.at_ with h0|⟨h0,_⟩
  ·exact hi0 (g ▸ h0)
  ·exact hiG (g ▸ h0)
 have HU:=a_ hui
 have HA:=a_ hai
 have HW:=a_ hw
 have HT:=a_ t
 have HN:=a_ hn0
 have HZ:=a_ hz
 have HI:=a_ (And.intro hi0 (And.intro hi37 (And.intro hiG hAi)))
 have HBU:=a_ hbu
 have HP:=a_ hp
 have i37:(i:Int) < 37:=by omega
 have i0':0≤(i:Int):=by omega
 clear t h1 hn0 hz hw hp hbu hui hai hiG hAi hi0 hi37 hpe
 go_enter Tryd.func64,Tryd.ntmps64
 go_wp2_with (go_at_call 89;(with_reducible refine (HW.out).mono ?_);rintro en W2 ⟨he,hb⟩;rw [HZ.out] at he;subst he;have HB:=a_ hb;have HX:=a_ (blk_below (blk_new w _) hb);clear hb;have d0:=(bC_ HX.out 0).trans rfl;have d3:=(bC_ HX.out 3).trans rfl)
 obtain ⟨g,hg⟩:∃ g,g=W2.heap.size:=⟨_,rfl⟩
 obtain ⟨W3,hW3⟩:∃ W3,W3=W2.alloc (.cells #[.int .i64 (i:Int),.string s,.pointer none,.pointer none,.pointer none] 85):=⟨_,rfl⟩
 rw [←hg,←hW3]
 have nB:W3.heap[g]?=some (.cells #[.int .i64 (i:Int),.string s,.pointer none,.pointer none,.pointer none] 85 (0,0)):=by rw [hW3,hg];exact blk_new W2 _
 have X3:W3.heap[w.heap.size]?=some (.cells #[.int .i64 (i:Int),.int .i64 up,.int .i64 at_,.string s] 114 (0,0)):=by rw [hW3];exact bA_ HX.out _
 have M2:=(HT.out.m.alloc (.cells #[.int .i64 (i:Int),.int .i64 up,.int .i64 at_,.string s] 114)).below HB.out
 have M3:Mem W3 n0 F A h:=by rw [hW3];exact M2.alloc _
 have hsz:=HB.out.size
 rw [World.size_alloc] at hsz
 have hltF:=M2.ltF
 have hgA:∀ y,A y≠some g:=fun y hy=>by have:=M2.lt hy;omega
 have hne3:∀ y,A y≠none→(h y).up≠i∧(h y).first≠i∧(h y).next≠i:=fun y hy =>
  ⟨fun e2=>(M2.cu y hy).elim (fun e3=>HI.out.1 (e2 ▸ e3)) (fun e3=>e3 (e2 ▸ HI.out.2.2.2)),fun e2=>(M2.cf y hy).elim (fun e3=>HI.out.1 (e2 ▸ e3)) (fun e3=>e3 (e2 ▸ HI.out.2.2.2)),fun e2=>(M2.cn y hy).elim (fun e3=>HI.out.1 (e2 ▸ e3)) (fun e3=>e3 (e2 ▸ HI.out.2.2.2))⟩
 have m4:=M3.add HI.out.1 HI.out.2.1 HI.out.2.2.2 hne3 (b:=g) (t:=s) hgA (by omega) (by have:=HN.out;omega) nB
 obtain ⟨W4,hW4⟩:∃ W4,W4=(W3.setCell ⟨F,i,none⟩ (.pointer (some ⟨g,0,none⟩))).drew:=⟨_,rfl⟩
 have m5:Mem W4 n0 F (upA A i g) (upN h i ⟨s,0,0,0⟩):=by rw [hW4];exact m4.drew
 have b4:Below n0 w W4:=by
  rw [hW4,hW3]
  exact (((((below_box0 w _).mono HN.out).trans (HB.out.mono (by have:=HN.out;simp;omega))).alloc (by have:=HN.out;omega) _).setCell (p:=⟨F,i,none⟩) HT.out.m.loF _).drew
 have cT:=M3.cF i HI.out.2.1
 have fT:=M3.fzF i
 have q0:=(bC_ X3 0).trans rfl
 have ne1:w.heap.size≠F:=by have:=HT.out.m.ltF;omega
 have ne2:F≠w.heap.size:=fun e=>ne1 e.symm
 have HW4:=a_ hW4
 have HAT:=a_ (attach_any m5 (i:=i) (u:=p.1) (a:=p.2) (bi:=g) (bu:=bu) (if_pos rfl) ((if_neg HU.out).trans HBU.out) HU.out (by
  rcases HP.out.at_ with h0|⟨h0,_⟩
  ·exact Or.inl h0
  ·right;rw [show upA A i g p.2=A p.2 from if_neg HA.out];exact (HT.out.dom _).2 h0) HA.out)
 rw [show upA A i g p.2=A p.2 from if_neg HA.out] at HAT
 have HB4:=a_ b4
 clear nB X3 M2 M3 hsz hltF hgA hne3 m4 m5 b4 hW4 hW3 hg d0 d3
 go_region
 rw [←HW4.out]
 clear cT fT q0
 go_wp2_with (go_at_call 96;(with_reducible refine (HAT.out).mono ?_);rintro en W5 ⟨⟨v,rfl⟩,hm,hb⟩;have HM5:=a_ hm;have HB5:=a_ hb;clear hm hb)
 go_end0
 have t:=HT.out
 obtain ⟨hi0,hi37,hiG,hAi⟩:=HI.out
 have hfree:Free (upN h i ⟨s,0,0,0⟩) i s .nil:=⟨hi0,by rw [show upN h i ⟨s,0,0,0⟩ i=⟨s,0,0,0⟩ from if_pos rfl],by rw [show upN h i ⟨s,0,0,0⟩ i=⟨s,0,0,0⟩ from if_pos rfl];rfl,trivial,by simp [Fo.ids]⟩
 have hext:RepTop (upN h i ⟨s,0,0,0⟩) G:=t.rep.ext fun x hx=>upN_out (fun e=>hiG (e ▸ hx))
 have hat:p.2=0∨(p.2∈G.ids∧p.2∉G.tops):=by
  rcases HP.out.at_ with h0|⟨h0,h2,_⟩
  ·exact Or.inl h0
  ·exact Or.inr ⟨h0,par_top h t.rep t.nd h0 (by rw [h2];exact t.rep.ne0 _ HP.out.up)⟩
 have hrep:=putF_rep (p:=p) hfree hext t.nd hiG (by simp [Fo.ids]) HP.out.up (by
  rcases HP.out.at_ with h0|⟨h0,h2,_⟩
  ·exact Or.inl h0
  ·right
   refine ⟨h0,?_,(hat.resolve_left (t.rep.ne0 _ h0)).2⟩
   rw [upN_out HA.out,reptop_par t.rep t.nd h0,h2])
 have hids:=putF_ids (p:=p) (i:=i) (t:=s) (s:=.nil) t.nd HP.out.up (hat.imp id And.left)
 simp only [Fo.ids,List.nil_append] at hids
 refine ⟨⟨_,rfl⟩,⟨_,_,HM5.out,hrep,?_,fun x=>?_,?_⟩,HB4.out.trans HB5.out⟩
 ·exact hids.nodup_iff.2 (List.nodup_cons.2 ⟨hiG,t.nd⟩)
 ·rw [hids.mem_iff,List.mem_cons]
  unfold upA
  by_cases hx:x=i
  ·simp [hx]
  ·rw [if_neg hx]
   simp only [hx,false_or]
   exact t.dom x
 ·rw [putF_tops (hat.imp id And.right)];exact t.tops
theorem sibT_ne {x:Nat} (hx0:x≠0):∀ {F:Fo},F.ids.Nodup→x∈F.ids→x∉F.tops→sibT x F≠x
 | .nil,_,hx,_=>by simp [Fo.ids] at hx
 | .nd j u k n,hn,hx,ht=>by
  obtain ⟨n1,n2,n3,n4,n5⟩:=nodup_nd hn
  simp only [Fo.ids,Fo.tops,List.mem_cons,List.mem_append,not_or] at hx ht
  unfold sibT
  by_cases hk:x∈k.ids
  ·rw [if_pos hk];exact sib_ne hx0 n3 hk (fun e=>hx0 e.symm)
  ·rw [if_neg hk];exact sibT_ne hx0 n4 (by rcases hx with g|g|g;exact absurd g ht.1;exact absurd g hk;exact g) ht.2
theorem At.detach {w:World} {n0 F:Nat} {A:Nat→Option Nat} {h:Nat→Nd} {G:Fo} (t:At w n0 F A h G) {i b:Nat} (hi:A i=some b) (hit:i∉G.tops) :
  Calls Tryd.prog 99 #[.pointer (some ⟨b,0,none⟩)] w fun e W'=>(∃ v,e=.returned v)∧Mem W' n0 F A (detachH h i (sibT i G))∧Below n0 w W':=by
 have hG:i∈G.ids:=(t.dom i).1 (by rw [hi];simp)
 obtain ⟨u1,u2⟩:=reptop_up t.rep t.nd hG hit
 obtain ⟨r1,r2⟩:=reptop_sub t.rep t.nd u1
 obtain ⟨s1,s2⟩:=sibT_pv t.rep t.nd hG hit
 obtain ⟨bu,hbu⟩:=t.ok u1
 have hsA:∀ x∈(sub (h i).up G).ids,A x≠none:=fun x hx=>(t.dom x).2 (sub_ids _ hx)
 have hL:=nlist_of t.m r1 hsA
 rw [←r2] at hL
 rw [s1]
 refine detach_any t.m hi hbu rfl u2 (sub (h i).up G).tops (fun x hx=>hsA x (tops_ids hx)) hL fun h0=>?_
 rw [←s1] at h0 ⊢
 exact ⟨(t.dom _).2 ((sibT_mem i G).resolve_left h0),sibT_ne (t.rep.ne0 i hG) t.nd hG hit⟩
theorem apply_move_yes {w:World} {n0 F:Nat} {A:Nat→Option Nat} {h:Nat→Nd} {G:Fo} (t:At w n0 F A h G) (hn0:n0≤w.heap.size) (i:Nat) (up at_:Int) (h1:fndF G (i:Int)=i) (hi0:i≠0) (hit:i∉G.tops) (hu:¬ under i (fndF G up) G) :
  Calls Tryd.prog 64 #[.pointer (some ⟨F,0,none⟩),.iface 119 (.agg #[.int .i64 (i:Int),.int .i64 up,.int .i64 at_])] w (ApplyPost w n0 F (putF (del i G) (nearF G (i:Int) up at_) i (txtF i G) (sub i G))):=by
 have hiG:i∈G.ids:=by have:=(fndF_mem (G:=G) (x:=(i:Int)) (by rw [h1];exact hi0)).1;rwa [h1] at this
 have hp:=near_del t.rep t.nd t.three hiG hit (id:=(i:Int)) (up:=up) (at_:=at_) rfl hu
 obtain ⟨p,hpe⟩:∃ p,p=nearF G (i:Int) up at_:=⟨_,rfl⟩
 have hw:=(t.kept (t.m.alloc (.cells #[.int .i64 (i:Int),.int .i64 up,.int .i64 at_] 119))).where_move (i:Int) up at_
 rw [h1,if_neg hi0,if_neg hu,dt_ ⟨hi0,hu⟩,←hpe] at hw
 rw [←hpe] at hp ⊢
 have hdelG:∀ {y},y∈(del i G).ids→y∈G.ids:=fun {y} hy=>(ids_del i G t.nd hiG).mem_iff.2 (List.mem_cons_of_mem _ (List.mem_append_right _ hy))
 obtain ⟨bu,hbu⟩:=t.ok (hdelG hp.1)
 obtain ⟨bi,hbi⟩:=t.ok hiG
 have hz:whereR A p true=.returned (.tuple #[.pointer (some ⟨bu,0,none⟩),.pointer (pa (A p.2)),.bool true]):=by unfold whereR;rw [hbu];rfl
 have hnd:=(ids_del i G t.nd hiG).nodup_iff.1 t.nd
 have hidel:i∉(del i G).ids:=fun g=>(List.nodup_cons.1 hnd).1 (List.mem_append_right _ g)
 have hui:p.1≠i:=fun g=>hidel (g ▸ hp.1)
 have hai:p.2≠i:=fun g=>by
  rcases hp.2 with h0|⟨h0,_⟩
  ·exact hi0 (g ▸ h0)
  ·exact hidel (g ▸ h0)
 have F1:Aside0 (findA A (i:Int)=some bi):=⟨(fnd_eq t.m _).trans (by rw [t.fnd,h1];exact hbi)⟩
 have HD:Aside0 (∀ W,Mem W n0 F A h→Calls Tryd.prog 99 #[.pointer (some ⟨bi,0,none⟩)] W fun e W'=>(∃ v,e=.returned v)∧Mem W' n0 F A (detachH h i (sibT i G))∧Below n0 W W'):=⟨fun W m=>(t.kept m).detach hbi hit⟩
 have HAT:Aside0 (∀ W,Mem W n0 F A (detachH h i (sibT i G))→Calls Tryd.prog 96 #[.pointer (some ⟨bi,0,none⟩),.pointer (some ⟨bu,0,none⟩),.pointer (pa (A p.2))] W fun e W'=>(∃ v,e=.returned v)∧Mem W' n0 F A (attachH (detachH h i (sibT i G)) i p.1 p.2)∧Below n0 W W'):=⟨fun W m=>attach_any m hbi hbu hui (by
  rcases hp.2 with h0|⟨h0,_⟩
  ·exact Or.inl h0
  ·exact Or.inr ((t.dom _).2 (hdelG h0))) hai⟩
 have HW:=a_ hw
 have HT:=a_ t
 have HN:=a_ hn0
 have HZ:=a_ hz
 have HI:=a_ (And.intro hi0 (And.intro hit hiG))
 have HP:=a_ hp
 have HND:=a_ hnd
 have HA:=a_ (And.intro hai hidel)
 clear t h1 hn0 hz hw hp hbu hbi hui hai hiG hi0 hit hpe hnd hidel hu
 go_enter Tryd.func64,Tryd.ntmps64
 go_wp2_with (first
  | (go_at_call 89;(with_reducible refine (HW.out).mono ?_);rintro en W2 ⟨he,hb⟩;rw [HZ.out] at he;subst he;have HB:=a_ hb;have HX:=a_ (blk_below (blk_new w _) hb);have HM2:=a_ ((HT.out.m.alloc _).below hb);clear hb;have d0:=(bC_ HX.out 0).trans rfl)
  | (go_at_call 61;(with_reducible refine (find_any HM2.out (i:Int)).mono ?_);rw [F1.out,pa_some];rintro en W3 ⟨rfl,rfl⟩)
  | (go_at_call 99;(with_reducible refine (HD.out _ HM2.out).mono ?_);rintro en W4 ⟨⟨v4,rfl⟩,hm,hb⟩;have HM4:=a_ hm;have HB4:=a_ hb;clear hm hb)
  | (go_at_call 96;(with_reducible refine (HAT.out _ HM4.out).mono ?_);rintro en W5 ⟨⟨v5,rfl⟩,hm,hb⟩;have HM5:=a_ hm;have HB5:=a_ hb;clear hm hb))
 go_end0
 have t:=HT.out
 obtain ⟨hi0,hit,hiG⟩:=HI.out
 obtain ⟨hai,hidel⟩:=HA.out
 have hp:=HP.out
 have hnd:=HND.out
 obtain ⟨n1,n2⟩:=List.nodup_cons.1 hnd
 obtain ⟨n3,n4,n5⟩:=List.nodup_append.1 n2
 have hfree:Free (detachH h i (sibT i G)) i (txtF i G) (sub i G):=by
  rw [←reptop_txt t.rep t.nd hiG]
  exact freeT_detach t.rep t.nd hiG hit (sibT_out t.rep t.nd hiG hit) (upT_out t.rep t.nd hiG hit)
 have hdel:=reptop_del t.rep t.nd hiG hit
 have hdis:∀ j∈(sub i G).ids,j∉(del i G).ids:=fun j hj hk=>n5 j hj j hk rfl
 have hup2:∀ y,y≠i→(detachH h i (sibT i G) y).up=(h y).up:=fun y hy=>by
  by_cases h0:sibT i G=0
  ·rw [h0,detachH_zero h i hy];split <;> rfl
  ·rw [detachH_pos h i _ h0 hy];split <;> rfl
 have hrep:=putF_rep (p:=p) hfree hdel n4 hidel hdis hp.1 (hp.2.imp id fun ⟨a1,a2,a3,_⟩=>⟨a1,by rw [hup2 _ hai];exact a2,a3⟩)
 have hids:=putF_ids (p:=p) (i:=i) (t:=txtF i G) (s:=sub i G) n4 hp.1 (hp.2.imp id And.left)
 have hall:=(ids_del i G t.nd hiG).trans hids.symm
 refine ⟨⟨_,rfl⟩,⟨_,_,HM5.out,hrep,hall.nodup_iff.1 t.nd,fun x=>by rw [←hall.mem_iff];exact t.dom x,?_⟩,?_⟩
 ·rw [putF_tops (hp.2.imp id fun ⟨_,_,a3,_⟩=>a3),tops_del i G hit];exact t.tops
 ·exact ((((below_box0 w _).mono HN.out).trans (HB.out.mono (by have:=HN.out;simp;omega))).trans HB4.out).trans HB5.out
end Go.Proofs.YtlkheeegkifblaaDoor.P
namespace Go.Proofs.YtlkheeegkifblaaDoor.P
open Go.RowKit Go.Proofs.YtlkheeegkifblaaDoorW.PrintWords Go.Proofs.YtlkheeegkifblaaDoorW.PrintLast Go.Proofs.YtlkheeegkifblaaDoorW.PrintMore Go.Proofs.YtlkheeegkifblaaDoor.FP
theorem idOf_any {w:World} {n0 F:Nat} {A:Nat→Option Nat} {h:Nat→Nd} (m:Mem w n0 F A h) (i:Nat) (hi:i=0∨A i≠none) :
  Calls Tryd.prog 75 #[.pointer (pa (A i))] w fun e w'=>e=.returned (.int .i64 (i:Int))∧w'=w:=by
 rcases hi with rfl|hi
 ·rw [m.z,pa_none]
  go_enter Tryd.func75,Tryd.ntmps75
  go_wp2
  go_ret
  exact ⟨rfl,rfl⟩
 ·obtain ⟨b,hb⟩:=Option.ne_none_iff_exists'.1 hi
  have hc:=m.c0 hb
  rw [hb,pa_some]
  go_enter Tryd.func75,Tryd.ntmps75
  go_wp2
  go_ret
  exact ⟨rfl,rfl⟩
end Go.Proofs.YtlkheeegkifblaaDoor.P
namespace Go.Proofs.YtlkheeegkifblaaDoor.FP
open Go.Proofs.YtlkheeegkifblaaDoor.P
def toFo (l:List S37):Fo:=l.foldl (fun G x=>snoc x.f0.toNat x.f2 x.f1.toNat G) .nil
theorem fl_deep:∀ (F:Fo) (d:Nat) {x:S37},x∈F.fl d→(d:Int)≤x.f1
 | .nil,d,x,h=>by simp [Fo.fl] at h
 | .nd i t k n,d,x,h=>by
  simp only [Fo.fl,List.mem_cons,List.mem_append] at h
  rcases h with rfl|h|h
  ·exact Int.le_refl _
  ·have:=fl_deep k (d+1) h;omega
  ·exact fl_deep n d h
theorem fl_head (F:Fo) (d:Nat):F.fl d=[]∨∃ x r,F.fl d=x::r∧x.f1=(d:Int):=by
 cases F with
 | nil=>exact Or.inl rfl
 | nd i t k n=>exact Or.inr ⟨_,_,rfl,rfl⟩
theorem split_deep {d:Nat}:∀ {a a' b b':List S37},(∀ x∈a,(d:Int) < x.f1)→(∀ x∈a',(d:Int) < x.f1)→(b=[]∨∃ x r,b=x::r∧x.f1=(d:Int))→(b'=[]∨∃ x r,b'=x::r∧x.f1=(d:Int))→a++b=a'++b'→a=a'∧b=b'
 | [],[],b,b',_,_,_,_,e=>⟨rfl,e⟩
 | [],y::a',b,b',_,h2,h3,_,e=>by
  exfalso
  rcases h3 with rfl|⟨x,r,rfl,hx⟩
  ·simp at e
  ·simp only [List.nil_append,List.cons_append,List.cons.injEq] at e
   have:=h2 y List.mem_cons_self
   rw [←e.1] at this
   omega
 | y::a,[],b,b',h1,_,_,h4,e=>by
  exfalso
  rcases h4 with rfl|⟨x,r,rfl,hx⟩
  ·simp at e
  ·simp only [List.nil_append,List.cons_append,List.cons.injEq] at e
   have:=h1 y List.mem_cons_self
   rw [e.1] at this
   omega
 | y::a,y'::a',b,b',h1,h2,h3,h4,e=>by
  simp only [List.cons_append,List.cons.injEq] at e
  obtain ⟨e1,e2⟩:=split_deep (fun x hx=>h1 x (List.mem_cons_of_mem _ hx)) (fun x hx=>h2 x (List.mem_cons_of_mem _ hx)) h3 h4 e.2
  exact ⟨by rw [e.1,e1],e2⟩
theorem fl_inj:∀ (F G:Fo) (d:Nat),F.fl d=G.fl d→F=G
 | .nil,.nil,_,_=>rfl
 | .nil,.nd _ _ _ _,_,h=>by simp [Fo.fl] at h
 | .nd _ _ _ _,.nil,_,h=>by simp [Fo.fl] at h
 | .nd i t k n,.nd i' t' k' n',d,h=>by
  simp only [Fo.fl,List.cons.injEq,S37.mk.injEq] at h
  obtain ⟨⟨h1,_,h2⟩,h3⟩:=h
  obtain ⟨e1,e2⟩:=split_deep (d:=d) (fun x hx=>by have:=fl_deep k (d+1) hx;omega) (fun x hx=>by have:=fl_deep k' (d+1) hx;omega) (fl_head n d) (fl_head n' d) h3
  rw [fl_inj k k' (d+1) e1,fl_inj n n' d e2,h2,show i=i' by omega]
theorem fold_fl:∀ (l:List S37) (G:Fo) (seen:List Int) (roots:Int),treeGo seen roots ((dpth G:Int) - 1) l=true→(l.foldl (fun G x=>snoc x.f0.toNat x.f2 x.f1.toNat G) G).fl 0=G.fl 0++l
 | [],G,_,_,_=>by simp
 | x::l,G,seen,roots,h=>by
  unfold treeGo at h
  simp only [Bool.and_eq_true,decide_eq_true_eq] at h
  obtain ⟨hrow,_,hdep,hrest⟩:=h
  obtain ⟨b0,b37,d0,d18⟩:=rowB_id hrow
  have he:x.f1.toNat≤dpth G:=by omega
  have hd:((dpth (snoc x.f0.toNat x.f2 x.f1.toNat G):Int) - 1)=x.f1:=by rw [snoc_dpth _ _ G _ he];omega
  have hrest2:∃ s r,treeGo s r x.f1 l=true:=by
   split at hrest
   ·simp only [Bool.and_eq_true] at hrest;exact ⟨_,_,hrest.2⟩
   ·exact ⟨_,_,hrest⟩
  obtain ⟨s,r,hr⟩:=hrest2
  rw [List.foldl_cons,fold_fl l _ s r (by rw [hd];exact hr),snoc_fl _ _ G _ 0 he,List.append_assoc,Nat.zero_add]
  congr 1
  obtain ⟨x0,x1,x2⟩:=x
  simp only [List.singleton_append,List.cons.injEq,and_true]
  simp only at b0 d0
  congr 1
  ·omega
  ·omega
theorem toFo_fl {l:List S37} (h:treeB l=true):(toFo l).fl 0=l:=by
 have:=fold_fl l .nil [] 0 h
 exact this
theorem toFo_of {l:List S37} {G:Fo} (h:treeB l=true) (hG:G.fl 0=l):toFo l=G:=fl_inj _ _ 0 ((toFo_fl h).trans hG.symm)
theorem nodup_len:∀ (n:Nat) (l:List Nat),l.Nodup→(∀ x∈l,x < n)→l.length≤n
 | 0,[],_,_=>Nat.le_refl _
 | 0,x::l,_,h=>absurd (h x List.mem_cons_self) (Nat.not_lt_zero _)
 | n+1,l,hn,h=>by
  have e1:=nodup_len n (l.erase n) (hn.erase n) fun x hx=>by
   have h1:=(hn.mem_erase_iff).1 hx
   have:=h x h1.2
   omega
  have:=List.length_erase (a:=n) (l:=l)
  split at this <;> omega
end Go.Proofs.YtlkheeegkifblaaDoor.FP
namespace Go.Proofs.YtlkheeegkifblaaDoor.P
open Go.RowKit Go.Proofs.YtlkheeegkifblaaDoorW.PrintWords Go.Proofs.YtlkheeegkifblaaDoorW.PrintLast Go.Proofs.YtlkheeegkifblaaDoorW.PrintMore Go.Proofs.YtlkheeegkifblaaDoor.PL Go.Proofs.YtlkheeegkifblaaDoor.FP
theorem plant_at (A0:Option Addr) (c0:Nat) (l0:List S37) (w:World) (hr0:Kd.C k37 w A0 l0.length l0) (hc0:l0.length≤c0) (ht:treeB l0=true) (hG:Glob w) :
  Calls Tryd.prog 60 #[.slice A0 l0.length c0] w fun e w'=>∃ (Fb:Nat) (A:Nat→Option Nat) (h:Nat→Nd),e=.returned (.tuple #[.pointer (some ⟨Fb,0,none⟩),.bool true])∧At w' w.heap.size Fb A h (toFo l0)∧Below w.heap.size w w':=by
 refine (plant_yes A0 c0 l0 w hr0 hc0 ht hG).mono ?_
 rintro e w' ⟨Fb,G,A,h,rfl,p1,p2,p3,p4,p5,p6,hb⟩
 have hTO:=toFo_of ht p6
 rw [hTO]
 exact ⟨Fb,A,h,rfl,⟨p1,p2,p3,p4,p5⟩,hb⟩
theorem At.found {w:World} {n0 F:Nat} {A:Nat→Option Nat} {h:Nat→Nd} {G:Fo} (t:At w n0 F A h G) {x:Int} (hx:fndF G x≠0):∃ b,findA A x=some b∧A (fndF G x)=some b:=by
 obtain ⟨b,hb⟩:=t.ok (fndF_mem hx).1
 exact ⟨b,(fnd_eq t.m x).trans (by rw [t.fnd];exact hb),hb⟩
theorem At.lost {w:World} {n0 F:Nat} {A:Nat→Option Nat} {h:Nat→Nd} {G:Fo} (t:At w n0 F A h G) {x:Int} (hx:fndF G x=0):findA A x=none:=fnd_zero t.m x ((t.fnd x).trans hx)
theorem At.par {w:World} {n0 F:Nat} {A:Nat→Option Nat} {h:Nat→Nd} {G:Fo} (t:At w n0 F A h G) {i:Nat} (hi:i∈G.ids):(h i).up=FP.par i 0 G:=reptop_par t.rep t.nd hi
theorem At.parOk {w:World} {n0 F:Nat} {A:Nat→Option Nat} {h:Nat→Nd} {G:Fo} (t:At w n0 F A h G) {i:Nat} (hi:i∈G.ids):FP.par i 0 G=0∨A (FP.par i 0 G)≠none:=by
 rw [←t.par hi]
 exact t.m.cu i ((t.dom i).2 hi)
def upR (l:List S37) (id:Int):Int×Bool:=if treeB l=true then (if fndF (toFo l) id=0 then (0,false) else ((FP.par (fndF (toFo l) id) 0 (toFo l):Int),true)) else (0,false)
def impl_TreeUp.f (k:Nat) (l0:List S37) (a1:Int):Option (Int×Bool):=some (upR l0 a1)
theorem impl_TreeUp.mono (l0:List S37) (a1:Int) (k:Nat):LeO (impl_TreeUp.f k l0 a1) (impl_TreeUp.f (k+1) l0 a1):=LeO.refl _
def UpPost (w:World) (r:Int×Bool) (e:Ending) (w':World):Prop:=e=.returned (.tuple #[.int .i64 r.1,.bool r.2])∧Below w.heap.size w w'
theorem treeUp_any (A0:Option Addr) (c0:Nat) (l0:List S37) (id:Int) (w:World) (hr0:Kd.C k37 w A0 l0.length l0) (hc0:l0.length≤c0) (hG:Glob w) :
  Calls Tryd.prog 34 #[.slice A0 l0.length c0,.int .i64 id] w (UpPost w (upR l0 id)):=by
 unfold upR
 cases ht:treeB l0 with
 | false =>
  have HP:=a_ (plant_no A0 c0 l0 w hr0 hc0 ht hG)
  rw [if_neg (by decide)]
  clear hr0 hc0 ht hG
  go_enter Tryd.func34,Tryd.ntmps34
  go_wp2_with (go_at_call 60;(with_reducible refine (HP.out).mono ?_);clear HP;rintro en W1 ⟨rfl,hb⟩;have HB1:=a_ hb;clear hb)
  go_ret2
  exact ⟨rfl,HB1.out⟩
 | true =>
  have HP:=a_ (plant_at A0 c0 l0 w hr0 hc0 ht hG)
  rw [if_pos rfl]
  clear hr0 hc0 ht hG
  by_cases h0:fndF (toFo l0) id=0
  ·rw [if_pos h0]
   have H0:=a_ h0
   clear h0
   go_enter Tryd.func34,Tryd.ntmps34
   go_wp2_with (first
    | (go_at_call 60;(with_reducible refine (HP.out).mono ?_);clear HP;rintro en W1 ⟨Fb,A,h,rfl,hat,hb⟩;have HB1:=a_ hb;have HT:=a_ hat;clear hb hat)
    | (go_at_call 61;(with_reducible refine (find_any HT.out.m id).mono ?_);rw [HT.out.lost H0.out,pa_none];rintro en W2 ⟨rfl,rfl⟩))
   go_ret2
   exact ⟨rfl,HB1.out⟩
  ·rw [if_neg h0]
   obtain ⟨i,hi⟩:∃ i,i=fndF (toFo l0) id:=⟨_,rfl⟩
   have hmem:i∈(toFo l0).ids:=by rw [hi];exact (fndF_mem h0).1
   have H0:=a_ h0
   have HI:=a_ hi
   have HM:=a_ hmem
   rw [←hi]
   clear h0 hi hmem
   go_enter Tryd.func34,Tryd.ntmps34
   go_wp2_with (first
    | (go_at_call 60;(with_reducible refine (HP.out).mono ?_);clear HP;rintro en W1 ⟨Fb,A,h,rfl,hat,hb⟩;have HB1:=a_ hb;have HT:=a_ hat;obtain ⟨b,hb1,hb2⟩:=hat.found H0.out;rw [←HI.out] at hb2;have F1:=a_ hb1;have c2:=hat.m.c2 hb2;rw [hat.par HM.out] at c2;clear hb hat hb1 hb2)
    | (go_at_call 61;(with_reducible refine (find_any HT.out.m id).mono ?_);rw [F1.out,pa_some];rintro en W2 ⟨rfl,rfl⟩)
    | (go_at_call 75;(with_reducible refine (idOf_any HT.out.m _ (HT.out.parOk HM.out)).mono ?_);rintro en W2 ⟨rfl,rfl⟩))
   go_ret2
   exact ⟨rfl,HB1.out⟩
theorem impl_TreeUp.calls (k:Nat) (A0:Option Addr) (c0:Nat) (l0:List S37) (a1:Int) (r1:Int) (r2:Bool) (w:World) (hr0:Kd.C k37 w A0 l0.length l0) (hc0:l0.length≤c0) (h:impl_TreeUp.f k l0 a1=some (r1,r2)) (hG:Glob w) :
  Calls Tryd.prog 34 #[.slice A0 l0.length c0,.int .i64 a1] w fun e w'=>e=.returned (.tuple #[.int .i64 r1,.bool r2])∧Below w.heap.size w w':=by
 have:=treeUp_any A0 c0 l0 a1 w hr0 hc0 hG
 rw [sj_ h] at this
 exact this
end Go.Proofs.YtlkheeegkifblaaDoor.P
namespace Go.Proofs.YtlkheeegkifblaaDoor.P
open Go.RowKit Go.Shelf Go.Proofs.YtlkheeegkifblaaDoorW.PrintWords Go.Proofs.YtlkheeegkifblaaDoorW.PrintLast Go.Proofs.YtlkheeegkifblaaDoorW.PrintMore Go.Proofs.YtlkheeegkifblaaDoor.FP
attribute [local go_sem] Oper.semAt_some

theorem roomN {F:Fence} (hd:F.depth=none) (k:Nat):F.room k:=fun d h=>by rw [hd] at h;cases h
theorem callsIn_any {F:Fence} (hd:F.depth=none) {m m':Nat} {P:Program} {f:FuncId} {args:Array Value} {w:World} {R:Ending→World→Prop} (h:CallsIn F m P f args w R):CallsIn F m' P f args w R :=
 ⟨h.1,fun cs _=>h.2 cs (roomN hd _)⟩
theorem roundIn_any {F:Fence} (hd:F.depth=none) {m m':Nat} {P:Program} {l:Nat} {f:FuncId} {tmps:Array Value} {assign body:Code} {w:World} {R:Ending→World→Prop}
  (h:RoundIn F m P l f tmps assign body w R):RoundIn F m' P l f tmps assign body w R:=⟨h.1,fun c cs _=>h.2 c cs (roomN hd _)⟩
theorem KeepsFrom.mono {B B':Nat} {W W':World} (h:KeepsFrom B W W') (hB:B≤B'):KeepsFrom B' W W':=⟨h.size,fun k o hk=>h.same k o (Nat.le_trans hB hk)⟩
def Stb {β:Type} (B0:Nat) (J:β→World→Prop):Prop :=
 ∀ s V W row,J s V→V.grownBy W row→(∀ r,row=some r→B0≤r∧∃ o:Obj,V.heap[r]?=some o∧(o.isCells=false∨∃ v,o=.cells #[v] 4 (0,0)))→J s W
theorem Stb.own {β:Type} {B0 B:Nat} {J:β→World→Prop} (h:Stb B0 J) (hB:B0≤B):OwnFrom B J:=fun s V W row hs hg hr=>h s V W row hs hg fun r e=>by
 obtain ⟨h1,o,h2,h3⟩:=hr r e
 exact ⟨Nat.le_trans hB h1,o,h2,Or.inl h3⟩
theorem Stb.alloc {β:Type} {B0:Nat} {J:β→World→Prop} (h:Stb B0 J) {s:β} {V:World} (o:Obj) (hs:J s V):J s (V.alloc o):=h s V _ none hs (World.grownBy_alloc V o none) (fun r e=>by cases e)
theorem Stb.put {β:Type} {B0:Nat} {J:β→World→Prop} (h:Stb B0 J) {s:β} {V:World} {l:Nat} {o:Obj} (o':Obj) (hs:J s V) (hl:V.heap[l]?=some o) (ho:o.isCells=false) (hB:B0≤l):J s (V.putObj l o') :=
 h s V _ (some l) hs (grownBy_putObj' V l o') (fun r e=>by cases e;exact ⟨hB,o,hl,Or.inl ho⟩)
theorem Stb.box {β:Type} {B0:Nat} {J:β→World→Prop} (h:Stb B0 J) {s:β} {V:World} {l:Nat} {v:Value} (v':Value) (hs:J s V) (hl:Boxed V l 4 v) (hB:B0≤l):J s (V.setCell ⟨l,0,none⟩ v') :=
 h s V _ (some l) hs (grownBy_setCell' V l v') (fun r e=>by cases e;exact ⟨hB,_,hl,Or.inr ⟨v,rfl⟩⟩)
structure YE (A:Nat→Option Nat) where
 val:Nat
 dep:Int
 ok:A val≠none
 d0:0≤dep∧dep≤1000
def YE.pr {A:Nat→Option Nat} (e:YE A):Nat×Int:=(e.val,e.dep)
theorem YE.inj {A:Nat→Option Nat}:∀ {e e':YE A},e.pr=e'.pr→e=e'
 | ⟨v,d,_,_⟩,⟨v',d',_,_⟩,h=>by
  have h1:v=v':=congrArg Prod.fst h
  have h2:d=d':=congrArg Prod.snd h
  subst h1;subst h2;rfl
theorem YE.inj_map {A:Nat→Option Nat}:∀ {l l':List (YE A)},l.map YE.pr=l'.map YE.pr→l=l'
 | [],[],_=>rfl
 | [],_::_,h=>by cases h
 | _::_,[],h=>by cases h
 | e::l,e'::l',h=>by
  rw [List.map_cons,List.map_cons] at h
  rw [YE.inj (List.cons.inj h).1,YE.inj_map (List.cons.inj h).2]
def mkYE (A:Nat→Option Nat):(l:List (Nat×Int))→(∀ p∈l,A p.1≠none∧0≤p.2∧p.2≤1000)→List (YE A)
 | [],_=>[]
 | p::l,h=>⟨p.1,p.2,(h p List.mem_cons_self).1,(h p List.mem_cons_self).2⟩::mkYE A l fun q hq=>h q (List.mem_cons_of_mem _ hq)
theorem mkYE_pr (A:Nat→Option Nat):∀ (l:List (Nat×Int)) (h:∀ p∈l,A p.1≠none∧0≤p.2∧p.2≤1000),(mkYE A l h).map YE.pr=l
 | [],_=>rfl
 | p::l,h=>by
  unfold mkYE
  rw [List.map_cons,mkYE_pr A l]
  rfl
def pre1 (d:Int):Fo→List (Nat×Int)
 | .nil=>[]
 | .nd i _ k n=>(i,d)::(pre1 (d+1) k++pre1 d n)
theorem pre1_len:∀ (F:Fo) (d:Int),(pre1 d F).length=F.ids.length
 | .nil,d=>rfl
 | .nd i t k n,d=>by simp [pre1,Fo.ids,pre1_len k,pre1_len n]
theorem pre1_mem:∀ {F:Fo} {d:Int} {p:Nat×Int},p∈pre1 d F→p.1∈F.ids∧d≤p.2∧p.2 < d+F.ids.length
 | .nil,d,p,h=>by cases h
 | .nd i t k n,d,p,h=>by
  simp only [pre1,List.mem_cons,List.mem_append] at h
  simp only [Fo.ids,List.mem_cons,List.mem_append,List.length_cons,List.length_append]
  rcases h with rfl|h|h
  ·exact ⟨Or.inl rfl,by simp,by simp;omega⟩
  ·obtain ⟨h1,h2,h3⟩:=pre1_mem h
   exact ⟨Or.inr (Or.inl h1),by omega,by omega⟩
  ·obtain ⟨h1,h2,h3⟩:=pre1_mem h
   exact ⟨Or.inr (Or.inr h1),by omega,by omega⟩
def kf (x:Nat):Fo→Fo
 | .nil=>.nil
 | .nd j _ k n=>if j=x then k else kf x n
theorem kf_spec {h:Nat→Nd} {x:Nat}:∀ {F:Fo} {up:Nat},Rep h up F→F.ids.Nodup→x∈F.tops→Rep h x (kf x F)∧(h x).first=(kf x F).hd∧(∀ y∈(kf x F).ids,y∈F.ids)∧(kf x F).ids.length < F.ids.length∧(kf x F).ids.Nodup
 | .nil,_,_,_,hx=>by cases hx
 | .nd j t k n,up,⟨h1,h2,h3,h4⟩,hn,hx=>by
  obtain ⟨n1,n2,n3,n4,n5⟩:=nodup_nd hn
  unfold kf
  by_cases e:j=x
  ·subst e
   rw [if_pos rfl]
   exact ⟨h3,by rw [h2],fun y hy=>by simp [Fo.ids,hy],by simp [Fo.ids];omega,n3⟩
  ·rw [if_neg e]
   have hx':x∈n.tops:=by
    simp only [Fo.tops,List.mem_cons] at hx
    exact hx.resolve_left fun e'=>e e'.symm
   obtain ⟨g1,g2,g3,g4,g5⟩:=kf_spec h4 n4 hx'
   exact ⟨g1,g2,fun y hy=>by simp [Fo.ids,g3 y hy],by simp [Fo.ids];omega,g5⟩
theorem flatMap_congr' {α β:Type} {f g:α→List β}:∀ {l:List α},(∀ x∈l,f x=g x)→l.flatMap f=l.flatMap g
 | [],_=>rfl
 | x::l,h=>by rw [List.flatMap_cons,List.flatMap_cons,h x List.mem_cons_self,flatMap_congr' fun y hy=>h y (List.mem_cons_of_mem _ hy)]
theorem pre1_kids:∀ (F:Fo) (d:Int),F.ids.Nodup→pre1 d F=F.tops.flatMap fun x=>(x,d)::pre1 (d+1) (kf x F)
 | .nil,d,_=>rfl
 | .nd j t k n,d,hn=>by
  obtain ⟨n1,n2,n3,n4,n5⟩:=nodup_nd hn
  simp only [Fo.tops,List.flatMap_cons,pre1]
  rw [pre1_kids n d n4]
  have e1:kf j (Fo.nd j t k n)=k:=by unfold kf;exact if_pos rfl
  rw [e1,List.cons_append]
  congr 2
  refine flatMap_congr' fun x hx=>?_
  have e2:kf x (Fo.nd j t k n)=kf x n:=by
   have:j≠x:=fun e=>n2 (tops_ids (e ▸ hx))
   show (if j=x then k else kf x n)=kf x n
   exact if_neg this
  rw [e2]
theorem map_flatMap' {α β γ:Type} (f:α→List β) (g:β→γ):∀ (l:List α),(l.flatMap f).map g=l.flatMap fun x=>(f x).map g
 | []=>rfl
 | x::l=>by rw [List.flatMap_cons,List.flatMap_cons,List.map_append,map_flatMap' f g l]
theorem flatMap_map' {α β γ:Type} (f:β→List γ) (g:α→β):∀ (l:List α),(l.map g).flatMap f=l.flatMap fun x=>f (g x)
 | []=>rfl
 | x::l=>by rw [List.map_cons,List.flatMap_cons,List.flatMap_cons,flatMap_map' f g l]
theorem flatMap_len {α β:Type} (f:α→List β) (c:Nat):∀ (l:List α),(∀ x∈l,(f x).length≤c)→(l.flatMap f).length≤c * l.length
 | [],_=>by simp
 | x::l,h=>by
  rw [List.flatMap_cons,List.length_append,List.length_cons,Nat.mul_add]
  have h1:=h x List.mem_cons_self
  have h2:=flatMap_len f c l fun y hy=>h y (List.mem_cons_of_mem _ hy)
  omega
theorem tops_len:∀ (F:Fo),F.tops.length≤F.ids.length
 | .nil=>Nat.le_refl _
 | .nd i t k n=>by
  have:=tops_len n
  simp only [Fo.tops,Fo.ids,List.length_cons,List.length_append]
  omega
attribute [local go_sem] Oper.semAt_some

def KB (V W:World):Prop:=∀ (b:Nat) (t:TypeId) (v:Value),(t=3∨t=131∨t=4∨t=70∨t=67)→Boxed V b t v→Boxed W b t v
theorem KB.refl (W:World):KB W W:=fun _ _ _ _ h=>h
theorem KB.trans {U V W:World} (h:KB U V) (k:KB V W):KB U W:=fun b t v ht hb=>k b t v ht (h b t v ht hb)
theorem KB.grown {V W:World} {row:Option Nat} (hg:V.grownBy W row) (hr:∀ r,row=some r→∃ o:Obj,V.heap[r]?=some o∧o.isCells=false):KB V W:=fun b t v _ hb=>hb.kept hg fun e=>by
 obtain ⟨o,h1,h2⟩:=hr b e.symm
 have h3:V.heap[b]?=some (.cells #[v] t (0,0)):=hb
 rw [h3] at h1
 rw [←sj_ h1] at h2
 cases h2
theorem KB.alloc {U V:World} (h:KB U V) (o:Obj):KB U (V.alloc o):=h.trans (KB.grown (World.grownBy_alloc V o none) (fun r e=>by cases e))
structure Stp (w0:World) (B0:Nat) (V W:World):Prop where
 below:Below w0.heap.size V W
 from_:KeepsFrom B0 V W
 kb:KB V W
theorem Stp.refl (w0:World) (B0:Nat) (W:World):Stp w0 B0 W W:=⟨Below.refl _ _,KeepsFrom.refl _ _,KB.refl _⟩
theorem Stp.trans {w0:World} {B0:Nat} {U V W:World} (h:Stp w0 B0 U V) (k:Stp w0 B0 V W):Stp w0 B0 U W:=⟨h.below.trans k.below,h.from_.trans k.from_,h.kb.trans k.kb⟩
theorem Stp.alloc {w0:World} {B0:Nat} {U V:World} (h:Stp w0 B0 U V) (hB:w0.heap.size≤V.heap.size) (o:Obj):Stp w0 B0 U (V.alloc o):=⟨h.below.alloc hB _,h.from_.trans ((KeepsOthers.alloc _ _).from _),h.kb.alloc o⟩
theorem ownFrom_stp {β:Type} {B B0:Nat} {w0 U:World} (h1:w0.heap.size≤U.heap.size) (h2:U.heap.size≤B):OwnFrom B (fun (_:β) W=>Stp w0 B0 U W):=fun s V W row hs hg hr =>
 ⟨ownFrom_below (n₀:=w0.heap.size) (β:=Unit) h1 (Nat.le_trans h1 h2) () V W row hs.below hg hr,ownFrom_keepsFrom (β:=Unit) (B:=B0) h2 () V W row hs.from_ hg hr,hs.kb.trans (KB.grown hg fun r e=>(hr r e).2)⟩
def WalkI {A:Nat→Option Nat} {Q:Nat→Prop} (J:List (YE A)→World→Prop) (pre:List (YE A)) (ys:KA Q→List (YE A)) (w0 W0:World) (B0 g l:Nat) (d:Int) (ks:List (KA Q)) (W:World):Prop :=
 J (pre++ks.flatMap ys) W∧(Boxed W g 3 (.int .i64 d)∧Boxed W (g+1) 131 (.func (.yield l) #[] #[])∧Boxed W (g+1+1) 4 (.bool false))∧Stp w0 B0 W0 W
theorem walkI_own {A:Nat→Option Nat} {Q:Nat→Prop} {J:List (YE A)→World→Prop} {pre:List (YE A)} {ys:KA Q→List (YE A)} {w0 W0:World} {B0 g l B:Nat} {d:Int} (hJ:Stb B0 J) (hB:B0≤B) (h1:w0.heap.size≤W0.heap.size) (h2:W0.heap.size≤B) :
    OwnFrom B (WalkI (Q:=Q) J pre ys w0 W0 B0 g l d):=fun s V W row hs hg hr =>
  ⟨hJ.own hB (pre++s.flatMap ys) V W row hs.1 hg hr,
   ⟨boxed_own g _ (fun (_:Unit)=>_) () V W row hs.2.1.1 hg (fun r e=>(hr r e).2),boxed_own (g+1) _ (fun (_:Unit)=>_) () V W row hs.2.1.2.1 hg (fun r e=>(hr r e).2),boxed_own (g+1+1) _ (fun (_:Unit)=>_) () V W row hs.2.1.2.2 hg (fun r e=>(hr r e).2)⟩,
   ownFrom_stp (β:=Unit) h1 h2 () V W row hs.2.2 hg hr⟩
theorem KB.far {U V:World} (h:KB U V) {g:Nat} (hg:U.heap.size≤g) (v:Value):KB U (V.setCell ⟨g,0,none⟩ v):=fun b t u ht hb=>(h b t u ht hb).other (fun e=>by have:=hb.lt;omega) v
theorem KeepsFrom.far {B:Nat} {U V:World} (h:KeepsFrom B U V) {D:Nat} (hD:U.heap.size≤D) {o:Obj} (hK:V.heap[D]?=some o) (ho:o.isCells=false) (o':Obj):KeepsFrom B U (V.putObj D o') :=
 ownFrom_keepsFrom (β:=Unit) (B':=U.heap.size) (Nat.le_refl _) () V _ (some D) h (grownBy_putObj' V D o') (fun r e=>by cases e;exact ⟨hD,o,hK,ho⟩)
def WalkPost {A:Nat→Option Nat} (J:List (YE A)→World→Prop) (w0:World) (B0:Nat) (l:List (YE A)) (W:World) (e:Ending) (W':World):Prop:=e=.returned (.bool true)∧J l W'∧Stp w0 B0 W W'
theorem wlk_in_ (F:Fence) (hd:F.depth=none) (h81:F.fn 118) (h56:F.fn 77) (h76:F.fn 105) (hro:F.round=none) (l N B0:Nat) {w0:World} {n0 Fb:Nat} {A:Nat→Option Nat} {h:Nat→Nd} (m:Mem w0 n0 Fb A h)
  (J:List (YE A)→World→Prop) (hJ:Stb B0 J)
  (hY:∀ (q:Nat) (pre:List (YE A)) (x:YE A) (W:World),J pre W→Below w0.heap.size w0 W→pre.length < N→YieldAt F q Tryd.prog l #[.pointer (pa (A x.val)),.int .i64 x.dep] W (WalkPost J w0 B0 (pre++[x]) W)) :
  ∀ (s:Nat) (k:Fo),k.ids.length < s→∀ (q i:Nat) (d:Int) (es pre:List (YE A)) (W:World),Rep h i k→k.ids.Nodup→(∀ x∈k.ids,A x≠none)→A i≠none→(h i).first=k.hd→es.map YE.pr=(i,d)::pre1 (d+1) k→J pre W→Below w0.heap.size w0 W→B0≤W.heap.size →
   pre.length+1400 * (k.ids.length+1)≤N→k.ids.length≤36→0≤d→d+k.ids.length≤900 →
   CallsIn F q Tryd.prog 118 #[.pointer (pa (A i)),.int .i64 d,.func (.yield l) #[] #[]] W (WalkPost J w0 B0 (pre++es) W):=by
 intro s
 induction s with
 | zero=>intro k hk;omega
 | succ s ih =>
  intro k hks q i d es pre W hR hnd hAk hAi hfirst hes hJ0 hB hB0 hN h36 hd0 hd1
  obtain ⟨b,hb⟩:=Option.ne_none_iff_exists'.1 hAi
  -- what is handed on
  obtain ⟨e0,rest,rfl⟩:∃ e0 rest,es=e0::rest:=by
   cases es with
   | nil=>cases hes
   | cons e0 rest=>exact ⟨e0,rest,rfl⟩
  rw [List.map_cons] at hes
  obtain ⟨he0,hrest⟩:=List.cons.inj hes
  have hv:e0.val=i:=congrArg Prod.fst he0
  have hdp:e0.dep=d:=congrArg Prod.snd he0
  obtain ⟨ks,hks2⟩:=attach_val (Q:=fun y=>y∈k.tops) (l:=k.tops) fun x hx=>hx
  have hok:∀ x:KA (fun y=>y∈k.tops),∀ p∈(x.val,d+1)::pre1 (d+1+1) (kf x.val k),A p.1≠none∧0≤p.2∧p.2≤1000:=fun x p hp=>by
   obtain ⟨g1,g2,g3,g4,g5⟩:=kf_spec hR hnd x.ok
   rcases List.mem_cons.1 hp with rfl|hp
   ·exact ⟨hAk _ (tops_ids x.ok),by simp;omega,by simp;omega⟩
   ·obtain ⟨a1,a2,a3⟩:=pre1_mem hp
    exact ⟨hAk _ (g3 _ a1),by omega,by omega⟩
  obtain ⟨ys,hys⟩:∃ ys:KA (fun y=>y∈k.tops)→List (YE A),∀ x,(ys x).map YE.pr=(x.val,d+1)::pre1 (d+1+1) (kf x.val k):=⟨fun x=>mkYE A _ (hok x),fun x=>mkYE_pr A _ (hok x)⟩
  have hrest2:rest=ks.flatMap ys:=by
   apply YE.inj_map
   rw [hrest,map_flatMap',pre1_kids k (d+1) hnd]
   refine ((congrArg (fun (z:List Nat)=>z.flatMap fun x=>(x,d+1)::pre1 (d+1+1) (kf x k)) hks2).symm.trans (flatMap_map' _ KA.val ks)).trans ?_
   exact flatMap_congr' fun x _=>(hys x).symm
  have hyl:∀ x,(ys x).length≤36:=fun x=>by
   have h1:=congrArg List.length (hys x)
   have g4:=(kf_spec hR hnd x.ok).2.2.2.1
   rw [List.length_map,List.length_cons,pre1_len] at h1
   omega
  have hkl:ks.length≤36:=by
   have h1:=congrArg List.length hks2
   rw [List.length_map] at h1
   have:=tops_len k
   omega
  subst hrest2
  clear hes hrest hok he0
  have hsz:=hB.size
  -- the boxes
  obtain ⟨W3,hW3⟩:∃ W3,W3=((W.alloc (.cells #[.int .i64 d] 3)).alloc (.cells #[.func (.yield l) #[] #[]] 131)).alloc (.cells #[.bool false] 4):=⟨_,rfl⟩
  have b1:=((Boxed.new W 3 (.int .i64 d)).alloc (.cells #[.func (.yield l) #[] #[]] 131)).alloc (.cells #[.bool false] 4)
  have b2:=(Boxed.new (W.alloc (.cells #[.int .i64 d] 3)) 131 (.func (.yield l) #[] #[])).alloc (.cells #[.bool false] 4)
  have b3:=Boxed.new ((W.alloc (.cells #[.int .i64 d] 3)).alloc (.cells #[.func (.yield l) #[] #[]] 131)) 4 (.bool false)
  simp only [World.size_alloc] at b2 b3
  have hJ3:J pre W3:=by rw [hW3];exact hJ.alloc _ (hJ.alloc _ (hJ.alloc _ hJ0))
  have hS3:Stp w0 B0 W W3:=by rw [hW3];exact (((Stp.refl w0 B0 W).alloc hsz _).alloc (by simp;omega) _).alloc (by simp;omega) _
  have hz3:W3.heap.size=W.heap.size+3:=by rw [hW3];simp
  rw [←hW3] at b1 b2 b3
  obtain ⟨fn,tmps,assign,body,hy,hRd⟩:=hY 7 pre e0 W3 hJ3 (hB.trans hS3.below) (by omega)
  rw [hv,hdp,hb,pa_some] at hy
  have cD:=b1.cell
  have cY:=b2.cell
  have M:=a_ m
  have HB:=a_ hB
  have HBi:=a_ hb
  have HS3:=a_ hS3
  refine callsIn_any hd (m:=8) ?_
  rw [hb,pa_some]
  refine callsIn_of_wp_marks Tryd.func118 rfl h81 ?_ hro
  simp only [Tryd.ntmps118,List.size_toArray,List.length_cons,List.length_nil,Nat.reduceAdd,Nat.reduceSub,Array.replicate_succ,Array.replicate_zero,List.push_toArray,List.append_toArray,List.nil_append,List.cons_append]
  rw [hW3] at hy cD cY
  gi_wp2
  rw [←hW3]
  refine hRd.mono ?_
  clear hRd hy cD cY hJ3 hS3
  rintro e W4 ⟨rfl,hJ4,hS4⟩
  have HJ4:=a_ hJ4
  have HS4:=a_ (HS3.out.trans hS4)
  have HK4:=a_ hS4.kb
  have HZ4:=a_ hS4.below.size
  clear hJ4 hS4
  gi_wp2_with (gi_at_call 77;refine (kids_in F _ h56 hro _ _).mono ?_;rintro e w' ⟨rfl,rfl⟩)
  have hS4:=HS4.out
  have hz4:W3.heap.size≤W4.heap.size:=HZ4.out
  obtain ⟨W5,hW5⟩:∃ W5,W5=W4.alloc (.cells #[.pointer (some ⟨b,0,none⟩)] 70):=⟨_,rfl⟩
  have hz5:W5.heap.size=W4.heap.size+1:=by rw [hW5];simp
  have hB05:B0≤W5.heap.size:=by omega
  have hbox:W5.cell? ⟨W4.heap.size,0,none⟩=some (.pointer (some ⟨b,0,none⟩)):=by rw [hW5];exact (cell_new_f W4 _ _).1
  have hS45:Stp w0 B0 W4 W5:=by rw [hW5];exact (Stp.refl w0 B0 W4).alloc (by omega) _
  have hB5:Below w0.heap.size w0 W5:=(HB.out.trans hS4.below).trans hS45.below
  have M5:=M.out.below hB5
  have c3:=M5.c3 HBi.out
  rw [hfirst] at c3
  have hL:NList A w0.heap.size W5 (pa (A k.hd)) (ks.map KA.val):=by rw [hks2];exact (nlist_of M.out hR hAk).below hB5
  have hbl:b < w0.heap.size:=M.out.lt HBi.out
  have hI0:WalkI J (pre++[e0]) ys w0 W5 B0 W.heap.size l d [] W5:=⟨by rw [List.flatMap_nil,List.append_nil,hW5];exact hJ.alloc _ HJ4.out,⟨hS45.kb _ _ _ (Or.inl rfl) (HK4.out _ _ _ (Or.inl rfl) b1),hS45.kb _ _ _ (Or.inr (Or.inl rfl)) (HK4.out _ _ _ (Or.inr (Or.inl rfl)) b2),hS45.kb _ _ _ (Or.inr (Or.inr (Or.inl rfl))) (HK4.out _ _ _ (Or.inr (Or.inr (Or.inl rfl))) b3)⟩,Stp.refl _ _ _⟩
  rw [←hW5]
  have HB5:=a_ hB5
  have HS45:=a_ hS45
  clear b1 b2 b3 hB5 hS45
  refine wpIn_rangeFunc_ownG hro (show 1≤8 by omega) (gf:=105) (lb:=#[.pointer (some ⟨W4.heap.size,0,none⟩)]) rfl h76 (enters_of Tryd.func105 (by kernel_rfl) rfl)
   (kids_stops F 7 h76 hro (by omega) W4.heap.size w0.heap.size b (fun y=>y∈k.tops) A (pa (A k.hd)) ks W5 (by omega) (by omega) (by omega) hbox c3 hL) belowK_t (belowK_b (by omega)) (Below.refl _ _) (fun _=>by rfl)
   (WalkI J (pre++[e0]) ys w0 W5 B0 W.heap.size l d) (fun _ _ _=>False) (walkI_own hJ (by omega) (by omega) (by omega)) (fun _ _ _ _ _ hs _ _=>hs) hI0
   (fun x=>{ tmps:=#[.pointer (some ⟨b,0,none⟩),.int .i64 d,.func (.yield l) #[] #[],undef,.pointer (some ⟨W.heap.size,0,none⟩),.pointer (some ⟨W.heap.size+1,0,none⟩),.pointer (some ⟨W.heap.size+1+1,0,none⟩),.pointer (pa (A x.val)),.func (.yield l) #[] #[],.pointer (some ⟨b,0,none⟩),.int .i64 d,.bool true,.bool false,.pointer (some ⟨b,0,none⟩),.func (.func 105) #[] #[.pointer (some ⟨W4.heap.size,0,none⟩)],.pointer (pa (A x.val)),undef,undef,undef,undef,undef,undef],defers:=[] }) ?assign ?body ?done ?stop
  case assign =>
   intro l2 x V K hK
   gi_wp2
   exact hK
  case body =>
   rintro l2 pre' x V hI hlt
   obtain ⟨hJv,⟨v1,v2,v3⟩,hSv⟩:=hI
   obtain ⟨g1,g2,g3,g4,g5⟩:=kf_spec hR hnd x.ok
   have hfl:=flatMap_len ys 36 pre' fun x _=>hyl x
   have IH:=a_ (ih (kf x.val k) (by omega) (8 - 1 - 1 - 1) x.val (d+1) (ys x) (pre++[e0]++pre'.flatMap ys) V g1 g5 (fun y hy=>hAk y (g3 y hy)) (hAk _ (tops_ids x.ok)) g2 (hys x) hJv (HB5.out.trans hSv.below) (by have:=hSv.below.size;omega)
    (by simp only [List.length_append,List.length_cons,List.length_nil];omega) (by omega) (by omega) (by omega))
   have p1:=v1.cell
   have p2:=v2.cell
   have HV:=a_ (And.intro v1 (And.intro v2 v3))
   have HSv:=a_ hSv
   clear hJv v1 v2 v3 hSv g1 g2 g3 g4 g5 hfl hlt hI0 hL c3 hbox M5 hz4 hz5 hkl hyl hys hks2 hv hdp hN h36
   have hd0':0≤d:=hd0
   have hd9:d≤900:=by omega
   gi_wp2_with (gi_at_call 118;refine (CallsIn.inRound l2 IH.out).mono ?_;clear IH;rintro e W6 ⟨rfl,hJ6,hS6⟩;have HJ6:=a_ hJ6;have HS6:=a_ hS6;clear hJ6 hS6)
   have h6:=HS6.out
   obtain ⟨v1,v2,v3⟩:=HV.out
   have hJ6:=HJ6.out
   refine ⟨KeepsFrom.mono h6.from_ hB05,h6.below,⟨?_,⟨h6.kb _ _ _ (Or.inl rfl) v1,h6.kb _ _ _ (Or.inr (Or.inl rfl)) v2,h6.kb _ _ _ (Or.inr (Or.inr (Or.inl rfl))) v3⟩,HSv.out.trans h6⟩⟩
   rw [List.flatMap_append,List.flatMap_cons,List.flatMap_nil,List.append_nil,←List.append_assoc]
   exact hJ6
  case done =>
   rintro D zs V hD rfl ⟨hJv,⟨v1,v2,v3⟩,hSv⟩ hK
   have p3:=v3.cell
   have f3:=v3.frozen
   have HV3:=a_ v3
   have HSv:=a_ hSv
   have HJv:=a_ hJv
   clear v1 v2 v3 hSv hJv hI0 hL c3 hbox M5
   gi_wp2
   have hK':=(KeepsOthers.setCell V ⟨W.heap.size+1+1,0,none⟩ (.bool true)).same D _ hK rfl
   refine ⟨by simp,.inl ⟨_,_,rfl,run_takeDeferred hK',?_⟩⟩
   have hc5:=cell_kept (World.cell?_setCell_same' V ⟨W.heap.size+1+1,0,none⟩ (.bool true) (by rw [p3];rfl)) (grownBy_putObj' _ D (.deferred none)) (fun r e=>by cases e;exact ⟨_,hK',rfl⟩)
   have hSW:Stp w0 B0 W V:=(hS4.trans HS45.out).trans HSv.out
   refine ⟨.bool true,?_,rfl,?_,?_⟩
   ·simp [results,Tryd.f118,go_sem,hc5]
   ·refine hJ.put _ ?_ hK' rfl (by omega)
    have hb:=hJ.box (.bool true) HJv.out HV3.out (by omega)
    rw [List.append_assoc] at hb
    exact hb
   ·refine ⟨?_,?_,?_⟩
    ·exact (hSW.below.setCell (p:=⟨W.heap.size+1+1,0,none⟩) (by simp;omega) _).trans (belowK_b (w:=W) hsz _ D _ _ (by omega) hK' rfl rfl)
    ·exact KeepsFrom.far (hSW.from_.trans ((KeepsOthers.setCell _ _ _).from _)) (by omega) hK' rfl _
    ·exact (hSW.kb.far (by omega) _).trans (KB.grown (grownBy_putObj' _ D _) (fun r e=>by cases e;exact ⟨_,hK',rfl⟩))
  case stop =>
   rintro D c pre' V _ _ hf _
   exact hf.elim
attribute [local go_sem] Oper.semAt_some

theorem roots_kf {h:Nat→Nd} {r:Nat}:∀ {G:Fo},RepTop h G→G.ids.Nodup→r∈G.tops→Rep h r (kf r G)∧(h r).first=(kf r G).hd∧(∀ y∈(kf r G).ids,y∈G.ids)∧(kf r G).ids.length < G.ids.length∧(kf r G).ids.Nodup
 | .nil,_,_,hx=>by cases hx
 | .nd j t k n,⟨h1,h2,h3,h4⟩,hn,hx=>by
  obtain ⟨n1,n2,n3,n4,n5⟩:=nodup_nd hn
  unfold kf
  by_cases e:j=r
  ·subst e
   rw [if_pos rfl]
   exact ⟨h3,by rw [h2],fun y hy=>by simp [Fo.ids,hy],by simp [Fo.ids];omega,n3⟩
  ·rw [if_neg e]
   have hx':r∈n.tops:=by
    simp only [Fo.tops,List.mem_cons] at hx
    exact hx.resolve_left fun e'=>e e'.symm
   obtain ⟨g1,g2,g3,g4,g5⟩:=roots_kf h4 n4 hx'
   exact ⟨g1,g2,fun y hy=>by simp [Fo.ids,g3 y hy],by simp [Fo.ids];omega,g5⟩
theorem all_in (F:Fence) (n:Nat) (hf:F.fn 100) (hro:F.round=none) (p0:Option Addr) (w:World) :
  CallsIn F n Tryd.prog 100 #[.pointer p0] w fun e w'=>e=.returned (.func (.func 117) #[] #[.pointer (some ⟨w.heap.size,0,none⟩)])∧w'=w.alloc (.cells #[.pointer p0] 67):=by
 refine callsIn_of_wp Tryd.func100 rfl hf ?_ hro
 simp only [Tryd.ntmps100,List.size_toArray,List.length_cons,List.length_nil,Nat.reduceAdd,Nat.reduceSub,Array.replicate_succ,Array.replicate_zero,List.push_toArray,List.append_toArray,List.nil_append,List.cons_append]
 gi_wp2
 go_ret
 exact ⟨rfl,rfl⟩
def ahead_ {α:Type} (part:Nat→List α) (r:Nat):List α:=(List.range' 1 (r - 1)).flatMap part
theorem ahead_succ {α:Type} (part:Nat→List α) (r:Nat) (hr:1≤r):ahead_ part (r+1)=ahead_ part r++part r:=by
 unfold ahead_
 rw [show r+1 - 1=(r - 1)+1 by omega,List.range'_concat,List.flatMap_append]
 simp only [List.flatMap_cons,List.flatMap_nil,List.append_nil,Nat.one_mul]
 rw [show 1+(r - 1)=r by omega]
def AllI {A:Nat→Option Nat} (J:List (YE A)→World→Prop) (part:Nat→List (YE A)) (w0:World) (B0:Nat) (W:World) (v:Value) (V:World):Prop :=
 ∃ r:Nat,1≤r∧r≤4∧v=.int .i64 (r:Int)∧J (ahead_ part r) V∧Stp w0 B0 W V
def AllPost {A:Nat→Option Nat} (J:List (YE A)→World→Prop) (w0:World) (B0:Nat) (l:List (YE A)) (W:World) (e:Ending) (W':World):Prop:=(∃ v,e=.returned v)∧J l W'∧Stp w0 B0 W W'
theorem all1_in (F:Fence) (hd:F.depth=none) (h80:F.fn 117) (h81:F.fn 118) (h56:F.fn 77) (h76:F.fn 105) (hro:F.round=none) (l N B0 q:Nat) {w0:World} {n0 Fb:Nat} {A:Nat→Option Nat} {h:Nat→Nd} (m:Mem w0 n0 Fb A h)
  {G:Fo} (hG:RepTop h G) (hnd:G.ids.Nodup) (hroots:G.tops=[1,2,3]) (hA:∀ x∈G.ids,A x≠none) (h36:G.ids.length≤36)
  (J:List (YE A)→World→Prop) (hJ:Stb B0 J)
  (hY:∀ (q:Nat) (pre:List (YE A)) (x:YE A) (W:World),J pre W→Below w0.heap.size w0 W→pre.length < N→YieldAt F q Tryd.prog l #[.pointer (pa (A x.val)),.int .i64 x.dep] W (WalkPost J w0 B0 (pre++[x]) W))
  (hN:60000≤N) (es:List (YE A)) (hes:es.map YE.pr=pre1 0 G) (Bn:Nat) (W:World) (hBn:Boxed W Bn 67 (.pointer (some ⟨Fb,0,none⟩))) (hB:Below w0.heap.size w0 W) (hB0:B0≤W.heap.size) (hJ0:J [] W) :
  CallsIn F q Tryd.prog 117 #[.func (.yield l) #[] #[],.pointer (some ⟨Bn,0,none⟩)] W (AllPost J w0 B0 es W):=by
 -- the roots' parts
 have hrt:∀ r:Nat,1≤r→r≤3→r∈G.tops:=fun r h1 h2=>by rw [hroots];simp;omega
 obtain ⟨part,hpart⟩:∃ part:Nat→List (YE A),∀ r,1≤r→r≤3→(part r).map YE.pr=(r,0)::pre1 (0+1) (kf r G):=by
  have hok:∀ r:Nat,1≤r∧r≤3→∀ p∈(r,(0:Int))::pre1 (0+1) (kf r G),A p.1≠none∧0≤p.2∧p.2≤1000:=fun r hr p hp=>by
   obtain ⟨g1,g2,g3,g4,g5⟩:=roots_kf hG hnd (hrt r hr.1 hr.2)
   rcases List.mem_cons.1 hp with rfl|hp
   ·exact ⟨hA _ (tops_ids (hrt r hr.1 hr.2)),by simp,by simp⟩
   ·obtain ⟨a1,a2,a3⟩:=pre1_mem hp
    exact ⟨hA _ (g3 _ a1),by omega,by omega⟩
  refine ⟨fun r=>if hr:1≤r∧r≤3 then mkYE A _ (hok r hr) else [],fun r h1 h2=>?_⟩
  have hr:1≤r∧r≤3:=⟨h1,h2⟩
  simp only [dif_pos hr]
  exact mkYE_pr A _ (hok r hr)
 have hes2:es=ahead_ part 4:=by
  apply YE.inj_map
  rw [hes,pre1_kids G 0 hnd,hroots]
  show _=List.map YE.pr ([1,2,3].flatMap part)
  rw [map_flatMap']
  refine flatMap_congr' fun x hx=>?_
  have:1≤x∧x≤3:=by simp at hx;omega
  exact (hpart x this.1 this.2).symm
 have hpl:∀ r,1≤r→r≤3→(part r).length≤36:=fun r h1 h2=>by
  have h3:=congrArg List.length (hpart r h1 h2)
  have h4:=(roots_kf hG hnd (hrt r h1 h2)).2.2.2.1
  rw [List.length_map,List.length_cons,pre1_len] at h3
  omega
 have hal:∀ r,1≤r→r≤4→(ahead_ part r).length≤36 * 3:=fun r h1 h2=>by
  unfold ahead_
  refine Nat.le_trans (flatMap_len part 36 _ fun x hx=>?_) (by rw [List.length_range'];omega)
  have:=List.mem_range'.1 hx
  obtain ⟨i,hi,rfl⟩:=this
  exact hpl _ (by omega) (by omega)
 subst hes2
 have M:=a_ m
 have HB:=a_ hB
 have HBn:=a_ hBn
 have HJ0:=a_ hJ0
 have cB:=hBn.cell
 clear hes hB hBn hJ0
 refine callsIn_any hd (m:=8) ?_
 refine callsIn_of_wp Tryd.func117 rfl h80 ?_ hro
 simp only [Tryd.ntmps117,List.size_toArray,List.length_cons,List.length_nil,Nat.reduceAdd,Nat.reduceSub,Array.replicate_succ,Array.replicate_zero,List.push_toArray,List.append_toArray,List.nil_append,List.cons_append]
 gi_wp2
 gi_loopw [3] (fun v V=>AllI J part w0 B0 W v V) (fun v _=>4 - (intOf v).toNat)
 case atStart=>exact ⟨1,by omega,by omega,rfl,HJ0.out,Stp.refl _ _ _⟩
 case round =>
  obtain ⟨r,hr1,hr4,rfl,hJr,hSr⟩:=hrel
  have cB:=(hSr.kb _ _ _ (Or.inr (Or.inr (Or.inr (Or.inr rfl)))) HBn.out).cell
  by_cases hr3:r≤3
  ·have hd1:decide (r≤3)=true:=dt_ hr3
   have hd2:decide ((r:Int)≤3)=true:=dt_ (by omega)
   have cF:=(M.out.below (HB.out.trans hSr.below)).cF r (by omega)
   obtain ⟨g1,g2,g3,g4,g5⟩:=roots_kf hG hnd (hrt r hr1 hr3)
   have IH:=a_ (wlk_in_ F hd h81 h56 h76 hro l N B0 m J hJ hY 40 (kf r G) (by omega) (8 - 1) r 0 (part r) (ahead_ part r) _ g1 g5 (fun y hy=>hA y (g3 y hy)) (hA _ (tops_ids (hrt r hr1 hr3))) g2 (hpart r hr1 hr3) hJr (HB.out.trans hSr.below) (by have:=hSr.below.size;omega)
    (by have:=hal r hr1 hr4;omega) (by omega) (by omega) (by omega))
   have hi0:0≤(r:Int):=by omega
   have hi37:(r:Int) < 37:=by omega
   have HS:=a_ hSr
   have HR:=a_ (And.intro hr1 hr3)
   have HAS:=a_ (ahead_succ part r hr1)
   clear g1 g2 g3 g4 g5 hJr hSr
   gi_wp2_with (gi_at_call 118;refine (IH.out).mono ?_;clear IH;rintro e W6 ⟨rfl,hJ6,hS6⟩;have HJ6:=a_ hJ6;have HS6:=a_ hS6;clear hJ6 hS6)
   refine ⟨⟨r+1,by have:=HR.out;omega,by have:=HR.out;omega,by simp,by rw [HAS.out];exact HJ6.out,HS.out.trans HS6.out⟩,?_⟩
   have:=HR.out
   simp [intOf]
   omega
  ·have hd1:decide (r≤3)=false:=df_ hr3
   have hd2:decide ((r:Int)≤3)=false:=df_ (by omega)
   obtain rfl:r=4:=by omega
   gi_wp2
   go_end0
   exact ⟨⟨_,rfl⟩,hJr,hSr⟩
#print axioms all1_in
def goesOn {α:Type} (w0:World) (B:Nat) (I:List α→World→Prop) (xs:List α) (W:World):Exit→Act→World→Prop
 | .normal,_,W'=>I xs W'∧Stp w0 B W W'
 | _,_,_=>False
theorem stp_put {w0 U:World} {B:Nat} {l:Nat} {o:Obj} (o':Obj) (hl:U.heap[l]?=some o) (ho:o.isCells=false) (h0:w0.heap.size≤l) (hB:l < B):Stp w0 B U (U.putObj l o') :=
 ⟨(Below.refl _ _).grown (grownBy_putObj' U l o') (by have:=(Array.getElem?_eq_some_iff.1 hl).1;omega) (fun k e=>by cases e;exact h0),KeepsFrom.of_grownBy (grownBy_putObj' U l o') (fun j e=>by cases e;exact hB),KB.grown (grownBy_putObj' U l o') (fun r e=>by cases e;exact ⟨o,hl,ho⟩)⟩
theorem Stp.mono {w0 V W:World} {B B':Nat} (h:Stp w0 B V W) (hB:B≤B'):Stp w0 B' V W:=⟨h.below,KeepsFrom.mono h.from_ hB,h.kb⟩
theorem Stb.mono {β:Type} {B B':Nat} {J:β→World→Prop} (h:Stb B J) (hB:B≤B'):Stb B' J:=fun s V W row hs hg hr=>h s V W row hs hg fun r e=>⟨Nat.le_trans hB (hr r e).1,(hr r e).2⟩
theorem stb_obj {β:Type} {B g:Nat} {o:Obj} (hg:g < B):Stb B (fun (_:β) W=>W.heap[g]?=some o):=fun s V W row hs hgr hr =>
 (hgr.block g (Array.getElem?_eq_some_iff.1 hs).1 (fun e=>by have:=(hr g e.symm).1;omega)).trans hs
theorem Stb.and {β:Type} {B:Nat} {J J':β→World→Prop} (h:Stb B J) (h':Stb B J'):Stb B (fun s W=>J s W∧J' s W):=fun s V W row hs hg hr=>⟨h s V W row hs.1 hg hr,h' s V W row hs.2 hg hr⟩
theorem range_all {α:Type} {F:Fence} {n:Nat} {P:Program} {g:Operand} {ps:Array Tmp} {assign body:Code} {Q:Exit→Act→World→Prop} {a:Act} {w w0:World}
  (hd:F.depth=none) (hro:F.round=none) {gf:Nat} {lb:Array Value} (hg:a.eval g=.func (.func gf) #[] lb) (hFg:F.fn gf) (eg:∀ args w,(callFunc gf args).run P w=.ok (.enter gf args) w)
  {encs:α→Array Value} (hps:∀ x,(encs x).size=ps.size) (N:Nat) (xs:List α) (hw0:w0.heap.size≤w.heap.size)
  (hseq:∀ (l:Nat) (J:List α→World→Prop) (W:World),Stp w0 W.heap.size w W→Stb W.heap.size J →
   (∀ (q:Nat) (pre:List α) (x:α) (W1:World),J pre W1→Below w0.heap.size w0 W1→pre.length < N→YieldAt F q P l (encs x) W1 fun e W'=>e=.returned (.bool true)∧J (pre++[x]) W'∧Stp w0 W.heap.size W1 W')→J [] W →
   CallsIn F (n - 1) P gf (#[.func (.yield l) #[] #[]]++lb) W fun e W'=>(∃ v,e=.returned v)∧J xs W')
  (I:List α→World→Prop) (hI:Stb w.heap.size I) (h0:I [] w) (a₁:α→Act)
  (hassign:∀ (l:Nat) (x:α) (W:World) (K:Act→World→Prop),K (a₁ x) W →
   assign.wpIn (F.inRound l) (n - 1 - 1) P (Exit.then K (fun _ _ _=>False)) { tmps:=(ps.zip (encs x)).foldl (fun t (p,v)=>t.setIfInBounds p v) a.tmps,defers:=[] } W)
  (hbody:∀ (l:Nat) (pre:List α) (x:α) (W:World),I pre W→Below w0.heap.size w0 W→pre.length < N→body.wpIn (F.inRound l) (n - 1 - 1) P (goesOn w0 w.heap.size I (pre++[x]) W) (a₁ x) W)
  (hdone:∀ (D:Nat) (W:World),w.heap.size≤D→I xs W→W.heap[D]?=some (.deferred (some []))→Q .normal { a with defers:={ target:=.collected D,args:=#[] }::a.defers } W) :
  (Code.rangeFunc g ps assign body).wpIn F n P Q a w:=by
 refine wpIn_rangeFunc fun fn hfn=>?_
 rw [hro]
 have hdd:∀ k:Nat,(F.depth.isSome=true→1≤k):=fun k h=>by rw [hd] at h;cases h
 let rec_:LoopState→Option Code→Loop:=fun st pe=>{ state:=st,pending:=pe,fn:=fn,tmps:=a.tmps,params:=ps,assign:=assign,body:=body,defers:=w.heap.size }
 obtain ⟨rc,hrc⟩:∃ rc:LoopState→Option Code→Loop,rc=rec_:=⟨_,rfl⟩
 obtain ⟨W1,hW1⟩:∃ W1,W1=(w.alloc (.deferred (some []))).alloc (.loop (rc .ready none)):=⟨_,rfl⟩
 have hz1:W1.heap.size=w.heap.size+2:=by rw [hW1];simp
 have hL1:W1.heap[w.heap.size+1]?=some (.loop (rc .ready none)):=by
  have:=World.alloc_heap_new (w.alloc (.deferred (some []))) (.loop (rc .ready none))
  rw [World.size_alloc] at this
  rw [hW1];exact this
 have hK1:W1.heap[w.heap.size]?=some (.deferred (some [])):=by
  rw [hW1];exact (Below.heap_alloc _ _ _ (by simp)).trans (World.alloc_heap_new w _)
 have hS1:Stp w0 W1.heap.size w W1:=by rw [hW1];exact ((Stp.refl w0 _ w).alloc hw0 _).alloc (by simp;omega) _
 have hI1:I [] W1:=by rw [hW1];exact hI.alloc _ (hI.alloc _ h0)
 refine ⟨w.heap.size+1,[{ target:=.collected w.heap.size,args:=#[] }],W1,{ target:=.fn (.func gf) lb,args:=#[.func (.yield (w.heap.size+1)) #[] #[]] },W1,gf,
  #[.func (.yield (w.heap.size+1)) #[] #[]]++lb,W1,?_,?_,?_,?_,hdd n,?_⟩
 ·rw [hW1,hrc];exact run_enterLoop_outer _ _ _ _ _
 ·simp only [resolve,hg]
  simp [go_sem]
 ·intro f' hf';simp [Target.leads] at hf';subst hf';exact hFg
 ·simp [invoke,go_sem,eg]
 ·refine (hseq (w.heap.size+1) (fun pre W=>I pre W∧(W.heap[w.heap.size+1]?=some (.loop (rc .ready none))∧W.heap[w.heap.size]?=some (.deferred (some [])))) W1 hS1
   ((hI.mono (by omega)).and ((stb_obj (by omega)).and (stb_obj (by omega)))) ?_ ⟨hI1,hL1,hK1⟩).mono ?_
  ·rintro q pre x W ⟨hi,hl,hk⟩ hBW hlen
   have hlt:w.heap.size+1 < W.heap.size:=(Array.getElem?_eq_some_iff.1 hl).1
   have hy:=run_yield (P:=P) (args:=encs x) hl (by rw [hrc];exact hps x)
   rw [hrc] at hy
   refine ⟨fn,_,assign,body,hy,roundIn_any hd (m:=n - 1 - 1) (roundIn_of_wpIn hfn (hassign _ x W _ ⟨_,run_beginRound hl (by rw [hrc]),?_⟩))⟩
   obtain ⟨W2,hW2⟩:∃ W2,W2=W.putObj (w.heap.size+1) (.loop { rc .ready none with state:=.busy }):=⟨_,rfl⟩
   have hl2:W2.heap[w.heap.size+1]?=some (.loop { rc .ready none with state:=.busy }):=by rw [hW2];exact World.putObj_heap_same hlt
   have hk2:W2.heap[w.heap.size]?=some (.deferred (some [])):=by rw [hW2];exact (World.putObj_heap_other (by omega)).trans hk
   have hs2:Stp w0 W1.heap.size W W2:=by rw [hW2];exact stp_put _ hl rfl (by omega) (by omega)
   have hi2:I pre W2:=by rw [hW2];exact hI.put _ hi hl rfl (by omega)
   suffices key:body.wpIn (F.inRound (w.heap.size+1)) (n - 1 - 1) P (roundPost P (w.heap.size+1) fun e W'=>e=.returned (.bool true)∧(I (pre++[x]) W'∧(W'.heap[w.heap.size+1]?=some (.loop (rc .ready none))∧W'.heap[w.heap.size]?=some (.deferred (some []))))∧Stp w0 W1.heap.size W W') (a₁ x) W2 by
    rw [hW2,hrc] at key
    rw [hrc]
    exact key
   refine wpIn_mono (hbody _ pre x W2 hi2 (hBW.trans hs2.below) hlen) ?_
   rintro e a3 W3 hp
   cases e with
   | normal =>
    obtain ⟨hi3,hs3⟩:=hp
    have hl3:=hs3.from_.same _ _ (by omega) hl2 rfl
    have hk3:=hs3.from_.same _ _ (by omega) hk2 rfl
    have hr:=run_endRound (P:=P) (jump:=none) hl3
    have hlt3:=(Array.getElem?_eq_some_iff.1 hl3).1
    refine ⟨_,_,(by rw [hrc] at hr;exact hr),rfl,⟨hI.put _ hi3 hl3 rfl (by omega),?_,(World.putObj_heap_other (by omega)).trans hk3⟩,(hs2.trans (hs3.mono (by omega))).trans (stp_put _ hl3 rfl (by omega) (by omega))⟩
    rw [hrc]
    exact World.putObj_heap_same hlt3
   | ret=>exact hp.elim
   | exit id=>exact hp.elim
   | goto t=>exact hp.elim
   | panic ch=>exact hp.elim
   | outgrown=>exact hp.elim
  ·rintro e W2 ⟨⟨v,rfl⟩,hi,hl,hk⟩
   refine ⟨none,_,by have:=run_endLoop (P:=P) hl (by rw [hrc];simp [rec_]);rw [hrc] at this;exact this,hdone _ _ (Nat.le_refl _) (hI.put _ hi hl rfl (by omega)) ((World.putObj_heap_other (by omega)).trans hk)⟩
theorem rows_wide {n:Nat} {P:Program} {row:String} {args:Array Value} {w:World} {R:Value→World→Prop} (h:Rows P row args w R):RowsIn Fence.wide n P row args w R:=fun c cs _=>by
 obtain ⟨v,w',r,s⟩:=h c cs
 exact ⟨v,w',r,stepsIn_wide.2 s⟩
theorem ops_round {P:Program} {ops:Array Oper} {Q:Exit→Act→World→Prop} (l n:Nat) (hQ:¬ LetsOut Q) (hd:∀ (i:Nat) (o:Oper),ops[i]?=some o→∀ c,o.op≠.defer c) :
  ∀ (is:List Nat) (a:Act) (w:World),wpOps P ops Q is a w→wpOpsIn (Fence.wide.inRound l) n P ops Q is a w
 | [],a,w,h=>h
 | i::rest,a,w,h=>by
  unfold wpOps at h
  unfold wpOpsIn
  cases ho:ops[i]? with
  | none =>
   rw [ho] at h
   exact ops_round l n hQ hd rest a w h
  | some o =>
   rw [ho] at h
   simp only at h ⊢
   by_cases hw:Region.wanted o (yielded ops a.tmps)=true
   ·rw [if_pos hw] at h ⊢
    have h:=h.resolve_right fun e=>hQ e.2
    unfold Oper.wp at h
    refine ⟨fun _ _=>trivial,?_⟩
    rw [show (Fence.wide.inRound l).round=some l from rfl,Oper.semAt_eq (some l) _ _ (hd i o ho)]
    generalize (execOp a.eval o).run P w=r at h
    cases r with
    | ok x w' =>
     cases x with
     | value v=>exact ops_round l n hQ hd rest _ _ h
     | skip=>exact ops_round l n hQ hd rest _ _ h
     | defer d=>exact ops_round l n hQ hd rest _ _ h
     | enter f args =>
      refine ⟨fun e=>by simp [Fence.wide] at e,CallsIn.inRound l (callsIn_wide.2 (Calls.mono h fun e w'' he=>?_))⟩
      cases e with
      | returned v=>exact ops_round l n hQ hd rest _ _ he
      | panicked c=>exact he
      | outgrown=>exact he
     | row r args=>exact ⟨fun e=>by simp [Fence.wide] at e,rows_wide (n:=n - 1) (Rows.mono h fun v w'' he=>ops_round l n hQ hd rest _ _ he)⟩
     | round=>exact h.elim
     | _=>first|exact h.elim|exact h
    | halt x w'=>cases x <;> first|exact h.elim|exact h
   ·rw [if_neg hw] at h ⊢
    exact ⟨fun _ _=>trivial,ops_round l n hQ hd rest _ _ h⟩
theorem startR_ {P:Program} {ops:Array Oper} {Q:Exit→Act→World→Prop} {S:World→Prop} {ds:List Nat} {id n k lp:Nat} {a:Act} {w:World} (l:Array Bool) (hQ:¬ LetsOut Q) (hd:∀ (i:Nat) (o:Oper),ops[i]?=some o→∀ c,o.op≠.defer c)
  (hm:P.follows .mixedOrders=true) (hn:ops.size=n) (hl:Array.replicate n false=l) (hS:S w.drew) (h:S w.drew→wpAnyLast P .any ops Q S ds n l a w.drew):(Code.region id ops true).wpIn (Fence.wide.inRound lp) k P Q a w :=
 wpIn_region_draw fun t=>by
  subst hn
  subst hl
  have:=wpAny_sound ops.size t (Array.replicate ops.size false) a w.drew (wpAny_of_last _ _ _ _ (h hS))
  simp only [Region.schedule,hm,Bool.true_or,if_true]
  exact ops_round lp k hQ hd _ _ _ this
attribute [local go_sem] Oper.semAt_some

def onN (K:Act→World→Prop) (Q:Exit→Act→World→Prop):Exit→Act→World→Prop
 | .normal,a,w=>K a w
 | .panic c,a,w=>Q (.panic c) a w
 | .outgrown,a,w=>Q .outgrown a w
 | .ret,a,w=>Q .ret a w
 | .exit i,a,w=>Q (.exit i) a w
 | .goto t,a,w=>Q (.goto t) a w
theorem upon_on {P:Program} {o:Oper} {a:Act} {K:Act→World→Prop} {Q:Exit→Act→World→Prop} {r:Result Next} (h:o.upon P a (onN K Q .normal) (onN K Q) r):o.upon P a K Q r:=by
 cases r with
 | ok x w'=>cases x <;> exact h
 | halt x w'=>cases x <;> exact h
theorem step_of_list {P:Program} {ops:Array Oper} {Q:Exit→Act→World→Prop} {K:Act→World→Prop} {o:Oper} {a:Act} {w:World} (hQ:¬ LetsOut Q) (h:wpList P ops (onN K Q) [o] a w) :
  if Region.wanted o (yielded ops a.tmps)=true then Oper.wp P o a w K Q else K (a.put o.dst undef) w:=by
 unfold wpList at h
 by_cases hw:Region.wanted o (yielded ops a.tmps)=true
 ·rw [if_pos hw] at h ⊢
  exact upon_on (h.resolve_right fun e=>hQ e.2)
 ·rw [if_neg hw] at h ⊢
  exact h
theorem step_skip {P:Program} {ops:Array Oper} {Q:Exit→Act→World→Prop} {K:Act→World→Prop} {o:Oper} {a:Act} {w w1:World} (hw:Region.wanted o (yielded ops a.tmps)=true) (hrun:(execOp a.eval o).run P w=.ok .skip w1) (h:K (a.put o.dst undef) w1) :
  if Region.wanted o (yielded ops a.tmps)=true then Oper.wp P o a w K Q else K (a.put o.dst undef) w:=by
 rw [if_pos hw]
 unfold Oper.wp
 rw [hrun]
 exact h
def noDefer (o:Oper):Bool:=match o.op with|.defer _=>false|_=>true
theorem noDefer_of {ops:Array Oper} (h:ops.toList.all noDefer=true):∀ (i:Nat) (o:Oper),ops[i]?=some o→∀ c,o.op≠.defer c:=fun i o ho c e=>by
 have h1:o∈ops.toList:=Array.mem_toList_iff.2 (Array.mem_of_getElem? ho)
 have h2:=List.all_eq_true.1 h o h1
 unfold noDefer at h2
 rw [e] at h2
 cases h2
def rowsOf {A:Nat→Option Nat} (h:Nat→Nd) (l:List (YE A)):List S37:=l.map fun e=>⟨(e.val:Int),e.dep,(h e.val).t⟩
def RowsI {A:Nat→Option Nat} (h:Nat→Nd) (w:World) (g:Nat) (pre:List (YE A)) (V:World):Prop :=
 (∃ v,Boxed V g 23 v∧Kd.R k37 37 V w.heap.size (fun _=>True) v (rowsOf h pre))∧Below w.heap.size w V
theorem stb_below {β:Type} {B:Nat} {w:World} (h:w.heap.size≤B):Stb B (fun (_:β) V=>Below w.heap.size w V):=fun s V W row hs hg hr =>
 hs.grown hg hs.size (fun k e=>Nat.le_trans h (hr k e).1)
theorem rowsI_stb {A:Nat→Option Nat} {h:Nat→Nd} {w:World} {g B:Nat} (hB:w.heap.size≤B):Stb B (RowsI (A:=A) h w g):=fun s V W row hs hg hr=>by
 obtain ⟨⟨v,hv,hR⟩,hb⟩:=hs
 refine ⟨⟨v,hv.kept hg fun e=>?_,Kd.R_mono (Kd.R_step (Kd.R_bound hR) fun k hk hlt=>hg.block k hlt fun e=>?_) (fun _ _=>trivial)⟩,stb_below (β:=Unit) hB () V W row hb hg hr⟩
 ·obtain ⟨_,o,h1,h2⟩:=hr g e.symm
  have h3:V.heap[g]?=some (.cells #[v] 23 (0,0)):=hv
  rw [h3] at h1
  rcases h2 with h2|⟨u,h2⟩
  ·rw [←sj_ h1] at h2;cases h2
  ·rw [←sj_ h1] at h2;simp at h2
 ·obtain ⟨_,o,h1,h2⟩:=hr k e.symm
  obtain ⟨_,_,_,q,hq,cells,h3⟩:=hk
  rw [h3] at h1
  have hq:q=37:=by
   rcases List.mem_cons.1 hq with e|e
   ·exact e
   ·exact absurd e (by simp [k37,Kd.iso,Kd.pair,Kd.int,Kd.string,Kd.scalar])
  subst hq
  rcases h2 with h2|⟨u,h2⟩
  ·rw [←sj_ h1] at h2;cases h2
  ·rw [←sj_ h1] at h2;simp at h2
theorem letsOut_goes {α:Type} {w0:World} {B id:Nat} {I:List α→World→Prop} {xs:List α} {W:World}:¬ LetsOut (Exit.inBlock id (goesOn w0 B I xs W)):=fun ⟨_,_,h⟩=>h
theorem fl_pre {h:Nat→Nd}:∀ {F:Fo} {up d:Nat},Rep h up F→F.fl d=(pre1 d F).map fun p=>⟨(p.1:Int),p.2,(h p.1).t⟩
 | .nil,_,_,_=>rfl
 | .nd i t k n,up,d,⟨h1,h2,h3,h4⟩=>by
  have e:=fl_pre (d:=d+1) h3
  rw [show ((d+1:Nat):Int)=(d:Int)+1 from rfl] at e
  simp only [Fo.fl,pre1,List.map_cons,List.map_append]
  rw [e,fl_pre h4,h2]
theorem fl_top {h:Nat→Nd}:∀ {F:Fo} {d:Nat},RepTop h F→F.fl d=(pre1 d F).map fun p=>⟨(p.1:Int),p.2,(h p.1).t⟩
 | .nil,_,_=>rfl
 | .nd i t k n,d,⟨h1,h2,h3,h4⟩=>by
  have e:=fl_pre (d:=d+1) h3
  rw [show ((d+1:Nat):Int)=(d:Int)+1 from rfl] at e
  simp only [Fo.fl,pre1,List.map_cons,List.map_append]
  rw [e,fl_top h4,h2]
theorem stp_app {w V w3:World} {B g:Nat} {v:Value} {ok:Nat→Prop} {l:List S37} (hR:Kd.R k37 37 V w.heap.size ok v l) (hbox:Boxed V g 23 v) (hg:V.drew.grownBy w3 v.ownBlock) (hV:w.heap.size≤V.heap.size) (hgb:w.heap.size≤g) (u:Value):Stp w B V (w3.setCell ⟨g,0,none⟩ u):=by
 have hcells:∀ k,some k=v.ownBlock→∃ cells,V.heap[k]?=some (.cells cells 37 (0,0)):=fun k e=>by
  obtain ⟨_,hlt,q,hq,cells,hc⟩:=((Kd.R_bound hR).1 k e.symm).2
  have hq:q=37:=by
   rcases List.mem_cons.1 hq with e|e
   ·exact e
   ·exact absurd e (by simp [k37,Kd.iso,Kd.pair,Kd.int,Kd.string,Kd.scalar])
  subst hq
  exact ⟨cells,hc⟩
 have h1:Below w.heap.size V w3:=((Below.refl w.heap.size V).drew).grown hg hV (fun k e=>Kd.R_base hR k e)
 refine ⟨h1.setCell (p:=⟨g,0,none⟩) hgb _,?_,?_⟩
 ·refine KeepsFrom.trans ⟨hg.size,fun k o _ hk ho=>(hg.block k (Array.getElem?_eq_some_iff.1 hk).1 fun e=>?_).trans hk⟩ ((KeepsOthers.setCell w3 ⟨g,0,none⟩ u).from B)
  obtain ⟨cells,hc⟩:=hcells k e
  rw [show V.heap[k]?=some o from hk] at hc
  rw [sj_ hc] at ho
  cases ho
 ·intro b t x ht hb
  have hb2:V.heap[b]?=some (.cells #[x] t (0,0)):=hb
  have hne:t≠37∧t≠23:=by rcases ht with rfl|rfl|rfl|rfl|rfl <;> decide
  have hb3:Boxed w3 b t x:=Boxed.kept (W:=V.drew) hb hg fun e=>by
   obtain ⟨cells,hc⟩:=hcells b e
   rw [hb2] at hc
   simp at hc
   exact hne.1 hc.2
  refine hb3.other (fun e=>?_) u
  subst e
  rw [show V.heap[b]?=some (.cells #[v] 23 (0,0)) from hbox] at hb2
  simp at hb2
  exact hne.2 hb2.2.symm
theorem rows_any {w:World} {n0 Fb:Nat} {A:Nat→Option Nat} {h:Nat→Nd} (m:Mem w n0 Fb A h) {G:Fo} (hG:RepTop h G) (hnd:G.ids.Nodup) (hroots:G.tops=[1,2,3]) (hA:∀ x∈G.ids,A x≠none) (h36:G.ids.length≤36) :
  Calls Tryd.prog 65 #[.pointer (some ⟨Fb,0,none⟩)] w fun e w'=>∃ v:Value,e=.returned v∧Kd.R k37 37 w' w.heap.size (fun _=>True) v (G.fl 0)∧Below w.heap.size w w':=by
 obtain ⟨es,hes⟩:∃ es:List (YE A),es.map YE.pr=pre1 0 G:=by
  have hok:∀ p∈pre1 0 G,A p.1≠none∧0≤p.2∧p.2≤1000:=fun p hp=>by
   obtain ⟨a1,a2,a3⟩:=pre1_mem hp
   exact ⟨hA _ a1,by omega,by omega⟩
  exact ⟨mkYE A _ hok,mkYE_pr A _ hok⟩
 have hfl:rowsOf h es=G.fl 0:=by
  rw [fl_top hG]
  show _=(pre1 ((0:Nat):Int) G).map _
  rw [show ((0:Nat):Int)=0 from rfl,←hes,List.map_map]
  rfl
 refine (callsIn_wide (n:=8)).1 ?_
 refine callsIn_of_wp_marks Tryd.func65 rfl trivial ?_ rfl
 simp only [Tryd.ntmps65,List.size_toArray,List.length_cons,List.length_nil,Nat.reduceAdd,Nat.reduceSub,Array.replicate_succ,Array.replicate_zero,List.push_toArray,List.append_toArray,List.nil_append,List.cons_append]
 gi_wp2_with (refine ⟨trivial,?_⟩;gi_at_call 100;refine (all_in Fence.wide _ trivial rfl _ _).mono ?_;rintro e w' ⟨rfl,rfl⟩)
 obtain ⟨w2,hw2⟩:∃ w2,w2=((w.alloc (.cells #[] 37)).alloc (.cells #[.slice (some ⟨w.heap.size,0,none⟩) 0 0] 23)).alloc (.cells #[.pointer (some ⟨Fb,0,none⟩)] 67):=⟨_,rfl⟩
 have bT:=(Boxed.new (w.alloc (.cells #[] 37)) 23 (.slice (some ⟨w.heap.size,0,none⟩) 0 0)).alloc (.cells #[.pointer (some ⟨Fb,0,none⟩)] 67)
 have bF:=Boxed.new ((w.alloc (.cells #[] 37)).alloc (.cells #[.slice (some ⟨w.heap.size,0,none⟩) 0 0] 23)) 67 (.pointer (some ⟨Fb,0,none⟩))
 simp only [World.size_alloc] at bT bF
 have hz2:w2.heap.size=w.heap.size+3:=by rw [hw2];simp
 have hB2:Below w.heap.size w w2:=by rw [hw2];exact ((((Below.refl _ w).alloc (Nat.le_refl _) _).alloc (by simp) _).alloc (by simp;omega) _)
 have hR2:Kd.R k37 37 w2 w.heap.size (fun _=>True) (.slice (some ⟨w.heap.size,0,none⟩) 0 0) (rowsOf h ([]:List (YE A))):=by
  rw [hw2]
  refine Kd.R_alloc (Kd.R_alloc ⟨fun _ _=>trivial,[],?_,Reps.none _ _⟩ _) _
  have h0:(w.alloc (.cells #[] 37)).ownsRow w.heap.size 37 3 (.slice (some ⟨w.heap.size,0,none⟩) 0 0) 0 []:=by
   simpa using World.ownsRow_lit (base:=w.heap.size) (e:=37) (size:=3) w #[] 0 (Nat.le_refl _) (by simp [maxLen]) (by simp)
  exact h0
 rw [←hw2] at bT bF ⊢
 clear hw2
 refine range_all (w0:=w) rfl rfl (gf:=117) (lb:=#[.pointer (some ⟨w.heap.size+1+1,0,none⟩)]) rfl trivial (enters_of Tryd.func117 (by kernel_rfl) rfl)
  (encs:=fun x:YE A=>#[.pointer (pa (A x.val)),.int .i64 x.dep]) (fun _=>by rfl) 60000 es (by omega)
  (fun l J W hSW hJ hY hJ0=>(all1_in Fence.wide rfl trivial trivial trivial trivial rfl l 60000 W.heap.size _ m hG hnd hroots hA h36 J hJ hY (Nat.le_refl _) es hes (w.heap.size+1+1) W (hSW.kb _ _ _ (Or.inr (Or.inr (Or.inr (Or.inr rfl)))) bF) (hB2.trans hSW.below) (Nat.le_refl _) hJ0).mono fun e W' hp=>⟨hp.1,hp.2.1⟩)
  (RowsI h w (w.heap.size+1)) (rowsI_stb (by omega)) ⟨⟨_,bT,hR2⟩,hB2⟩
  (fun x=>{ tmps:=#[.pointer (some ⟨Fb,0,none⟩),undef,.slice none 0 0,.pointer (some ⟨w.heap.size+1,0,none⟩),.pointer (pa (A x.val)),.int .i64 x.dep,.slice (some ⟨w.heap.size,0,none⟩) 0 0,.pointer (some ⟨Fb,0,none⟩),.func (.func 117) #[] #[.pointer (some ⟨w.heap.size+1+1,0,none⟩)],.pointer (pa (A x.val)),.int .i64 x.dep,undef,undef,undef,undef,undef,undef,undef,undef,undef,undef,undef,undef,undef,undef],defers:=[] }) ?assign ?body ?done
 case assign =>
  intro l x W K hK
  gi_wp2
  exact hK
 case body =>
  rintro l pre x V ⟨⟨v,hbox,hR⟩,hBw⟩ hBV hlt
  obtain ⟨c,hc⟩:=Option.ne_none_iff_exists'.1 x.ok
  have MV:=m.below hBV
  have q0:=MV.c0 hc
  have q1:=MV.c1 hc
  have qb:=hbox.cell
  have qf:=hbox.frozen
  have hlen:(rowsOf h pre).length < 60000:=by unfold rowsOf;rw [List.length_map];exact hlt
  rw [hc,pa_some]
  refine wpIn_block ?_
  refine startR_ (n:=14) (S:=fun w'=>w'.cell? ⟨w.heap.size+1,0,none⟩=some v∧w'.cell? ⟨c,0,none⟩=some (.int .i64 (x.val:Int))∧w'.cell? ⟨c,1,none⟩=some (.string (h x.val).t)) (ds:=[12,13]) #[false,false,false,false,false,false,false,false,false,false,false,false,false,false] letsOut_goes (noDefer_of (by kernel_rfl)) (by kernel_rfl) rfl rfl ⟨qb,q0,q1⟩ (fun hHeld=>?_)
  clear q0 q1
  refine take_ (i:=0) (N:=some 11) (v:=?_) (a':=?_) #[true,false,false,false,false,false,false,false,false,false,false,false,false,false] rfl rfl (by kernel_rfl) (fun _ _ _ h=>h) (Or.inl ⟨by rfl,?_⟩) hHeld ?_ ?_
  rotate_left
  ·rintro w' ⟨s0,s1,s2⟩
   go_simp
   with_reducible rfl
  rotate_left
  ·simp only [Act.put,List.setIfInBounds_toArray,List.set_cons_zero,List.set_cons_succ,i64_w,i32_w]
   rfl
  refine pure_ (i:=1) (N:=some 12) (v:=?_) (a':=?_) #[true,true,false,false,false,false,false,false,false,false,false,false,false,false] rfl rfl (by kernel_rfl) (fun _ _ _ h=>h) (Or.inl ⟨by rfl,?_⟩) ?_ ?_
  rotate_left
  ·intro w'
   go_simp
   with_reducible rfl
  rotate_left
  ·simp only [Act.put,List.setIfInBounds_toArray,List.set_cons_zero,List.set_cons_succ,i64_w,i32_w]
   rfl
  refine pure_ (i:=2) (N:=some 13) (v:=?_) (a':=?_) #[true,true,true,false,false,false,false,false,false,false,false,false,false,false] rfl rfl (by kernel_rfl) (fun _ _ _ h=>h) (Or.inl ⟨by rfl,?_⟩) ?_ ?_
  rotate_left
  ·intro w'
   go_simp
   with_reducible rfl
  rotate_left
  ·simp only [Act.put,List.setIfInBounds_toArray,List.set_cons_zero,List.set_cons_succ,i64_w,i32_w]
   rfl
  refine pure_ (i:=3) (N:=some 14) (v:=?_) (a':=?_) #[true,true,true,true,false,false,false,false,false,false,false,false,false,false] rfl rfl (by kernel_rfl) (fun _ _ _ h=>h) (Or.inl ⟨by rfl,?_⟩) ?_ ?_
  rotate_left
  ·intro w'
   go_simp
   with_reducible rfl
  rotate_left
  ·simp only [Act.put,List.setIfInBounds_toArray,List.set_cons_zero,List.set_cons_succ,i64_w,i32_w]
   rfl
  refine take_ (i:=4) (N:=some 15) (v:=?_) (a':=?_) #[true,true,true,true,true,false,false,false,false,false,false,false,false,false] rfl rfl (by kernel_rfl) (fun _ _ _ h=>h) (Or.inl ⟨by rfl,?_⟩) hHeld ?_ ?_
  rotate_left
  ·rintro w' ⟨s0,s1,s2⟩
   go_simp
   with_reducible rfl
  rotate_left
  ·simp only [Act.put,List.setIfInBounds_toArray,List.set_cons_zero,List.set_cons_succ,i64_w,i32_w]
   rfl
  refine pure_ (i:=5) (N:=some 16) (v:=?_) (a':=?_) #[true,true,true,true,true,true,false,false,false,false,false,false,false,false] rfl rfl (by kernel_rfl) (fun _ _ _ h=>h) (Or.inl ⟨by rfl,?_⟩) ?_ ?_
  rotate_left
  ·intro w'
   go_simp
   with_reducible rfl
  rotate_left
  ·simp only [Act.put,List.setIfInBounds_toArray,List.set_cons_zero,List.set_cons_succ,i64_w,i32_w]
   rfl
  refine pure_ (i:=6) (N:=some 17) (v:=?_) (a':=?_) #[true,true,true,true,true,true,true,false,false,false,false,false,false,false] rfl rfl (by kernel_rfl) (fun _ _ _ h=>h) (Or.inl ⟨by rfl,?_⟩) ?_ ?_
  rotate_left
  ·intro w'
   go_simp
   with_reducible rfl
  rotate_left
  ·simp only [Act.put,List.setIfInBounds_toArray,List.set_cons_zero,List.set_cons_succ,i64_w,i32_w]
   rfl
  refine pure_ (i:=7) (N:=some 18) (v:=?_) (a':=?_) #[true,true,true,true,true,true,true,true,false,false,false,false,false,false] rfl rfl (by kernel_rfl) (fun _ _ _ h=>h) (Or.inl ⟨by rfl,?_⟩) ?_ ?_
  rotate_left
  ·intro w'
   go_simp
   with_reducible rfl
  rotate_left
  ·simp only [Act.put,List.setIfInBounds_toArray,List.set_cons_zero,List.set_cons_succ,i64_w,i32_w]
   rfl
  refine pure_ (i:=8) (N:=some 19) (v:=?_) (a':=?_) #[true,true,true,true,true,true,true,true,true,false,false,false,false,false] rfl rfl (by kernel_rfl) (fun _ _ _ h=>h) (Or.inl ⟨by rfl,?_⟩) ?_ ?_
  rotate_left
  ·intro w'
   go_simp
   with_reducible rfl
  rotate_left
  ·simp only [Act.put,List.setIfInBounds_toArray,List.set_cons_zero,List.set_cons_succ,i64_w,i32_w]
   rfl
  refine take_ (i:=9) (N:=some 20) (v:=?_) (a':=?_) #[true,true,true,true,true,true,true,true,true,true,false,false,false,false] rfl rfl (by kernel_rfl) (fun _ _ _ h=>h) (Or.inl ⟨by rfl,?_⟩) hHeld ?_ ?_
  rotate_left
  ·rintro w' ⟨s0,s1,s2⟩
   go_simp
   with_reducible rfl
  rotate_left
  ·simp only [Act.put,List.setIfInBounds_toArray,List.set_cons_zero,List.set_cons_succ,i64_w,i32_w]
   rfl
  refine pure_ (i:=10) (N:=some 21) (v:=?_) (a':=?_) #[true,true,true,true,true,true,true,true,true,true,true,false,false,false] rfl rfl (by kernel_rfl) (fun _ _ _ h=>h) (Or.inl ⟨by rfl,?_⟩) ?_ ?_
  rotate_left
  ·intro w'
   go_simp
   with_reducible rfl
  rotate_left
  ·simp only [Act.put,List.setIfInBounds_toArray,List.set_cons_zero,List.set_cons_succ,i64_w,i32_w]
   rfl
  refine one_ (i:=11) (N:=some 22) #[true,true,true,true,true,true,true,true,true,true,true,true,false,false] rfl rfl (by kernel_rfl) (by decide) (fun K hK=>?_)
  refine event_step (v:=.slice (some ⟨V.heap.size,0,none⟩) 1 1) (w1:=V.drew.alloc (.cells #[.int .i64 (x.val:Int),.int .i64 x.dep,.string (h x.val).t] 37)) (by rfl) (by first|(go_simp;done)|(go_simp;rfl)) ?_
  refine hK.out _ _ ⟨cell_alloc_f _ hHeld.1,cell_alloc_f _ hHeld.2.1,cell_alloc_f _ hHeld.2.2⟩ (fun _=>?_)
  clear hK K
  refine no_ 22 ?_
  refine last_ (i:=12) (N:=some 23) #[true,true,true,true,true,true,true,true,true,true,true,true,true,false] rfl rfl (by kernel_rfl) (by decide) (fun K hK=>?_)
  refine step_of_list letsOut_goes ?_
  have hBd:Below w.heap.size w V.drew:=hBw.drew
  refine Kd.R_append k37 (W:=V.drew) (w0:=w) w.heap.size rfl (.tmp 11) (.tmp 22) 23 37 (.agg #[(.int .i64 0),(.int .i64 0),(.string ⟨#[]⟩)]) 32 rfl Tryd.underlying23 info37 rfl (by decide) (by omega) v (rowsOf h pre) ⟨(x.val:Int),x.dep,(h x.val).t⟩ [.int .i64 (x.val:Int),.int .i64 x.dep,.string (h x.val).t] (fun _=>True) (fun _=>False) rfl rfl (k37_mkM _ _ _ ⟨(x.val:Int),x.dep,(h x.val).t⟩) (fun _ hk=>hk.elim) (fun _ _=>trivial) (Kd.R_drew hR) hBd hBd.size (by omega) ?_
  intro v1 w3 hR3 hB3 hg3 hat3
  refine hK.out _ _ ?_
  clear hK K
  have hb3:Boxed w3 (w.heap.size+1) 23 v:=Boxed.kept (W:=V.drew) hbox hg3 (Kd.R_ne hR (show V.heap[w.heap.size+1]?=some (.cells #[v] 23 (0,0)) from hbox) (by decide))
  obtain ⟨A3,k3,rfl⟩:=Kd.R_slice hR3
  have s1:=hb3.cell
  have s2:=hb3.frozen
  refine no_ 23 ?_
  refine last_ (i:=13) (N:=none) #[true,true,true,true,true,true,true,true,true,true,true,true,true,true] rfl rfl (by kernel_rfl) (by decide) (fun K hK=>?_)
  refine step_skip (w1:=w3.setCell ⟨w.heap.size+1,0,none⟩ (.slice A3 (rowsOf h pre++[(⟨(x.val:Int),x.dep,(h x.val).t⟩:S37)]).length k3)) (by rfl) (by first|(go_simp;done)|(go_simp;rfl)) ?_
  refine hK.out _ _ ?_
  clear hK K
  refine done_ (by kernel_rfl) ?_
  have hro:rowsOf h (pre++[x])=rowsOf h pre++[(⟨(x.val:Int),x.dep,(h x.val).t⟩:S37)]:=by unfold rowsOf;rw [List.map_append];rfl
  refine ⟨⟨⟨_,hb3.set _,?_⟩,hB3.setCell (p:=⟨w.heap.size+1,0,none⟩) (by simp) _⟩,stp_app hR hbox hg3 hBw.size (by simp) _⟩
  rw [hro]
  exact Kd.R_mono (Kd.R_far (p:=⟨w.heap.size+1,0,none⟩) (Kd.R_types hR3 hb3 (by decide)) (fun k hk=>hk.2) _) (fun _ _=>trivial)
 case done =>
  rintro D V hD ⟨⟨v,hbox,hR⟩,hBw⟩ hK
  have cT:=hbox.cell
  have HR:=a_ hR
  have HB:=a_ hBw
  clear hbox hR hBw
  gi_wp2
  refine ⟨by simp,.inl ⟨_,_,rfl,run_takeDeferred hK,?_⟩⟩
  refine ⟨_,results_tmp rfl _ _ _,_,rfl,?_,HB.out.trans (belowK_b (w:=w) (Nat.le_refl _) V D _ _ (by omega) hK rfl rfl)⟩
  rw [←hfl]
  refine Kd.R_mono (Kd.R_step (Kd.R_bound HR.out) fun k hk hlt=>World.putObj_heap_other ?_) (fun _ _=>trivial)
  rintro rfl
  obtain ⟨_,_,_,q,hq,cells,h3⟩:=hk
  rw [h3] at hK
  cases hK
end Go.Proofs.YtlkheeegkifblaaDoor.P
namespace Go.Proofs.YtlkheeegkifblaaDoor.P
open Go.RowKit Go.Proofs.YtlkheeegkifblaaDoorW.PrintWords Go.Proofs.YtlkheeegkifblaaDoorW.PrintLast Go.Proofs.YtlkheeegkifblaaDoorW.PrintMore Go.Proofs.YtlkheeegkifblaaDoor.PL Go.Proofs.YtlkheeegkifblaaDoor.FP
theorem made_num {a:Int} (h:madeB a=true):∃ i:Nat,a=(i:Int)∧4≤i∧i < 37:=by
 obtain ⟨h0,h1⟩:=made_small a h
 obtain ⟨i,rfl⟩:=Int.eq_ofNat_of_zero_le h0
 refine ⟨i,rfl,?_,by omega⟩
 rcases Nat.lt_or_ge i 4 with g|g
 ·exfalso
  have:i=0∨i=1∨i=2∨i=3:=by omega
  rcases this with rfl|rfl|rfl|rfl <;> exact absurd h (by decide)
 ·exact g
theorem apply_any {w:World} {n0 F:Nat} {A:Nat→Option Nat} {h:Nat→Nd} {G:Fo} (t:At w n0 F A h G) (hn0:n0≤w.heap.size) (kd id up at_:Int) (s:ByteArray) (hk:kd=1∨kd=2∨kd=3) (hm:madeB id=true) :
  Calls Tryd.prog 64 #[.pointer (some ⟨F,0,none⟩),ChV kd id up at_ s] w (ApplyPost w n0 F (doF G kd id up at_ s)):=by
 obtain ⟨i,rfl,h4,h37⟩:=made_num hm
 have hi0:i≠0:=by omega
 have hit:i∉G.tops:=by rw [t.tops];simp;omega
 have hcase:fndF G (i:Int)=0∨fndF G (i:Int)=i:=by unfold fndF;split <;> simp
 rcases hk with rfl|rfl|rfl
 ·unfold ChV doF
  rw [if_pos rfl,if_neg (by decide),if_pos rfl]
  by_cases h1:fndF G (i:Int)=0
  ·rw [if_pos h1]
   exact apply_make_yes t hn0 i up at_ s h1 hi0 h37
  ·rw [if_neg h1]
   exact apply_make_no t hn0 _ up at_ s h1
 ·unfold ChV doF
  rw [if_neg (by decide),if_pos rfl,if_pos rfl]
  by_cases h1:fndF G (i:Int)=0
  ·rw [if_pos h1];exact apply_text_no t hn0 _ s h1
  ·rw [if_neg h1];exact apply_text_yes t hn0 _ s _ rfl h1
 ·unfold ChV doF
  rw [if_neg (by decide),if_neg (by decide),if_neg (by decide),if_neg (by decide)]
  by_cases h1:fndF G (i:Int)=0
  ·rw [if_pos h1];exact apply_move_no t hn0 _ up at_ (fun g=>g.1 h1)
  ·rw [if_neg h1]
   have h2:=hcase.resolve_left h1
   by_cases hu:under (fndF G (i:Int)) (fndF G up) G
   ·rw [if_pos hu];exact apply_move_no t hn0 _ up at_ (fun g=>g.2 hu)
   ·rw [if_neg hu]
    rw [h2] at hu ⊢
    exact apply_move_yes t hn0 i up at_ h2 hi0 hit hu
theorem At.len {w:World} {n0 F:Nat} {A:Nat→Option Nat} {h:Nat→Nd} {G:Fo} (t:At w n0 F A h G):G.ids.length≤36:=by
 have:=nodup_len 37 (0::G.ids) (List.nodup_cons.2 ⟨fun g=>t.rep.ne0 0 g rfl,t.nd⟩) fun x hx=>by
  rcases List.mem_cons.1 hx with rfl|hx
  ·omega
  ·obtain ⟨b,hb⟩:=t.ok hx;exact t.m.rng x b hb
 simp only [List.length_cons] at this
 omega
def impl_OpDo.f (k:Nat) (l0:List S37) (a0 a1 a2 a3:Int) (a4:ByteArray):Option (List S37) :=
 (impl_changeOf.f k a0 a1 a2 a3 a4).bind fun ok=>some (if ok=true then (if treeB l0=true then (doF (toFo l0) a0 a1 a2 a3 a4).fl 0 else []) else [])
theorem impl_OpDo.mono (l0:List S37) (a0 a1 a2 a3:Int) (a4:ByteArray) (k:Nat):LeO (impl_OpDo.f k l0 a0 a1 a2 a3 a4) (impl_OpDo.f (k+1) l0 a0 a1 a2 a3 a4):=by
 unfold impl_OpDo.f
 exact LeO.bind (impl_changeOf.mono _ _ _ _ _ _) (fun _=>LeO.refl _)
theorem changeOf_yes {k:Nat} {a0 a1 a2 a3:Int} {a4:ByteArray} (h:impl_changeOf.f k a0 a1 a2 a3 a4=some true):(a0=1∨a0=2∨a0=3)∧madeB a1=true:=by
 unfold impl_changeOf.f at h
 rw [isMade_f] at h
 simp only [Option.bind_some] at h
 cases hm:madeB a1 with
 | false=>rw [hm] at h;simp at h
 | true =>
  refine ⟨?_,rfl⟩
  rw [hm,if_pos rfl] at h
  by_cases h1:a0=1
  ·exact Or.inl h1
  ·by_cases h2:a0=2
   ·exact Or.inr (Or.inl h2)
   ·by_cases h3:a0=3
    ·exact Or.inr (Or.inr h3)
    ·rw [if_neg h1,if_neg h2,if_neg h3] at h;simp at h
def OpDoPost (w:World) (r:List S37) (e:Ending) (w':World):Prop:=∃ v0_:Value,e=.returned v0_∧Kd.R k37 37 w' w.heap.size (fun _=>True) v0_ r∧Below w.heap.size w w'
theorem opDo_notree (k:Nat) (A0:Option Addr) (c0:Nat) (l0:List S37) (a0 a1 a2 a3:Int) (a4:ByteArray) (ok:Bool) (w:World) (hr0:Kd.C k37 w A0 l0.length l0) (hc0:l0.length≤c0) (hok:impl_changeOf.f k a0 a1 a2 a3 a4=some ok) (ht:treeB l0=false) (hG:Glob w) :
  Calls Tryd.prog 23 #[.slice A0 l0.length c0,.agg #[.int .i64 a0,.int .i64 a1,.int .i64 a2,.int .i64 a3,.string a4]] w (OpDoPost w []):=by
 have HR:=a_ hr0
 have HC:=a_ hc0
 have HO:=a_ hok
 have HT:=a_ ht
 have HG:=a_ hG
 have hu:=Tryd.underlying27
 clear hr0 hc0 hok ht hG
 go_enter Tryd.func23,Tryd.ntmps23
 go_wp2_with (first
  | (go_at_call 63;(with_reducible refine (impl_changeOf.calls k a0 a1 a2 a3 a4 ok _ HO.out (HG.out.below (below_box0 w _))).mono ?_);rintro en W1 ⟨v1,rfl,_,hb⟩;have HB1:=a_ ((below_box0 w _).trans (hb.mono (by simp)));clear hb)
  | (go_at_call 60;(with_reducible refine (plant_no A0 c0 l0 _ (Kd.C_below HR.out HB1.out) HC.out HT.out (HG.out.below HB1.out)).mono ?_);rintro en W2 ⟨rfl,hb⟩;have HB2:=a_ (bS_ HB1.out hb);clear hb))
 cases ok
 all_goals go_wp2
 all_goals go_ret
 all_goals exact ⟨_,rfl,Kd.R_nil _ _ _ _ _,HB2.out⟩
theorem opDo_noop (k:Nat) (A0:Option Addr) (c0:Nat) (l0:List S37) (a0 a1 a2 a3:Int) (a4:ByteArray) (w:World) (hr0:Kd.C k37 w A0 l0.length l0) (hc0:l0.length≤c0) (hok:impl_changeOf.f k a0 a1 a2 a3 a4=some false) (ht:treeB l0=true) (hG:Glob w) :
  Calls Tryd.prog 23 #[.slice A0 l0.length c0,.agg #[.int .i64 a0,.int .i64 a1,.int .i64 a2,.int .i64 a3,.string a4]] w (OpDoPost w []):=by
 have HR:=a_ hr0
 have HC:=a_ hc0
 have HO:=a_ hok
 have HT:=a_ ht
 have HG:=a_ hG
 have hu:=Tryd.underlying27
 clear hr0 hc0 hok ht hG
 go_enter Tryd.func23,Tryd.ntmps23
 go_wp2_with (first
  | (go_at_call 63;(with_reducible refine (impl_changeOf.calls k a0 a1 a2 a3 a4 false _ HO.out (HG.out.below (below_box0 w _))).mono ?_);rintro en W1 ⟨v1,rfl,_,hb⟩;have HB1:=a_ ((below_box0 w _).trans (hb.mono (by simp)));clear hb)
  | (go_at_call 60;(with_reducible refine (plant_yes A0 c0 l0 _ (Kd.C_below HR.out HB1.out) HC.out HT.out (HG.out.below HB1.out)).mono ?_);rintro en W2 ⟨Fb,G,A,h,rfl,_,_,_,_,_,_,hb⟩;have HB2:=a_ (bS_ HB1.out hb);clear hb))
 go_ret
 exact ⟨_,rfl,Kd.R_nil _ _ _ _ _,HB2.out⟩
theorem opDo_yes (k:Nat) (A0:Option Addr) (c0:Nat) (l0:List S37) (a0 a1 a2 a3:Int) (a4:ByteArray) (w:World) (hr0:Kd.C k37 w A0 l0.length l0) (hc0:l0.length≤c0) (hok:impl_changeOf.f k a0 a1 a2 a3 a4=some true) (ht:treeB l0=true) (hG:Glob w) :
  Calls Tryd.prog 23 #[.slice A0 l0.length c0,.agg #[.int .i64 a0,.int .i64 a1,.int .i64 a2,.int .i64 a3,.string a4]] w (OpDoPost w ((doF (toFo l0) a0 a1 a2 a3 a4).fl 0)):=by
 have HR:=a_ hr0
 have HC:=a_ hc0
 have HO:=a_ hok
 have HT:=a_ ht
 have HG:=a_ hG
 have HY:=a_ (changeOf_yes hok)
 have hu:=Tryd.underlying27
 clear hr0 hc0 hok ht hG
 go_enter Tryd.func23,Tryd.ntmps23
 go_wp2_with (first
  | (go_at_call 63;(with_reducible refine (impl_changeOf.calls k a0 a1 a2 a3 a4 true _ HO.out (HG.out.below (below_box0 w _))).mono ?_);rintro en W1 ⟨v1,rfl,hv,hb⟩;obtain rfl:=hv rfl;have HB1:=a_ ((below_box0 w _).trans (hb.mono (by simp)));clear hb hv)
  | (go_at_call 60;(with_reducible refine (plant_yes A0 c0 l0 _ (Kd.C_below HR.out HB1.out) HC.out HT.out (HG.out.below HB1.out)).mono ?_);rintro en W2 ⟨Fb,G,A,h,rfl,p1,p2,p3,p4,p5,p6,hb⟩;have HB2:=a_ (bS_ HB1.out hb);have HAT:=a_ (show At W2 W1.heap.size Fb A h G from ⟨p1,p2,p3,p4,p5⟩);have HTO:=a_ (toFo_of HT.out p6);have HS:=a_ hb.size;clear hb p1 p2 p3 p4 p5 p6)
  | (go_at_call 64;(with_reducible refine (apply_any HAT.out HS.out a0 a1 a2 a3 a4 HY.out.1 HY.out.2).mono ?_);rintro en W3 ⟨⟨v3,rfl⟩,⟨A3,h3,t3⟩,hb⟩;have HB3:=a_ (HB2.out.trans (hb.mono HB1.out.size));have HT3:=a_ t3;clear hb t3)
  | (go_at_call 65;(with_reducible refine (rows_any HT3.out.m HT3.out.rep HT3.out.nd HT3.out.tops (fun x hx=>(HT3.out.dom x).2 hx) HT3.out.len).mono ?_);rintro en W4 ⟨v4,rfl,ho,hb⟩;have HB4:=a_ (bS_ HB3.out hb);have HO4:=a_ (Kd.R_lower ho HB3.out.size);clear hb ho))
 go_ret
 rw [HTO.out]
 exact ⟨_,rfl,HO4.out,HB4.out⟩
theorem impl_OpDo.calls (k:Nat) (A0:Option Addr) (c0:Nat) (l0:List S37) (a0 a1 a2 a3:Int) (a4:ByteArray) (r:List S37) (w:World) (hr0:Kd.C k37 w A0 l0.length l0) (hc0:l0.length≤c0) (h:impl_OpDo.f k l0 a0 a1 a2 a3 a4=some r) (hG:Glob w) :
  Calls Tryd.prog 23 #[.slice A0 l0.length c0,.agg #[.int .i64 a0,.int .i64 a1,.int .i64 a2,.int .i64 a3,.string a4]] w fun e w'=>∃ v0_:Value,e=.returned v0_∧Kd.R k37 37 w' w.heap.size (fun _=>True) v0_ r∧Below w.heap.size w w':=by
 unfold impl_OpDo.f at h
 obtain ⟨ok,hok,h⟩:=Option.bind_eq_some_iff.1 h
 cases ht:treeB l0 with
 | false =>
  have hr:r=[]:=by rw [ht] at h;cases ok <;> simpa using h.symm
  subst hr
  exact opDo_notree k A0 c0 l0 a0 a1 a2 a3 a4 ok w hr0 hc0 hok ht hG
 | true =>
  rw [ht] at h
  cases ok with
  | false =>
   have hr:r=[]:=by simpa using h.symm
   subst hr
   exact opDo_noop k A0 c0 l0 a0 a1 a2 a3 a4 w hr0 hc0 hok ht hG
  | true =>
   simp only [if_true,Option.some.injEq] at h
   subst h
   exact opDo_yes k A0 c0 l0 a0 a1 a2 a3 a4 w hr0 hc0 hok ht hG
theorem At.ahead {w:World} {n0 F:Nat} {A:Nat→Option Nat} {h:Nat→Nd} {G:Fo} (t:At w n0 F A h G) {i b:Nat} (hi:A i=some b) (hp:FP.par i 0 G≠0) :
  Calls Tryd.prog 76 #[.pointer (some ⟨b,0,none⟩)] w fun e W'=>e=.returned (.pointer (pa (A (sibT i G))))∧Below w.heap.size w W':=by
 have hG:i∈G.ids:=(t.dom i).1 (by rw [hi];simp)
 have hit:=par_top h t.rep t.nd hG hp
 obtain ⟨u1,u2⟩:=reptop_up t.rep t.nd hG hit
 obtain ⟨r1,r2⟩:=reptop_sub t.rep t.nd u1
 obtain ⟨s1,s2⟩:=sibT_pv t.rep t.nd hG hit
 obtain ⟨bu,hbu⟩:=t.ok u1
 have hsA:∀ x∈(sub (h i).up G).ids,A x≠none:=fun x hx=>(t.dom x).2 (sub_ids _ hx)
 have hL:=nlist_of t.m r1 hsA
 rw [←r2] at hL
 rw [s1]
 exact ahead_any t.m hi hbu rfl (sub (h i).up G).tops (fun x hx=>hsA x (tops_ids hx)) hL
theorem At.sibOk {w:World} {n0 F:Nat} {A:Nat→Option Nat} {h:Nat→Nd} {G:Fo} (t:At w n0 F A h G) (i:Nat):sibT i G=0∨A (sibT i G)≠none:=(sibT_mem i G).imp id fun g=>(t.dom _).2 g
def aheadR (l:List S37) (id:Int):Int×Bool :=
 if treeB l=true then (if fndF (toFo l) id=0 then (0,false) else if FP.par (fndF (toFo l) id) 0 (toFo l)=0 then (0,false) else ((sibT (fndF (toFo l) id) (toFo l):Int),true)) else (0,false)
def impl_TreeAhead.f (k:Nat) (l0:List S37) (a1:Int):Option (Int×Bool):=some (aheadR l0 a1)
theorem impl_TreeAhead.mono (l0:List S37) (a1:Int) (k:Nat):LeO (impl_TreeAhead.f k l0 a1) (impl_TreeAhead.f (k+1) l0 a1):=LeO.refl _
theorem treeAhead_any (A0:Option Addr) (c0:Nat) (l0:List S37) (id:Int) (w:World) (hr0:Kd.C k37 w A0 l0.length l0) (hc0:l0.length≤c0) (hG:Glob w) :
  Calls Tryd.prog 35 #[.slice A0 l0.length c0,.int .i64 id] w (UpPost w (aheadR l0 id)):=by
 unfold aheadR
 cases ht:treeB l0 with
 | false =>
  have HP:=a_ (plant_no A0 c0 l0 w hr0 hc0 ht hG)
  rw [if_neg (by decide)]
  clear hr0 hc0 ht hG
  go_enter Tryd.func35,Tryd.ntmps35
  go_wp2_with (go_at_call 60;(with_reducible refine (HP.out).mono ?_);clear HP;rintro en W1 ⟨rfl,hb⟩;have HB1:=a_ hb;clear hb)
  go_ret2
  exact ⟨rfl,HB1.out⟩
 | true =>
  have HP:=a_ (plant_at A0 c0 l0 w hr0 hc0 ht hG)
  rw [if_pos rfl]
  clear hr0 hc0 ht hG
  by_cases h0:fndF (toFo l0) id=0
  ·rw [if_pos h0]
   have H0:=a_ h0
   clear h0
   go_enter Tryd.func35,Tryd.ntmps35
   go_wp2_with (first
    | (go_at_call 60;(with_reducible refine (HP.out).mono ?_);clear HP;rintro en W1 ⟨Fb,A,h,rfl,hat,hb⟩;have HB1:=a_ hb;have HT:=a_ hat;clear hb hat)
    | (go_at_call 61;(with_reducible refine (find_any HT.out.m id).mono ?_);rw [HT.out.lost H0.out,pa_none];rintro en W2 ⟨rfl,rfl⟩))
   go_ret2
   exact ⟨rfl,HB1.out⟩
  ·rw [if_neg h0]
   obtain ⟨i,hi⟩:∃ i,i=fndF (toFo l0) id:=⟨_,rfl⟩
   have hmem:i∈(toFo l0).ids:=by rw [hi];exact (fndF_mem h0).1
   have H0:=a_ h0
   have HI:=a_ hi
   have HM:=a_ hmem
   rw [←hi]
   clear h0 hi hmem
   by_cases h1:FP.par i 0 (toFo l0)=0
   ·rw [if_pos h1]
    have H1:=a_ h1
    clear h1
    go_enter Tryd.func35,Tryd.ntmps35
    go_wp2_with (first
     | (go_at_call 60;(with_reducible refine (HP.out).mono ?_);clear HP;rintro en W1 ⟨Fb,A,h,rfl,hat,hb⟩;have HB1:=a_ hb;have HT:=a_ hat;obtain ⟨b,hb1,hb2⟩:=hat.found H0.out;rw [←HI.out] at hb2;have F1:=a_ hb1;have c2:=hat.m.c2 hb2;rw [hat.par HM.out,H1.out,hat.m.z,pa_none] at c2;clear hb hat hb1 hb2)
     | (go_at_call 61;(with_reducible refine (find_any HT.out.m id).mono ?_);rw [F1.out,pa_some];rintro en W2 ⟨rfl,rfl⟩))
    go_ret2
    exact ⟨rfl,HB1.out⟩
   ·rw [if_neg h1]
    have H1:=a_ h1
    clear h1
    go_enter Tryd.func35,Tryd.ntmps35
    go_wp2_with (first
     | (go_at_call 60;(with_reducible refine (HP.out).mono ?_);clear HP;rintro en W1 ⟨Fb,A,h,rfl,hat,hb⟩;have HB1:=a_ hb;have HT:=a_ hat;obtain ⟨b,hb1,hb2⟩:=hat.found H0.out;rw [←HI.out] at hb2;have F1:=a_ hb1;have F2:=a_ hb2;have c2:=hat.m.c2 hb2;rw [hat.par HM.out] at c2;obtain ⟨bu,hbu⟩:=Option.ne_none_iff_exists'.1 ((hat.parOk HM.out).resolve_left H1.out);rw [hbu,pa_some] at c2;clear hb hat hb1 hb2 hbu)
     | (go_at_call 61;(with_reducible refine (find_any HT.out.m id).mono ?_);rw [F1.out,pa_some];rintro en W2 ⟨rfl,rfl⟩)
     | (go_at_call 76;(with_reducible refine (HT.out.ahead F2.out H1.out).mono ?_);rintro en W3 ⟨rfl,hb⟩;have HB3:=a_ (bS_ HB1.out hb);have HT3:=a_ (HT.out.kept (HT.out.m.below hb));clear hb)
     | (go_at_call 75;(with_reducible refine (idOf_any HT3.out.m _ (HT3.out.sibOk i)).mono ?_);rintro en W4 ⟨rfl,rfl⟩))
    go_ret2
    exact ⟨rfl,HB3.out⟩
theorem impl_TreeAhead.calls (k:Nat) (A0:Option Addr) (c0:Nat) (l0:List S37) (a1:Int) (r1:Int) (r2:Bool) (w:World) (hr0:Kd.C k37 w A0 l0.length l0) (hc0:l0.length≤c0) (h:impl_TreeAhead.f k l0 a1=some (r1,r2)) (hG:Glob w) :
  Calls Tryd.prog 35 #[.slice A0 l0.length c0,.int .i64 a1] w fun e w'=>e=.returned (.tuple #[.int .i64 r1,.bool r2])∧Below w.heap.size w w':=by
 have:=treeAhead_any A0 c0 l0 a1 w hr0 hc0 hG
 rw [sj_ h] at this
 exact this
end Go.Proofs.YtlkheeegkifblaaDoor.P
namespace Go.Proofs.YtlkheeegkifblaaDoor.P
open Go.RowKit Go.Shelf Go.Proofs.YtlkheeegkifblaaDoorW.PrintWords Go.Proofs.YtlkheeegkifblaaDoorW.PrintLast Go.Proofs.YtlkheeegkifblaaDoorW.PrintMore Go.Proofs.YtlkheeegkifblaaDoor.PL Go.Proofs.YtlkheeegkifblaaDoor.FP
attribute [local go_sem] Oper.semAt_some

structure Bx (w:World) (gb:Nat) (W:World):Prop where
 blk:W.heap[gb]?=some (.cells #[.int .i64 0,.int .i64 0,.int .i64 0,.int .i64 0,.string (⟨#[]⟩:ByteArray)] 27 (0,0))
 ge:w.heap.size≤gb
 below:Below w.heap.size w W
theorem Bx.step {w W W':World} {gb:Nat} (b:Bx w gb W) (hb:Below W.heap.size W W'):Bx w gb W':=⟨blk_below b.blk hb,b.ge,bS_ b.below hb⟩
theorem Bx.drew {w W:World} {gb:Nat} (b:Bx w gb W):Bx w gb W.drew:=⟨b.blk,b.ge,b.below.drew⟩
theorem Bx.c0 {w W:World} {gb:Nat} (b:Bx w gb W):W.cell? ⟨gb,0,none⟩=some (.int .i64 0):=(bC_ b.blk 0).trans rfl
theorem Bx.c1 {w W:World} {gb:Nat} (b:Bx w gb W):W.cell? ⟨gb,1,none⟩=some (.int .i64 0):=(bC_ b.blk 1).trans rfl
theorem Bx.c2 {w W:World} {gb:Nat} (b:Bx w gb W):W.cell? ⟨gb,2,none⟩=some (.int .i64 0):=(bC_ b.blk 2).trans rfl
theorem Bx.c3 {w W:World} {gb:Nat} (b:Bx w gb W):W.cell? ⟨gb,3,none⟩=some (.int .i64 0):=(bC_ b.blk 3).trans rfl
theorem Bx.c4 {w W:World} {gb:Nat} (b:Bx w gb W):W.cell? ⟨gb,4,none⟩=some (.string (⟨#[]⟩:ByteArray)):=(bC_ b.blk 4).trans rfl
theorem Bx.f {w W:World} {gb:Nat} (b:Bx w gb W) (j:Nat):W.frozen? ⟨gb,j,none⟩=false:=bF_ b.blk j
theorem Bx.put {w W:World} {gb:Nat} (b:Bx w gb W) (k i u a:Int) (s:ByteArray):(((((W.setCell ⟨gb,0,none⟩ (.int .i64 k)).setCell ⟨gb,1,none⟩ (.int .i64 i)).setCell ⟨gb,2,none⟩ (.int .i64 u)).setCell ⟨gb,3,none⟩ (.int .i64 a)).setCell ⟨gb,4,none⟩ (.string s)).heap[gb]?=some (.cells #[.int .i64 k,.int .i64 i,.int .i64 u,.int .i64 a,.string s] 27 (0,0)):=by
 refine blk_put (cs:=#[.int .i64 k,.int .i64 i,.int .i64 u,.int .i64 a,.string (⟨#[]⟩:ByteArray)]) ?_ 4 _ rfl
 refine blk_put (cs:=#[.int .i64 k,.int .i64 i,.int .i64 u,.int .i64 0,.string (⟨#[]⟩:ByteArray)]) ?_ 3 _ rfl
 refine blk_put (cs:=#[.int .i64 k,.int .i64 i,.int .i64 0,.int .i64 0,.string (⟨#[]⟩:ByteArray)]) ?_ 2 _ rfl
 refine blk_put (cs:=#[.int .i64 k,.int .i64 0,.int .i64 0,.int .i64 0,.string (⟨#[]⟩:ByteArray)]) ?_ 1 _ rfl
 exact blk_put (cs:=#[.int .i64 0,.int .i64 0,.int .i64 0,.int .i64 0,.string (⟨#[]⟩:ByteArray)]) b.blk 0 _ rfl
theorem Bx.put_below {w W:World} {gb:Nat} (b:Bx w gb W) (k i u a:Int) (s:ByteArray):Below w.heap.size w (((((W.setCell ⟨gb,0,none⟩ (.int .i64 k)).setCell ⟨gb,1,none⟩ (.int .i64 i)).setCell ⟨gb,2,none⟩ (.int .i64 u)).setCell ⟨gb,3,none⟩ (.int .i64 a)).setCell ⟨gb,4,none⟩ (.string s)) :=
 ((((b.below.setCell (p:=⟨gb,0,none⟩) b.ge _).setCell (p:=⟨gb,1,none⟩) b.ge _).setCell (p:=⟨gb,2,none⟩) b.ge _).setCell (p:=⟨gb,3,none⟩) b.ge _).setCell (p:=⟨gb,4,none⟩) b.ge _
theorem moveTo_any {w:World} {n0 F:Nat} {A:Nat→Option Nat} {h:Nat→Nd} (m:Mem w n0 F A h) {i u a bi bu:Nat} (hi:A i=some bi) (hu:A u=some bu) (ha:a=0∨A a≠none) :
  Calls Tryd.prog 104 #[.pointer (some ⟨bi,0,none⟩),.pointer (some ⟨bu,0,none⟩),.pointer (pa (A a))] w fun e w'=>e=.returned (.agg #[.int .i64 3,.int .i64 (i:Int),.int .i64 (u:Int),.int .i64 (a:Int),.string (⟨#[]⟩:ByteArray)])∧Below w.heap.size w w':=by
 have hu27:=Tryd.underlying27
 have M:=a_ m
 have HI:=a_ hi
 have HU:=a_ hu
 have HA:=a_ ha
 clear m hi hu ha
 go_enter Tryd.func104,Tryd.ntmps104
 go_wp2_with ((with_reducible refine gD_ (N:=6) rfl ?_);refine bx_ 6 (#[.int .i64 0,.int .i64 0,.int .i64 0,.int .i64 0,.string (⟨#[]⟩:ByteArray)]) 27 ?_;intro gb hg W1 hbox hb;have X1:=a_ (Bx.mk hbox (by rw [hg];exact Nat.le_refl _) (hb));have hb1:=a_ hb;clear hbox hb hg;have M1:=a_ (M.out.below hb1.out);have q0:=M1.out.c0 HI.out;have q1:=M1.out.c0 HU.out;have za_0:=X1.out.c0;have ya_0:=X1.out.f 0;have za_1:=X1.out.c1;have ya_1:=X1.out.f 1;have za_2:=X1.out.c2;have ya_2:=X1.out.f 2;have za_3:=X1.out.c3;have ya_3:=X1.out.f 3;have za_4:=X1.out.c4;have ya_4:=X1.out.f 4)
 go_region_with (go_at_call 75;(with_reducible refine (idOf_any M1.out.drew a HA.out).mono ?_);rintro en W4 ⟨rfl,rfl⟩)
 all_goals go_wp2
 all_goals refine bodyPost_ret (results_cell_row rfl _ _ gb 27 #[.int .i64 3,.int .i64 (i:Int),.int .i64 (u:Int),.int .i64 (a:Int),.string (⟨#[]⟩:ByteArray)] (0,0) _ rfl (by (with_reducible repeat (first|refine bN_ ?_ _|refine bD_ ?_));exact X1.out.put _ _ _ _ _) hu27 rfl (by kernel_rfl)) rfl ?_
 all_goals exact ⟨rfl,(by (with_reducible repeat (first|apply pw_below_drewN|apply below_drew1));exact X1.out.put_below _ _ _ _ _)⟩
def LastI (w:World) (A:Nat→Option Nat) (pre:List (KA fun x=>A x≠none)) (W:World):Prop :=
 W.cell? ⟨w.heap.size,0,none⟩=some (.pointer (pa (A (lastN 0 (pre.map KA.val)))))∧W.frozen? ⟨w.heap.size,0,none⟩=false
theorem lastI_own (w:World) (A:Nat→Option Nat):Own (LastI w A):=fun s V W row hs hg hr=>⟨cell_kept hs.1 hg hr,(frozen_kept hs.1 hg hr).trans hs.2⟩
theorem lastKid_any {w:World} {n0 Fb:Nat} {A:Nat→Option Nat} {h:Nat→Nd} (m:Mem w n0 Fb A h)
  {u bu:Nat} (hu:A u=some bu) (xs:List Nat) (hxs:∀ x∈xs,A x≠none) (hL:NList A w.heap.size w (pa (A (h u).first)) xs) :
  Calls Tryd.prog 114 #[.pointer (some ⟨bu,0,none⟩)] w fun e W'=>e=.returned (.pointer (pa (A (lastN 0 xs))))∧Below w.heap.size w W':=by
 refine (callsIn_wide (n:=8)).1 ?_
 obtain ⟨ys,hys⟩:=attach_val (Q:=fun x=>A x≠none) hxs
 subst hys
 have HZ:=a_ m.z
 have c3:=m.c3 hu
 have HBU:=a_ (m.lt hu)
 have M:=a_ m
 clear hu m
 refine callsIn_of_wp_marks Tryd.func114 rfl trivial ?_ rfl
 simp only [Tryd.ntmps114,List.size_toArray,List.length_cons,List.length_nil,Nat.reduceAdd,Nat.reduceSub,Array.replicate_succ,Array.replicate_zero,List.push_toArray,List.append_toArray,List.nil_append,List.cons_append]
 gi_wp2_with (refine ⟨trivial,?_⟩;gi_at_call 77;refine (kids_in Fence.wide _ trivial rfl _ _).mono ?_;rintro e w' ⟨rfl,rfl⟩)
 have b1:=cell_new_f w (.pointer none) 70
 have b2:=cell_new_f (w.alloc (.cells #[.pointer none] 70)) (.pointer (some ⟨bu,0,none⟩)) 70
 simp only [World.size_alloc] at b2
 have hB0:Below w.heap.size w ((w.alloc (.cells #[.pointer none] 70)).alloc (.cells #[.pointer (some ⟨bu,0,none⟩)] 70)):=((Below.refl _ w).alloc (Nat.le_refl _) _).alloc (by simp) _
 refine wpIn_rangeFunc_ownF rfl (by omega) (gf:=105) (lb:=#[.pointer (some ⟨w.heap.size+1,0,none⟩)]) rfl trivial (enters_of Tryd.func105 (by kernel_rfl) rfl)
  (kids_stops Fence.wide 7 trivial rfl (by omega) (w.heap.size+1) w.heap.size bu _ A _ ys _ (by simp) (by simp;omega) (by simp;have:=HBU.out;omega) b2.1 (cell_alloc_f _ (cell_alloc_f _ c3)) (hL.below hB0)) belowK_t (belowK_b (by simp;omega)) (Below.refl _ _) (fun _=>by rfl)
  (fun pre W=>LastI w A pre W∧Below w.heap.size w W) (fun _ _ _=>False)
  (OwnFrom.and (Own.from (lastI_own w A) _) (ownFrom_below (Nat.le_refl _) (by simp;omega)))
  (fun _ _ _ _ _ h _ _=>h.elim)
  ⟨⟨by rw [show lastN 0 (([]:List (KA fun x=>A x≠none)).map KA.val)=0 from rfl,HZ.out];exact cell_alloc_f _ b1.1,frozen_alloc_f _ b1.1 b1.2⟩,hB0⟩
  (fun x=>{ tmps:=#[.pointer (some ⟨bu,0,none⟩),undef,.pointer none,.pointer (some ⟨w.heap.size,0,none⟩),.pointer (pa (A x.val)),.pointer (some ⟨bu,0,none⟩),.func (.func 105) #[] #[.pointer (some ⟨w.heap.size+1,0,none⟩)],.pointer (pa (A x.val)),undef,undef],defers:=[] }) ?assign ?body ?done ?stop
 case assign =>
  intro l x W K hK
  gi_wp2
  exact hK
 case body =>
  rintro l pre x W ⟨⟨hca,hfa⟩,hB⟩ _
  obtain ⟨c,hc⟩:=Option.ne_none_iff_exists'.1 x.ok
  have hbelow:Below w.heap.size W (W.setCell ⟨w.heap.size,0,none⟩ (.pointer (some ⟨c,0,none⟩))):=(Below.refl _ W).setCell (p:=⟨w.heap.size,0,none⟩) (Nat.le_refl _) _
  have HC:=a_ hc
  rw [hc,pa_some]
  clear hc
  gi_wp2
  refine ⟨KeepsOthers.setCell _ _ _,hbelow,⟨?_,?_⟩,hB.trans hbelow⟩
  ·rw [List.map_append,List.map_cons,List.map_nil,lastN_snoc,HC.out]
   exact World.cell?_setCell_same' _ _ _ (by rw [hca];rfl)
  ·rw [World.frozen?_setCell];exact hfa
 case done =>
  rintro D zs W hD rfl ⟨⟨hca,hfa⟩,hB⟩ hK
  gi_wp2
  refine ⟨by simp,.inl ⟨_,_,rfl,run_takeDeferred hK,?_⟩⟩
  refine ⟨_,results_tmp rfl _ _ _,?_,hB.trans (belowK_b (w:=w) (Nat.le_refl _) W D _ _ (by simp at hD;omega) hK rfl rfl)⟩
  rfl
 case stop =>
  rintro D c pre W hD hpre h
  exact h.elim
theorem At.lastKid {w:World} {n0 F:Nat} {A:Nat→Option Nat} {h:Nat→Nd} {G:Fo} (t:At w n0 F A h G) {u b:Nat} (hu:A u=some b) :
  Calls Tryd.prog 114 #[.pointer (some ⟨b,0,none⟩)] w fun e W'=>e=.returned (.pointer (pa (A (lastN 0 (sub u G).tops))))∧Below w.heap.size w W':=by
 have hG:u∈G.ids:=(t.dom u).1 (by rw [hu];simp)
 obtain ⟨r1,r2⟩:=reptop_sub t.rep t.nd hG
 have hsA:∀ x∈(sub u G).ids,A x≠none:=fun x hx=>(t.dom x).2 (sub_ids _ hx)
 have hL:=nlist_of t.m r1 hsA
 rw [←r2] at hL
 exact lastKid_any t.m hu (sub u G).tops (fun x hx=>hsA x (tops_ids hx)) hL
end Go.Proofs.YtlkheeegkifblaaDoor.P
namespace Go.Proofs.YtlkheeegkifblaaDoor.FP
open Go.Proofs.YtlkheeegkifblaaDoor.P
def dep (x:Nat) (d:Nat):Fo→Nat
 | .nil=>d
 | .nd j _ k n=>if j=x then d else if x∈k.ids then dep x (d+1) k else dep x d n
theorem setF_id (x:Nat) (t:ByteArray):∀ {F:Fo},x∉F.ids→setF x t F=F
 | .nil,_=>rfl
 | .nd j u k n,h=>by
  simp only [Fo.ids,List.mem_cons,List.mem_append,not_or] at h
  rw [setF,if_neg (fun e=>h.1 e.symm),setF_id x t h.2.1,setF_id x t h.2.2]
theorem fl_ids:∀ (F:Fo) (d:Nat) {r:S37},r∈F.fl d→∃ i∈F.ids,r.f0=(i:Int)
 | .nil,d,r,h=>by simp [Fo.fl] at h
 | .nd j t k n,d,r,h=>by
  simp only [Fo.fl,List.mem_cons,List.mem_append] at h
  rcases h with rfl|h|h
  ·exact ⟨j,by simp [Fo.ids],rfl⟩
  ·obtain ⟨i,hi,e⟩:=fl_ids k (d+1) h;exact ⟨i,by simp [Fo.ids,hi],e⟩
  ·obtain ⟨i,hi,e⟩:=fl_ids n d h;exact ⟨i,by simp [Fo.ids,hi],e⟩
theorem fl_map:∀ (F:Fo) (d:Nat),(F.fl d).map (·.f0)=F.ids.map Int.ofNat
 | .nil,d=>rfl
 | .nd j t k n,d=>by simp [Fo.fl,Fo.ids,fl_map k,fl_map n]
theorem fl_len (F:Fo) (d:Nat):(F.fl d).length=F.ids.length:=by
 have:=congrArg List.length (fl_map F d)
 simpa using this
structure Spot (x d:Nat) (G:Fo) (pre post:List S37):Prop where
 all:G.fl d=pre++(⟨(x:Int),(dep x d G:Int),txtF x G⟩::((sub x G).fl (dep x d G+1)++post))
 out:∀ r∈pre,r.f0≠(x:Int)
 high:post=[]∨∃ r rest,post=r::rest∧r.f1≤(dep x d G:Int)
 ge:d≤dep x d G
 del:(del x G).fl d=pre++post
 first:∀ i t s,(insFirst x i t s G).fl d=pre++(⟨(x:Int),(dep x d G:Int),txtF x G⟩::(⟨(i:Int),((dep x d G+1:Nat):Int),t⟩::(s.fl (dep x d G+2)++((sub x G).fl (dep x d G+1)++post))))
 after:∀ i t s,(insAfter x i t s G).fl d=pre++(⟨(x:Int),(dep x d G:Int),txtF x G⟩::((sub x G).fl (dep x d G+1)++(⟨(i:Int),(dep x d G:Int),t⟩::(s.fl (dep x d G+1)++post))))
 text:∀ t',(setF x t' G).fl d=pre++(⟨(x:Int),(dep x d G:Int),t'⟩::((sub x G).fl (dep x d G+1)++post))
theorem spot (x:Nat):∀ (G:Fo) (d:Nat),G.ids.Nodup→x∈G.ids→∃ pre post,Spot x d G pre post
 | .nil,d,_,hx=>by simp [Fo.ids] at hx
 | .nd j u k n,d,hn,hx=>by
  obtain ⟨n1,n2,n3,n4,n5⟩:=nodup_nd hn
  simp only [Fo.ids,List.mem_cons,List.mem_append] at hx
  by_cases e:j=x
  ·subst e
   refine ⟨[],n.fl d,?_,by simp,?_,?_,?_,fun i t s=>?_,fun i t s=>?_,fun t'=>?_⟩
   ·simp [Fo.fl,dep,txtF,sub]
   ·rcases fl_head n d with h|⟨r,rest,h,h2⟩
    ·exact Or.inl h
    ·refine Or.inr ⟨r,rest,h,?_⟩;simp [dep,h2]
   ·simp [dep]
   ·simp [FP.del]
   ·simp [insFirst,Fo.fl,dep,txtF,sub]
   ·simp [insAfter,Fo.fl,dep,txtF,sub]
   ·simp [setF,Fo.fl,dep,sub,setF_id j t' n1,setF_id j t' n2]
  ·have e':x≠j:=fun g=>e g.symm
   by_cases hk:x∈k.ids
   ·have hxn:x∉n.ids:=n5 x hk
    obtain ⟨pre,post,s⟩:=spot x k (d+1) n3 hk
    have hd:dep x d (.nd j u k n)=dep x (d+1) k:=by rw [dep,if_neg e,if_pos hk]
    have ht:txtF x (.nd j u k n)=txtF x k:=by rw [txtF,if_neg e,if_pos hk]
    have hs:sub x (.nd j u k n)=sub x k:=by rw [sub,if_neg e,if_pos hk]
    refine ⟨⟨(j:Int),(d:Int),u⟩::pre,post++n.fl d,?_,?_,?_,?_,?_,fun i t s'=>?_,fun i t s'=>?_,fun t'=>?_⟩
    ·rw [hd,ht,hs,Fo.fl,s.all];simp
    ·intro r hr
     rcases List.mem_cons.1 hr with rfl|hr
     ·show (j:Int)≠(x:Int);omega
     ·exact s.out r hr
    ·rw [hd]
     have hge:=s.ge
     rcases s.high with h|⟨r,rest,h,h2⟩
     ·rw [h,List.nil_append]
      rcases fl_head n d with h|⟨r,rest,h,h2⟩
      ·exact Or.inl h
      ·exact Or.inr ⟨r,rest,h,by omega⟩
     ·exact Or.inr ⟨r,rest++n.fl d,by rw [h];rfl,h2⟩
    ·rw [hd];have:=s.ge;omega
    ·rw [FP.del,if_neg e,Fo.fl,s.del,del_id x hxn];simp
    ·rw [hd,ht,hs,insFirst,if_neg e,Fo.fl,s.first,insFirst_id x i t s' hxn];simp
    ·rw [hd,ht,hs,insAfter,if_neg e,Fo.fl,s.after,insAfter_id x i t s' hxn];simp
    ·rw [hd,hs,setF,if_neg e,Fo.fl,s.text,setF_id x t' hxn];simp
   ·have hxn:x∈n.ids:=by rcases hx with g|g|g;exact absurd g e';exact absurd g hk;exact g
    obtain ⟨pre,post,s⟩:=spot x n d n4 hxn
    have hd:dep x d (.nd j u k n)=dep x d n:=by rw [dep,if_neg e,if_neg hk]
    have ht:txtF x (.nd j u k n)=txtF x n:=by rw [txtF,if_neg e,if_neg hk]
    have hs:sub x (.nd j u k n)=sub x n:=by rw [sub,if_neg e,if_neg hk]
    refine ⟨⟨(j:Int),(d:Int),u⟩::(k.fl (d+1)++pre),post,?_,?_,?_,?_,?_,fun i t s'=>?_,fun i t s'=>?_,fun t'=>?_⟩
    ·rw [hd,ht,hs,Fo.fl,s.all];simp
    ·intro r hr
     rcases List.mem_cons.1 hr with rfl|hr
     ·show (j:Int)≠(x:Int);omega
     ·rcases List.mem_append.1 hr with hr|hr
      ·obtain ⟨i,hi,e2⟩:=fl_ids k (d+1) hr
       rw [e2]
       intro e3
       exact hk ((show i=x by omega) ▸ hi)
      ·exact s.out r hr
    ·rw [hd];exact s.high
    ·rw [hd];exact s.ge
    ·rw [FP.del,if_neg e,Fo.fl,s.del,del_id x hk];simp
    ·rw [hd,ht,hs,insFirst,if_neg e,Fo.fl,s.first,insFirst_id x i t s' hk];simp
    ·rw [hd,ht,hs,insAfter,if_neg e,Fo.fl,s.after,insAfter_id x i t s' hk];simp
    ·rw [hd,hs,setF,if_neg e,Fo.fl,s.text,setF_id x t' hk];simp
theorem dep_par (x:Nat):∀ (G:Fo) (d up:Nat),G.ids.Nodup→x∈G.ids→(x∈G.tops∧dep x d G=d∧par x up G=up)∨(par x up G∈G.ids∧dep x d G=dep (par x up G) d G+1)
 | .nil,d,up,_,hx=>by simp [Fo.ids] at hx
 | .nd j u k n,d,up,hn,hx=>by
  obtain ⟨n1,n2,n3,n4,n5⟩:=nodup_nd hn
  simp only [Fo.ids,List.mem_cons,List.mem_append] at hx
  by_cases e:j=x
  ·left
   exact ⟨by simp [Fo.tops,e],by rw [dep,if_pos e],by rw [par,if_pos e]⟩
  ·by_cases hk:x∈k.ids
   ·right
    have hp:par x up (.nd j u k n)=par x j k:=by rw [par,if_neg e,if_pos hk]
    have hd:dep x d (.nd j u k n)=dep x (d+1) k:=by rw [dep,if_neg e,if_pos hk]
    rw [hp,hd]
    rcases dep_par x k (d+1) j n3 hk with ⟨_,h2,h3⟩|⟨h2,h3⟩
    ·rw [h3,h2]
     refine ⟨by simp [Fo.ids],?_⟩
     rw [dep,if_pos rfl]
    ·refine ⟨by simp [Fo.ids,h2],?_⟩
     rw [h3,dep,if_neg (fun (g:j=par x j k)=>n1 (by rw [g];exact h2)),if_pos h2]
   ·have hxn:x∈n.ids:=by rcases hx with g|g|g;exact absurd g.symm e;exact absurd g hk;exact g
    have hp:par x up (.nd j u k n)=par x up n:=by rw [par,if_neg e,if_neg hk]
    have hd:dep x d (.nd j u k n)=dep x d n:=by rw [dep,if_neg e,if_neg hk]
    rw [hp,hd]
    rcases dep_par x n d up n4 hxn with ⟨h1,h2,h3⟩|⟨h2,h3⟩
    ·exact Or.inl ⟨by simp [Fo.tops,h1],h2,h3⟩
    ·refine Or.inr ⟨by simp [Fo.ids,h2],?_⟩
     rw [h3,dep,if_neg (fun (g:j=par x up n)=>n2 (by rw [g];exact h2)),if_neg (fun g=>n5 _ g h2)]
theorem del_ids_sub (i:Nat):∀ {F:Fo} {y:Nat},y∈(del i F).ids→y∈F.ids
 | .nil,y,h=>h
 | .nd j t k n,y,h=>by
  rw [FP.del] at h
  split at h
  ·simp [Fo.ids,h]
  ·simp only [Fo.ids,List.mem_cons,List.mem_append] at h ⊢
   exact h.imp id (Or.imp (del_ids_sub i) (del_ids_sub i))
theorem par_del (i a:Nat):∀ (G:Fo) (up:Nat),G.ids.Nodup→a∈(del i G).ids→par a up (del i G)=par a up G
 | .nil,up,_,h=>rfl
 | .nd j u k n,up,hn,h=>by
  obtain ⟨n1,n2,n3,n4,n5⟩:=nodup_nd hn
  rw [FP.del] at h ⊢
  by_cases e:j=i
  ·rw [if_pos e] at h ⊢
   rw [par,if_neg (fun (g:j=a)=>n2 (by rw [g];exact h)),if_neg (fun g=>n5 a g h)]
  ·rw [if_neg e] at h ⊢
   simp only [Fo.ids,List.mem_cons,List.mem_append] at h
   rw [par,par]
   by_cases e2:j=a
   ·rw [if_pos e2,if_pos e2]
   ·rw [if_neg e2,if_neg e2]
    by_cases hk:a∈(FP.del i k).ids
    ·rw [if_pos hk,if_pos (del_ids_sub i hk)];exact par_del i a k j n3 hk
    ·have hn':a∈(FP.del i n).ids:=by rcases h with g|g|g;exact absurd g.symm e2;exact absurd g hk;exact g
     rw [if_neg hk,if_neg (fun g=>n5 a g (del_ids_sub i hn'))];exact par_del i a n up n4 hn'
theorem rep_ex:∀ (G:Fo) (up:Nat),G.ids.Nodup→(∀ x∈G.ids,x≠0)→∃ h,Rep h up G
 | .nil,up,_,_=>⟨fun _=>⟨ByteArray.empty,0,0,0⟩,trivial⟩
 | .nd j u k n,up,hn,h0=>by
  obtain ⟨n1,n2,n3,n4,n5⟩:=nodup_nd hn
  obtain ⟨hk,rk⟩:=rep_ex k j n3 fun x hx=>h0 x (by simp [Fo.ids,hx])
  obtain ⟨hm,rm⟩:=rep_ex n up n4 fun x hx=>h0 x (by simp [Fo.ids,hx])
  refine ⟨fun x=>if x=j then ⟨u,up,k.hd,n.hd⟩ else if x∈k.ids then hk x else hm x,h0 j (by simp [Fo.ids]),if_pos rfl,rk.ext fun x hx=>?_,rm.ext fun x hx=>?_⟩
  ·rw [if_neg (fun (e:x=j)=>n1 (e ▸ hx)),if_pos hx]
  ·rw [if_neg (fun (e:x=j)=>n2 (e ▸ hx)),if_neg (fun g=>n5 x g hx)]
theorem reptop_ex:∀ (G:Fo),G.ids.Nodup→(∀ x∈G.ids,x≠0)→∃ h,RepTop h G
 | .nil,_,_=>⟨fun _=>⟨ByteArray.empty,0,0,0⟩,trivial⟩
 | .nd j u k n,hn,h0=>by
  obtain ⟨n1,n2,n3,n4,n5⟩:=nodup_nd hn
  obtain ⟨hk,rk⟩:=rep_ex k j n3 fun x hx=>h0 x (by simp [Fo.ids,hx])
  obtain ⟨hm,rm⟩:=reptop_ex n n4 fun x hx=>h0 x (by simp [Fo.ids,hx])
  refine ⟨fun x=>if x=j then ⟨u,0,k.hd,0⟩ else if x∈k.ids then hk x else hm x,h0 j (by simp [Fo.ids]),if_pos rfl,rk.ext fun x hx=>?_,rm.ext fun x hx=>?_⟩
  ·rw [if_neg (fun (e:x=j)=>n1 (e ▸ hx)),if_pos hx]
  ·rw [if_neg (fun (e:x=j)=>n2 (e ▸ hx)),if_neg (fun g=>n5 x g hx)]
theorem kids_par {G:Fo} (hn:G.ids.Nodup) (h0:∀ x∈G.ids,x≠0) {u x:Nat} (hu:u∈G.ids):x∈(sub u G).tops↔x∈G.ids∧par x 0 G=u:=by
 obtain ⟨h,hr⟩:=reptop_ex G hn h0
 obtain ⟨r1,_⟩:=reptop_sub hr hn hu
 constructor
 ·intro hx
  have hxs:=tops_ids hx
  have hxG:=sub_ids u hxs
  refine ⟨hxG,?_⟩
  rw [←reptop_par hr hn hxG]
  rcases rep_at r1 (sub_nodup u hn) hxs with ⟨_,g⟩|⟨g,_⟩
  ·exact g
  ·exact absurd hx g
 ·rintro ⟨hxG,hp⟩
  have ht:=par_top h hr hn hxG (by rw [hp];exact h0 u hu)
  have:=(sibT_pv hr hn hxG ht).2
  rwa [reptop_par hr hn hxG,hp] at this
theorem mem_insFirst (p i:Nat) (t:ByteArray) (s:Fo) (y:Nat):∀ (F:Fo),y∈(insFirst p i t s F).ids↔y∈F.ids∨(p∈F.ids∧(y=i∨y∈s.ids))
 | .nil=>by simp [insFirst,Fo.ids]
 | .nd j u k n=>by
  rw [insFirst]
  have h1:=mem_insFirst p i t s y k
  have h2:=mem_insFirst p i t s y n
  by_cases e:j=p
  ·rw [if_pos e]
   simp only [Fo.ids,List.mem_cons,List.mem_append,e]
   grind
  ·rw [if_neg e]
   simp only [Fo.ids,List.mem_cons,List.mem_append,h1,h2]
   grind
theorem mem_insAfter (a i:Nat) (t:ByteArray) (s:Fo) (y:Nat):∀ (F:Fo),y∈(insAfter a i t s F).ids↔y∈F.ids∨(a∈F.ids∧(y=i∨y∈s.ids))
 | .nil=>by simp [insAfter,Fo.ids]
 | .nd j u k n=>by
  rw [insAfter]
  have h1:=mem_insAfter a i t s y k
  have h2:=mem_insAfter a i t s y n
  by_cases e:j=a
  ·rw [if_pos e]
   simp only [Fo.ids,List.mem_cons,List.mem_append,e]
   grind
  ·rw [if_neg e]
   simp only [Fo.ids,List.mem_cons,List.mem_append,h1,h2]
   grind
theorem del_insFirst (p i:Nat) (t:ByteArray) (s:Fo):∀ {F:Fo},i∉F.ids→del i (insFirst p i t s F)=F
 | .nil,_=>rfl
 | .nd j u k n,h=>by
  simp only [Fo.ids,List.mem_cons,List.mem_append,not_or] at h
  have hj:¬ j=i:=fun e=>h.1 e.symm
  rw [insFirst]
  by_cases e:j=p
  ·rw [if_pos e,del,if_neg hj,del,if_pos rfl,del_id i h.2.2]
  ·rw [if_neg e,del,if_neg hj,del_insFirst p i t s h.2.1,del_insFirst p i t s h.2.2]
theorem del_insAfter (a i:Nat) (t:ByteArray) (s:Fo):∀ {F:Fo},i∉F.ids→del i (insAfter a i t s F)=F
 | .nil,_=>rfl
 | .nd j u k n,h=>by
  simp only [Fo.ids,List.mem_cons,List.mem_append,not_or] at h
  have hj:¬ j=i:=fun e=>h.1 e.symm
  rw [insAfter]
  by_cases e:j=a
  ·rw [if_pos e,del,if_neg hj,del,if_pos rfl,del_id i h.2.1]
  ·rw [if_neg e,del,if_neg hj,del_insAfter a i t s h.2.1,del_insAfter a i t s h.2.2]
theorem sub_insFirst_new (p i:Nat) (t:ByteArray) (s:Fo):∀ {F:Fo},i∉F.ids→p∈F.ids→sub i (insFirst p i t s F)=s
 | .nil,_,h=>by simp [Fo.ids] at h
 | .nd j u k n,h,hp=>by
  simp only [Fo.ids,List.mem_cons,List.mem_append,not_or] at h hp
  have hj:¬ j=i:=fun e=>h.1 e.symm
  rw [insFirst]
  by_cases e:j=p
  ·rw [if_pos e,sub,if_neg hj,if_pos (by simp [Fo.ids]),sub,if_pos rfl]
  ·rw [if_neg e,sub,if_neg hj]
   by_cases hk:p∈k.ids
   ·rw [if_pos ((mem_insFirst p i t s i k).2 (Or.inr ⟨hk,Or.inl rfl⟩)),sub_insFirst_new p i t s h.2.1 hk]
   ·rw [if_neg (by rw [mem_insFirst];grind),sub_insFirst_new p i t s h.2.2 (by grind)]
theorem sub_insAfter_new (a i:Nat) (t:ByteArray) (s:Fo):∀ {F:Fo},i∉F.ids→a∈F.ids→sub i (insAfter a i t s F)=s
 | .nil,_,h=>by simp [Fo.ids] at h
 | .nd j u k n,h,hp=>by
  simp only [Fo.ids,List.mem_cons,List.mem_append,not_or] at h hp
  have hj:¬ j=i:=fun e=>h.1 e.symm
  rw [insAfter]
  by_cases e:j=a
  ·rw [if_pos e,sub,if_neg hj,if_neg h.2.1,sub,if_pos rfl]
  ·rw [if_neg e,sub,if_neg hj]
   by_cases hk:a∈k.ids
   ·rw [if_pos ((mem_insAfter a i t s i k).2 (Or.inr ⟨hk,Or.inl rfl⟩)),sub_insAfter_new a i t s h.2.1 hk]
   ·rw [if_neg (by rw [mem_insAfter];grind),sub_insAfter_new a i t s h.2.2 (by grind)]
theorem txt_insFirst_new (p i:Nat) (t:ByteArray) (s:Fo):∀ {F:Fo},i∉F.ids→p∈F.ids→txtF i (insFirst p i t s F)=t
 | .nil,_,h=>by simp [Fo.ids] at h
 | .nd j u k n,h,hp=>by
  simp only [Fo.ids,List.mem_cons,List.mem_append,not_or] at h hp
  have hj:¬ j=i:=fun e=>h.1 e.symm
  rw [insFirst]
  by_cases e:j=p
  ·rw [if_pos e,txtF,if_neg hj,if_pos (by simp [Fo.ids]),txtF,if_pos rfl]
  ·rw [if_neg e,txtF,if_neg hj]
   by_cases hk:p∈k.ids
   ·rw [if_pos ((mem_insFirst p i t s i k).2 (Or.inr ⟨hk,Or.inl rfl⟩)),txt_insFirst_new p i t s h.2.1 hk]
   ·rw [if_neg (by rw [mem_insFirst];grind),txt_insFirst_new p i t s h.2.2 (by grind)]
theorem txt_insAfter_new (a i:Nat) (t:ByteArray) (s:Fo):∀ {F:Fo},i∉F.ids→a∈F.ids→txtF i (insAfter a i t s F)=t
 | .nil,_,h=>by simp [Fo.ids] at h
 | .nd j u k n,h,hp=>by
  simp only [Fo.ids,List.mem_cons,List.mem_append,not_or] at h hp
  have hj:¬ j=i:=fun e=>h.1 e.symm
  rw [insAfter]
  by_cases e:j=a
  ·rw [if_pos e,txtF,if_neg hj,if_neg h.2.1,txtF,if_pos rfl]
  ·rw [if_neg e,txtF,if_neg hj]
   by_cases hk:a∈k.ids
   ·rw [if_pos ((mem_insAfter a i t s i k).2 (Or.inr ⟨hk,Or.inl rfl⟩)),txt_insAfter_new a i t s h.2.1 hk]
   ·rw [if_neg (by rw [mem_insAfter];grind),txt_insAfter_new a i t s h.2.2 (by grind)]
theorem par_insFirst_new (p i:Nat) (t:ByteArray) (s:Fo):∀ {F:Fo} (up:Nat),i∉F.ids→p∈F.ids→par i up (insFirst p i t s F)=p
 | .nil,_,_,h=>by simp [Fo.ids] at h
 | .nd j u k n,up,h,hp=>by
  simp only [Fo.ids,List.mem_cons,List.mem_append,not_or] at h hp
  have hj:¬ j=i:=fun e=>h.1 e.symm
  rw [insFirst]
  by_cases e:j=p
  ·rw [if_pos e,par,if_neg hj,if_pos (by simp [Fo.ids]),par,if_pos rfl,e]
  ·rw [if_neg e,par,if_neg hj]
   by_cases hk:p∈k.ids
   ·rw [if_pos ((mem_insFirst p i t s i k).2 (Or.inr ⟨hk,Or.inl rfl⟩)),par_insFirst_new p i t s j h.2.1 hk]
   ·rw [if_neg (by rw [mem_insFirst];grind),par_insFirst_new p i t s up h.2.2 (by grind)]
theorem par_insAfter_new (a i:Nat) (t:ByteArray) (s:Fo):∀ {F:Fo} (up:Nat),i∉F.ids→a∈F.ids→par i up (insAfter a i t s F)=par a up F
 | .nil,_,_,h=>by simp [Fo.ids] at h
 | .nd j u k n,up,h,hp=>by
  simp only [Fo.ids,List.mem_cons,List.mem_append,not_or] at h hp
  have hj:¬ j=i:=fun e=>h.1 e.symm
  rw [insAfter]
  by_cases e:j=a
  ·rw [if_pos e,par,if_neg hj,if_neg h.2.1,par,if_pos rfl,par,if_pos e]
  ·rw [if_neg e,par,if_neg hj,par,if_neg e]
   by_cases hk:a∈k.ids
   ·rw [if_pos ((mem_insAfter a i t s i k).2 (Or.inr ⟨hk,Or.inl rfl⟩)),if_pos hk,par_insAfter_new a i t s j h.2.1 hk]
   ·rw [if_neg (by rw [mem_insAfter];grind),if_neg hk,par_insAfter_new a i t s up h.2.2 (by grind)]
theorem par_insFirst_in (p i:Nat) (t:ByteArray) (s:Fo) {x:Nat} (hx:x∈s.ids) (hxi:x≠i):∀ {F:Fo} (up:Nat),x∉F.ids→p∈F.ids→par x up (insFirst p i t s F)=par x i s
 | .nil,_,_,h=>by simp [Fo.ids] at h
 | .nd j u k n,up,h,hp=>by
  simp only [Fo.ids,List.mem_cons,List.mem_append,not_or] at h hp
  have hj:¬ j=x:=fun e=>h.1 e.symm
  rw [insFirst]
  by_cases e:j=p
  ·rw [if_pos e,par,if_neg hj,if_pos (by simp [Fo.ids,hx]),par,if_neg (fun e=>hxi e.symm),if_pos hx]
  ·rw [if_neg e,par,if_neg hj]
   by_cases hk:p∈k.ids
   ·rw [if_pos ((mem_insFirst p i t s x k).2 (Or.inr ⟨hk,Or.inr hx⟩)),par_insFirst_in p i t s hx hxi j h.2.1 hk]
   ·rw [if_neg (by rw [mem_insFirst];grind),par_insFirst_in p i t s hx hxi up h.2.2 (by grind)]
theorem par_insAfter_in (a i:Nat) (t:ByteArray) (s:Fo) {x:Nat} (hx:x∈s.ids) (hxi:x≠i):∀ {F:Fo} (up:Nat),x∉F.ids→a∈F.ids→par x up (insAfter a i t s F)=par x i s
 | .nil,_,_,h=>by simp [Fo.ids] at h
 | .nd j u k n,up,h,hp=>by
  simp only [Fo.ids,List.mem_cons,List.mem_append,not_or] at h hp
  have hj:¬ j=x:=fun e=>h.1 e.symm
  rw [insAfter]
  by_cases e:j=a
  ·rw [if_pos e,par,if_neg hj,if_neg h.2.1,par,if_neg (fun e=>hxi e.symm),if_pos hx]
  ·rw [if_neg e,par,if_neg hj]
   by_cases hk:a∈k.ids
   ·rw [if_pos ((mem_insAfter a i t s x k).2 (Or.inr ⟨hk,Or.inr hx⟩)),par_insAfter_in a i t s hx hxi j h.2.1 hk]
   ·rw [if_neg (by rw [mem_insAfter];grind),par_insAfter_in a i t s hx hxi up h.2.2 (by grind)]
theorem txt_insFirst_in (p i:Nat) (t:ByteArray) (s:Fo) {x:Nat} (hx:x∈s.ids) (hxi:x≠i):∀ {F:Fo},x∉F.ids→p∈F.ids→txtF x (insFirst p i t s F)=txtF x s
 | .nil,_,h=>by simp [Fo.ids] at h
 | .nd j u k n,h,hp=>by
  simp only [Fo.ids,List.mem_cons,List.mem_append,not_or] at h hp
  have hj:¬ j=x:=fun e=>h.1 e.symm
  rw [insFirst]
  by_cases e:j=p
  ·rw [if_pos e,txtF,if_neg hj,if_pos (by simp [Fo.ids,hx]),txtF,if_neg (fun e=>hxi e.symm),if_pos hx]
  ·rw [if_neg e,txtF,if_neg hj]
   by_cases hk:p∈k.ids
   ·rw [if_pos ((mem_insFirst p i t s x k).2 (Or.inr ⟨hk,Or.inr hx⟩)),txt_insFirst_in p i t s hx hxi h.2.1 hk]
   ·rw [if_neg (by rw [mem_insFirst];grind),txt_insFirst_in p i t s hx hxi h.2.2 (by grind)]
theorem txt_insAfter_in (a i:Nat) (t:ByteArray) (s:Fo) {x:Nat} (hx:x∈s.ids) (hxi:x≠i):∀ {F:Fo},x∉F.ids→a∈F.ids→txtF x (insAfter a i t s F)=txtF x s
 | .nil,_,h=>by simp [Fo.ids] at h
 | .nd j u k n,h,hp=>by
  simp only [Fo.ids,List.mem_cons,List.mem_append,not_or] at h hp
  have hj:¬ j=x:=fun e=>h.1 e.symm
  rw [insAfter]
  by_cases e:j=a
  ·rw [if_pos e,txtF,if_neg hj,if_neg h.2.1,txtF,if_neg (fun e=>hxi e.symm),if_pos hx]
  ·rw [if_neg e,txtF,if_neg hj]
   by_cases hk:a∈k.ids
   ·rw [if_pos ((mem_insAfter a i t s x k).2 (Or.inr ⟨hk,Or.inr hx⟩)),txt_insAfter_in a i t s hx hxi h.2.1 hk]
   ·rw [if_neg (by rw [mem_insAfter];grind),txt_insAfter_in a i t s hx hxi h.2.2 (by grind)]
theorem par_insFirst_old (p i:Nat) (t:ByteArray) (s:Fo) {x:Nat} (hx:x∉s.ids) (hxi:x≠i):∀ (F:Fo) (up:Nat),par x up (insFirst p i t s F)=par x up F
 | .nil,_=>rfl
 | .nd j u k n,up=>by
  have m1:x∈(insFirst p i t s k).ids↔x∈k.ids:=by rw [mem_insFirst];grind
  have m2:x∈(Fo.nd i t s k).ids↔x∈k.ids:=by simp only [Fo.ids,List.mem_cons,List.mem_append];grind
  rw [insFirst]
  by_cases e:j=p
  ·rw [if_pos e]
   simp only [par,m2,if_neg (fun e:i=x=>hxi e.symm),if_neg hx]
  ·rw [if_neg e]
   simp only [par,m1,par_insFirst_old p i t s hx hxi k,par_insFirst_old p i t s hx hxi n]
theorem par_insAfter_old (a i:Nat) (t:ByteArray) (s:Fo) {x:Nat} (hx:x∉s.ids) (hxi:x≠i):∀ (F:Fo) (up:Nat),par x up (insAfter a i t s F)=par x up F
 | .nil,_=>rfl
 | .nd j u k n,up=>by
  have m1:x∈(insAfter a i t s k).ids↔x∈k.ids:=by rw [mem_insAfter];grind
  rw [insAfter]
  by_cases e:j=a
  ·rw [if_pos e]
   simp only [par,if_neg (fun e:i=x=>hxi e.symm),if_neg hx]
  ·rw [if_neg e]
   simp only [par,m1,par_insAfter_old a i t s hx hxi k,par_insAfter_old a i t s hx hxi n]
theorem txt_insFirst_old (p i:Nat) (t:ByteArray) (s:Fo) {x:Nat} (hx:x∉s.ids) (hxi:x≠i):∀ (F:Fo),txtF x (insFirst p i t s F)=txtF x F
 | .nil=>rfl
 | .nd j u k n=>by
  have m1:x∈(insFirst p i t s k).ids↔x∈k.ids:=by rw [mem_insFirst];grind
  have m2:x∈(Fo.nd i t s k).ids↔x∈k.ids:=by simp only [Fo.ids,List.mem_cons,List.mem_append];grind
  rw [insFirst]
  by_cases e:j=p
  ·rw [if_pos e]
   simp only [txtF,m2,if_neg (fun e:i=x=>hxi e.symm),if_neg hx]
  ·rw [if_neg e]
   simp only [txtF,m1,txt_insFirst_old p i t s hx hxi k,txt_insFirst_old p i t s hx hxi n]
theorem txt_insAfter_old (a i:Nat) (t:ByteArray) (s:Fo) {x:Nat} (hx:x∉s.ids) (hxi:x≠i):∀ (F:Fo),txtF x (insAfter a i t s F)=txtF x F
 | .nil=>rfl
 | .nd j u k n=>by
  have m1:x∈(insAfter a i t s k).ids↔x∈k.ids:=by rw [mem_insAfter];grind
  rw [insAfter]
  by_cases e:j=a
  ·rw [if_pos e]
   simp only [txtF,if_neg (fun e:i=x=>hxi e.symm),if_neg hx]
  ·rw [if_neg e]
   simp only [txtF,m1,txt_insAfter_old a i t s hx hxi k,txt_insAfter_old a i t s hx hxi n]
theorem sub_insFirst_old (p i:Nat) (t:ByteArray) (s:Fo) {x:Nat} (hx:x∉s.ids) (hxi:x≠i):∀ (F:Fo),F.ids.Nodup→x∈F.ids→sub x (insFirst p i t s F)=if x=p then .nd i t s (sub x F) else insFirst p i t s (sub x F)
 | .nil,_,h=>by simp [Fo.ids] at h
 | .nd j u k n,hn,h=>by
  obtain ⟨n1,n2,n3,n4,n5⟩:=nodup_nd hn
  simp only [Fo.ids,List.mem_cons,List.mem_append] at h
  have m1:x∈(insFirst p i t s k).ids↔x∈k.ids:=by rw [mem_insFirst];grind
  have m2:x∈(Fo.nd i t s k).ids↔x∈k.ids:=by simp only [Fo.ids,List.mem_cons,List.mem_append];grind
  have hix:¬ i=x:=fun e=>hxi e.symm
  rw [insFirst]
  by_cases e:j=p
  ·subst e
   rw [if_pos rfl]
   by_cases e2:j=x
   ·subst e2
    rw [if_pos rfl];simp only [sub,if_true]
   ·rw [if_neg (fun g=>e2 g.symm)]
    simp only [sub,if_neg e2,m2,if_neg hix,if_neg hx]
    split
    ·rw [insFirst_id j i t s (fun g=>n1 (sub_ids x g))]
    ·rw [insFirst_id j i t s (fun g=>n2 (sub_ids x g))]
  ·rw [if_neg e]
   by_cases e2:j=x
   ·subst e2
    rw [if_neg e];simp only [sub,if_true]
   ·simp only [sub,if_neg e2,m1]
    split
    ·exact sub_insFirst_old p i t s hx hxi k n3 (by assumption)
    ·exact sub_insFirst_old p i t s hx hxi n n4 (by grind)
theorem sub_insAfter_old (a i:Nat) (t:ByteArray) (s:Fo) {x:Nat} (hx:x∉s.ids) (hxi:x≠i):∀ (F:Fo),F.ids.Nodup→x∈F.ids→sub x (insAfter a i t s F)=insAfter a i t s (sub x F)
 | .nil,_,h=>by simp [Fo.ids] at h
 | .nd j u k n,hn,h=>by
  obtain ⟨n1,n2,n3,n4,n5⟩:=nodup_nd hn
  simp only [Fo.ids,List.mem_cons,List.mem_append] at h
  have m1:x∈(insAfter a i t s k).ids↔x∈k.ids:=by rw [mem_insAfter];grind
  have hix:¬ i=x:=fun e=>hxi e.symm
  rw [insAfter]
  by_cases e:j=a
  ·subst e
   rw [if_pos rfl]
   by_cases e2:j=x
   ·subst e2
    simp only [sub,if_true]
    rw [insAfter_id j i t s n1]
   ·simp only [sub,if_neg e2,if_neg hix,if_neg hx]
    split
    ·rw [insAfter_id j i t s (fun g=>n1 (sub_ids x g))]
    ·rw [insAfter_id j i t s (fun g=>n2 (sub_ids x g))]
  ·rw [if_neg e]
   by_cases e2:j=x
   ·subst e2
    simp only [sub,if_true]
   ·simp only [sub,if_neg e2,m1]
    split
    ·exact sub_insAfter_old a i t s hx hxi k n3 (by assumption)
    ·exact sub_insAfter_old a i t s hx hxi n n4 (by grind)
theorem txt_del (i a:Nat):∀ (G:Fo),G.ids.Nodup→a∈(del i G).ids→txtF a (del i G)=txtF a G
 | .nil,_,h=>rfl
 | .nd j u k n,hn,h=>by
  obtain ⟨n1,n2,n3,n4,n5⟩:=nodup_nd hn
  rw [FP.del] at h ⊢
  by_cases e:j=i
  ·rw [if_pos e] at h ⊢
   rw [txtF,if_neg (fun (g:j=a)=>n2 (by rw [g];exact h)),if_neg (fun g=>n5 a g h)]
  ·rw [if_neg e] at h ⊢
   simp only [Fo.ids,List.mem_cons,List.mem_append] at h
   rw [txtF,txtF]
   by_cases e2:j=a
   ·rw [if_pos e2,if_pos e2]
   ·rw [if_neg e2,if_neg e2]
    by_cases hk:a∈(FP.del i k).ids
    ·rw [if_pos hk,if_pos (del_ids_sub i hk)];exact txt_del i a k n3 hk
    ·have hn':a∈(FP.del i n).ids:=by rcases h with g|g|g;exact absurd g.symm e2;exact absurd g hk;exact g
     rw [if_neg hk,if_neg (fun g=>n5 a g (del_ids_sub i hn'))];exact txt_del i a n n4 hn'
theorem par_sub (i a:Nat):∀ (G:Fo) (up:Nat),G.ids.Nodup→a∈(sub i G).ids→par a up G=par a i (sub i G)
 | .nil,up,_,h=>by simp [sub,Fo.ids] at h
 | .nd j u k n,up,hn,h=>by
  obtain ⟨n1,n2,n3,n4,n5⟩:=nodup_nd hn
  rw [sub] at h ⊢
  by_cases e:j=i
  ·rw [if_pos e] at h ⊢
   rw [par,if_neg (fun (g:j=a)=>n1 (by rw [g];exact h)),if_pos h,e]
  ·rw [if_neg e] at h ⊢
   by_cases hk:i∈k.ids
   ·rw [if_pos hk] at h ⊢
    have ha:=sub_ids i h
    rw [par,if_neg (fun (g:j=a)=>n1 (by rw [g];exact ha)),if_pos ha]
    exact par_sub i a k j n3 h
   ·rw [if_neg hk] at h ⊢
    have ha:=sub_ids i h
    rw [par,if_neg (fun (g:j=a)=>n2 (by rw [g];exact ha)),if_neg (fun g=>n5 a g ha)]
    exact par_sub i a n up n4 h
theorem txt_sub (i a:Nat):∀ (G:Fo),G.ids.Nodup→a∈(sub i G).ids→txtF a G=txtF a (sub i G)
 | .nil,_,h=>by simp [sub,Fo.ids] at h
 | .nd j u k n,hn,h=>by
  obtain ⟨n1,n2,n3,n4,n5⟩:=nodup_nd hn
  rw [sub] at h ⊢
  by_cases e:j=i
  ·rw [if_pos e] at h ⊢
   rw [txtF,if_neg (fun (g:j=a)=>n1 (by rw [g];exact h)),if_pos h]
  ·rw [if_neg e] at h ⊢
   by_cases hk:i∈k.ids
   ·rw [if_pos hk] at h ⊢
    have ha:=sub_ids i h
    rw [txtF,if_neg (fun (g:j=a)=>n1 (by rw [g];exact ha)),if_pos ha]
    exact txt_sub i a k n3 h
   ·rw [if_neg hk] at h ⊢
    have ha:=sub_ids i h
    rw [txtF,if_neg (fun (g:j=a)=>n2 (by rw [g];exact ha)),if_neg (fun g=>n5 a g ha)]
    exact txt_sub i a n n4 h
theorem sub_del (i a:Nat):∀ (G:Fo),G.ids.Nodup→a∈(del i G).ids→sub a (del i G)=del i (sub a G)
 | .nil,_,h=>rfl
 | .nd j u k n,hn,h=>by
  obtain ⟨n1,n2,n3,n4,n5⟩:=nodup_nd hn
  rw [FP.del] at h ⊢
  by_cases e:j=i
  ·rw [if_pos e] at h ⊢
   rw [sub.eq_2,if_neg (fun (g:j=a)=>n2 (by rw [g];exact h)),if_neg (fun g=>n5 a g h),del_id i (fun g=>n2 (e ▸ sub_ids a g))]
  ·rw [if_neg e] at h ⊢
   simp only [Fo.ids,List.mem_cons,List.mem_append] at h
   rw [sub.eq_2,sub.eq_2]
   by_cases e2:j=a
   ·rw [if_pos e2,if_pos e2]
   ·rw [if_neg e2,if_neg e2]
    by_cases hk:a∈(FP.del i k).ids
    ·rw [if_pos hk,if_pos (del_ids_sub i hk)];exact sub_del i a k n3 hk
    ·have hn':a∈(FP.del i n).ids:=by rcases h with g|g|g;exact absurd g.symm e2;exact absurd g hk;exact g
     rw [if_neg hk,if_neg (fun g=>n5 a g (del_ids_sub i hn'))];exact sub_del i a n n4 hn'
theorem set_txt_ne (x:Nat) (t':ByteArray) {i:Nat} (h:i≠x):∀ (F:Fo),txtF i (setF x t' F)=txtF i F
 | .nil=>rfl
 | .nd j u k n=>by
  rw [setF,txtF,txtF,setF_ids,set_txt_ne x t' h k,set_txt_ne x t' h n]
  by_cases e:j=i
  ·rw [if_pos e,if_pos e,if_neg (fun g=>h (e ▸ g))]
  ·rw [if_neg e,if_neg e]
theorem set_txt_eq (x:Nat) (t':ByteArray):∀ {F:Fo},x∈F.ids→txtF x (setF x t' F)=t'
 | .nil,h=>by simp [Fo.ids] at h
 | .nd j u k n,h=>by
  simp only [Fo.ids,List.mem_cons,List.mem_append] at h
  rw [setF,txtF,setF_ids]
  by_cases e:j=x
  ·rw [if_pos e,if_pos e]
  ·rw [if_neg e]
   by_cases hk:x∈k.ids
   ·rw [if_pos hk];exact set_txt_eq x t' hk
   ·rw [if_neg hk];exact set_txt_eq x t' (by grind)
structure PutOk (H:Fo) (q:Nat×Nat) (i:Nat) (s:Fo):Prop where
 nd:H.ids.Nodup
 snd:s.ids.Nodup
 iH:i∉H.ids
 is:i∉s.ids
 dis:∀ x∈s.ids,x∉H.ids
 up:q.1∈H.ids
 at_:q.2=0∨(q.2∈H.ids∧par q.2 0 H=q.1)
section
variable {H:Fo} {q:Nat×Nat} {i:Nat} {s:Fo} {t:ByteArray}
theorem PutOk.del (o:PutOk H q i s):del i (putF H q i t s)=H:=by
 unfold putF
 split
 ·exact del_insFirst _ _ _ _ o.iH
 ·exact del_insAfter _ _ _ _ o.iH
theorem PutOk.sub (o:PutOk H q i s):sub i (putF H q i t s)=s:=by
 unfold putF
 split
 ·exact sub_insFirst_new _ _ _ _ o.iH o.up
 ·rename_i h;exact sub_insAfter_new _ _ _ _ o.iH (o.at_.resolve_left h).1
theorem PutOk.txt (o:PutOk H q i s):txtF i (putF H q i t s)=t:=by
 unfold putF
 split
 ·exact txt_insFirst_new _ _ _ _ o.iH o.up
 ·rename_i h;exact txt_insAfter_new _ _ _ _ o.iH (o.at_.resolve_left h).1
theorem PutOk.par (o:PutOk H q i s):par i 0 (putF H q i t s)=q.1:=by
 unfold putF
 split
 ·exact par_insFirst_new _ _ _ _ _ o.iH o.up
 ·rename_i h
  rw [par_insAfter_new _ _ _ _ _ o.iH (o.at_.resolve_left h).1];exact (o.at_.resolve_left h).2
theorem PutOk.mem (o:PutOk H q i s) (y:Nat):y∈(putF H q i t s).ids↔y=i∨y∈s.ids∨y∈H.ids:=by
 unfold putF
 split
 ·rw [mem_insFirst];have:=o.up;grind
 ·rename_i h;rw [mem_insAfter];have:=(o.at_.resolve_left h).1;grind
theorem PutOk.perm (o:PutOk H q i s):(putF H q i t s).ids.Perm (i::(s.ids++H.ids)):=putF_ids o.nd o.up (o.at_.imp id And.left)
theorem PutOk.nodup (o:PutOk H q i s):(putF H q i t s).ids.Nodup:=by
 refine o.perm.nodup_iff.2 (List.nodup_cons.2 ⟨?_,List.nodup_append.2 ⟨o.snd,o.nd,fun a ha b hb e=>o.dis a ha (e ▸ hb)⟩⟩)
 rw [List.mem_append]
 exact fun h=>h.elim o.is o.iH
theorem PutOk.ne {x:Nat} (o:PutOk H q i s) (hx:x∈H.ids):x≠i∧x∉s.ids:=⟨fun e=>o.iH (e ▸ hx),fun g=>o.dis x g hx⟩
theorem PutOk.par_old (o:PutOk H q i s) {x:Nat} (hx:x∈H.ids):FP.par x 0 (putF H q i t s)=FP.par x 0 H:=by
 obtain ⟨h1,h2⟩:=o.ne hx
 unfold putF
 split
 ·exact par_insFirst_old _ _ _ _ h2 h1 _ _
 ·exact par_insAfter_old _ _ _ _ h2 h1 _ _
theorem PutOk.txt_old (o:PutOk H q i s) {x:Nat} (hx:x∈H.ids):txtF x (putF H q i t s)=txtF x H:=by
 obtain ⟨h1,h2⟩:=o.ne hx
 unfold putF
 split
 ·exact txt_insFirst_old _ _ _ _ h2 h1 _
 ·exact txt_insAfter_old _ _ _ _ h2 h1 _
theorem PutOk.par_in (o:PutOk H q i s) {x:Nat} (hx:x∈s.ids):FP.par x 0 (putF H q i t s)=FP.par x i s:=by
 have h1:x≠i:=fun e=>o.is (e ▸ hx)
 unfold putF
 split
 ·exact par_insFirst_in _ _ _ _ hx h1 _ (o.dis x hx) o.up
 ·rename_i h;exact par_insAfter_in _ _ _ _ hx h1 _ (o.dis x hx) (o.at_.resolve_left h).1
theorem PutOk.txt_in (o:PutOk H q i s) {x:Nat} (hx:x∈s.ids):txtF x (putF H q i t s)=txtF x s:=by
 have h1:x≠i:=fun e=>o.is (e ▸ hx)
 unfold putF
 split
 ·exact txt_insFirst_in _ _ _ _ hx h1 (o.dis x hx) o.up
 ·rename_i h;exact txt_insAfter_in _ _ _ _ hx h1 (o.dis x hx) (o.at_.resolve_left h).1
end
theorem fnd_congr {G G':Fo} (h:∀ y,y∈G'.ids↔y∈G.ids) (x:Int):fndF G' x=fndF G x:=by
 unfold fndF;simp only [h]
theorem mem_del {i y:Nat} {G:Fo} (hn:G.ids.Nodup) (hi:i∈G.ids):y∈(del i G).ids↔y∈G.ids∧y≠i∧y∉(sub i G).ids:=by
 have hp:=ids_del i G hn hi
 obtain ⟨m1,m2⟩:=List.nodup_cons.1 (hp.nodup_iff.1 hn)
 have m3:=(List.nodup_append.1 m2).2.2
 have m4:=hp.mem_iff (a:=y)
 simp only [List.mem_cons,List.mem_append] at m4 m1
 constructor
 ·intro h
  exact ⟨m4.2 (Or.inr (Or.inr h)),fun e=>m1 (Or.inr (e ▸ h)),fun g=>m3 y g y h rfl⟩
 ·rintro ⟨h1,h2,h3⟩
  rcases m4.1 h1 with g|g|g
  ·exact absurd g h2
  ·exact absurd g h3
  ·exact g
structure MvOk (G:Fo) (i:Nat) (q:Nat×Nat):Prop where
 nd:G.ids.Nodup
 mem:i∈G.ids
 put:PutOk (del i G) q i (sub i G)
def mvF (G:Fo) (q:Nat×Nat) (i:Nat):Fo:=putF (del i G) q i (txtF i G) (sub i G)
section
variable {G:Fo} {i:Nat} {q:Nat×Nat}
theorem MvOk.ids (o:MvOk G i q) (y:Nat):y∈(mvF G q i).ids↔y∈G.ids:=by
 unfold mvF
 rw [o.put.mem,mem_del o.nd o.mem]
 have:=o.mem
 have h2:y∈(sub i G).ids→y∈G.ids:=sub_ids i
 grind
theorem MvOk.perm (o:MvOk G i q):(mvF G q i).ids.Perm G.ids:=by
 unfold mvF
 exact o.put.perm.trans (ids_del i G o.nd o.mem).symm
theorem MvOk.nodup (o:MvOk G i q):(mvF G q i).ids.Nodup:=o.put.nodup
theorem MvOk.par_ne (o:MvOk G i q) {x:Nat} (hx:x∈G.ids) (hne:x≠i):par x 0 (mvF G q i)=par x 0 G:=by
 unfold mvF
 by_cases hs:x∈(sub i G).ids
 ·rw [o.put.par_in hs,par_sub i x G 0 o.nd hs]
 ·have hd:=(mem_del o.nd o.mem).2 ⟨hx,hne,hs⟩
  rw [o.put.par_old hd,par_del i x G 0 o.nd hd]
theorem MvOk.txt (o:MvOk G i q) {x:Nat} (hx:x∈G.ids):txtF x (mvF G q i)=txtF x G:=by
 unfold mvF
 by_cases hne:x=i
 ·subst hne;exact o.put.txt
 ·by_cases hs:x∈(sub i G).ids
  ·rw [o.put.txt_in hs,txt_sub i x G o.nd hs]
  ·have hd:=(mem_del o.nd o.mem).2 ⟨hx,hne,hs⟩
   rw [o.put.txt_old hd,txt_del i x G o.nd hd]
theorem MvOk.sub_self (o:MvOk G i q):sub i (mvF G q i)=sub i G:=o.put.sub
theorem MvOk.del (o:MvOk G i q):del i (mvF G q i)=del i G:=o.put.del
theorem MvOk.under (o:MvOk G i q) (x:Nat):under i x (mvF G q i)↔under i x G:=by
 unfold FP.under
 rw [o.sub_self,o.ids]
theorem MvOk.fnd (o:MvOk G i q) (x:Int):fndF (mvF G q i) x=fndF G x:=fnd_congr o.ids x
theorem MvOk.near (o:MvOk G i q) (up at_:Int):nearF (mvF G q i) (i:Int) up at_=nearF G (i:Int) up at_:=by
 unfold nearF
 rw [o.fnd,o.fnd]
 by_cases h1:fndF G up=0
 ·rw [if_pos h1,if_pos h1]
 ·rw [if_neg h1,if_neg h1]
  by_cases h2:fndF G at_=0
  ·rw [if_pos h2,if_pos h2]
  ·rw [if_neg h2,if_neg h2]
   by_cases h3:at_=(i:Int)
   ·simp only [h3,if_true,ite_self]
   ·obtain ⟨m1,m2⟩:=fndF_mem h2
    rw [o.par_ne m1 (fun e=>h3 (by rw [←m2,e]))]
end
theorem move_ok {G:Fo} (hn:G.ids.Nodup) (h0:∀ x∈G.ids,x≠0) (h3:3∈G.tops) {i:Nat} (hi:i∈G.ids) (hit:i∉G.tops) {up at_:Int} (hw:¬ under i (fndF G up) G):MvOk G i (nearF G (i:Int) up at_):=by
 obtain ⟨h,hr⟩:=reptop_ex G hn h0
 have hp:=near_del hr hn h3 hi hit (id:=(i:Int)) (up:=up) (at_:=at_) rfl hw
 have hperm:=ids_del i G hn hi
 obtain ⟨m1,m2⟩:=List.nodup_cons.1 (hperm.nodup_iff.1 hn)
 obtain ⟨m3,m4,m5⟩:=List.nodup_append.1 m2
 rw [List.mem_append,not_or] at m1
 refine ⟨hn,hi,⟨m4,m3,m1.2,m1.1,fun x hx g=>m5 x hx x g rfl,hp.1,hp.2.imp id fun ⟨a1,a2,_⟩=>⟨a1,?_⟩⟩⟩
 rw [par_del i _ G 0 hn a1,←reptop_par hr hn (del_ids_sub i a1)];exact a2
theorem make_ok {G:Fo} (hn:G.ids.Nodup) (h3:3∈G.tops) {i:Nat} (hi:i∉G.ids) {up at_:Int}:PutOk G (nearF G (i:Int) up at_) i .nil:=by
 have hp:=near_ok (G:=G) (tops_ids h3) (i:Int) up at_
 exact ⟨hn,by simp [Fo.ids],hi,by simp [Fo.ids],by simp [Fo.ids],hp.up,hp.at_.imp id fun ⟨a1,a2,_⟩=>⟨a1,a2⟩⟩
inductive Does (G:Fo) (kd:Int) (i:Nat) (up at_:Int) (s:ByteArray):Fo→Prop
 | text (h:kd=2) (hi:i∈G.ids):Does G kd i up at_ s (setF i s G)
 | make (h:kd=1) (hi:i∉G.ids) (o:PutOk G (nearF G (i:Int) up at_) i .nil):Does G kd i up at_ s (putF G (nearF G (i:Int) up at_) i s .nil)
 | move (h:kd=3) (hi:i∈G.ids) (hw:¬ under i (fndF G up) G) (o:MvOk G i (nearF G (i:Int) up at_)):Does G kd i up at_ s (mvF G (nearF G (i:Int) up at_) i)
 | none (h:(kd=2∧i∉G.ids)∨(kd=1∧i∈G.ids)∨(kd=3∧i∉G.ids)∨(kd=3∧i∈G.ids∧under i (fndF G up) G)):Does G kd i up at_ s G
theorem fnd_nat {G:Fo} {y:Nat} (hy:y∈G.ids):fndF G (y:Int)=y:=by unfold fndF;rw [if_pos ⟨by omega,by simpa using hy⟩];rfl
theorem fnd_not {G:Fo} {y:Nat} (hy:y∉G.ids):fndF G (y:Int)=0:=by unfold fndF;rw [if_neg (by simpa using hy)]
theorem does {G:Fo} (hn:G.ids.Nodup) (h0:∀ x∈G.ids,x≠0) (h3:3∈G.tops) (kd:Int) (i:Nat) (hit:i∉G.tops) (up at_:Int) (s:ByteArray) (hk:kd=1∨kd=2∨kd=3):Does G kd i up at_ s (doF G kd (i:Int) up at_ s):=by
 unfold doF
 by_cases hi:i∈G.ids
 ·have hi0:=h0 i hi
  rw [fnd_nat hi,if_neg hi0,if_neg hi0,if_neg hi0]
  rcases hk with rfl|rfl|rfl
  ·rw [if_neg (by decide),if_pos rfl];exact .none (Or.inr (Or.inl ⟨rfl,hi⟩))
  ·rw [if_pos rfl];exact .text rfl hi
  ·rw [if_neg (by decide),if_neg (by decide)]
   by_cases hu:under i (fndF G up) G
   ·rw [if_pos hu];exact .none (Or.inr (Or.inr (Or.inr ⟨rfl,hi,hu⟩)))
   ·rw [if_neg hu];exact .move rfl hi hu (move_ok hn h0 h3 hi hit hu)
 ·rw [fnd_not hi,if_pos rfl,if_pos rfl,if_pos rfl]
  rcases hk with rfl|rfl|rfl
  ·rw [if_neg (by decide),if_pos rfl];exact .make rfl hi (make_ok hn h3 hi)
  ·rw [if_pos rfl];exact .none (Or.inl ⟨rfl,hi⟩)
  ·rw [if_neg (by decide),if_neg (by decide)];exact .none (Or.inr (Or.inr (Or.inl ⟨rfl,hi⟩)))
theorem doF_move {G:Fo} {i:Nat} (hi:i∈G.ids) (h0:i≠0) (u a:Int) (s:ByteArray) (hw:¬ under i (fndF G u) G):doF G 3 (i:Int) u a s=mvF G (nearF G (i:Int) u a) i:=by
 unfold doF mvF;rw [if_neg (by decide),if_neg (by decide),fnd_nat hi,if_neg h0,if_neg hw]
section
variable {G:Fo} (hn:G.ids.Nodup) (h0:∀ x∈G.ids,x≠0) (h3:3∈G.tops) {kd:Int} {i:Nat} (hi0:i≠0) (hit:i∉G.tops) {up at_:Int} {s:ByteArray} (hk:kd=1∨kd=2∨kd=3)
end
theorem par_top0 {G:Fo} {x:Nat}:∀ {F:Fo},F.ids.Nodup→x∈F.tops→par x 0 F=0
 | .nil,_,h=>by simp [Fo.tops] at h
 | .nd j u k n,hn,h=>by
  obtain ⟨n1,n2,n3,n4,n5⟩:=nodup_nd hn
  simp only [Fo.tops,List.mem_cons] at h
  rw [par]
  by_cases e:j=x
  ·rw [if_pos e]
  ·have hx:x∈n.tops:=by grind
   rw [if_neg e,if_neg (fun g=>n5 x g (tops_ids hx)),par_top0 (G:=G) n4 hx]
theorem near_at_top {G:Fo} (hn:G.ids.Nodup) (h0:∀ x∈G.ids,x≠0) {H:Fo} {q:Nat×Nat} {i:Nat} {s:Fo} (o:PutOk H q i s) (hH:∀ x∈H.ids,x≠0):q.2=0∨q.2∉H.tops:=by
 refine o.at_.imp id fun ⟨h1,h2⟩ ht=>?_
 have:=par_top0 (G:=G) o.nd ht
 rw [h2] at this
 exact hH _ o.up this
theorem do_tops {G:Fo} (hn:G.ids.Nodup) (h0:∀ x∈G.ids,x≠0) {kd:Int} {i:Nat} (hi0:i≠0) (hit:i∉G.tops) {up at_:Int} {s:ByteArray} {G':Fo} (hd:Does G kd i up at_ s G'):G'.tops=G.tops∧G'.ids.Nodup∧(∀ x,x∈G'.ids↔x∈G.ids∨(kd=1∧x=i)):=by
 cases hd with
 | text h hi=>exact ⟨setF_tops _ _ _,by rw [setF_ids];exact hn,fun x=>by rw [setF_ids,h];simp⟩
 | make h hi o =>
  refine ⟨putF_tops (near_at_top hn h0 o h0),o.nodup,fun x=>?_⟩
  rw [o.mem];simp [Fo.ids,h,or_comm]
 | move h hi hw o =>
  refine ⟨?_,o.nodup,fun x=>by rw [o.ids,h];simp⟩
  unfold mvF
  rw [putF_tops (near_at_top hn h0 o.put fun x hx=>h0 x (del_ids_sub i hx)),tops_del i G hit]
 | none h=>exact ⟨rfl,hn,fun x=>⟨Or.inl,fun g=>g.elim id fun ⟨g1,g2⟩=>by rcases h with h|h|h|h <;> first|omega|exact g2 ▸ h.2⟩⟩
end Go.Proofs.YtlkheeegkifblaaDoor.FP
namespace Go.Proofs.YtlkheeegkifblaaDoor.PL
open Go.RowKit Go.Proofs.YtlkheeegkifblaaDoor.P Go.Proofs.YtlkheeegkifblaaDoorW.PrintWords Go.Proofs.YtlkheeegkifblaaDoorW.PrintLast
def Bytes (b:List Int):Prop:=b.length≤2000∧∀ x∈b,0≤x∧x≤255
def Rd (p:Int) (m:Nat):Prop:=0≤p∧p+m≤1000000
theorem Rd.less {p:Int} {m n:Nat} (h:Rd p m) (hn:n≤m):Rd p n:=⟨h.1,by have:=h.2;omega⟩
theorem wrap_id (x:Int) (h0:-9223372036854775808≤x) (h1:x≤9223372036854775807):wrap64 x=x:=by unfold wrap64;omega
theorem wraps_i64 (n:Int) (h0:0≤n) (h1:n < 2 ^ 62):IntKind.i64.wrap n=n:=by rw [IntKind.wrap_i64];omega
theorem xor_pos (a b:Int) (ha:0≤a) (hb:0≤b) (ha':a < 4611686018427387904) (hb':b < 4611686018427387904):0≤Go.bits .xor .i64 a b:=by
 obtain ⟨m,rfl⟩:∃ m:Nat,a=m:=⟨a.toNat,by omega⟩
 obtain ⟨n,rfl⟩:∃ n:Nat,b=n:=⟨b.toNat,by omega⟩
 have hm:m < 2 ^ 62:=by omega
 have hn:n < 2 ^ 62:=by omega
 have e1:m % 2 ^ 64=m:=Nat.mod_eq_of_lt (by omega)
 have e2:n % 2 ^ 64=n:=Nat.mod_eq_of_lt (by omega)
 have hx:m ^^^ n < 2 ^ 62:=Nat.xor_lt_two_pow hm hn
 have hq:(BitVec.ofNat 64 m ^^^ BitVec.ofNat 64 n).toNat=m ^^^ n:=by rw [BitVec.toNat_xor,BitVec.toNat_ofNat,BitVec.toNat_ofNat,e1,e2]
 have h2:Go.bits .xor .i64 (m:Int) (n:Int)=IntKind.i64.wrap (((BitVec.ofNat 64 m ^^^ BitVec.ofNat 64 n).toNat:Nat):Int):=by simp only [Go.bits,BitVec.ofInt_natCast];rfl
 rw [h2,hq,wraps_i64 _ (by omega) (by omega)]
 omega
theorem rd_byte {b:List Int} (hb:Bytes b) (i:Int):0≤rd b i∧rd b i≤255:=by
 unfold rd
 rw [List.getD_eq_getElem?_getD]
 rcases Nat.lt_or_ge i.toNat b.length with h|h
 ·rw [List.getElem?_eq_getElem h]
  exact hb.2 _ (List.getElem_mem h)
 ·rw [List.getElem?_eq_none h]
  simp
theorem tmod_range (x n:Int) (hx:0≤x) (hn:1≤n):0≤Int.tmod x n∧Int.tmod x n < n:=by
 rw [Int.tmod_eq_emod_of_nonneg hx]
 exact ⟨Int.emod_nonneg _ (by omega),Int.emod_lt_of_pos _ (by omega)⟩
theorem pick_f (b:List Int) (p n:Int) (m:Nat) (hb:Bytes b) (hp:Rd p (m+1)):∃ r:Int,Ev (fun k=>spec_l6Rd_pick.f k b p n) (r,p+1)∧Rd (p+1) m∧0≤r∧(1≤n→r < n)∧(n < 1→r=0):=by
 obtain ⟨h0,h1⟩:=hp
 have hR:Rd (p+1) m:=⟨by omega,by omega⟩
 have w1:wrap64 (p+1)=p+1:=wrap_id _ (by omega) (by omega)
 have w2:wrap64 (p+1 - 1)=p:=by rw [wrap_id (p+1 - 1) (by omega) (by omega)];omega
 unfold spec_l6Rd_pick.f
 rw [w1]
 by_cases hn:n < 1
 ·refine ⟨0,ev_pos hn ?_,hR,Int.le_refl _,fun h=>by omega,fun _=>rfl⟩
  refine Ev.step (f:=fun _=>some (0,p+1)) (fun k=>?_) (evnow _)
  simp only [spec_l6Rd_pick.j0,if_true]
 ·by_cases hl:b.length=0
  ·refine ⟨0,ev_neg hn ?_,hR,Int.le_refl _,fun h=>by omega,fun _=>rfl⟩
   refine Ev.step (f:=fun _=>some (0,p+1)) (fun k=>?_) (evnow _)
   have:((b.length:Int)==0)=true:=by simp [hl]
   simp only [spec_l6Rd_pick.j0,this,if_true]
  ·have hf:((b.length:Int)==0)=false:=beq_eq_false_iff_ne.2 (by omega)
   by_cases hk:p < (b.length:Int)
   ·have hx:=rd_byte hb p
    have hr:=tmod_range (wrap64 (rd b p)) n (by rw [wrap_id (rd b p) (by omega) (by omega)];omega) (by omega)
    refine ⟨Int.tmod (wrap64 (rd b p)) n,ev_neg hn ?_,hR,hr.1,fun _=>hr.2,fun h=>absurd h hn⟩
    refine Ev.step (f:=fun _=>some (Int.tmod (wrap64 (rd b p)) n,p+1)) (fun k=>?_) (evnow _)
    simp only [spec_l6Rd_pick.j0,hf,Bool.false_eq_true,if_false,w2]
    rw [if_pos hk,if_pos h0,if_neg (show ¬ n=0 by omega)]
   ·have hlen:(1:Int)≤b.length:=by omega
    have m1:=tmod_range p b.length h0 hlen
    have e7:wrap64 (p * 7)=p * 7:=wrap_id _ (by omega) (by omega)
    have e73:wrap64 (p * 7+3)=p * 7+3:=wrap_id _ (by omega) (by omega)
    have m2:=tmod_range (p * 7+3) b.length (by omega) hlen
    have x1:=rd_byte hb (Int.tmod p b.length)
    have x2:=rd_byte hb (Int.tmod (p * 7+3) b.length)
    have d1:0≤Int.tdiv p b.length∧Int.tdiv p b.length≤1000000:=by
     rw [Int.tdiv_eq_ediv_of_nonneg h0]
     exact ⟨Int.ediv_nonneg h0 (by omega),Int.le_trans (Int.ediv_le_self _ h0) (by omega)⟩
    obtain ⟨r,hr⟩:∃ r,r=Int.tmod (Go.bits .xor .i64 (wrap64 ((wrap64 ((wrap64 ((wrap64 ((wrap64 (rd b (Int.tmod p (b.length:Int)))) * 131))+(wrap64 ((wrap64 (rd b (Int.tmod (p * 7+3) (b.length:Int)))) * 1117))))+(wrap64 (p * 29))))+(wrap64 ((wrap64 (Int.tdiv p (b.length:Int))) * 53)))) (wrap64 (Int.tdiv (wrap64 ((wrap64 ((wrap64 ((wrap64 ((wrap64 (rd b (Int.tmod p (b.length:Int)))) * 131))+(wrap64 ((wrap64 (rd b (Int.tmod (p * 7+3) (b.length:Int)))) * 1117))))+(wrap64 (p * 29))))+(wrap64 ((wrap64 (Int.tdiv p (b.length:Int))) * 53)))) 64))) n:=⟨_,rfl⟩
    have hrr:0≤r∧r < n:=by
     rw [hr]
     refine tmod_range _ n ?_ (by omega)
     generalize rd b (Int.tmod p (b.length:Int))=u at x1
     generalize rd b (Int.tmod (p * 7+3) (b.length:Int))=v at x2
     generalize Int.tdiv p (b.length:Int)=d at d1
     rw [wrap_id u (by omega) (by omega),wrap_id v (by omega) (by omega),wrap_id d (by omega) (by omega)]
     rw [wrap_id (u * 131) (by omega) (by omega),wrap_id (v * 1117) (by omega) (by omega),wrap_id (p * 29) (by omega) (by omega),wrap_id (d * 53) (by omega) (by omega)]
     rw [wrap_id (u * 131+v * 1117) (by omega) (by omega)]
     rw [wrap_id (u * 131+v * 1117+p * 29) (by omega) (by omega)]
     rw [wrap_id (u * 131+v * 1117+p * 29+d * 53) (by omega) (by omega)]
     have hs:Int.tdiv (u * 131+v * 1117+p * 29+d * 53) 64=(u * 131+v * 1117+p * 29+d * 53) / 64:=Int.tdiv_eq_ediv_of_nonneg (by omega)
     rw [hs,wrap_id _ (by omega) (by omega)]
     exact xor_pos _ _ (by omega) (by omega) (by omega) (by omega)
    refine ⟨r,ev_neg hn ?_,hR,hrr.1,fun _=>hrr.2,fun h=>absurd h hn⟩
    refine Ev.step (f:=fun _=>some (r,p+1)) (fun k=>?_) (evnow _)
    simp only [spec_l6Rd_pick.j0,hf,Bool.false_eq_true,if_false,w2,e7,e73]
    rw [if_neg hk,if_neg (show ¬ (b.length:Int)=0 by omega),if_pos m1.1,if_pos m1.2,if_pos m2.1,if_pos m2.2,if_neg (show ¬ n=0 by omega),hr]
theorem rdR_get (t:List S37) (i:Nat) (h:i < t.length):rd_T37 t i=t[i]:=by
 unfold rd_T37
 rw [List.getD_eq_getElem?_getD,show ((i:Int)).toNat=i from rfl,List.getElem?_eq_getElem h]
 rfl
def atFrom (id:Int):List S37→Nat→Int
 | [],_=>-1
 | r::rest,i=>if r.f0=id then (i:Int) else atFrom id rest (i+1)
def atI (t:List S37) (id:Int):Int:=atFrom id t 0
theorem at_l0 (t:List S37) (id:Int) (hl:t.length≤1099511627776):∀ (n i:Nat),i+n=t.length→Ev (fun k=>spec_l2At.l0 k t id i) (atFrom id (t.drop i) i)
 | 0,i,h=>by
  rw [List.drop_eq_nil_of_le (by omega)]
  refine Ev.step (f:=fun _=>some (-1)) (fun k=>?_) (evnow _)
  simp only [spec_l2At.l0];rw [if_neg (by omega)]
 | n+1,i,h=>by
  have hi:i < t.length:=by omega
  rw [List.drop_eq_getElem_cons hi]
  unfold atFrom
  by_cases hq:t[i].f0=id
  ·rw [if_pos hq]
   refine Ev.step (f:=fun _=>some (i:Int)) (fun k=>?_) (evnow _)
   simp only [spec_l2At.l0]
   rw [if_pos (by omega),if_pos (by omega),rdR_get t i hi,if_pos hq]
  ·rw [if_neg hq]
   refine Ev.step (fun k=>?_) (at_l0 t id hl n (i+1) (by omega))
   simp only [spec_l2At.l0]
   rw [if_pos (by omega),if_pos (by omega),rdR_get t i hi,if_neg hq,wrapS i (by omega) (by omega)]
   rfl
theorem at_f (t:List S37) (id:Int) (hl:t.length≤1099511627776):Ev (fun k=>spec_l2At.f k t id) (atI t id):=at_l0 t id hl t.length 0 (by omega)
theorem atFrom_spec (id:Int):∀ (t:List S37) (i:Nat),(atFrom id t i=-1∧∀ x∈t,x.f0≠id)∨∃ (j:Nat) (h:j < t.length),atFrom id t i=((i+j:Nat):Int)∧t[j].f0=id
 | [],i=>Or.inl ⟨rfl,fun x hx=>by cases hx⟩
 | r::rest,i=>by
  unfold atFrom
  by_cases hq:r.f0=id
  ·rw [if_pos hq]
   exact Or.inr ⟨0,by simp,by simp,hq⟩
  ·rw [if_neg hq]
   rcases atFrom_spec id rest (i+1) with ⟨h1,h2⟩|⟨j,h,h1,h2⟩
   ·refine Or.inl ⟨h1,fun x hx=>?_⟩
    rcases List.mem_cons.1 hx with rfl|hx
    ·exact hq
    ·exact h2 x hx
   ·exact Or.inr ⟨j+1,by simp;omega,by rw [h1];congr 1;omega,by simpa using h2⟩
theorem atI_spec (t:List S37) (id:Int):(atI t id=-1∧∀ x∈t,x.f0≠id)∨∃ (j:Nat) (h:j < t.length),atI t id=(j:Int)∧t[j].f0=id:=by
 rcases atFrom_spec id t 0 with h|⟨j,h,h1,h2⟩
 ·exact Or.inl h
 ·exact Or.inr ⟨j,h,by rw [atI,h1];congr 1;omega,h2⟩
theorem atI_mem {t:List S37} {id:Int} {x:S37} (hx:x∈t) (h:x.f0=id):∃ (j:Nat) (hj:j < t.length),atI t id=(j:Int)∧t[j].f0=id:=by
 rcases atI_spec t id with ⟨_,h2⟩|h2
 ·exact absurd h (h2 x hx)
 ·exact h2
def endFrom (d:Int):List S37→Nat→Nat
 | [],e=>e
 | r::rest,e=>if r.f1 > d then endFrom d rest (e+1) else e
def endI (t:List S37) (i:Nat):Nat:=endFrom (t.getD i z37).f1 (t.drop (i+1)) (i+1)
theorem getD_get (t:List S37) (i:Nat) (h:i < t.length):t.getD i z37=t[i]:=by
 rw [List.getD_eq_getElem?_getD,List.getElem?_eq_getElem h]
 rfl
theorem end_l0 (t:List S37) (a:Nat) (ha:a < t.length) (hl:t.length≤1099511627776):∀ (n i:Nat),i+n=t.length→Ev (fun k=>spec_l2End.l0 k t a i) (endFrom t[a].f1 (t.drop i) i:Int)
 | 0,i,h=>by
  rw [List.drop_eq_nil_of_le (by omega)]
  refine Ev.step (f:=fun _=>some (i:Int)) (fun k=>?_) (evnow _)
  simp only [spec_l2End.l0];rw [if_neg (by omega)]
 | n+1,i,h=>by
  have hi:i < t.length:=by omega
  rw [List.drop_eq_getElem_cons hi]
  unfold endFrom
  by_cases hq:t[i].f1 > t[a].f1
  ·rw [if_pos hq]
   refine Ev.step (fun k=>?_) (end_l0 t a ha hl n (i+1) (by omega))
   simp only [spec_l2End.l0]
   rw [if_pos (by omega),if_pos (by omega),if_pos (by omega),if_pos (by omega),rdR_get t i hi,rdR_get t a ha,if_pos hq,wrapS i (by omega) (by omega)]
   rfl
  ·rw [if_neg hq]
   refine Ev.step (f:=fun _=>some (i:Int)) (fun k=>?_) (evnow _)
   simp only [spec_l2End.l0]
   rw [if_pos (by omega),if_pos (by omega),if_pos (by omega),if_pos (by omega),rdR_get t i hi,rdR_get t a ha,if_neg hq]
theorem end_f (t:List S37) (a:Nat) (ha:a < t.length) (hl:t.length≤1099511627776):Ev (fun k=>spec_l2End.f k t a) (endI t a:Int):=by
 have:=end_l0 t a ha hl (t.length - (a+1)) (a+1) (by omega)
 unfold endI
 rw [getD_get t a ha]
 refine Ev.congr (fun k=>?_) this
 unfold spec_l2End.f
 rw [wrapS a (by omega) (by omega)]
 rfl
theorem endFrom_spec (d:Int):∀ (t:List S37) (e:Nat),e≤endFrom d t e∧endFrom d t e≤e+t.length∧(∀ (j:Nat) (hj:j < t.length),e+j < endFrom d t e→d < t[j].f1)∧(∀ (hj:endFrom d t e - e < t.length),t[endFrom d t e - e].f1≤d)
 | [],e=>⟨Nat.le_refl _,by simp [endFrom],fun j hj=>by simp at hj,fun hj=>by simp at hj⟩
 | r::rest,e=>by
  by_cases hq:r.f1 > d
  ·have he:endFrom d (r::rest) e=endFrom d rest (e+1):=if_pos hq
   obtain ⟨h1,h2,h3,h4⟩:=endFrom_spec d rest (e+1)
   refine ⟨by rw [he];omega,by rw [he];simp;omega,fun j hj hlt=>?_,fun hj=>?_⟩
   ·rw [he] at hlt
    cases j with
    | zero=>exact hq
    | succ j=>exact h3 j (by simpa using hj) (by omega)
   ·have e1:endFrom d (r::rest) e - e=(endFrom d rest (e+1) - (e+1))+1:=by rw [he];omega
    have hj':endFrom d rest (e+1) - (e+1) < rest.length:=by rw [e1] at hj;simpa using hj
    have:=h4 hj'
    simp only [e1,List.getElem_cons_succ]
    exact this
  ·have he:endFrom d (r::rest) e=e:=if_neg hq
   refine ⟨by rw [he];exact Nat.le_refl _,by rw [he];omega,fun j hj hlt=>by rw [he] at hlt;omega,fun hj=>?_⟩
   have e1:endFrom d (r::rest) e - e=0:=by rw [he];omega
   simp only [e1,List.getElem_cons_zero]
   omega
theorem endI_spec (t:List S37) (a:Nat) (ha:a < t.length):a < endI t a∧endI t a≤t.length∧(∀ (j:Nat) (hj:j < t.length),a < j→j < endI t a→t[a].f1 < t[j].f1)∧(∀ (hj:endI t a < t.length),t[endI t a].f1≤t[a].f1):=by
 unfold endI
 rw [getD_get t a ha]
 obtain ⟨h1,h2,h3,h4⟩:=endFrom_spec t[a].f1 (t.drop (a+1)) (a+1)
 rw [List.length_drop] at h2
 refine ⟨by omega,by omega,fun j hj h5 h6=>?_,fun hj=>?_⟩
 ·have:=h3 (j - (a+1)) (by rw [List.length_drop];omega) (by omega)
  rw [List.getElem_drop] at this
  simpa [show a+1+(j - (a+1))=j by omega] using this
 ·have:=h4 (by rw [List.length_drop];omega)
  rw [List.getElem_drop] at this
  simpa [show a+1+(endFrom t[a].f1 (t.drop (a+1)) (a+1) - (a+1))=endFrom t[a].f1 (t.drop (a+1)) (a+1) by omega] using this
def KidOf (t:List S37) (a i:Nat) (x:Int):Prop:=∃ (ha:a < t.length) (j:Nat) (hj:j < t.length),i≤j∧j < endI t a∧t[j].f0=x∧t[j].f1=wrap64 (t[a].f1+1)
theorem kids_l0 (t:List S37) (a:Nat) (ha:a < t.length) (hl:t.length≤1099511627776):∀ (n i:Nat) (acc:List Int),i+n=endI t a→acc.length+n≤1099511627776 →
  ∃ r:List Int,Ev (fun k=>spec_l2Kids.l0 k t acc a i) (acc++r)∧r.length≤n∧∀ x∈r,KidOf t a i x
 | 0,i,acc,h,hacc=>by
  refine ⟨[],?_,by simp,fun x hx=>by cases hx⟩
  rw [List.append_nil]
  refine Ev.step (fun k=>by simp only [spec_l2Kids.l0];rfl) ?_
  refine Ev.bind (end_f t a ha hl) ?_
  refine ev_neg (by omega) ?_
  exact evnow _
 | n+1,i,acc,h,hacc=>by
  obtain ⟨e1,e2,_,_⟩:=endI_spec t a ha
  have hi:i < t.length:=by omega
  by_cases hq:t[i].f1=wrap64 (t[a].f1+1)
  ·obtain ⟨r,hr,hlen,hk⟩:=kids_l0 t a ha hl n (i+1) (acc++[t[i].f0]) (by omega) (by simp;omega)
   refine ⟨t[i].f0::r,?_,by simp;omega,fun x hx=>?_⟩
   ·rw [List.append_assoc] at hr
    refine Ev.step (fun k=>by simp only [spec_l2Kids.l0];rfl) ?_
    refine Ev.bind (end_f t a ha hl) ?_
    refine ev_pos (by omega) (ev_pos (by omega) (ev_pos (by omega) (ev_pos (by omega) (ev_pos (by omega) ?_))))
    rw [rdR_get t i hi,rdR_get t a ha,wrapS i (by omega) (by omega)]
    refine ev_pos hq (ev_pos (by omega) ?_)
    exact hr
   ·rcases List.mem_cons.1 hx with rfl|hx
    ·exact ⟨ha,i,hi,Nat.le_refl _,by omega,rfl,hq⟩
    ·obtain ⟨h1,j,hj,h2,h3,h4,h5⟩:=hk x hx
     exact ⟨h1,j,hj,by omega,h3,h4,h5⟩
  ·obtain ⟨r,hr,hlen,hk⟩:=kids_l0 t a ha hl n (i+1) acc (by omega) (by omega)
   refine ⟨r,?_,by omega,fun x hx=>?_⟩
   ·refine Ev.step (fun k=>by simp only [spec_l2Kids.l0];rfl) ?_
    refine Ev.bind (end_f t a ha hl) ?_
    refine ev_pos (by omega) (ev_pos (by omega) (ev_pos (by omega) (ev_pos (by omega) (ev_pos (by omega) ?_))))
    rw [rdR_get t i hi,rdR_get t a ha,wrapS i (by omega) (by omega)]
    refine ev_neg hq ?_
    exact hr
   ·obtain ⟨h1,j,hj,h2,h3,h4,h5⟩:=hk x hx
    exact ⟨h1,j,hj,by omega,h3,h4,h5⟩
theorem kids_f (t:List S37) (id:Int) (hl:t.length≤1000000):∃ r:List Int,Ev (fun k=>spec_l2Kids.f k t id) r∧r.length≤t.length∧∀ x∈r,∃ a:Nat,atI t id=(a:Int)∧KidOf t a (a+1) x:=by
 unfold spec_l2Kids.f
 simp only [Option.bind_some]
 rcases atI_spec t id with ⟨h1,_⟩|⟨a,ha,h1,_⟩
 ·refine ⟨[],?_,by simp,fun x hx=>by cases hx⟩
  refine Ev.bind (at_f t id (by omega)) ?_
  rw [h1]
  exact ev_pos (by omega) (evnow _)
 ·obtain ⟨e1,e2,_,_⟩:=endI_spec t a ha
  obtain ⟨r,hr,hlen,hk⟩:=kids_l0 t a ha (by omega) (endI t a - (a+1)) (a+1) [] (by omega) (by simp;omega)
  refine ⟨r,?_,by omega,fun x hx=>⟨a,h1,hk x hx⟩⟩
  refine Ev.bind (at_f t id (by omega)) ?_
  rw [h1]
  refine ev_neg (by omega) ?_
  rw [wrapS a (by omega) (by omega)]
  exact hr
def shift (d:Int) (r:S37):S37:=⟨r.f0,wrap64 (r.f1+d),r.f2⟩
theorem put_l0 (t rows:List S37) (d:Int) (p:Nat) (hp:p≤t.length) (hl:t.length≤1000000) (hr:rows.length≤1000000):∀ (n i:Nat) (acc:List S37),i+n=rows.length→acc.length+n≤3000000 →
  Ev (fun k=>spec_l3Put.l0 k t rows d p acc i) (acc++(rows.drop i).map (shift d)++t.drop p)
 | 0,i,acc,h,ha=>by
  rw [List.drop_eq_nil_of_le (show rows.length≤i by omega),List.map_nil,List.append_nil]
  refine Ev.step (fun k=>by simp only [spec_l3Put.l0];rfl) ?_
  refine ev_neg (by omega) (ev_pos (by omega) (ev_pos (by omega) ?_))
  simp only [Option.bind_some]
  refine ev_pos (by rw [List.length_drop];omega) ?_
  exact evnow _
 | n+1,i,acc,h,ha=>by
  have hi:i < rows.length:=by omega
  rw [List.drop_eq_getElem_cons hi,List.map_cons]
  have ih:=put_l0 t rows d p hp hl hr n (i+1) (acc++[shift d rows[i]]) (by omega) (by simp;omega)
  rw [List.append_assoc acc] at ih
  refine Ev.step (fun k=>by simp only [spec_l3Put.l0];rfl) ?_
  refine ev_pos (by omega) (ev_pos (by omega) (ev_pos (by omega) ?_))
  rw [rdR_get rows i hi,wrapS i (by omega) (by omega)]
  exact ih
theorem put_f (t rows:List S37) (u a:Int) (hl:t.length≤1000000) (hr:rows.length≤1000000) (h0:0 < rows.length) (hu:∃ x∈t,x.f0=u) (ha:a > 0→∃ x∈t,x.f0=a) :
  ∃ (y:S37) (p:Nat),y∈t∧y.f0=u∧p≤t.length∧Ev (fun k=>spec_l3Put.f k t rows u a) (t.take p++rows.map (shift (wrap64 (wrap64 (y.f1+1) - rows[0].f1)))++t.drop p):=by
 obtain ⟨x,hx,hxu⟩:=hu
 obtain ⟨j,hj,e1,e2⟩:=atI_mem hx hxu
 have fin:∀ (p:Nat),p≤t.length→Ev (fun k=>spec_l3Put.j0 k t rows (wrap64 (wrap64 (t[j].f1+1) - rows[0].f1)) p) (t.take p++rows.map (shift (wrap64 (wrap64 (t[j].f1+1) - rows[0].f1)))++t.drop p):=fun p hp=>by
  refine Ev.step (fun k=>by simp only [spec_l3Put.j0];rfl) ?_
  simp only [Option.bind_some]
  refine ev_pos (by omega) (ev_pos (by omega) ?_)
  refine ev_pos (by simp;omega) ?_
  simp only [List.nil_append,Int.toNat_natCast]
  have:=put_l0 t rows (wrap64 (wrap64 (t[j].f1+1) - rows[0].f1)) p hp hl hr rows.length 0 (t.take p) (by omega) (by rw [List.length_take];omega)
  simpa using this
 have r0:rd_T37 rows 0=rows[0]:=rdR_get rows 0 h0
 by_cases h:a > 0
 ·obtain ⟨x2,hx2,hxa⟩:=ha h
  obtain ⟨i,hi,e3,e4⟩:=atI_mem hx2 hxa
  obtain ⟨_,e5,_,_⟩:=endI_spec t i hi
  refine ⟨t[j],endI t i,List.getElem_mem hj,e2,e5,?_⟩
  unfold spec_l3Put.f
  refine Ev.bind (at_f t u (by omega)) ?_
  rw [e1]
  refine ev_pos (by omega) (ev_pos (by omega) (ev_pos (by omega) (ev_pos h ?_)))
  refine Ev.bind (at_f t a (by omega)) ?_
  rw [e3]
  refine Ev.bind (end_f t i hi (by omega)) ?_
  rw [rdR_get t j hj,r0]
  exact fin _ e5
 ·refine ⟨t[j],j+1,List.getElem_mem hj,e2,by omega,?_⟩
  unfold spec_l3Put.f
  refine Ev.bind (at_f t u (by omega)) ?_
  rw [e1]
  refine ev_pos (by omega) (ev_pos (by omega) (ev_pos (by omega) (ev_neg h ?_)))
  rw [rdR_get t j hj,r0,wrapS j (by omega) (by omega)]
  exact fin (j+1) (by omega)
theorem under_f (t:List S37) (u id:Int) (k:Nat) (hk:k < t.length) (hi:atI t id=(k:Int)) (hl:t.length≤1000000) :
  Ev (fun n=>spec_l2Under.f n t u id) (decide (0≤atI t u)&&(decide ((k:Int)≤atI t u)&&decide (atI t u≤(endI t k:Int) - 1))):=by
 obtain ⟨e1,e2,_,_⟩:=endI_spec t k hk
 unfold spec_l2Under.f
 refine Ev.bind (at_f t u (by omega)) ?_
 refine Ev.bind (at_f t id (by omega)) ?_
 rw [hi]
 by_cases h:atI t u≥0
 ·refine ev_pos h (ev_pos (by omega) ?_)
  refine Ev.bind (end_f t k hk (by omega)) ?_
  have hw:wrap64 ((endI t k:Int) - 1)=(endI t k:Int) - 1:=by unfold wrap64;omega
  rw [hw,in_f,dt_ (show 0≤atI t u from h),Bool.true_and]
  simp only [Option.bind_some]
  exact evnow _
 ·rw [df_ (show ¬ 0≤atI t u from h),Bool.false_and]
  exact ev_neg h (evnow _)
theorem where_l0 (u:Int) (ks:List Int) (kd id up at_:Int) (s:ByteArray) (hl:ks.length≤1000000):∀ (n i:Nat) (a:Int),i+n=ks.length→(a > 0→a∈ks∧a≠id)→∃ a':Int,Ev (fun k=>spec_l3Where.l0 k u a ks i kd id up at_ s) (u,a',true)∧(a' > 0→a'∈ks∧a'≠id)
 | 0,i,a,h,ha=>⟨a,by
   refine Ev.step (fun k=>by simp only [spec_l3Where.l0];rfl) ?_
   exact ev_neg (by omega) (evnow _),ha⟩
 | n+1,i,a,h,ha=>by
  have hi:i < ks.length:=by omega
  have hrd:rd ks i=ks[i]:=by
   unfold rd
   rw [List.getD_eq_getElem?_getD,show ((i:Int)).toNat=i from rfl,List.getElem?_eq_getElem hi]
   rfl
  by_cases hq:ks[i]=at_∧at_≠id
  ·obtain ⟨a',h1,h2⟩:=where_l0 u ks kd id up at_ s hl n (i+1) at_ (by omega) (fun _=>⟨hq.1 ▸ List.getElem_mem hi,hq.2⟩)
   refine ⟨a',?_,h2⟩
   refine Ev.step (fun k=>by simp only [spec_l3Where.l0];rfl) ?_
   rw [hrd,wrapS i (by omega) (by omega)]
   exact ev_pos (by omega) (ev_pos (by omega) (ev_pos hq.1 (ev_neg hq.2 h1)))
  ·obtain ⟨a',h1,h2⟩:=where_l0 u ks kd id up at_ s hl n (i+1) a (by omega) ha
   refine ⟨a',?_,h2⟩
   refine Ev.step (fun k=>by simp only [spec_l3Where.l0];rfl) ?_
   rw [hrd,wrapS i (by omega) (by omega)]
   refine ev_pos (by omega) (ev_pos (by omega) ?_)
   by_cases h3:ks[i]=at_
   ·refine ev_pos h3 (ev_pos ?_ h1)
    by_cases h4:at_=id
    ·exact h4
    ·exact absurd ⟨h3,h4⟩ hq
   ·exact ev_neg h3 h1
structure Inv (t:List S37) (B:Int):Prop where
 deep:∀ x∈t,0≤x.f1∧x.f1≤B
 root:∀ x∈t,x.f0=3→x.f1=0
 found:∃ x∈t,x.f0=3
 ids:∀ x∈t,I64 x.f0∧x.f2.size≤2000
def Fits (t:List S37) (kd id:Int) (u a:Int):Prop :=
 kd≠2∧(kd≠3→atI t id=-1)∧(kd=3→∃ k:Nat,k < t.length∧atI t id=(k:Int)) ∧
 ∃ (p:Nat) (hp:p < t.length),t[p].f0=u∧(a > 0→∃ (q:Nat) (hq:q < t.length),t[q].f0=a∧∀ k:Nat,kd=3→atI t id=(k:Int)→¬ (k≤q∧q < endI t k)) ∧
  ∀ k:Nat,kd=3→atI t id=(k:Int)→¬ (k≤p∧p < endI t k)
theorem where_f (t:List S37) (B kd id up at_:Int) (s:ByteArray) (hI:Inv t B) (hB:B≤1099511627776) (hid:id≠3) (hl:t.length≤1000000) :
  ∃ (u a:Int) (ok:Bool),Ev (fun n=>spec_l3Where.f n t kd id up at_ s) (u,a,ok)∧(ok=true→Fits t kd id u a):=by
 have none_:∀ f:Nat→Option (Int×Int×Bool),(∀ n,f n=spec_l3Where.j0 n t true kd id up at_ s)→Ev f (0,0,false):=fun f hf =>
  Ev.congr hf (Ev.step (f:=fun _=>some (0,0,false)) (fun n=>by simp only [spec_l3Where.j0,if_true]) (evnow _))
 unfold spec_l3Where.f
 by_cases h2:kd=2
 ·exact ⟨0,0,false,Ev.bind (at_f t id (by omega)) (ev_pos h2 (none_ _ (fun n=>rfl))),fun h=>by cases h⟩
 ·by_cases h3:((decide (atI t id≥0)) != (kd==3))=true
  ·exact ⟨0,0,false,Ev.bind (at_f t id (by omega)) (ev_neg h2 (ev_pos h3 (none_ _ (fun n=>rfl)))),fun h=>by cases h⟩
  ·have h3':decide (atI t id≥0)=(kd==3):=by simpa using h3
   -- the rest: 'up' is there,or it isn't
   have rest:(∀ (p k:Nat),atI t up=(p:Int)→kd=3→atI t id=(k:Int)→¬ (k≤p∧p < endI t k))→∃ (u a:Int),Ev (fun n=>spec_l3Where.j0 n t false kd id up at_ s) (u,a,true)∧Fits t kd id u a:=by
    intro hout
    have c1:kd≠3→atI t id=-1:=fun hk=>by
     have:(kd==3)=false:=beq_eq_false_iff_ne.2 hk
     rw [this] at h3'
     have h4:=of_decide_eq_false h3'
     rcases atI_spec t id with ⟨h5,_⟩|⟨j,hj,h5,_⟩
     ·exact h5
     ·omega
    have c2:kd=3→∃ k:Nat,k < t.length∧atI t id=(k:Int):=fun hk=>by
     have:(kd==3)=true:=beq_iff_eq.2 hk
     rw [this] at h3'
     have h4:=of_decide_eq_true h3'
     rcases atI_spec t id with ⟨h5,_⟩|⟨j,hj,h5,_⟩
     ·omega
     ·exact ⟨j,hj,h5⟩
    rcases atI_spec t up with ⟨h5,_⟩|⟨p,hp,h5,h6⟩
    ·obtain ⟨x,hx,hx3⟩:=hI.found
     obtain ⟨p,hp,rfl⟩:=List.getElem_of_mem hx
     refine ⟨3,0,?_,h2,c1,c2,p,hp,hx3,fun h=>by omega,fun k hk hik hin=>?_⟩
     ·refine Ev.step (fun n=>by simp only [spec_l3Where.j0];rfl) ?_
      refine ev_neg (by decide) ?_
      refine Ev.bind (at_f t up (by omega)) ?_
      exact ev_pos (by omega) (evnow _)
     ·obtain ⟨k',hk',e⟩:=c2 hk
      obtain rfl:k'=k:=by omega
      rcases Nat.eq_or_lt_of_le hin.1 with e6|e6
      ·subst e6
       rcases atI_spec t id with ⟨h7,_⟩|⟨j,hj,h7,h8⟩
       ·omega
       ·obtain rfl:j=k':=by omega
        exact hid (h8.symm.trans hx3)
      ·have:=(endI_spec t k' hk').2.2.1 p hp e6 hin.2
       have d1:=(hI.deep _ (List.getElem_mem hk')).1
       have d2:=hI.root _ hx hx3
       omega
    ·obtain ⟨ks,hks,hkl,hkk⟩:=kids_f t up hl
     obtain ⟨a,ha,hak⟩:=where_l0 up ks kd id up at_ s (by omega) ks.length 0 0 (by omega) (fun h=>by omega)
     refine ⟨up,a,?_,h2,c1,c2,p,hp,h6,fun hpos=>?_,fun k hk hik=>hout p k h5 hk hik⟩
     ·refine Ev.step (fun n=>by simp only [spec_l3Where.j0];rfl) ?_
      refine ev_neg (by decide) ?_
      refine Ev.bind (at_f t up (by omega)) ?_
      refine ev_neg (by omega) ?_
      exact Ev.bind hks ha
     ·obtain ⟨hmem,hne⟩:=hak hpos
      obtain ⟨p',hp',hpl,q,hq,hq1,hq2,hq3,hq4⟩:=hkk a hmem
      obtain rfl:p'=p:=by omega
      refine ⟨q,hq,hq3,fun k hk hik hin=>?_⟩
      obtain ⟨k',hk',e⟩:=c2 hk
      obtain rfl:k'=k:=by omega
      have out:=hout p' k' h5 hk hik
      have hkq:k'≠q:=by
       rintro rfl
       rcases atI_spec t id with ⟨h7,_⟩|⟨j,hj,h7,h8⟩
       ·omega
       ·obtain rfl:j=k':=by omega
        exact hne (hq3.symm.trans h8)
      have dq:=(endI_spec t k' hk').2.2.1 q hq (by omega) hin.2
      have dB:=hI.deep _ (List.getElem_mem hp)
      have hw:wrap64 (t[p'].f1+1)=t[p'].f1+1:=wrap_id _ (by omega) (by omega)
      rw [hw] at hq4
      rcases Nat.lt_or_ge p' k' with h9|h9
      ·have:=(endI_spec t p' hp).2.2.1 k' hk' h9 (by omega)
       omega
      ·exact out ⟨h9,by omega⟩
   by_cases h4:atI t id≥0
   ·have h33:kd=3:=by
     rw [dt_ h4] at h3'
     exact beq_iff_eq.1 h3'.symm
    rcases atI_spec t id with ⟨h5,_⟩|⟨k,hk,h5,h6⟩
    ·omega
    have hu:=under_f t up id k hk h5 hl
    cases hd:(decide (0≤atI t up)&&(decide ((k:Int)≤atI t up)&&decide (atI t up≤(endI t k:Int) - 1))) with
    | true =>
     rw [hd] at hu
     exact ⟨0,0,false,Ev.bind (at_f t id (by omega)) (ev_neg h2 (ev_neg h3 (ev_pos h4 (Ev.bind hu (none_ _ (fun n=>rfl)))))),fun h=>by cases h⟩
    | false =>
     rw [hd] at hu
     obtain ⟨u,a,h7,h8⟩:=rest (fun p k2 hp _ hk2 hin=>by
      obtain rfl:k2=k:=by omega
      have:(decide (0≤atI t up)&&(decide ((k2:Int)≤atI t up)&&decide (atI t up≤(endI t k2:Int) - 1)))=true:=by
       simp only [Bool.and_eq_true,decide_eq_true_eq]
       omega
      rw [this] at hd
      cases hd)
     exact ⟨u,a,true,Ev.bind (at_f t id (by omega)) (ev_neg h2 (ev_neg h3 (ev_pos h4 (Ev.bind hu h7)))),fun _=>h8⟩
   ·obtain ⟨u,a,h7,h8⟩:=rest (fun p k2 hp _ hk2 hin=>by omega)
    exact ⟨u,a,true,Ev.bind (at_f t id (by omega)) (ev_neg h2 (ev_neg h3 (ev_neg h4 h7))),fun _=>h8⟩
theorem mem_rest {t:List S37} {k e j:Nat} (hj:j < t.length) (h:¬ (k≤j∧j < e)) (hk:k≤e):t[j]∈t.take k++t.drop e:=by
 rcases Nat.lt_or_ge j k with h1|h1
 ·exact List.mem_append_left _ (List.mem_take_iff_getElem.2 ⟨j,by omega,rfl⟩)
 ·exact List.mem_append_right _ (List.mem_drop_iff_getElem.2 ⟨j - e,by omega,by congr 1;omega⟩)
theorem rest_mem {t:List S37} {k e:Nat} {x:S37} (h:x∈t.take k++t.drop e):x∈t:=by
 rcases List.mem_append.1 h with h|h
 ·exact List.mem_of_mem_take h
 ·exact List.mem_of_mem_drop h
theorem Inv.more {t:List S37} {B C:Int} (h:Inv t B) (hc:B≤C):Inv t C:=⟨fun x hx=>⟨(h.deep x hx).1,Int.le_trans (h.deep x hx).2 hc⟩,h.root,h.found,h.ids⟩
theorem do_f (t:List S37) (B kd id up at_:Int) (s:ByteArray) (hI:Inv t B) (hB0:0≤B) (hB:B≤1099511627776) (hk:kd=1∨kd=2∨kd=3) (hid:id≠3) (hid64:I64 id) (hl:t.length≤100000) (hs:s.size≤2000) :
  ∃ t':List S37,Ev (fun n=>spec_l3Do.f n t kd id up at_ s) t'∧Inv t' (2 * B+1)∧(t'.length≤t.length+1∧t.length≤t'.length):=by
 have same:∀ y:List S37,y=t→Inv y (2 * B+1)∧(y.length≤t.length+1∧t.length≤y.length):=fun y hy=>by
  subst hy
  exact ⟨hI.more (by omega),by omega⟩
 unfold spec_l3Do.f
 by_cases h2:kd=2
 ·rcases atI_spec t id with ⟨h5,_⟩|⟨k,hk',h5,h6⟩
  ·refine ⟨[]++t,Ev.bind (at_f t id (by omega)) (ev_pos h2 ?_),same _ (by simp)⟩
   simp only [Option.bind_some]
   refine ev_pos (by simp;omega) ?_
   rw [h5]
   exact ev_neg (by omega) (evnow _)
  ·refine ⟨t.set k ⟨t[k].f0,t[k].f1,s⟩,Ev.bind (at_f t id (by omega)) (ev_pos h2 ?_),?_,by rw [List.length_set];omega⟩
   ·simp only [Option.bind_some]
    refine ev_pos (by simp;omega) ?_
    rw [h5]
    simp only [List.nil_append,Int.toNat_natCast,rdR_get t k hk']
    exact ev_pos (by omega) (ev_pos (by omega) (ev_pos (by omega) (evnow _)))
   ·have hm:∀ x∈t.set k ⟨t[k].f0,t[k].f1,s⟩,∃ y∈t,x.f0=y.f0∧x.f1=y.f1∧(x.f2=s∨x.f2=y.f2):=fun x hx=>by
     obtain ⟨i,hi,rfl⟩:=List.getElem_of_mem hx
     rw [List.length_set] at hi
     rw [List.getElem_set]
     split
     ·exact ⟨t[k],List.getElem_mem hk',rfl,rfl,Or.inl rfl⟩
     ·exact ⟨t[i],List.getElem_mem hi,rfl,rfl,Or.inr rfl⟩
    refine ⟨fun x hx=>?_,fun x hx h3=>?_,?_,fun x hx=>?_⟩
    ·obtain ⟨y,hy,_,e,_⟩:=hm x hx
     have:=hI.deep y hy
     rw [e];omega
    ·obtain ⟨y,hy,e0,e,_⟩:=hm x hx
     rw [e]
     exact hI.root y hy (e0 ▸ h3)
    ·obtain ⟨x,hx,h3⟩:=hI.found
     obtain ⟨i,hi,rfl⟩:=List.getElem_of_mem hx
     refine ⟨(t.set k ⟨t[k].f0,t[k].f1,s⟩)[i]'(by rw [List.length_set];exact hi),List.getElem_mem _,?_⟩
     rw [List.getElem_set]
     split
     ·rename_i e;subst e;exact h3
     ·exact h3
    ·obtain ⟨y,hy,e0,_,e2⟩:=hm x hx
     rw [e0]
     refine ⟨(hI.ids y hy).1,?_⟩
     rcases e2 with e2|e2 <;> rw [e2]
     ·exact hs
     ·exact (hI.ids y hy).2
 ·obtain ⟨u,a,ok,hw,hfit⟩:=where_f t B kd id up at_ s hI hB hid (by omega)
  cases ok with
  | false =>
   refine ⟨[]++t,Ev.bind (at_f t id (by omega)) (ev_neg h2 (Ev.bind hw (ev_neg (by simp) ?_))),same _ (by simp)⟩
   simp only [Option.bind_some]
   exact ev_pos (by simp;omega) (evnow _)
  | true =>
   obtain ⟨_,c1,c2,p,hp,hpu,hpa,hpo⟩:=hfit rfl
   by_cases h1:kd=1
   ·obtain ⟨y,q,hy,hyu,hq,hev⟩:=put_f t [⟨id,0,s⟩] u a (by omega) (by simp) (by simp) ⟨t[p],List.getElem_mem hp,hpu⟩ (fun h=>by
     obtain ⟨q,hq,e,_⟩:=hpa h
     exact ⟨t[q],List.getElem_mem hq,e⟩)
    refine ⟨_,Ev.bind (at_f t id (by omega)) (ev_neg h2 (Ev.bind hw (ev_pos rfl (ev_pos h1 (Ev.bind hev (evnow _)))))),?_,by simp;omega⟩
    have dy:=hI.deep y hy
    have hw1:wrap64 (wrap64 (y.f1+1) - 0)=y.f1+1:=by rw [wrap_id (y.f1+1) (by omega) (by omega),wrap_id _ (by omega) (by omega)];omega
    have hmem:∀ x∈t.take q++[(⟨id,0,s⟩:S37)].map (shift (wrap64 (wrap64 (y.f1+1) - ([(⟨id,0,s⟩:S37)])[0].f1)))++t.drop q,x∈t∨(x.f0=id∧x.f1=y.f1+1∧x.f2=s):=fun x hx=>by
     rcases List.mem_append.1 hx with hx|hx
     ·rcases List.mem_append.1 hx with hx|hx
      ·exact Or.inl (List.mem_of_mem_take hx)
      ·right
       simp only [List.map_cons,List.map_nil,List.mem_singleton] at hx
       subst hx
       refine ⟨rfl,?_,rfl⟩
       show wrap64 (0+wrap64 (wrap64 (y.f1+1) - 0))=y.f1+1
       rw [hw1,wrap_id _ (by omega) (by omega)]
       omega
     ·exact Or.inl (List.mem_of_mem_drop hx)
    refine ⟨fun x hx=>?_,fun x hx h3=>?_,?_,fun x hx=>?_⟩
    ·rcases hmem x hx with h|⟨_,h,_⟩
     ·have:=hI.deep x h
      omega
     ·rw [h];omega
    ·rcases hmem x hx with h|⟨h,_⟩
     ·exact hI.root x h h3
     ·exact absurd (h.symm.trans h3) hid
    ·obtain ⟨x,hx,h3⟩:=hI.found
     rw [←List.take_append_drop q t] at hx
     rcases List.mem_append.1 hx with hx|hx
     ·exact ⟨x,List.mem_append_left _ (List.mem_append_left _ hx),h3⟩
     ·exact ⟨x,List.mem_append_right _ hx,h3⟩
    ·rcases hmem x hx with h|⟨h,_,h2⟩
     ·exact hI.ids x h
     ·rw [h,h2];exact ⟨hid64,hs⟩
   ·have h33:kd=3:=by
     rcases hk with h|h|h
     ·exact absurd h h1
     ·exact absurd h h2
     ·exact h
    obtain ⟨k,hk',h5⟩:=c2 h33
    obtain ⟨e1,e2,e3,_⟩:=endI_spec t k hk'
    have hkid:t[k].f0=id:=by
     rcases atI_spec t id with ⟨h7,_⟩|⟨j,hj,h7,h8⟩
     ·omega
     ·obtain rfl:j=k:=by omega
      exact h8
    have hout:=hpo k h33 h5
    obtain ⟨rest,hrest⟩:∃ r,r=t.take k++t.drop (endI t k):=⟨_,rfl⟩
    obtain ⟨rows,hrows⟩:∃ r,r=(t.take (endI t k)).drop k:=⟨_,rfl⟩
    have hrl:rows.length=endI t k - k:=by rw [hrows,List.length_drop,List.length_take];omega
    have hsl:rest.length=k+(t.length - endI t k):=by rw [hrest,List.length_append,List.length_take,List.length_drop];omega
    have hr0:rows[0]'(by omega)=t[k]:=by
     simp only [hrows,List.getElem_drop,List.getElem_take]
     rfl
    have hrm:∀ x∈rows,∃ (j:Nat) (hj:j < t.length),k≤j∧j < endI t k∧x=t[j]:=fun x hx=>by
     rw [hrows] at hx
     obtain ⟨i,hi,rfl⟩:=List.getElem_of_mem hx
     rw [List.length_drop,List.length_take] at hi
     refine ⟨k+i,by omega,by omega,by omega,?_⟩
     rw [List.getElem_drop,List.getElem_take]
    obtain ⟨y,q,hy,hyu,hq,hev⟩:=put_f rest rows u a (by omega) (by omega) (by omega) ⟨t[p],by rw [hrest];exact mem_rest hp hout (by omega),hpu⟩ (fun h=>by
     obtain ⟨q,hq,e,ho⟩:=hpa h
     exact ⟨t[q],by rw [hrest];exact mem_rest hq (ho k h33 h5) (by omega),e⟩)
    refine ⟨rest.take q++rows.map (shift (wrap64 (wrap64 (y.f1+1) - (rows[0]'(by omega)).f1)))++rest.drop q,Ev.bind (at_f t id (by omega)) (ev_neg h2 (Ev.bind hw (ev_pos rfl (ev_neg h1 ?_)))),?_,?_⟩
    rotate_left
    ·have hyt:y∈t:=rest_mem (hrest ▸ hy)
     have dy:=hI.deep y hyt
     have dk:=hI.deep _ (List.getElem_mem hk')
     have hw1:wrap64 (wrap64 (y.f1+1) - (rows[0]'(by omega)).f1)=y.f1+1 - t[k].f1:=by rw [hr0,wrap_id (y.f1+1) (by omega) (by omega),wrap_id _ (by omega) (by omega)]
     rw [hw1]
     have hmem:∀ x∈rest.take q++rows.map (shift (y.f1+1 - t[k].f1))++rest.drop q,x∈t∨(x.f0≠3∧(0≤x.f1∧x.f1≤2 * B+1)∧I64 x.f0∧x.f2.size≤2000):=fun x hx=>by
      rcases List.mem_append.1 hx with hx|hx
      ·rcases List.mem_append.1 hx with hx|hx
       ·exact Or.inl (rest_mem (hrest ▸ List.mem_of_mem_take hx))
       ·right
        obtain ⟨z,hz,rfl⟩:=List.mem_map.1 hx
        obtain ⟨j,hj,hkj,hje,rfl⟩:=hrm z hz
        have dj:=hI.deep _ (List.getElem_mem hj)
        have hge:t[k].f1≤t[j].f1:=by
         rcases Nat.eq_or_lt_of_le hkj with e|e
         ·subst e;exact Int.le_refl _
         ·exact Int.le_of_lt (e3 j hj e hje)
        have hf:(shift (y.f1+1 - t[k].f1) t[j]).f1=t[j].f1+(y.f1+1 - t[k].f1):=wrap_id _ (by omega) (by omega)
        refine ⟨?_,⟨by rw [hf];omega,by rw [hf];omega⟩,hI.ids t[j] (List.getElem_mem hj)⟩
        show t[j].f0≠3
        intro h3
        rcases Nat.eq_or_lt_of_le hkj with e|e
        ·subst e;exact hid (hkid.symm.trans h3)
        ·have:=e3 j hj e hje
         have:=hI.root _ (List.getElem_mem hj) h3
         omega
      ·exact Or.inl (rest_mem (hrest ▸ List.mem_of_mem_drop hx))
     refine ⟨fun x hx=>?_,fun x hx h3=>?_,?_,fun x hx=>?_⟩
     ·rcases hmem x hx with h|⟨_,h,_⟩
      ·have:=hI.deep x h
       omega
      ·exact h
     ·rcases hmem x hx with h|⟨h,_⟩
      ·exact hI.root x h h3
      ·exact absurd h3 h
     ·obtain ⟨x,hx,h3⟩:=hI.found
      obtain ⟨j,hj,rfl⟩:=List.getElem_of_mem hx
      have hj3:¬ (k≤j∧j < endI t k):=by
       rintro ⟨g1,g2⟩
       rcases Nat.eq_or_lt_of_le g1 with e|e
       ·subst e;exact hid (hkid.symm.trans h3)
       ·have:=e3 j hj e g2
        have:=hI.root _ (List.getElem_mem hj) h3
        omega
      have hxr:t[j]∈rest:=by rw [hrest];exact mem_rest hj hj3 (by omega)
      rw [←List.take_append_drop q rest] at hxr
      rcases List.mem_append.1 hxr with hx|hx
      ·exact ⟨_,List.mem_append_left _ (List.mem_append_left _ hx),h3⟩
      ·exact ⟨_,List.mem_append_right _ hx,h3⟩
     ·rcases hmem x hx with h|⟨_,_,h⟩
      ·exact hI.ids x h
      ·exact h
    ·rw [List.length_append,List.length_append,List.length_map,List.length_take,List.length_drop]
     omega
    ·rw [h5]
     refine Ev.bind (end_f t k hk' (by omega)) ?_
     simp only [Option.bind_some,Int.toNat_natCast]
     refine ev_pos (by omega) (ev_pos (by omega) (ev_pos (by omega) ?_))
     refine ev_pos (by rw [List.length_drop,List.length_take];simp;omega) ?_
     refine ev_pos (by omega) ?_
     refine ev_pos (by rw [List.length_take];simp;omega) ?_
     refine ev_pos (by omega) ?_
     refine ev_pos (by rw [List.length_append,List.length_take,List.length_drop];simp;omega) ?_
     simp only [List.nil_append]
     rw [←hrest,←hrows]
     exact Ev.bind hev (evnow _)
end Go.Proofs.YtlkheeegkifblaaDoor.PL
namespace Go.Proofs.YtlkheeegkifblaaDoor.PL
open Go.RowKit Go.Proofs.YtlkheeegkifblaaDoor.P Go.Proofs.YtlkheeegkifblaaDoorW.PrintWords Go.Proofs.YtlkheeegkifblaaDoorW.PrintLast Go.Proofs.YtlkheeegkifblaaDoor.FP
theorem tops_few:∀ (F:Fo),F.tops.length≤F.ids.length
 | .nil=>Nat.le_refl _
 | .nd i t k n=>by have:=tops_few n;simp only [Fo.tops,Fo.ids,List.length_cons,List.length_append];omega
structure Good (G:Fo):Prop where
 nd:G.ids.Nodup
 ne0:∀ x∈G.ids,x≠0
 tops:G.tops=[1,2,3]
 len:G.ids.length≤1000
theorem Good.three {G:Fo} (g:Good G):3∈G.tops:=by rw [g.tops];simp
theorem fl_le:∀ (F:Fo) (d:Nat) {r:S37},r∈F.fl d→r.f1 < (d:Int)+F.ids.length
 | .nil,d,r,h=>by simp [Fo.fl] at h
 | .nd j t k n,d,r,h=>by
  simp only [Fo.fl,List.mem_cons,List.mem_append] at h
  simp only [Fo.ids,List.length_cons,List.length_append]
  rcases h with rfl|h|h
  ·show (d:Int) < _;omega
  ·have:=fl_le k (d+1) h;omega
  ·have:=fl_le n d h;omega
theorem dep_le (x:Nat) (F:Fo) (d:Nat) (hn:F.ids.Nodup) (hx:x∈F.ids):dep x d F < d+F.ids.length:=by
 obtain ⟨pre,post,s⟩:=spot x F d hn hx
 have:=fl_le F d (r:=⟨(x:Int),(dep x d F:Int),txtF x F⟩) (by rw [s.all];simp)
 simp only at this
 omega
theorem atFrom_pre {r:S37} {rest:List S37} {id:Int} (hr:r.f0=id):∀ (pre:List S37) (i:Nat),(∀ q∈pre,q.f0≠id)→atFrom id (pre++r::rest) i=((i+pre.length:Nat):Int)
 | [],i,_=>by simp [atFrom,hr]
 | q::pre,i,h=>by
  rw [List.cons_append,atFrom,if_neg (h q List.mem_cons_self),atFrom_pre hr pre (i+1) fun x hx=>h x (List.mem_cons_of_mem _ hx),List.length_cons]
  congr 1;omega
theorem at_pre {r:S37} {pre rest:List S37} {id:Int} (hr:r.f0=id) (h:∀ q∈pre,q.f0≠id):atI (pre++r::rest) id=(pre.length:Int):=by
 rw [atI,atFrom_pre hr pre 0 h,Nat.zero_add]
theorem at_none {t:List S37} {id:Int} (h:∀ q∈t,q.f0≠id):atI t id=-1:=by
 rcases atI_spec t id with ⟨e,_⟩|⟨j,hj,_,e⟩
 ·exact e
 ·exact absurd e (h _ (List.getElem_mem hj))
theorem endFrom_mid {d:Int} {post:List S37} (hp:post=[]∨∃ q rest,post=q::rest∧q.f1≤d):∀ (mid:List S37) (e:Nat),(∀ q∈mid,d < q.f1)→endFrom d (mid++post) e=e+mid.length
 | [],e,_=>by
  rcases hp with rfl|⟨q,rest,rfl,h⟩
  ·rfl
  ·rw [List.nil_append,endFrom,if_neg (by omega)];rfl
 | q::mid,e,h=>by
  rw [List.cons_append,endFrom,if_pos (h q List.mem_cons_self),endFrom_mid hp mid (e+1) fun x hx=>h x (List.mem_cons_of_mem _ hx),List.length_cons]
  omega
theorem end_mid {pre mid post:List S37} {r:S37} (hm:∀ q∈mid,r.f1 < q.f1) (hp:post=[]∨∃ q rest,post=q::rest∧q.f1≤r.f1):endI (pre++r::(mid++post)) pre.length=pre.length+1+mid.length:=by
 have e1:(pre++r::(mid++post)).getD pre.length z37=r:=by simp
 have e2:(pre++r::(mid++post)).drop (pre.length+1)=mid++post:=by
  rw [List.drop_append];simp
 rw [endI,e1,e2,endFrom_mid hp mid _ hm]
theorem spot_end {x d:Nat} {G:Fo} {pre post:List S37} (s:Spot x d G pre post):endI (G.fl d) pre.length=pre.length+1+(sub x G).ids.length:=by
 rw [s.all,end_mid (fun q hq=>by have:=fl_deep _ _ hq;show (dep x d G:Int) < q.f1;omega) s.high,fl_len]
theorem spot_at {x d:Nat} {G:Fo} {pre post:List S37} (s:Spot x d G pre post):atI (G.fl d) (x:Int)=(pre.length:Int):=by
 rw [s.all];exact at_pre rfl s.out
theorem spot_len {x d:Nat} {G:Fo} {pre post:List S37} (s:Spot x d G pre post):(G.fl d).length=pre.length+1+(sub x G).ids.length+post.length:=by
 have:=congrArg List.length s.all
 simp only [List.length_append,List.length_cons,fl_len] at this ⊢
 omega
theorem spot_get {x d:Nat} {G:Fo} {pre post:List S37} (s:Spot x d G pre post) (h:pre.length < (G.fl d).length):(G.fl d)[pre.length]=⟨(x:Int),(dep x d G:Int),txtF x G⟩:=by
 simp [s.all]
theorem at_fnd0 {G:Fo} {x:Int} (h:fndF G x=0) (h0:∀ y∈G.ids,y≠0):atI (G.fl 0) x=-1:=at_none fun q hq e=>by
 obtain ⟨i,hi,e2⟩:=fl_ids G 0 hq
 have hx:x=(i:Int):=by rw [←e,e2]
 unfold fndF at h
 rw [if_pos ⟨by omega,by rw [hx];exact hi⟩,hx] at h
 exact h0 i hi h
theorem kids_fl:∀ (F:Fo) (d:Nat),((F.fl d).filter fun r=>decide (r.f1=(d:Int))).map (·.f0)=F.tops.map Int.ofNat
 | .nil,d=>rfl
 | .nd j t k n,d=>by
  have hk:(k.fl (d+1)).filter (fun r=>decide (r.f1=(d:Int)))=[]:=List.filter_eq_nil_iff.2 fun r hr=>by
   have:=fl_deep k (d+1) hr
   simp only [decide_eq_true_eq]
   omega
  have ih:=kids_fl n d
  simp only [Fo.fl,List.filter_cons,decide_true,if_true,List.map_cons,List.filter_append,hk,List.nil_append,Fo.tops]
  rw [ih];rfl
theorem kids_l0x (t:List S37) (a:Nat) (ha:a < t.length) (hl:t.length≤1099511627776):∀ (n i:Nat) (acc:List Int),i+n=endI t a→acc.length+n≤1099511627776 →
  Ev (fun k=>spec_l2Kids.l0 k t acc a i) (acc++(((t.drop i).take n).filter fun r=>decide (r.f1=wrap64 (t[a].f1+1))).map (·.f0))
 | 0,i,acc,h,hacc=>by
  simp only [List.take_zero,List.filter_nil,List.map_nil,List.append_nil]
  refine Ev.step (fun k=>by simp only [spec_l2Kids.l0];rfl) ?_
  refine Ev.bind (end_f t a ha hl) ?_
  refine ev_neg (by omega) ?_
  exact evnow _
 | n+1,i,acc,h,hacc=>by
  obtain ⟨e1,e2,_,_⟩:=endI_spec t a ha
  have hi:i < t.length:=by omega
  rw [List.drop_eq_getElem_cons hi,List.take_succ_cons,List.filter_cons]
  refine Ev.step (fun k=>by simp only [spec_l2Kids.l0];rfl) ?_
  refine Ev.bind (end_f t a ha hl) ?_
  refine ev_pos (by omega) (ev_pos (by omega) (ev_pos (by omega) (ev_pos (by omega) (ev_pos (by omega) ?_))))
  rw [rdR_get t i hi,rdR_get t a ha,wrapS i (by omega) (by omega)]
  by_cases hq:t[i].f1=wrap64 (t[a].f1+1)
  ·refine ev_pos hq (ev_pos (by omega) ?_)
   have ih:=kids_l0x t a ha hl n (i+1) (acc++[t[i].f0]) (by omega) (by simp;omega)
   rw [if_pos (by simpa using hq),List.map_cons]
   simpa using ih
  ·refine ev_neg hq ?_
   have ih:=kids_l0x t a ha hl n (i+1) acc (by omega) (by omega)
   rw [if_neg (by simpa using hq)]
   exact ih
theorem kids_x {G:Fo} (g:Good G) {u:Nat} (hu:u∈G.ids):Ev (fun k=>spec_l2Kids.f k (G.fl 0) (u:Int)) ((sub u G).tops.map Int.ofNat):=by
 obtain ⟨pre,post,s⟩:=spot u G 0 g.nd hu
 have hl:=(spot_len s)
 have hll:=fl_len G 0
 have hg:=g.len
 have ha:pre.length < (G.fl 0).length:=by omega
 unfold spec_l2Kids.f
 simp only [Option.bind_some]
 refine Ev.bind (at_f (G.fl 0) u (by omega)) ?_
 rw [(spot_at s)]
 refine ev_neg (by omega) ?_
 rw [wrapS pre.length (by omega) (by omega)]
 have:=kids_l0x (G.fl 0) pre.length ha (by omega) (sub u G).ids.length (pre.length+1) [] (by rw [(spot_end s)]) (by simp;omega)
 rw [(spot_get s ha)] at this
 have e2:(G.fl 0).drop (pre.length+1)=(sub u G).fl (dep u 0 G+1)++post:=by
  rw [s.all,List.drop_append];simp
 have hd:=dep_le u G 0 g.nd hu
 have e3:wrap64 ((dep u 0 G:Int)+1)=((dep u 0 G+1:Nat):Int):=by rw [wrap_id _ (by omega) (by omega)];omega
 rw [e2,show (sub u G).ids.length=((sub u G).fl (dep u 0 G+1)).length from (fl_len _ _).symm,List.take_left' rfl,e3,kids_fl,List.nil_append] at this
 exact this
theorem fndF_zero {G:Fo} (h0:∀ y∈G.ids,y≠0) {x:Int}:fndF G x=0↔∀ y∈G.ids,(y:Int)≠x:=by
 constructor
 ·intro h y hy e
  unfold fndF at h
  rw [if_pos ⟨by omega,by rw [←e];exact hy⟩,←e] at h
  exact h0 y hy h
 ·intro h
  unfold fndF
  rw [if_neg]
  rintro ⟨h1,h2⟩
  exact h _ h2 (by omega)
theorem fndF_nat {G:Fo} {y:Nat} (hy:y∈G.ids):fndF G (y:Int)=y:=by
 unfold fndF
 rw [if_pos ⟨by omega,show (y:Int).toNat∈G.ids from hy⟩];rfl
theorem fndF_cases {G:Fo} (g:Good G) (i:Nat):(i∈G.ids∧fndF G (i:Int)=i)∨(i∉G.ids∧fndF G (i:Int)=0):=by
 by_cases hi:i∈G.ids
 ·exact Or.inl ⟨hi,fndF_nat hi⟩
 ·exact Or.inr ⟨hi,(fndF_zero g.ne0).2 fun y hy e=>hi ((show y=i by omega) ▸ hy)⟩
end Go.Proofs.YtlkheeegkifblaaDoor.PL
namespace Go.Proofs.YtlkheeegkifblaaDoor.P
open Go.RowKit Go.Proofs.YtlkheeegkifblaaDoorW.PrintWords Go.Proofs.YtlkheeegkifblaaDoorW.PrintLast
mutual
def spec_TreeOk.l0:Nat→List (S37)→Int→Int→Option (Bool)
 | 0,_,_,_=>none
 | k+1,x0,x3,x4=>if x4 < (x0.length:Int) then (if 0≤x4 then ((spec_RowOk.f k ((rd_T37 x0 x4).f0) ((rd_T37 x0 x4).f1) ((rd_T37 x0 x4).f2)).bind fun t333=>(if t333=true then (if x4 > 0 then (if 0≤(wrap64 (x4 - 1)) then (if (wrap64 (x4 - 1)) < (x0.length:Int) then (spec_TreeOk.j1 k x0 x3 x4 (decide (((rd_T37 x0 x4).f1) > (wrap64 (((rd_T37 x0 (wrap64 (x4 - 1))).f1)+1))))) else (none)) else (none)) else (spec_TreeOk.j1 k x0 x3 x4 false)) else (spec_TreeOk.j1 k x0 x3 x4 true))) else (none)) else (if x3=3 then (if 0 < (x0.length:Int) then (some (((rd_T37 x0 0).f0)==1)) else (none)) else (some false))
def spec_TreeOk.j1:Nat→List (S37)→Int→Int→Bool→Option (Bool)
 | 0,_,_,_,_=>none
 | k+1,x0,x3,x4,x36=>if x36=true then (some false) else (if 0≤x4 then (if x4 < (x0.length:Int) then ((spec_l1Root.f ((rd_T37 x0 x4).f0)).bind fun t337=>(if t337=true then (if ((rd_T37 x0 x4).f0)=(wrap64 (x3+1)) then (spec_TreeOk.j2 k x0 (wrap64 (x3+1)) x4) else (some false)) else (spec_TreeOk.j2 k x0 x3 x4))) else (none)) else (none))
def spec_TreeOk.j2:Nat→List (S37)→Int→Int→Option (Bool)
 | 0,_,_,_=>none
 | k+1,x0,x3,x4=>spec_TreeOk.l1 k x0 x3 x4 0
def spec_TreeOk.l1:Nat→List (S37)→Int→Int→Int→Option (Bool)
 | 0,_,_,_,_=>none
 | k+1,x0,x3,x4,x5=>if x5 < x4 then (if 0≤x5 then (if x5 < (x0.length:Int) then (if 0≤x4 then (if x4 < (x0.length:Int) then (if ((rd_T37 x0 x5).f0)=((rd_T37 x0 x4).f0) then (some false) else (spec_TreeOk.l1 k x0 x3 x4 (wrap64 (x5+1)))) else (none)) else (none)) else (none)) else (none)) else (spec_TreeOk.l0 k x0 x3 (wrap64 (x4+1)))
end
def spec_TreeOk.f (k:Nat) (l0:List (S37)):Option (Bool):=spec_TreeOk.l0 k l0 0 0
theorem spec_TreeOk.mono_l:∀ k,(∀ y0 y1 y2,LeO (spec_TreeOk.l0 k y0 y1 y2) (spec_TreeOk.l0 (k+1) y0 y1 y2))∧(∀ y0 y1 y2 y3,LeO (spec_TreeOk.j1 k y0 y1 y2 y3) (spec_TreeOk.j1 (k+1) y0 y1 y2 y3))∧(∀ y0 y1 y2,LeO (spec_TreeOk.j2 k y0 y1 y2) (spec_TreeOk.j2 (k+1) y0 y1 y2))∧(∀ y0 y1 y2 y3,LeO (spec_TreeOk.l1 k y0 y1 y2 y3) (spec_TreeOk.l1 (k+1) y0 y1 y2 y3))
 | 0=>⟨fun _ _ _ r h=>by simp [spec_TreeOk.l0] at h,fun _ _ _ _ r h=>by simp [spec_TreeOk.j1] at h,fun _ _ _ r h=>by simp [spec_TreeOk.j2] at h,fun _ _ _ _ r h=>by simp [spec_TreeOk.l1] at h⟩
 | k+1=>by
  obtain ⟨ih0,ih1,ih2,ih3⟩:=spec_TreeOk.mono_l k
  refine ⟨?_,?_,?_,?_⟩
  all_goals intros
  all_goals first|unfold spec_TreeOk.l0|unfold spec_TreeOk.j1|unfold spec_TreeOk.j2|unfold spec_TreeOk.l1
  all_goals repeat' first
  | (with_reducible exact ih0 _ _ _)
  | (with_reducible exact ih1 _ _ _ _)
  | (with_reducible exact ih2 _ _ _)
  | (with_reducible exact ih3 _ _ _ _)
  | (with_reducible exact spec_RowOk.mono _ _ _ _)
  | (with_reducible exact LeO.refl _)
  | (with_reducible exact LeO.none _)
  | (with_reducible refine LeO.ite ?_ ?_)
  | (with_reducible refine LeO.bind ?_ (fun _=>?_))
theorem spec_TreeOk.mono:∀ a0 k,LeO (spec_TreeOk.f k a0) (spec_TreeOk.f (k+1) a0):=by
 intro a0 k
 obtain ⟨ih0,ih1,ih2,ih3⟩:=spec_TreeOk.mono_l k
 unfold spec_TreeOk.f
 repeat' first
   | (with_reducible exact ih0 _ _ _)
   | (with_reducible exact ih1 _ _ _ _)
   | (with_reducible exact ih2 _ _ _)
   | (with_reducible exact ih3 _ _ _ _)
   | (with_reducible exact spec_RowOk.mono _ _ _ _)
   | (with_reducible exact LeO.refl _)
   | (with_reducible exact LeO.none _)
   | (with_reducible refine LeO.ite ?_ ?_)
   | (with_reducible refine LeO.bind ?_ (fun _=>?_))
def spec_TreeOk.T5:Bool×List (List Nat×List Nat):=(true,[([],[]),([],[]),([0,1],[0,1]),([2],[2]),([3],[3]),([4],[4]),([5,4],[5]),([6],[6]),([7,6],[6,7]),([8,6,6],[6,8]),([9],[9]),([9],[9]),([10,11,9],[9,10,11]),([12,9],[9,12]),([13,9],[9,13]),([9],[9]),([9],[9]),([16,9],[9,16]),([15,17,9],[9,15,17]),([18,9],[9,18]),([19,9],[9,19]),([20,9],[9,20]),([14,21,9],[9,14,21]),([9,22,6],[6,9,22]),([6,23],[6,23])])
def spec_TreeOk.B5:List Nat:=[0,0,3,7,15,31,63,127,255,511,1023,1023,4095,8191,16383,1023,1023,66559,230399,492543,1016831,2065407,4194303,8388607,16777215]
theorem spec_TreeOk.tab5:rtab .any (opsOf Tryd.f19 5)=spec_TreeOk.T5:=by kernel_rfl
theorem spec_TreeOk.bits5:waitsOk spec_TreeOk.T5.2 spec_TreeOk.B5=true:=by kernel_rfl
def spec_TreeOk.T14:Bool×List (List Nat×List Nat):=(true,[([],[]),([],[]),([0,1],[0,1]),([2],[2]),([3],[3]),([],[]),([],[]),([5,6],[5,6]),([7],[7]),([8],[8]),([4,9],[4,9])])
def spec_TreeOk.B14:List Nat:=[0,0,3,7,15,0,0,96,224,480,1023]
theorem spec_TreeOk.tab14:rtab .any (opsOf Tryd.f19 14)=spec_TreeOk.T14:=by kernel_rfl
theorem spec_TreeOk.bits14:waitsOk spec_TreeOk.T14.2 spec_TreeOk.B14=true:=by kernel_rfl
end Go.Proofs.YtlkheeegkifblaaDoor.P
